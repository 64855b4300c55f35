/- The sum CRC-32 in plain numbers: its byte step by a table, what bytes one behind the other give, and that bursts of 32 bits change it. -/
namespace Go.Proofs.Ytogplkochcalpaa.Crc
/-- One step: half, exclusive-or the polynomial if the lowest bit is 1. -/
def M (s : Nat) : Nat := if s % 2 = 1 then s / 2 ^^^ 3988292384 else s / 2
def iter : Nat → Nat → Nat
  | 0, s => s
  | n + 1, s => iter n (M s)
theorem iter_succ (n s : Nat) : iter (n + 1) s = iter n (M s) := rfl
theorem iter_add (m n s : Nat) : iter (m + n) s = iter n (iter m s) := by
  induction m generalizing s with
  | zero => simp [iter]
  | succ m ih => rw [show m + 1 + n = (m + n) + 1 from by omega]; exact ih _
theorem xor_mod_two (a b : Nat) : (a ^^^ b) % 2 = (a + b) % 2 := by
  have h := Nat.xor_mod_two_pow (a := a) (b := b) (n := 1)
  simp only [Nat.pow_one] at h
  rw [h]
  rcases Nat.mod_two_eq_zero_or_one a with ha | ha <;> rcases Nat.mod_two_eq_zero_or_one b with hb | hb <;> rw [ha, hb] <;> simp <;> omega
theorem xor_half (a b : Nat) : (a ^^^ b) / 2 = a / 2 ^^^ b / 2 := by
  have := Nat.xor_div_two (a := a) (b := b)
  exact this
theorem M_xor (a b : Nat) : M (a ^^^ b) = M a ^^^ M b := by
  unfold M
  rw [xor_half, xor_mod_two]
  by_cases ha : a % 2 = 1 <;> by_cases hb : b % 2 = 1
  · rw [if_neg (by omega), if_pos ha, if_pos hb]
    rw [Nat.xor_assoc, Nat.xor_comm (3988292384) (b / 2 ^^^ 3988292384), Nat.xor_assoc (b/2), Nat.xor_self, Nat.xor_zero]
  · rw [if_pos (by omega), if_pos ha, if_neg hb]
    rw [Nat.xor_assoc, Nat.xor_assoc, Nat.xor_comm (b / 2)]
  · rw [if_pos (by omega), if_neg ha, if_pos hb, Nat.xor_assoc]
  · rw [if_neg (by omega), if_neg ha, if_neg hb]
theorem iter_xor (n a b : Nat) : iter n (a ^^^ b) = iter n a ^^^ iter n b := by
  induction n generalizing a b with
  | zero => rfl
  | succ n ih => rw [iter_succ, iter_succ, iter_succ, M_xor, ih]
theorem M_two (w : Nat) : M (2 * w) = w := by unfold M; rw [if_neg (by omega)]; omega
theorem iter_pow (n w : Nat) : iter n (2 ^ n * w) = w := by
  induction n generalizing w with
  | zero => simp [iter]
  | succ n ih => rw [iter_succ, show 2 ^ (n + 1) * w = 2 * (2 ^ n * w) from by rw [Nat.pow_succ]; ac_rfl, M_two, ih]
theorem iter_zero (n : Nat) : iter n 0 = 0 := by
  have := iter_pow n 0
  simpa using this
/-- A number is its high part and its low part. -/
theorem split (n v : Nat) : v = (2 ^ n * (v / 2 ^ n)) ^^^ (v % 2 ^ n) := by
  apply Nat.eq_of_testBit_eq
  intro i
  rw [Nat.testBit_xor, Nat.testBit_mod_two_pow, Nat.testBit_two_pow_mul, Nat.testBit_div_two_pow]
  by_cases h : i < n
  · have : ¬ n ≤ i := by omega
    simp [h, this]
  · have h' : n ≤ i := by omega
    simp [h, h', Nat.sub_add_cancel h']
theorem iter_split (n v : Nat) : iter n v = v / 2 ^ n ^^^ iter n (v % 2 ^ n) := by
  conv => lhs; rw [split n v]
  rw [iter_xor, iter_pow]
theorem M_lt (s : Nat) (h : s < 4294967296) : M s < 4294967296 := by
  unfold M
  split
  · exact Nat.xor_lt_two_pow (n := 32) (by omega) (by decide)
  · omega
theorem iter_lt (n s : Nat) (h : s < 4294967296) : iter n s < 4294967296 := by
  induction n generalizing s with
  | zero => exact h
  | succ n ih => exact ih _ (M_lt s h)
theorem M_ne (s : Nat) (h0 : s ≠ 0) (h : s < 4294967296) : M s ≠ 0 := by
  unfold M
  split
  · intro h1
    have h2 : s / 2 = 3988292384 := by
      have h3 : (s / 2 ^^^ 3988292384) ^^^ 3988292384 = 0 ^^^ 3988292384 := by rw [h1]
      rw [Nat.xor_assoc, Nat.xor_self, Nat.xor_zero, Nat.zero_xor] at h3
      exact h3
    omega
  · omega
theorem iter_ne (n s : Nat) (h0 : s ≠ 0) (h : s < 4294967296) : iter n s ≠ 0 := by
  induction n generalizing s with
  | zero => exact h0
  | succ n ih => exact ih _ (M_ne s h0 h) (M_lt s h)
/-- A byte's step of the sum. -/
def step (c x : Nat) : Nat := iter 8 (c ^^^ x)
/-- The table's way. -/
theorem step_table (c x : Nat) (hx : x < 256) : step c x = c / 256 ^^^ iter 8 (c % 256 ^^^ x) := by
  unfold step
  rw [iter_split]
  have h1 : (c ^^^ x) / 2 ^ 8 = c / 256 := by
    rw [Nat.xor_div_two_pow]
    have : x / 2 ^ 8 = 0 := by omega
    rw [this, Nat.xor_zero]
  have h2 : (c ^^^ x) % 2 ^ 8 = c % 256 ^^^ x := by
    rw [Nat.xor_mod_two_pow, Nat.mod_eq_of_lt (a := x) (by omega)]
  rw [h1, h2]
def run : Nat → List Nat → Nat
  | c, [] => c
  | c, x :: l => run (step c x) l
def num : List Nat → Nat
  | [] => 0
  | x :: l => x + 256 * num l
theorem num_cons (x : Nat) (l : List Nat) (hx : x < 256) : num (x :: l) = x ^^^ 256 * num l := by
  show x + 256 * num l = _
  have h := Nat.two_pow_add_eq_or_of_lt (i := 8) (b := x) (by omega) (num l)
  have h2 : 2 ^ 8 * num l ||| x = 256 * num l ^^^ x := by
    apply Nat.eq_of_testBit_eq
    intro i
    rw [Nat.testBit_or, show 256 * num l = 2 ^ 8 * num l from rfl, Nat.testBit_xor, Nat.testBit_two_pow_mul]
    by_cases h : i < 8
    · have : ¬ 8 ≤ i := by omega
      simp [this]
    · have : x.testBit i = false := Nat.testBit_lt_two_pow (by
        have : 2 ^ 8 ≤ 2 ^ i := Nat.pow_le_pow_right (by omega) (by omega)
        omega)
      simp [this]
  rw [Nat.add_comm, show 256 * num l = 2 ^ 8 * num l from rfl, h, h2, Nat.xor_comm]
theorem step_num (c x : Nat) (l : List Nat) (hx : x < 256) : iter 8 (c ^^^ num (x :: l)) = step c x ^^^ num l := by
  unfold step
  rw [num_cons x l hx, ← Nat.xor_assoc, iter_xor 8 (c ^^^ x)]
  have h := iter_pow 8 (num l)
  rw [show (2 : Nat) ^ 8 = 256 from by decide] at h
  rw [h]
theorem run_num (c : Nat) (l : List Nat) (hl : ∀ x ∈ l, x < 256) : run c l = iter (8 * l.length) (c ^^^ num l) := by
  induction l generalizing c with
  | nil =>
    have h1 : run c [] = c := rfl
    have h2 : num [] = 0 := rfl
    have h3 : iter (8 * ([] : List Nat).length) (c ^^^ 0) = c ^^^ 0 := rfl
    rw [h1, h2, h3, Nat.xor_zero]
  | cons x l ih =>
    have hx := hl x (by simp)
    have h1 : run c (x :: l) = run (step c x) l := rfl
    have h2 : 8 * (x :: l).length = 8 + 8 * l.length := by rw [List.length_cons]; omega
    rw [h1, ih _ (fun y hy => hl y (by simp [hy])), h2, iter_add, step_num c x l hx]
theorem run_append (c : Nat) (a b : List Nat) : run c (a ++ b) = run (run c a) b := by
  induction a generalizing c with
  | nil => rfl
  | cons x a ih => exact ih _
theorem run_lt (c : Nat) (l : List Nat) (hc : c < 4294967296) (hl : ∀ x ∈ l, x < 256) : run c l < 4294967296 := by
  induction l generalizing c with
  | nil => exact hc
  | cons x l ih =>
    refine ih _ (iter_lt _ _ ?_) (fun y hy => hl y (by simp [hy]))
    have := hl x (by simp)
    exact Nat.xor_lt_two_pow (n := 32) (by omega) (by omega)
/-- Bytes whose numbers differ by a burst of 32 bits have unlike sums. -/
theorem burst (c : Nat) (a b : List Nat) (ha : ∀ x ∈ a, x < 256) (hb : ∀ x ∈ b, x < 256) (hlen : a.length = b.length) (at_ v : Nat) (hv0 : v ≠ 0) (hv : v < 4294967296)
    (hat : at_ ≤ 8 * a.length) (hd : num a ^^^ num b = 2 ^ at_ * v) : run c a ≠ run c b := by
  intro h
  rw [run_num c a ha, run_num c b hb, ← hlen] at h
  have h1 : iter (8 * a.length) ((c ^^^ num a) ^^^ (c ^^^ num b)) = 0 := by rw [iter_xor, h, Nat.xor_self]
  have h2 : (c ^^^ num a) ^^^ (c ^^^ num b) = num a ^^^ num b := by
    rw [Nat.xor_comm c (num a), Nat.xor_assoc, ← Nat.xor_assoc c c, Nat.xor_self, Nat.zero_xor]
  rw [h2, hd, show 8 * a.length = at_ + (8 * a.length - at_) from by omega, iter_add, iter_pow] at h1
  exact iter_ne _ _ hv0 hv h1
end Go.Proofs.Ytogplkochcalpaa.Crc
