/- Texts put together: Row, Crc, Bits, SumN, Burst, Eq, Eqb, Clone, Fd1, Fd2, Fd3, Bg. -/
import Derived.Test.YtogplkochcalpaaProg
import Derived.WalkKit
import Derived.Test.YtogplkochcalpaaWWords
import Derived.Test.YtogplkochcalpaaWLast
import Derived.Test.YtogplkochcalpaaWMore
import Derived.WalkLawsBesides
import Derived.Lib.Bytes
import Derived.Lib.SliceRun
import Derived.Test.YtogplkochcalpaaWZeros
import Derived.Test.YtogplkochcalpaaRows
import Derived.OpenShut
import Derived.WalkSpells
import Derived.Deep.QuietTactic
import Derived.BigQuiet
import Derived.Lib.SlBytesConst
/- Rows of bytes of the call's own: what append leaves, in short words. -/
set_option linter.unusedVariables false
set_option linter.unusedSimpArgs false
namespace Go.Proofs.Ytogplkochcalpaa.Row
open Go.RowKit Go.Proofs.YtogplkochcalpaaW.PrintWords Go.Proofs.YtogplkochcalpaaW.PrintLast Go.Proofs.YtogplkochcalpaaW.PrintMore
/-- v is a slice of the call's own (its blocks begin at 'base') with these bytes. -/
def OwnB (W : World) (base : Nat) (v : Value) (xs : List Int) : Prop := Kd.R (Kd.int .u8) 5 W base (fun _ => True) v xs
theorem info8 : (Try.prog.info? 5).map (fun i => (i.zero, i.size, i.bytes)) = some (some (.int .u8 0), 1, 1) := by kernel_rfl
theorem OwnB.below {W W1 : World} {base : Nat} {v : Value} {xs : List Int} (h : OwnB W base v xs) (hb : Below W.heap.size W W1) : OwnB W1 base v xs := Kd.R_below h hb
theorem OwnB.lower {W : World} {base base' : Nat} {v : Value} {xs : List Int} (h : OwnB W base v xs) (hb : base' ≤ base) : OwnB W base' v xs := Kd.R_lower h hb
theorem OwnB.nil (W : World) (base : Nat) : OwnB W base (.slice none 0 0) [] := Kd.R_nil _ _ _ _ _
/-- A literal of bytes. -/
theorem OwnB.lit (W : World) (base : Nat) (inner : Array Value) (xs : List Int) (h : inner.toList = nums .u8 xs) (hb : base ≤ W.heap.size) (hm : xs.length ≤ 140737488355328) : OwnB (W.alloc (.cells inner 5)) base (.slice (some ⟨W.heap.size, 0, none⟩) xs.length xs.length) xs := by
  have hsz : inner.size = xs.length := by rw [← Array.length_toList, h, nums_length]
  have h2 := World.ownsRow_lit (base := base) (e := 5) (size := 1) W inner xs.length hb (by simp only [maxLen]; omega) (by rw [hsz, Nat.mul_one])
  refine Kd.R_of_own ?_ (fun _ _ => trivial)
  rw [h] at h2
  exact h2
/-- What is owned is read. -/
theorem OwnB.reads {W : World} {base n c : Nat} {A : Option Addr} {xs : List Int} (h : OwnB W base (.slice A n c) xs) : n = xs.length ∧ n ≤ c ∧ Kd.C (Kd.int .u8) W A xs.length xs := Kd.R_reads' h
theorem OwnB.slice {W : World} {base : Nat} {v : Value} {xs : List Int} (h : OwnB W base v xs) : ∃ A c, v = .slice A xs.length c ∧ xs.length ≤ c ∧ Kd.C (Kd.int .u8) W A xs.length xs := Kd.R_reads h
theorem OwnB.grown {W W1 : World} {base : Nat} {v : Value} {xs : List Int} (h : OwnB W base v xs) {row : Option Nat} (hg : W.grownBy W1 row) (hne : v.ownBlock = none ∨ v.ownBlock ≠ row) : OwnB W1 base v xs := by
  obtain ⟨h0, inner, ho, hr⟩ := h
  exact ⟨h0, inner, own_other ho hg hne, hr⟩
section
variable {ops : Array Oper} {rest : List Oper} {o : Oper} {a : Act} {Q : Exit → Act → World → Prop}
/-- append(v, ys...): v of the call's own, ys read. -/
theorem app_rows {w0 W : World} (base : Nat) (hgd : o.guard = none) (s x : Operand) (ho : o.op = .call { callee := .builtin .append, args := #[s, x], argTypes := #[22, 22] })
    (v : Value) (xs ys : List Int) (A : Option Addr) (m c : Nat) (hs : a.eval s = v) (hx : a.eval x = .slice A m c) (HO : OwnB W base v xs) (HR : Kd.C (Kd.int .u8) W A m ys)
    (HB : Below base w0 W) (hbase : base ≤ W.heap.size) (hl : xs.length + m ≤ 140737488355328)
    (h : ∀ (zs : List Int) (A1 : Option Addr) (c1 : Nat) (w1 : World), Aside0 (zs = xs ++ ys) → Aside0 (OwnB w1 base (.slice A1 zs.length c1) zs) → Aside0 (zs.length = xs.length + m) → zs.length ≤ xs.length + m → zs.length ≤ c1 → Aside0 (Kd.C (Kd.int .u8) w1 A1 zs.length zs) → Aside0 (Below base w0 w1) → Aside0 (base ≤ w1.heap.size) → Aside0 (W.grownBy w1 v.ownBlock) →
      Aside0 ((Value.slice A1 zs.length c1).ownBlock = v.ownBlock ∨ ∃ b, (Value.slice A1 zs.length c1).ownBlock = some b ∧ W.heap.size ≤ b) → wpList Try.prog ops Q rest (a.put o.dst (.slice A1 zs.length c1)) w1) : wpList Try.prog ops Q (o :: rest) a W := by
  have hm : ys.length = m := HR.1
  refine Kd.R_append_rows (Kd.int .u8) (w0 := w0) base hgd s x 22 5 (.int .u8 0) 1 ho Try.underlying22 info8 rfl (by decide) (by decide) v xs ys A m c (fun _ => True) (fun _ => False) hs hx HO HR (fun _ _ h => h) (fun _ h => h.elim) (fun _ _ => trivial) HB hbase (by omega) ?_
  intro v1 w1 h1 h2 h3 h4
  obtain ⟨A1, c1, rfl, hle, hC⟩ := Kd.R_reads h1
  exact h (xs ++ ys) A1 c1 w1 ⟨rfl⟩ ⟨h1⟩ ⟨by rw [List.length_append, hm]⟩ (by rw [List.length_append, hm]; exact Nat.le_refl _) hle ⟨hC⟩ ⟨h2⟩ ⟨Nat.le_trans hbase h3.size⟩ ⟨h3⟩ ⟨h4⟩
end
end Go.Proofs.Ytogplkochcalpaa.Row
/- The sum CRC-32 in plain numbers: its byte step by a table, what bytes one behind the other give, and that bursts of 32 bits change it. -/
namespace Go.Proofs.Ytogplkochcalpaa.Crc
/-- One step: half, exclusive-or the polynomial if the lowest bit is 1. -/
def M (s : Nat) : Nat := if s % 2 = 1 then s / 2 ^^^ 3988292384 else s / 2
def iter : Nat → Nat → Nat
  | 0, s => s
  | n + 1, s => iter n (M s)
theorem iter_succ (n s : Nat) : iter (n + 1) s = iter n (M s) := rfl
theorem iter_add (m n s : Nat) : iter (m + n) s = iter n (iter m s) := by
  induction m generalizing s with
  | zero => simp [iter]
  | succ m ih => rw [show m + 1 + n = (m + n) + 1 from by omega]; exact ih _
theorem xor_mod_two (a b : Nat) : (a ^^^ b) % 2 = (a + b) % 2 := by
  have h := Nat.xor_mod_two_pow (a := a) (b := b) (n := 1)
  simp only [Nat.pow_one] at h
  rw [h]
  rcases Nat.mod_two_eq_zero_or_one a with ha | ha <;> rcases Nat.mod_two_eq_zero_or_one b with hb | hb <;> rw [ha, hb] <;> simp <;> omega
theorem xor_half (a b : Nat) : (a ^^^ b) / 2 = a / 2 ^^^ b / 2 := by
  have := Nat.xor_div_two (a := a) (b := b)
  exact this
theorem M_xor (a b : Nat) : M (a ^^^ b) = M a ^^^ M b := by
  unfold M
  rw [xor_half, xor_mod_two]
  by_cases ha : a % 2 = 1 <;> by_cases hb : b % 2 = 1
  · rw [if_neg (by omega), if_pos ha, if_pos hb]
    rw [Nat.xor_assoc, Nat.xor_comm (3988292384) (b / 2 ^^^ 3988292384), Nat.xor_assoc (b/2), Nat.xor_self, Nat.xor_zero]
  · rw [if_pos (by omega), if_pos ha, if_neg hb]
    rw [Nat.xor_assoc, Nat.xor_assoc, Nat.xor_comm (b / 2)]
  · rw [if_pos (by omega), if_neg ha, if_pos hb, Nat.xor_assoc]
  · rw [if_neg (by omega), if_neg ha, if_neg hb]
theorem iter_xor (n a b : Nat) : iter n (a ^^^ b) = iter n a ^^^ iter n b := by
  induction n generalizing a b with
  | zero => rfl
  | succ n ih => rw [iter_succ, iter_succ, iter_succ, M_xor, ih]
theorem M_two (w : Nat) : M (2 * w) = w := by unfold M; rw [if_neg (by omega)]; omega
theorem iter_pow (n w : Nat) : iter n (2 ^ n * w) = w := by
  induction n generalizing w with
  | zero => simp [iter]
  | succ n ih => rw [iter_succ, show 2 ^ (n + 1) * w = 2 * (2 ^ n * w) from by rw [Nat.pow_succ]; ac_rfl, M_two, ih]
theorem iter_zero (n : Nat) : iter n 0 = 0 := by
  have := iter_pow n 0
  simpa using this
/-- A number is its high part and its low part. -/
theorem split (n v : Nat) : v = (2 ^ n * (v / 2 ^ n)) ^^^ (v % 2 ^ n) := by
  apply Nat.eq_of_testBit_eq
  intro i
  rw [Nat.testBit_xor, Nat.testBit_mod_two_pow, Nat.testBit_two_pow_mul, Nat.testBit_div_two_pow]
  by_cases h : i < n
  · have : ¬ n ≤ i := by omega
    simp [h, this]
  · have h' : n ≤ i := by omega
    simp [h, h', Nat.sub_add_cancel h']
theorem iter_split (n v : Nat) : iter n v = v / 2 ^ n ^^^ iter n (v % 2 ^ n) := by
  conv => lhs; rw [split n v]
  rw [iter_xor, iter_pow]
theorem M_lt (s : Nat) (h : s < 4294967296) : M s < 4294967296 := by
  unfold M
  split
  · exact Nat.xor_lt_two_pow (n := 32) (by omega) (by decide)
  · omega
theorem iter_lt (n s : Nat) (h : s < 4294967296) : iter n s < 4294967296 := by
  induction n generalizing s with
  | zero => exact h
  | succ n ih => exact ih _ (M_lt s h)
theorem M_ne (s : Nat) (h0 : s ≠ 0) (h : s < 4294967296) : M s ≠ 0 := by
  unfold M
  split
  · intro h1
    have h2 : s / 2 = 3988292384 := by
      have h3 : (s / 2 ^^^ 3988292384) ^^^ 3988292384 = 0 ^^^ 3988292384 := by rw [h1]
      rw [Nat.xor_assoc, Nat.xor_self, Nat.xor_zero, Nat.zero_xor] at h3
      exact h3
    omega
  · omega
theorem iter_ne (n s : Nat) (h0 : s ≠ 0) (h : s < 4294967296) : iter n s ≠ 0 := by
  induction n generalizing s with
  | zero => exact h0
  | succ n ih => exact ih _ (M_ne s h0 h) (M_lt s h)
/-- A byte's step of the sum. -/
def step (c x : Nat) : Nat := iter 8 (c ^^^ x)
/-- The table's way. -/
theorem step_table (c x : Nat) (hx : x < 256) : step c x = c / 256 ^^^ iter 8 (c % 256 ^^^ x) := by
  unfold step
  rw [iter_split]
  have h1 : (c ^^^ x) / 2 ^ 8 = c / 256 := by
    rw [Nat.xor_div_two_pow]
    have : x / 2 ^ 8 = 0 := by omega
    rw [this, Nat.xor_zero]
  have h2 : (c ^^^ x) % 2 ^ 8 = c % 256 ^^^ x := by
    rw [Nat.xor_mod_two_pow, Nat.mod_eq_of_lt (a := x) (by omega)]
  rw [h1, h2]
def run : Nat → List Nat → Nat
  | c, [] => c
  | c, x :: l => run (step c x) l
def num : List Nat → Nat
  | [] => 0
  | x :: l => x + 256 * num l
theorem num_cons (x : Nat) (l : List Nat) (hx : x < 256) : num (x :: l) = x ^^^ 256 * num l := by
  show x + 256 * num l = _
  have h := Nat.two_pow_add_eq_or_of_lt (i := 8) (b := x) (by omega) (num l)
  have h2 : 2 ^ 8 * num l ||| x = 256 * num l ^^^ x := by
    apply Nat.eq_of_testBit_eq
    intro i
    rw [Nat.testBit_or, show 256 * num l = 2 ^ 8 * num l from rfl, Nat.testBit_xor, Nat.testBit_two_pow_mul]
    by_cases h : i < 8
    · have : ¬ 8 ≤ i := by omega
      simp [this]
    · have : x.testBit i = false := Nat.testBit_lt_two_pow (by
        have : 2 ^ 8 ≤ 2 ^ i := Nat.pow_le_pow_right (by omega) (by omega)
        omega)
      simp [this]
  rw [Nat.add_comm, show 256 * num l = 2 ^ 8 * num l from rfl, h, h2, Nat.xor_comm]
theorem step_num (c x : Nat) (l : List Nat) (hx : x < 256) : iter 8 (c ^^^ num (x :: l)) = step c x ^^^ num l := by
  unfold step
  rw [num_cons x l hx, ← Nat.xor_assoc, iter_xor 8 (c ^^^ x)]
  have h := iter_pow 8 (num l)
  rw [show (2 : Nat) ^ 8 = 256 from by decide] at h
  rw [h]
theorem run_num (c : Nat) (l : List Nat) (hl : ∀ x ∈ l, x < 256) : run c l = iter (8 * l.length) (c ^^^ num l) := by
  induction l generalizing c with
  | nil =>
    have h1 : run c [] = c := rfl
    have h2 : num [] = 0 := rfl
    have h3 : iter (8 * ([] : List Nat).length) (c ^^^ 0) = c ^^^ 0 := rfl
    rw [h1, h2, h3, Nat.xor_zero]
  | cons x l ih =>
    have hx := hl x (by simp)
    have h1 : run c (x :: l) = run (step c x) l := rfl
    have h2 : 8 * (x :: l).length = 8 + 8 * l.length := by rw [List.length_cons]; omega
    rw [h1, ih _ (fun y hy => hl y (by simp [hy])), h2, iter_add, step_num c x l hx]
theorem run_append (c : Nat) (a b : List Nat) : run c (a ++ b) = run (run c a) b := by
  induction a generalizing c with
  | nil => rfl
  | cons x a ih => exact ih _
theorem run_lt (c : Nat) (l : List Nat) (hc : c < 4294967296) (hl : ∀ x ∈ l, x < 256) : run c l < 4294967296 := by
  induction l generalizing c with
  | nil => exact hc
  | cons x l ih =>
    refine ih _ (iter_lt _ _ ?_) (fun y hy => hl y (by simp [hy]))
    have := hl x (by simp)
    exact Nat.xor_lt_two_pow (n := 32) (by omega) (by omega)
/-- Bytes whose numbers differ by a burst of 32 bits have unlike sums. -/
theorem burst (c : Nat) (a b : List Nat) (ha : ∀ x ∈ a, x < 256) (hb : ∀ x ∈ b, x < 256) (hlen : a.length = b.length) (at_ v : Nat) (hv0 : v ≠ 0) (hv : v < 4294967296)
    (hat : at_ ≤ 8 * a.length) (hd : num a ^^^ num b = 2 ^ at_ * v) : run c a ≠ run c b := by
  intro h
  rw [run_num c a ha, run_num c b hb, ← hlen] at h
  have h1 : iter (8 * a.length) ((c ^^^ num a) ^^^ (c ^^^ num b)) = 0 := by rw [iter_xor, h, Nat.xor_self]
  have h2 : (c ^^^ num a) ^^^ (c ^^^ num b) = num a ^^^ num b := by
    rw [Nat.xor_comm c (num a), Nat.xor_assoc, ← Nat.xor_assoc c c, Nat.xor_self, Nat.zero_xor]
  rw [h2, hd, show 8 * a.length = at_ + (8 * a.length - at_) from by omega, iter_add, iter_pow] at h1
  exact iter_ne _ _ hv0 hv h1
end Go.Proofs.Ytogplkochcalpaa.Crc
/- Whole numbers in the walk's own spelling: what the sums' operations on bits come to in plain numbers. -/
set_option linter.unusedVariables false
set_option linter.unusedSimpArgs false
namespace Go.Proofs.Ytogplkochcalpaa.Bits
theorem not32 (c : Nat) (h : c < 4294967296) : bits .xor .u32 IntKind.u32.max (c : Int) = ((4294967295 - c : Nat) : Int) := by
  have h1 : IntKind.u32.max = ((4294967295 : Nat) : Int) := by decide
  rw [h1, u32_xor_nat _ _ (by decide) h]
  congr 1
  apply Nat.eq_of_testBit_eq
  intro i
  rw [Nat.testBit_xor]
  have h2 : (4294967295 - c : Nat) = 2 ^ 32 - (c + 1) := by omega
  rw [h2, Nat.testBit_two_pow_sub_succ (by omega)]
  have h3 : (4294967295 : Nat) = 2 ^ 32 - 1 := by decide
  rw [h3, Nat.testBit_two_pow_sub_one]
  by_cases hi : i < 32
  · simp [hi]
  · have : c.testBit i = false := Nat.testBit_lt_two_pow (Nat.lt_of_lt_of_le h (by
      have : 2 ^ 32 ≤ 2 ^ i := Nat.pow_le_pow_right (by decide) (by omega)
      omega))
    simp [hi, this]
/-- The program's step of a table's entry. -/
theorem stepM (s : Nat) (h : s < 4294967296) : bits .xor .u32 ((s : Int) / 2) (bits .and .u32 3988292384 ((-(bits .and .u32 (s : Int) 1)) % 4294967296)) = ((Crc.M s : Nat) : Int) := by
  have h1 : bits .and .u32 (s : Int) 1 = ((s % 2 : Nat) : Int) := by
    have := u32_and_nat s 1 h (by decide)
    rw [Nat.and_one_is_mod] at this
    exact this
  rw [h1]
  have h2 : ((s : Int) / 2) = ((s / 2 : Nat) : Int) := by omega
  unfold Crc.M
  by_cases hs : s % 2 = 1
  · rw [if_pos hs, hs]
    have h3 : (-((1 : Nat) : Int)) % 4294967296 = ((4294967295 : Nat) : Int) := by decide
    rw [h3]
    have h4 : bits .and .u32 3988292384 ((4294967295 : Nat) : Int) = ((3988292384 : Nat) : Int) := by
      have := u32_and_nat 3988292384 4294967295 (by decide) (by decide)
      rw [show (3988292384 &&& 4294967295 : Nat) = 3988292384 from by decide] at this
      exact this
    rw [h4, h2, u32_xor_nat _ _ (by omega) (by decide)]
  · have hs0 : s % 2 = 0 := by omega
    rw [if_neg hs, hs0]
    have h3 : (-((0 : Nat) : Int)) % 4294967296 = ((0 : Nat) : Int) := by decide
    rw [h3]
    have h4 : bits .and .u32 3988292384 ((0 : Nat) : Int) = ((0 : Nat) : Int) := by
      have := u32_and_nat 3988292384 0 (by decide) (by decide)
      rw [Nat.and_zero] at this
      exact this
    rw [h4, h2, u32_xor_nat _ _ (by omega) (by decide), Nat.xor_zero]
theorem xor8 (s x : Nat) (hx : x < 256) : bits .xor .u8 ((s : Int) % 256) (x : Int) = ((s % 256 ^^^ x : Nat) : Int) := by
  have h2 : ((s : Int) % 256) = ((s % 256 : Nat) : Int) := by omega
  rw [h2, u8_xor_nat _ _ (by omega) hx]
theorem xor8_lt (s x : Nat) (hx : x < 256) : s % 256 ^^^ x < 256 := Nat.xor_lt_two_pow (n := 8) (by omega) hx
theorem step32 (s x : Nat) (hs : s < 4294967296) (hx : x < 256) : bits .xor .u32 ((s : Int) / 256) ((Crc.iter 8 (s % 256 ^^^ x) : Nat) : Int) = ((Crc.step s x : Nat) : Int) := by
  have h2 : ((s : Int) / 256) = ((s / 256 : Nat) : Int) := by omega
  rw [h2, u32_xor_nat _ _ (by omega) (Crc.iter_lt _ _ (by have := xor8_lt s x hx; omega)), ← Crc.step_table s x hx]
theorem step_lt (s x : Nat) (hs : s < 4294967296) (hx : x < 256) : Crc.step s x < 4294967296 := Crc.iter_lt _ _ (Nat.xor_lt_two_pow (n := 32) (by omega) (by omega))
/-- A byte's step of the digest. -/
def fnv (d x : Nat) : Nat := (d ^^^ x) * 1099511628211 % 18446744073709551616
def digest : Nat → List Nat → Nat
  | d, [] => d
  | d, x :: l => digest (fnv d x) l
theorem digest_nil (d : Nat) : digest d [] = d := rfl
theorem digest_append (d : Nat) (a b : List Nat) : digest d (a ++ b) = digest (digest d a) b := by
  induction a generalizing d with
  | nil => rfl
  | cons x a ih => exact ih _
theorem fnv_lt (d x : Nat) : fnv d x < 18446744073709551616 := Nat.mod_lt _ (by decide)
theorem digest_lt (d : Nat) (l : List Nat) (h : d < 18446744073709551616) : digest d l < 18446744073709551616 := by
  induction l generalizing d with
  | nil => exact h
  | cons x l ih => exact ih _ (fnv_lt _ _)
theorem fnv_step (s x : Nat) (hs : s < 18446744073709551616) (hx : x < 256) : IntKind.u64.wrap (bits .xor .u64 (s : Int) (x : Int) * 1099511628211) = ((fnv s x : Nat) : Int) := by
  rw [u64_xor_nat _ _ hs (by omega), IntKind.wrap_u64]
  unfold fnv
  generalize s ^^^ x = z
  omega
/-- The reference's step of a table's entry. -/
theorem stepM_odd (s : Nat) (h : s < 4294967296) (ho : s % 2 = 1) : bits .xor .u32 ((s : Int) / 2) 3988292384 = ((Crc.M s : Nat) : Int) := by
  have h2 : ((s : Int) / 2) = ((s / 2 : Nat) : Int) := by omega
  have h3 : (3988292384 : Int) = ((3988292384 : Nat) : Int) := rfl
  unfold Crc.M
  rw [if_pos ho, h2, h3, u32_xor_nat _ _ (by omega) (by decide)]
theorem stepM_even (s : Nat) (ho : ¬ s % 2 = 1) : ((s : Int) / 2) = ((Crc.M s : Nat) : Int) := by
  unfold Crc.M
  rw [if_neg ho]
  omega
theorem xor32 (s x : Nat) (hx : x < 256) : bits .xor .u32 ((s : Int) % 256) (x : Int) = ((s % 256 ^^^ x : Nat) : Int) := by
  have h2 : ((s : Int) % 256) = ((s % 256 : Nat) : Int) := by omega
  rw [h2, u32_xor_nat _ _ (by omega) (by omega)]
/-- A table's cells. -/
def tab (T : Nat → Nat) : Array Value := Array.ofFn (n := 256) fun i => .int .u32 (T i.val : Nat)
theorem tab_size (T : Nat → Nat) : (tab T).size = 256 := by simp [tab]
theorem tab_at (T : Nat → Nat) (i : Nat) (h : i < 256) : (tab T)[i]? = some (.int .u32 (T i : Nat)) := by simp [tab, h]
theorem tab_set (T : Nat → Nat) (i v : Nat) (h : i < 256) : (tab T).setIfInBounds i (.int .u32 (v : Nat)) = tab (fun j => if j = i then v else T j) := by
  apply Array.ext
  · simp [tab]
  · intro j h1 h2
    have hj : j < 256 := by simpa [tab] using h2
    by_cases e : i = j
    · subst e; simp [tab]
    · rw [Array.getElem_setIfInBounds_ne (by simpa [tab] using hj) e]
      simp [tab, Ne.symm e]
theorem tab_congr (T U : Nat → Nat) (h : ∀ i, i < 256 → T i = U i) : tab T = tab U := by
  apply Array.ext
  · simp [tab]
  · intro j h1 h2
    have hj : j < 256 := by simpa [tab] using h2
    simp [tab, h j hj]
/-- The sum by any table. -/
def stepT (T : Nat → Nat) (c x : Nat) : Nat := c / 256 ^^^ T (c % 256 ^^^ x)
def runT (T : Nat → Nat) : Nat → List Nat → Nat
  | c, [] => c
  | c, x :: l => runT T (stepT T c x) l
theorem runT_append (T : Nat → Nat) (c : Nat) (a b : List Nat) : runT T c (a ++ b) = runT T (runT T c a) b := by
  induction a generalizing c with
  | nil => rfl
  | cons x a ih => exact ih _
theorem runT_good (T : Nat → Nat) (h : ∀ i, i < 256 → T i = Crc.iter 8 i) (c : Nat) (l : List Nat) (hl : ∀ x ∈ l, x < 256) : runT T c l = Crc.run c l := by
  induction l generalizing c with
  | nil => rfl
  | cons x l ih =>
    have hx := hl x (by simp)
    have e : stepT T c x = Crc.step c x := by
      unfold stepT
      rw [Crc.step_table c x hx, h _ (xor8_lt c x hx)]
    have h1 : runT T c (x :: l) = runT T (stepT T c x) l := rfl
    have h2 : Crc.run c (x :: l) = Crc.run (Crc.step c x) l := rfl
    rw [h1, h2, e, ih _ (fun y hy => hl y (by simp [hy]))]
theorem stepT_lt (T : Nat → Nat) (hT : ∀ i, i < 256 → T i < 4294967296) (c x : Nat) (hc : c < 4294967296) (hx : x < 256) : stepT T c x < 4294967296 :=
  Nat.xor_lt_two_pow (n := 32) (by omega) (hT _ (xor8_lt c x hx))
theorem stepT_32 (T : Nat → Nat) (hT : ∀ i, i < 256 → T i < 4294967296) (s x : Nat) (hs : s < 4294967296) (hx : x < 256) : bits .xor .u32 ((s : Int) / 256) ((T (s % 256 ^^^ x) : Nat) : Int) = ((stepT T s x : Nat) : Int) := by
  have h2 : ((s : Int) / 256) = ((s / 256 : Nat) : Int) := by omega
  rw [h2, u32_xor_nat _ _ (by omega) (hT _ (xor8_lt s x hx))]
  rfl
theorem sub32 (c : Nat) (h : c < 4294967296) : (4294967295 : Int) - (c : Int) = ((4294967295 - c : Nat) : Int) := by omega
end Go.Proofs.Ytogplkochcalpaa.Bits
/- What the sums' functions of the program do: walks. -/
namespace Go.Proofs.Ytogplkochcalpaa.Sum
open Go.RowKit Go.Proofs.YtogplkochcalpaaW.PrintWords Go.Proofs.YtogplkochcalpaaW.PrintLast Go.Proofs.YtogplkochcalpaaW.PrintMore
set_option linter.unusedVariables false
set_option linter.unusedSimpArgs false
/-- The number that a sum of bytes is. -/
def crc (c : Nat) (l : List Int) : Nat := 4294967295 - Crc.run (4294967295 - c) (l.map Int.toNat)
def crcT (T : Nat → Nat) (c : Nat) (l : List Int) : Nat := 4294967295 - Bits.runT T (4294967295 - c) (l.map Int.toNat)
def dig (d : Nat) (l : List Int) : Nat := Bits.digest d (l.map Int.toNat)
/-- A byte of the list, as a number. -/
theorem rd_nat (l : List Int) (hl : ∀ x ∈ l, 0 ≤ x ∧ x < 256) (k : Nat) (hk : k < l.length) : ∃ x : Nat, rd l (k : Int) = (x : Int) ∧ x < 256 ∧ (l.take (k + 1)).map Int.toNat = (l.take k).map Int.toNat ++ [x] := by
  have h1 := hl l[k] (List.getElem_mem hk)
  refine ⟨l[k].toNat, ?_, by omega, ?_⟩
  · unfold rd
    rw [Int.toNat_natCast, List.getD_eq_getElem?_getD, List.getElem?_eq_getElem hk]
    simp only [Option.getD_some]
    omega
  · rw [List.take_succ_eq_append_getElem hk, List.map_append]
    rfl
theorem entry_nat (y : Nat) (h1 : y < 4294967296) (w : World) : Calls Try.prog 67 #[.int .u32 y] w fun e w' => e = .returned (.int .u32 (Crc.iter 8 y : Nat)) ∧ w = w' := by
  go_enter Try.func67, Try.ntmps67
  go_wp2
  go_loop [0, 3] (fun v i => ∃ k s : Nat, k ≤ 8 ∧ s < 4294967296 ∧ i = .int .i64 k ∧ v = .int .u32 s ∧ Aside0 (Crc.iter 8 y = Crc.iter (8 - k) s)) (fun _ i => 8 - (intOf i).toNat)
  case atStart => exact ⟨0, y, by omega, by omega, rfl, rfl, ⟨rfl⟩⟩
  case round =>
    obtain ⟨k, s, hk, hs, rfl, rfl, HS⟩ := hrel
    by_cases hlt : k < 8
    · have hb := Bits.stepM s hs
      go_wp2
      clear hb
      go_round
      case rel => exact ⟨k + 1, Crc.M s, by omega, Crc.M_lt s hs, by go_num, rfl, ⟨by rw [HS.out, show 8 - k = (8 - (k + 1)) + 1 from by omega, Crc.iter_succ]⟩⟩
      case measure => simp [intOf]; omega
    · have hk8 : 8 - k = 0 := by omega
      have HE := HS.out
      rw [hk8] at HE
      have HE' : Aside0 (Crc.iter 8 y = s) := ⟨HE⟩
      clear HE hk8
      go_wp2
      go_ret
      exact ⟨by rw [HE'.out]; rfl, rfl⟩
theorem more_nil (c : Nat) (hc : c < 4294967296) (A : Option Addr) (cap : Nat) (l : List Int) (w : World) (hr : Kd.C (Kd.int .u8) w A l.length l) (hm : l.length ≤ 140737488351232) (hl : ∀ x ∈ l, 0 ≤ x ∧ x < 256) :
    Calls Try.prog 62 #[.pointer none, .int .u32 c, .slice A l.length cap] w fun e w' => e = .returned (.int .u32 (crc c l : Nat)) ∧ w = w' := by
  have HR := Aside0.mk hr
  have HL := Aside0.mk hl
  have hn := Bits.not32 c hc
  clear hr hl
  go_enter Try.func62, Try.ntmps62
  go_wp2
  clear hn
  go_loop [1, 14] (fun v i => ∃ k s : Nat, k ≤ l.length ∧ s < 4294967296 ∧ i = .int .i64 k ∧ v = .int .u32 s ∧ Aside0 (s = Crc.run (4294967295 - c) ((l.take k).map Int.toNat))) (fun _ i => l.length - (intOf i).toNat)
  case atStart => exact ⟨0, 4294967295 - c, by omega, by omega, rfl, rfl, ⟨by simp; rfl⟩⟩
  case round =>
    obtain ⟨k, s, hk, hs, rfl, rfl, HS⟩ := hrel
    by_cases hlt : k < l.length
    · obtain ⟨ad, e, hx⟩ := Kd.at_int HR.out (k : Int) (by omega) (by omega)
      cases e
      obtain ⟨x, hx1, hx2, hx3⟩ := rd_nat l HL.out k hlt
      have HX3 := Aside0.mk hx3
      clear hx3
      rw [hx1, Int.toNat_natCast] at hx
      clear hx1
      have hb := Bits.xor8 s x hx2
      have hb2 := Bits.xor8_lt s x hx2
      have hb3 := Bits.step32 s x hs hx2
      obtain ⟨y, hy⟩ : ∃ y, y = s % 256 ^^^ x := ⟨_, rfl⟩
      rw [← hy] at hb hb2 hb3
      clear hy
      go_wp2_with (go_at_call 67; refine (entry_nat y (by omega) _).mono ?_; rintro e w' ⟨rfl, rfl⟩)
      clear hb hb3
      go_round
      case rel => exact ⟨k + 1, Crc.step s x, by omega, Bits.step_lt s x hs hx2, by go_num, rfl, ⟨by rw [HX3.out, Crc.run_append, ← HS.out]; rfl⟩⟩
      case measure => simp [intOf]; omega
    · have HE : Aside0 (s = Crc.run (4294967295 - c) (l.map Int.toNat)) := ⟨by have h := HS.out; rwa [List.take_of_length_le (by omega)] at h⟩
      have hn := Bits.not32 s hs
      go_wp2
      go_ret
      exact ⟨by unfold crc; rw [← HE.out]; rfl, rfl⟩
theorem crc_nil (A : Option Addr) (cap : Nat) (l : List Int) (w : World) (hr : Kd.C (Kd.int .u8) w A l.length l) (hm : l.length ≤ 140737488351232) (hl : ∀ x ∈ l, 0 ≤ x ∧ x < 256) :
    Calls Try.prog 43 #[.pointer none, .slice A l.length cap] w fun e w' => e = .returned (.int .u32 (crc 0 l : Nat)) ∧ w = w' := by
  have HR := Aside0.mk hr
  have HL := Aside0.mk hl
  clear hr hl
  go_enter Try.func43, Try.ntmps43
  go_wp2_with (go_at_call 62; refine (more_nil 0 (by omega) _ _ l _ HR.out hm HL.out).mono ?_; rintro e w' ⟨rfl, rfl⟩)
  go_ret
  exact ⟨rfl, rfl⟩
theorem refEntry_nat (y : Nat) (h1 : y < 4294967296) (w : World) : Calls Try.prog 55 #[.int .u32 y] w fun e w' => e = .returned (.int .u32 (Crc.iter 8 y : Nat)) ∧ w = w' := by
  go_enter Try.func55, Try.ntmps55
  go_wp2
  go_loop [0, 3] (fun v i => ∃ k s : Nat, k ≤ 8 ∧ s < 4294967296 ∧ i = .int .i64 k ∧ v = .int .u32 s ∧ Aside0 (Crc.iter 8 y = Crc.iter (8 - k) s)) (fun _ i => 8 - (intOf i).toNat)
  case atStart => exact ⟨0, y, by omega, by omega, rfl, rfl, ⟨rfl⟩⟩
  case round =>
    obtain ⟨k, s, hk, hs, rfl, rfl, HS⟩ := hrel
    by_cases hlt : k < 8
    · have HN : Aside0 (Crc.iter 8 y = Crc.iter (8 - (k + 1)) (Crc.M s)) := ⟨by rw [HS.out, show 8 - k = (8 - (k + 1)) + 1 from by omega, Crc.iter_succ]⟩
      have hml := Crc.M_lt s hs
      by_cases ho : s % 2 = 1
      · have hb := Bits.stepM_odd s hs ho
        have ho2 : ((s : Int) % 2 == 1) = true := by simp; omega
        have HO := Aside0.mk ho
        clear ho
        go_wp2
        clear hb ho2
        go_round
        case rel => exact ⟨k + 1, Crc.M s, by omega, hml, by go_num, rfl, HN⟩
        case measure => simp [intOf]; omega
      · have hb := Bits.stepM_even s ho
        have ho2 : ((s : Int) % 2 == 1) = false := by simp; omega
        have HO := Aside0.mk ho
        clear ho
        go_wp2
        clear hb ho2
        go_round
        case rel => exact ⟨k + 1, Crc.M s, by omega, hml, by go_num, rfl, HN⟩
        case measure => simp [intOf]; omega
    · have hk8 : 8 - k = 0 := by omega
      have HE := HS.out
      rw [hk8] at HE
      have HE' : Aside0 (Crc.iter 8 y = s) := ⟨HE⟩
      clear HE hk8
      go_wp2
      go_ret
      exact ⟨by rw [HE'.out]; rfl, rfl⟩
theorem refCrc_any (c : Nat) (hc : c < 4294967296) (A : Option Addr) (cap : Nat) (l : List Int) (w : World) (hr : Kd.C (Kd.int .u8) w A l.length l) (hm : l.length ≤ 140737488351232) (hl : ∀ x ∈ l, 0 ≤ x ∧ x < 256) :
    Calls Try.prog 32 #[.int .u32 c, .slice A l.length cap] w fun e w' => e = .returned (.int .u32 (crc c l : Nat)) ∧ w = w' := by
  have HR := Aside0.mk hr
  have HL := Aside0.mk hl
  have hn := Bits.sub32 c hc
  clear hr hl
  go_enter Try.func32, Try.ntmps32
  go_wp2
  clear hn
  go_loop [0, 5] (fun v i => ∃ k s : Nat, k ≤ l.length ∧ s < 4294967296 ∧ i = .int .i64 k ∧ v = .int .u32 s ∧ Aside0 (s = Crc.run (4294967295 - c) ((l.take k).map Int.toNat))) (fun _ i => l.length - (intOf i).toNat)
  case atStart => exact ⟨0, 4294967295 - c, by omega, by omega, rfl, rfl, ⟨by simp; rfl⟩⟩
  case round =>
    obtain ⟨k, s, hk, hs, rfl, rfl, HS⟩ := hrel
    by_cases hlt : k < l.length
    · obtain ⟨ad, e, hx⟩ := Kd.at_int HR.out (k : Int) (by omega) (by omega)
      cases e
      obtain ⟨x, hx1, hx2, hx3⟩ := rd_nat l HL.out k hlt
      have HX3 := Aside0.mk hx3
      clear hx3
      rw [hx1, Int.toNat_natCast] at hx
      clear hx1
      have hb := Bits.xor32 s x hx2
      have hb2 := Bits.xor8_lt s x hx2
      have hb3 := Bits.step32 s x hs hx2
      obtain ⟨y, hy⟩ : ∃ y, y = s % 256 ^^^ x := ⟨_, rfl⟩
      rw [← hy] at hb hb2 hb3
      clear hy
      go_wp2_with (go_at_call 55; refine (refEntry_nat y (by omega) _).mono ?_; rintro e w' ⟨rfl, rfl⟩)
      clear hb hb3
      go_round
      case rel => exact ⟨k + 1, Crc.step s x, by omega, Bits.step_lt s x hs hx2, by go_num, rfl, ⟨by rw [HX3.out, Crc.run_append, ← HS.out]; rfl⟩⟩
      case measure => simp [intOf]; omega
    · have HE : Aside0 (s = Crc.run (4294967295 - c) (l.map Int.toNat)) := ⟨by have h := HS.out; rwa [List.take_of_length_le (by omega)] at h⟩
      have hn := Bits.sub32 s hs
      go_wp2
      go_ret
      exact ⟨by unfold crc; rw [← HE.out]; rfl, rfl⟩
end Go.Proofs.Ytogplkochcalpaa.Sum
/- Bytes in which bits of a burst are turned, one by one: plain numbers. -/
set_option linter.unusedVariables false
namespace Go.Proofs.Ytogplkochcalpaa.Burst
theorem mul_xor (n a b : Nat) : 2 ^ n * (a ^^^ b) = 2 ^ n * a ^^^ 2 ^ n * b := by
  apply Nat.eq_of_testBit_eq
  intro i
  rw [Nat.testBit_xor, Nat.testBit_two_pow_mul, Nat.testBit_two_pow_mul, Nat.testBit_two_pow_mul, Nat.testBit_xor]
  by_cases h : n ≤ i <;> simp [h]
theorem num_set (l : List Nat) (q d : Nat) (hl : ∀ x ∈ l, x < 256) (hq : q < l.length) (hd : d < 256) : Crc.num (l.set q (l.getD q 0 ^^^ d)) = Crc.num l ^^^ 2 ^ (8 * q) * d := by
  induction l generalizing q with
  | nil => simp at hq
  | cons x l ih =>
    have hx := hl x (by simp)
    cases q with
    | zero =>
      have h1 : x ^^^ d < 256 := Nat.xor_lt_two_pow (n := 8) hx hd
      show Crc.num ((x ^^^ d) :: l) = _
      rw [Crc.num_cons _ _ h1, Crc.num_cons _ _ hx, show 2 ^ (8 * 0) * d = d from by simp, Nat.xor_assoc, Nat.xor_assoc, Nat.xor_comm d]
    | succ q =>
      have h1 := ih q (fun y hy => hl y (by simp [hy])) (by simpa using hq)
      show Crc.num (x :: l.set q (l.getD q 0 ^^^ d)) = _
      rw [Crc.num_cons _ _ hx, h1, Crc.num_cons _ _ hx, show (256 : Nat) = 2 ^ 8 from rfl, mul_xor, ← Nat.mul_assoc, ← Nat.pow_add, show 8 + 8 * q = 8 * (q + 1) from by omega, Nat.xor_assoc]
theorem low_step (b k : Nat) (h : b / 2 ^ k % 2 = 1) : b % 2 ^ (k + 1) = b % 2 ^ k ^^^ 2 ^ k := by
  have h1 := Crc.split k (b % 2 ^ (k + 1))
  have h2 : b % 2 ^ (k + 1) / 2 ^ k = b / 2 ^ k % 2 := by
    rw [Nat.pow_succ, Nat.mod_mul_right_div_self]
  have h3 : b % 2 ^ (k + 1) % 2 ^ k = b % 2 ^ k := by
    rw [Nat.pow_succ, Nat.mod_mul_right_mod]
  rw [h2, h3, h, Nat.mul_one, Nat.xor_comm] at h1
  exact h1
theorem low_same (b k : Nat) (h : b / 2 ^ k % 2 = 0) : b % 2 ^ (k + 1) = b % 2 ^ k := by
  have h1 := Crc.split k (b % 2 ^ (k + 1))
  have h2 : b % 2 ^ (k + 1) / 2 ^ k = b / 2 ^ k % 2 := by
    rw [Nat.pow_succ, Nat.mod_mul_right_div_self]
  have h3 : b % 2 ^ (k + 1) % 2 ^ k = b % 2 ^ k := by
    rw [Nat.pow_succ, Nat.mod_mul_right_mod]
  rw [h2, h3, h, Nat.mul_zero, Nat.zero_xor] at h1
  exact h1
/-- One more bit of the burst is turned. -/
theorem turned (l0 l : List Nat) (p b k q r : Nat) (hl : ∀ x ∈ l, x < 256) (hq : q < l.length) (hr : r < 8) (hqr : 8 * q + r = p + k) (hb : b / 2 ^ k % 2 = 1) (h : Crc.num l0 ^^^ Crc.num l = 2 ^ p * (b % 2 ^ k)) :
    Crc.num l0 ^^^ Crc.num (l.set q (l.getD q 0 ^^^ 2 ^ r)) = 2 ^ p * (b % 2 ^ (k + 1)) := by
  have hr2 : 2 ^ r < 256 := by
    have : 2 ^ r < 2 ^ 8 := Nat.pow_lt_pow_right (by omega) hr
    omega
  rw [num_set l q _ hl hq hr2, ← Nat.xor_assoc, h, low_step b k hb, mul_xor, ← Nat.pow_add, ← Nat.pow_add, hqr]
/-- The sums differ. -/
theorem sums (c : Nat) (l0 l : List Nat) (p b : Nat) (h0 : ∀ x ∈ l0, x < 256) (hl : ∀ x ∈ l, x < 256) (hlen : l.length = l0.length) (hp : p / 8 < l0.length) (hb0 : b ≠ 0) (hb : b < 4294967296) (h : Crc.num l0 ^^^ Crc.num l = 2 ^ p * (b % 2 ^ 32)) :
    Crc.run c l0 ≠ Crc.run c l := by
  rw [Nat.mod_eq_of_lt (a := b) (by omega)] at h
  exact Crc.burst c l0 l h0 hl hlen.symm p b hb0 hb (by omega) h
end Go.Proofs.Ytogplkochcalpaa.Burst
/- Bytes held against bytes: as strings, by bytes.Equal: walks. -/
set_option linter.unusedVariables false
set_option linter.unusedSimpArgs false
namespace Go.Proofs.Ytogplkochcalpaa.Eq_
open Go.RowKit Go.Proofs.YtogplkochcalpaaW.PrintWords Go.Proofs.YtogplkochcalpaaW.PrintLast Go.Proofs.YtogplkochcalpaaW.PrintMore
theorem str_eq (l m : List Int) (hl : ∀ x ∈ l, 0 ≤ x ∧ x < 256) (hm : ∀ x ∈ m, 0 ≤ x ∧ x < 256) : ((strOfNums l).toList == (strOfNums m).toList) = decide (l = m) := by
  rw [Go.Lib.strOfNums_toList, Go.Lib.strOfNums_toList]
  unfold Go.Lib.bytesOf
  rw [Bool.eq_iff_iff]
  simp only [beq_iff_eq, decide_eq_true_eq]
  constructor
  · intro h
    induction l generalizing m with
    | nil => cases m with
      | nil => rfl
      | cons b m => simp at h
    | cons a l ih => cases m with
      | nil => simp at h
      | cons b m =>
        simp only [List.map_cons, List.cons.injEq] at h
        have ha := hl a (by simp)
        have hb := hm b (by simp)
        have h1 := congrArg UInt8.toNat h.1
        simp only [UInt8.toNat_ofNat'] at h1
        have : a = b := by omega
        rw [this, ih m (fun x hx => hl x (by simp [hx])) (fun x hx => hm x (by simp [hx])) h.2]
  · intro h
    rw [h]
end Go.Proofs.Ytogplkochcalpaa.Eq_
/- Bytes held against bytes by bytes.Equal: a walk. -/
set_option linter.unusedVariables false
set_option linter.unusedSimpArgs false
namespace Go.Proofs.Ytogplkochcalpaa.Eq_
open Go.RowKit Go.Proofs.YtogplkochcalpaaW.PrintWords Go.Proofs.YtogplkochcalpaaW.PrintLast Go.Proofs.YtogplkochcalpaaW.PrintMore
theorem equal_any (A0 : Option Addr) (c0 : Nat) (l0 : List Int) (A1 : Option Addr) (c1 : Nat) (l1 : List Int) (w : World) (hr0 : Kd.C (Kd.int .u8) w A0 l0.length l0) (hc0 : l0.length ≤ c0) (hr1 : Kd.C (Kd.int .u8) w A1 l1.length l1) (hc1 : l1.length ≤ c1) (h0 : ∀ x ∈ l0, 0 ≤ x ∧ x < 256) (h1 : ∀ x ∈ l1, 0 ≤ x ∧ x < 256) :
    Calls Try.prog 28 #[.slice A0 l0.length c0, .slice A1 l1.length c1] w fun e w' => e = .returned (.bool (decide (l0 = l1))) ∧ w = w' := by
  have hcv3 := Kd.C_string (P := Try.prog) (A := A0) (c := c0) Try.underlying22 Try.underlying5 Try.underlying9 hr0
  have hcv4 := Kd.C_string (P := Try.prog) (A := A1) (c := c1) Try.underlying22 Try.underlying5 Try.underlying9 hr1
  have he := str_eq l0 l1 h0 h1
  clear hr0 hr1 h0 h1
  go_enter Try.func28, Try.ntmps28
  go_wp2
  go_ret
  exact ⟨by simp, rfl⟩
end Go.Proofs.Ytogplkochcalpaa.Eq_
/- Bytes in new memory, by bytes.Clone: a walk. -/
set_option linter.unusedVariables false
set_option linter.unusedSimpArgs false
namespace Go.Proofs.Ytogplkochcalpaa.Eq_
open Go.RowKit Go.Proofs.YtogplkochcalpaaW.PrintWords Go.Proofs.YtogplkochcalpaaW.PrintLast Go.Proofs.YtogplkochcalpaaW.PrintMore
set_option maxHeartbeats 1000000 in
set_option maxRecDepth 100000 in
theorem clone_any (w : World) (A : Option Addr) (n c : Nat) (xs : List Int) (hC : Kd.C (Kd.int .u8) w A n xs) (hn : n ≤ 140737488355328) :
    Calls Try.prog 36 #[.slice A n c] w fun e w' => ∃ v, e = .returned v ∧ Row.OwnB w' w.heap.size v xs ∧ Below w.heap.size w w' := by
  have hlen := hC.1
  have hnil := fun w => Lib.run_eql_slice_nil (P := Try.prog) w 22 5 A n c 0 0 Try.underlying22
  have Kl := Aside0.mk hlen
  have KC := Aside0.mk hC
  have Khn := Aside0.mk hn
  clear hn
  cases A with
  | none =>
    have h0 : n = 0 := by
      rcases Nat.eq_zero_or_pos n with h | h
      · exact h
      · obtain ⟨ad, e, _⟩ := hC.2.2 h; cases e
    obtain rfl : xs = [] := List.eq_nil_of_length_eq_zero (by rw [hlen]; exact h0)
    subst h0
    clear hC hlen KC Khn Kl
    go_enter Try.func36, Try.ntmps36
    go_wp2
    go_ret
    exact ⟨_, rfl, Row.OwnB.nil _ _, Below.refl _ _⟩
  | some ad =>
    have hal : Below w.heap.size w (w.alloc (.cells #[] 5)) := below_alloc (Below.refl _ _) _
    have Kal := Aside0.mk hal
    have KO := Aside0.mk (Row.OwnB.lit w w.heap.size #[] [] rfl (Nat.le_refl _) (by simp))
    clear hC hal hlen
    go_enter Try.func36, Try.ntmps36
    go_wp2_with ((with_reducible refine gate_builtin (b := .append) (xs := #[.tmp 5, .tmp 6]) rfl ?_); apply Aside0.out)
    refine ⟨?_⟩
    refine Row.app_rows (w0 := w) w.heap.size rfl (.tmp 5) (.tmp 6) rfl (.slice (some ⟨w.heap.size, 0, none⟩) 0 0) [] xs (some ad) n c rfl rfl KO.out (Kd.C_below KC.out Kal.out) Kal.out Kal.out.size (by have := Khn.out; simp; omega) ?_
    intro zs A5 c5 w5 e1 e2 e3 h4 h5 e4 hb5 e5 e6 e7
    obtain rfl : zs = xs := by rw [e1.out]; rfl
    have K5 := Aside0.mk e2.out
    have Kb5 := Aside0.mk hb5.out
    clear e1 e2 e3 h4 e4 e5 e6 e7
    go_wp2
    go_ret
    exact ⟨_, rfl, K5.out, Kb5.out⟩
end Go.Proofs.Ytogplkochcalpaa.Eq_
/- Numbers in bytes: what the program's and the document's functions do: walks. -/
set_option linter.unusedVariables false
set_option linter.unusedSimpArgs false
namespace Go.Proofs.Ytogplkochcalpaa.Fd
open Go.RowKit Go.Proofs.YtogplkochcalpaaW.PrintWords Go.Proofs.YtogplkochcalpaaW.PrintLast Go.Proofs.YtogplkochcalpaaW.PrintMore
/-- A number's bytes, the lowest first. -/
def le (n : Nat) : Nat → List Int
  | 0 => []
  | k + 1 => le n k ++ [((n / 2 ^ (8 * k) % 256 : Nat) : Int)]
theorem le_length (n : Nat) : ∀ k, (le n k).length = k
  | 0 => rfl
  | k + 1 => by rw [le, List.length_append, le_length n k]; rfl
/-- The row of the own bytes, what grew. -/
structure Gr (w0 w : World) (base : Nat) (r : Option Nat) (wr : World) (u : Value) (ys : List Int) : Prop where
  own : Row.OwnB wr base u ys
  below : Below base w0 wr
  grown : w.grownBy wr r
  at_ : u.ownBlock = r ∨ ∃ b, u.ownBlock = some b ∧ w.heap.size ≤ b
theorem Gr.refl {w0 w : World} {base : Nat} {v : Value} {xs : List Int} (h : Row.OwnB w base v xs) (hb : Below base w0 w) : Gr w0 w base v.ownBlock w v xs := ⟨h, hb, ⟨rfl, rfl, rfl, Nat.le_refl _, fun _ _ _ => rfl⟩, Or.inl rfl⟩
theorem Gr.next {w0 w wr w1 : World} {base : Nat} {r : Option Nat} {u u1 : Value} {ys zs : List Int} (h : Gr w0 w base r wr u ys) (h1 : Row.OwnB w1 base u1 zs) (hb : Below base w0 w1) (hg : wr.grownBy w1 u.ownBlock) (hat : u1.ownBlock = u.ownBlock ∨ ∃ b, u1.ownBlock = some b ∧ wr.heap.size ≤ b) : Gr w0 w base r w1 u1 zs := by
  have hs := h.grown.size
  refine ⟨h1, hb, ⟨hg.os.trans h.grown.os, hg.tape.trans h.grown.tape, hg.output.trans h.grown.output, Nat.le_trans h.grown.size hg.size, fun k hk hne => (hg.block k (Nat.lt_of_lt_of_le hk hs) ?_).trans (h.grown.block k hk hne)⟩, ?_⟩
  · rcases h.at_ with e | ⟨b, e, hb⟩
    · rw [e]; exact hne
    · rw [e]; intro e2; injection e2 with e2; omega
  · rcases hat with e | ⟨b, e, hb⟩
    · rw [e]; exact h.at_
    · exact Or.inr ⟨b, e, by omega⟩
set_option maxHeartbeats 1000000 in
theorem store_any (w0 w : World) (base : Nat) (v : Value) (xs : List Int) (n k : Nat) (HO : Row.OwnB w base v xs) (HB : Below base w0 w) (hbase : base ≤ w.heap.size) (hx : xs.length ≤ 100000000) (hk : k ≤ 8) :
    Calls Try.prog 60 #[v, .int .u64 n, .int .i64 k] w fun e w' => ∃ v', e = .returned v' ∧ Gr w0 w base v.ownBlock w' v' (xs ++ le n k) := by
  obtain ⟨A1, c1, rfl, hle, hC1⟩ := HO.slice
  have KG := Aside0.mk (Gr.refl HO HB)
  clear HO HB hC1
  go_enter Try.func60, Try.ntmps60
  go_wp2
  go_loopw [0, 9] (fun u i wr => ∃ (j : Nat) (A : Option Addr) (c : Nat), j ≤ k ∧ i = .int .i64 j ∧ u = .slice A (xs.length + j) c ∧ base ≤ wr.heap.size ∧ Aside0 (Gr w0 w base (Value.slice A1 xs.length c1).ownBlock wr (.slice A (xs.length + j) c) (xs ++ le n j))) (fun _ i _ => k - (intOf i).toNat)
  case atStart => exact ⟨0, A1, c1, by omega, rfl, rfl, hbase, ⟨by simpa [le] using KG.out⟩⟩
  case round =>
    obtain ⟨j, A, c, hj, rfl, rfl, hbr, HG⟩ := hrel
    obtain ⟨m, hm⟩ : ∃ m, m = xs.length + j := ⟨_, rfl⟩
    rw [← hm] at HG
    rw [← hm]
    have Km := Aside0.mk hm
    have hyl : Aside0 ((xs ++ le n j).length = m) := ⟨by rw [List.length_append, le_length, hm]⟩
    clear hm
    by_cases hlt : j < k
    · have hd0 : Aside0 (0 ≤ n / 2 ^ (8 * j)) := ⟨Nat.zero_le _⟩
      go_wp2_with ((with_reducible refine gate_builtin (b := .append) (xs := #[.tmp 12, .tmp 18]) rfl ?_); apply Aside0.out)
      refine ⟨?_⟩
      refine Kd.R_append (Kd.int .u8) (w0 := w0) (W := wr) base rfl (.tmp 12) (.tmp 18) 22 5 (.int .u8 0) 1 rfl Try.underlying22 Row.info8 rfl (by decide) (by decide) (.slice A m c) (xs ++ le n j) ((n : Int) / 2 ^ (8 * j) % 256) [.int .u8 ((n : Int) / 2 ^ (8 * j) % 256)] (fun _ => True) (fun _ => False) rfl rfl rfl (fun _ h => h.elim) (fun _ _ => trivial) HG.out.own HG.out.below hbr (by rw [hyl.out]; have := Km.out; omega) ?_
      intro v5 w5 h5 hb5 hg5 hat5
      have KG5 := Aside0.mk (HG.out.next h5 hb5 hg5 hat5)
      have hbr5 : base ≤ w5.heap.size := Nat.le_trans hbr hg5.size
      obtain ⟨A5, c5, hv5⟩ := Kd.R_slice h5
      rw [List.length_append, List.length_singleton, hyl.out] at hv5
      subst hv5
      clear h5 hb5 hg5 hat5
      go_wp2
      have hh : xs.length + (j + 1) = m + 1 := by rw [Km.out]; omega
      refine ⟨⟨j + 1, A5, c5, by omega, by go_num, by rw [hh], hbr5, ?_⟩, by simp [intOf]; omega⟩
      rw [hh, le, ← List.append_assoc]
      exact KG5
    · obtain rfl : j = k := by omega
      go_wp2
      go_ret
      exact ⟨_, rfl, HG.out⟩
/-- A width that may be. -/
def wid (k : Nat) : Prop := k = 1 ∨ k = 2 ∨ k = 4 ∨ k = 8
theorem wide_yes (k : Nat) (hk : wid k) (w : World) : Calls Try.prog 58 #[.int .i64 k] w fun e w' => e = .returned (.bool true) ∧ w = w' := by
  rcases hk with rfl | rfl | rfl | rfl
  all_goals
    go_enter Try.func58, Try.ntmps58
    go_wp2
    go_ret
    exact ⟨rfl, rfl⟩
theorem fits_yes (n k : Nat) (hk : wid k) (hn : n < 2 ^ (8 * k)) (w : World) : Calls Try.prog 59 #[.int .u64 n, .int .i64 k] w fun e w' => e = .returned (.bool true) ∧ w = w' := by
  rcases hk with rfl | rfl | rfl | rfl
  · have h1 : (((n : Int) / 256) == 0) = true := by simp at hn ⊢; omega
    clear hn
    go_enter Try.func59, Try.ntmps59
    go_wp2
    go_ret
    exact ⟨rfl, rfl⟩
  · have h1 : (((n : Int) / 65536) == 0) = true := by simp at hn ⊢; omega
    clear hn
    go_enter Try.func59, Try.ntmps59
    go_wp2
    go_ret
    exact ⟨rfl, rfl⟩
  · have h1 : (((n : Int) / 4294967296) == 0) = true := by simp at hn ⊢; omega
    clear hn
    go_enter Try.func59, Try.ntmps59
    go_wp2
    go_ret
    exact ⟨rfl, rfl⟩
  · clear hn
    go_enter Try.func59, Try.ntmps59
    go_wp2
    go_ret
    exact ⟨rfl, rfl⟩
/-- A writer in memory: what it has, nothing wrong. -/
structure FW (w0 : World) (base g : Nat) (most : Int) (w : World) (v : Value) (xs : List Int) : Prop where
  blk : w.heap[g]? = some (.cells #[v, .int .i64 most, .int .i64 0] 97 (0, 0))
  own : Row.OwnB w base v xs
  below : Below base w0 w
  bg : base ≤ g
section
variable {w0 w w1 : World} {base g : Nat} {most : Int} {v v1 : Value} {xs ys : List Int}
theorem FW.lt (h : FW w0 base g most w v xs) : g < w.heap.size := blk_lt h.blk
theorem FW.size (h : FW w0 base g most w v xs) : base ≤ w.heap.size := by have := h.lt; have := h.bg; omega
theorem FW.keep (h : FW w0 base g most w v xs) (hb : Below w.heap.size w w1) : FW w0 base g most w1 v xs := ⟨blk_below h.blk hb, h.own.below hb, below_then h.below h.size hb, h.bg⟩
theorem FW.cells (h : FW w0 base g most w v xs) : w.cell? ⟨g, 0, none⟩ = some v ∧ w.cell? ⟨g, 1, none⟩ = some (.int .i64 most) ∧ w.cell? ⟨g, 2, none⟩ = some (.int .i64 0) :=
  ⟨(cell_of_row _ _ _ _ _ _ h.blk).trans rfl, (cell_of_row _ _ _ _ _ _ h.blk).trans rfl, (cell_of_row _ _ _ _ _ _ h.blk).trans rfl⟩
theorem FW.again (h : FW w0 base g most w v xs) : FW w0 base g most (w.setCell ⟨g, 2, none⟩ (.int .i64 0)) v xs :=
  ⟨blk_set h.blk 2 _, Kd.R_set h.own h.blk (fun q hq => by simp [Kd.int, Kd.scalar] at hq; omega) 2 _, h.below.setCell h.bg _, h.bg⟩
theorem FW.next (h : FW w0 base g most w v xs) (hG : Gr w0 w base v.ownBlock w1 v1 ys) : FW w0 base g most (w1.setCell ⟨g, 0, none⟩ v1) v1 ys := by
  have hne : some g ≠ v.ownBlock := Kd.R_ne h.own h.blk (by decide)
  have hb1 := (hG.grown.block g h.lt hne).trans h.blk
  exact ⟨blk_set hb1 0 _, Kd.R_set hG.own hb1 (fun q hq => by simp [Kd.int, Kd.scalar] at hq; omega) 0 _, hG.below.setCell h.bg _, h.bg⟩
theorem right_ok (h : FW w0 base g most w v xs) (k : Int) (hk : k ≤ most - xs.length) (hm : most ≤ 100000000) (h0 : 0 ≤ most) (hk0 : 0 ≤ k) (hx : (xs.length : Int) ≤ most) : Calls Try.prog 57 #[.pointer (some ⟨g, 0, none⟩), .int .i64 0, .int .i64 k] w fun e w' => e = .returned (.bool true) ∧ FW w0 base g most w' v xs ∧ KeepBut w w' g none := by
  obtain ⟨c0, c1, c2⟩ := h.cells
  obtain ⟨A, c, rfl, hle, hC⟩ := h.own.slice
  have hf : w.frozen? ⟨g, 2, none⟩ = false := blk_frozen h.blk 2
  have KH := Aside0.mk h
  obtain ⟨n, hn⟩ : ∃ n : Nat, n = xs.length := ⟨_, rfl⟩
  rw [← hn] at c0 hk hx
  have Kn := Aside0.mk hn
  clear h hC hn hle
  go_enter Try.func57, Try.ntmps57
  go_wp2
  go_quiet (fail)
  go_wp2
  go_ret
  refine ⟨rfl, ?_, ?_⟩
  · exact FW.again (KH.out.keep (pw_below_drewN (Below.refl _ _) _))
  · exact (KeepBut.of_below (pw_below_drewN (Below.refl _ _) _) _ _).set_ _ _
theorem FW.frz (h : FW w0 base g most w v xs) (hG : Gr w0 w base v.ownBlock w1 v1 ys) : w1.frozen? ⟨g, 0, none⟩ = false := blk_frozen ((hG.grown.block g h.lt (Kd.R_ne h.own h.blk (by decide))).trans h.blk) 0
theorem FW.cel (h : FW w0 base g most w v xs) (hG : Gr w0 w base v.ownBlock w1 v1 ys) : w1.cell? ⟨g, 0, none⟩ = some v := (cell_of_row _ _ _ _ _ _ ((hG.grown.block g h.lt (Kd.R_ne h.own h.blk (by decide))).trans h.blk)).trans rfl
theorem FW.len (h : FW w0 base g most w v xs) : ∃ A c, v = .slice A xs.length c := Kd.R_slice h.own
theorem keep_any {w w' : World} {g : Nat} {row : Option Nat} (h : KeepBut w w' g none) : KeepBut w w' g row := ⟨h.1, fun i hi hg _ => h.2 i hi hg (by simp)⟩
theorem FW.kept {w2 : World} (h : KeepBut w w1 g none) (hG : Gr w0 w1 base v.ownBlock w2 v1 ys) : KeepBut w (w2.setCell ⟨g, 0, none⟩ v1) g v.ownBlock := ((keep_any h).trans (KeepBut.of_grown hG.grown g) (Or.inl rfl)).set_ 0 v1
/-- A number behind the others. -/
theorem num_ok (h : FW w0 base g most w v xs) (n k : Nat) (hk : wid k) (hn : n < 2 ^ (8 * k)) (hk2 : (k : Int) ≤ most - xs.length) (hm : most ≤ 100000000) : Calls Try.prog 41 #[.pointer (some ⟨g, 0, none⟩), .int .u64 n, .int .i64 k] w fun e w' => e = .returned (.tuple #[]) ∧ ∃ v', FW w0 base g most w' v' (xs ++ le n k) ∧ KeepBut w w' g v.ownBlock := by
  have hx : (xs.length : Int) ≤ most := by omega
  have hx2 : xs.length ≤ 100000000 := by omega
  have hk8 : k ≤ 8 := by rcases hk with h | h | h | h <;> omega
  have K1 := Aside0.mk (wide_yes k hk)
  have K2 := Aside0.mk (fits_yes n k hk hn)
  have K3 := Aside0.mk (right_ok h k hk2 hm (by omega) (by omega) hx)
  have K4 : Aside0 (∀ w1 : World, FW w0 base g most w1 v xs → _) := ⟨fun w1 h1 => store_any w0 w1 base v xs n k h1.own h1.below h1.size hx2 hk8⟩
  clear hn hk h hk2 hx hx2
  go_enter Try.func41, Try.ntmps41
  go_wp2_with (first | (go_at_call 58; refine (K1.out _).mono ?_; rintro e w' ⟨rfl, rfl⟩) | (go_at_call 59; refine (K2.out _).mono ?_; rintro e w' ⟨rfl, rfl⟩) | (go_at_call 57; refine K3.out.mono ?_; rintro e w1 ⟨rfl, h1, hk1⟩; have c0 := h1.cells.1; have KH := Aside0.mk h1; have KK := Aside0.mk hk1; clear h1 hk1) | (go_at_call 60; refine (K4.out _ KH.out).mono ?_; rintro e w2 ⟨v2, rfl, hG⟩; have KF := Aside0.mk (KH.out.next hG); have KM := Aside0.mk (FW.kept KK.out hG); have hfz := KH.out.frz hG; have hcl := KH.out.cel hG; obtain ⟨A2, c2, hv2⟩ := Kd.R_slice hG.own; obtain ⟨n2, hn2⟩ : ∃ n2, (xs ++ le n k).length = n2 := ⟨_, rfl⟩; rw [hn2] at hv2; subst hv2; clear hG hn2))
  go_end0
  exact ⟨rfl, _, KF.out, KM.out⟩
/-- Bytes behind the others. -/
theorem bytes_ok (h : FW w0 base g most w v xs) (l : List Int) (A : Option Addr) (c : Nat) (hC : ∀ w', KeepBut w w' g none → Kd.C (Kd.int .u8) w' A l.length l) (hk2 : (l.length : Int) ≤ most - xs.length) (hm : most ≤ 100000000) : Calls Try.prog 40 #[.pointer (some ⟨g, 0, none⟩), .slice A l.length c] w fun e w' => e = .returned (.tuple #[]) ∧ ∃ v', FW w0 base g most w' v' (xs ++ l) ∧ KeepBut w w' g v.ownBlock := by
  have hx : (xs.length : Int) ≤ most := by omega
  have hx2 : xs.length ≤ 100000000 := by omega
  have hl2 : l.length ≤ 100000000 := by omega
  have K3 := Aside0.mk (right_ok h l.length hk2 hm (by omega) (by omega) hx)
  have K4 := Aside0.mk hC
  clear h hk2 hx hC
  go_enter Try.func40, Try.ntmps40
  go_wp2_with (first | (go_at_call 57; refine K3.out.mono ?_; rintro e w1 ⟨rfl, h1, hk1⟩; have c0 := h1.cells.1; have KH := Aside0.mk h1; have KK := Aside0.mk hk1; clear h1 hk1) | ((with_reducible refine gate_builtin (b := .append) (xs := #[.tmp 12, .tmp 13]) rfl ?_); apply Aside0.out))
  refine ⟨?_⟩
  refine Row.app_rows (w0 := w0) base rfl (.tmp 12) (.tmp 13) rfl v xs l A l.length c rfl rfl KH.out.own (K4.out _ KK.out) KH.out.below KH.out.size (by omega) ?_
  intro zs A1 c1 w1 hz ho hzl hzle hzc hC1 hb1 hbs hg1 hat1
  have hG : Gr w0 _ base v.ownBlock w1 (.slice A1 zs.length c1) zs := ⟨ho.out, hb1.out, hg1.out, hat1.out⟩
  have KF := Aside0.mk (KH.out.next hG)
  have KM := Aside0.mk (FW.kept KK.out hG)
  have hfz := KH.out.frz hG
  have hcl := KH.out.cel hG
  have hz := hz.out
  obtain ⟨n, hn⟩ : ∃ n, n = zs.length := ⟨_, rfl⟩
  rw [← hn] at KF KM hzc ⊢
  have Kz := Aside0.mk hz
  clear hG hn ho hzl hC1 hg1 hat1 hb1 hz hzle
  go_wp2
  go_end0
  exact ⟨rfl, _, by rw [← Kz.out]; exact KF.out, KM.out⟩
end
end Go.Proofs.Ytogplkochcalpaa.Fd
/- Numbers in bytes: a writer's end, a reader: walks. -/
set_option linter.unusedVariables false
set_option linter.unusedSimpArgs false
namespace Go.Proofs.Ytogplkochcalpaa.Fd
open Go.RowKit Go.Proofs.YtogplkochcalpaaW.PrintWords Go.Proofs.YtogplkochcalpaaW.PrintLast Go.Proofs.YtogplkochcalpaaW.PrintMore
/-- Bytes in new memory. -/
theorem copied_any (w : World) (l : List Int) (A : Option Addr) (c : Nat) (hC : ∀ w', Below w.heap.size w w' → Kd.C (Kd.int .u8) w' A l.length l) (hl : l.length ≤ 140737488355328) : Calls Try.prog 61 #[.slice A l.length c] w fun e w' => ∃ v, e = .returned v ∧ Row.OwnB w' w.heap.size v l ∧ Below w.heap.size w w' := by
  have K4 := Aside0.mk hC
  clear hC
  go_enter Try.func61, Try.ntmps61
  go_wp2_with ((with_reducible refine gate_builtin (b := .append) (xs := #[.tmp 3, .tmp 4]) rfl ?_); apply Aside0.out)
  refine ⟨?_⟩
  have hb := below_alloc (Below.refl w.heap.size w) (.cells #[] 5)
  refine Row.app_rows (w0 := w) w.heap.size rfl (.tmp 3) (.tmp 4) rfl _ [] l A l.length c rfl rfl (Row.OwnB.lit w w.heap.size #[] [] rfl (Nat.le_refl _) (by simp)) (K4.out _ hb) hb (by simp) (by simp; omega) ?_
  intro zs A1 c1 w1 hz ho hzl hzle hzc hC1 hb1 hbs hg1 hat1
  have hz := hz.out
  rw [List.nil_append] at hz
  have KO : Aside0 (Row.OwnB w1 w.heap.size (.slice A1 zs.length c1) l) := ⟨by have := ho.out; rwa [hz] at this ⊢⟩
  have KB := Aside0.mk hb1.out
  clear hz ho hzl hC1 hg1 hat1 hb1 hzle hb hbs
  go_wp2
  go_ret
  exact ⟨_, rfl, KO.out, KB.out⟩
theorem writer_new (m : Int) (h0 : 0 ≤ m) (w : World) : Calls Try.prog 39 #[.int .i64 m] w fun e w' => e = .returned (.pointer (some ⟨w.heap.size, 0, none⟩)) ∧ FW w w.heap.size w.heap.size m w' (.slice none 0 0) [] := by
  have KB := Aside0.mk (below_alloc (Below.refl w.heap.size w) (.cells #[.slice none 0 0, .int .i64 m, .int .i64 0] 97))
  have KS := Aside0.mk (heap_alloc_new w (.cells #[.slice none 0 0, .int .i64 m, .int .i64 0] 97))
  have hm : (if m < 0 then 0 else m) = m := if_neg (by omega)
  have hm2 : (if 0 < m then m else 0) = m := by by_cases h : 0 < m; exact if_pos h; rw [if_neg h]; omega
  clear h0
  go_enter Try.func39, Try.ntmps39
  go_wp2
  go_ret
  exact ⟨rfl, KS.out, Row.OwnB.nil _ _, KB.out, Nat.le_refl _⟩
section
variable {w0 w w1 : World} {base g : Nat} {most : Int} {v v1 : Value} {xs ys : List Int}
/-- All that was taken, in new memory. -/
theorem done_ok (h : FW w0 base g most w v xs) (hx : xs.length ≤ 100000000) : Calls Try.prog 42 #[.pointer (some ⟨g, 0, none⟩)] w fun e w' => ∃ u, e = .returned (.tuple #[u, .int .i64 0]) ∧ Row.OwnB w' w.heap.size u xs ∧ Below w.heap.size w w' := by
  obtain ⟨c0, c1, c2⟩ := h.cells
  obtain ⟨A, c, rfl, hle, hC⟩ := h.own.slice
  have K4 := Aside0.mk (copied_any w xs A c (fun w' hb => Kd.C_below hC hb) (by omega))
  clear h hC c1 hle
  go_enter Try.func42, Try.ntmps42
  go_wp2_with (go_at_call 61; refine K4.out.mono ?_; rintro e w1 ⟨u, rfl, ho, hb⟩; have KO := Aside0.mk ho; have KB := Aside0.mk hb; clear ho hb)
  go_ret2
  exact ⟨_, rfl, KO.out, KB.out⟩
end
/-- A number out of bytes, the lowest first. -/
def val : List Int → Nat
  | [] => 0
  | x :: r => x.toNat + 256 * val r
theorem val_snoc (l : List Int) (x : Int) : val (l ++ [x]) = val l + x.toNat * 2 ^ (8 * l.length) := by
  induction l with
  | nil => simp [val]
  | cons a l ih =>
    rw [List.cons_append, val, ih, val, List.length_cons, show 8 * (l.length + 1) = 8 * l.length + 8 by omega, Nat.pow_add]
    have : (2 : Nat) ^ 8 = 256 := by decide
    rw [this, Nat.mul_add, ← Nat.mul_assoc x.toNat, Nat.mul_comm 256 (x.toNat * 2 ^ (8 * l.length))]
    omega
theorem val_lt (l : List Int) (h : ∀ x ∈ l, 0 ≤ x ∧ x < 256) : val l < 2 ^ (8 * l.length) := by
  induction l with
  | nil => simp [val]
  | cons a l ih =>
    have h1 := ih (fun x hx => h x (by simp [hx]))
    have h2 := h a (by simp)
    rw [val, List.length_cons, show 8 * (l.length + 1) = 8 * l.length + 8 by omega, Nat.pow_add]
    have : (2 : Nat) ^ 8 = 256 := by decide
    rw [this]
    omega
theorem pow_le8 {k j : Nat} (h : k ≤ j) : 2 ^ (8 * k) ≤ 2 ^ (8 * j) := Nat.pow_le_pow_right (by decide) (by omega)
theorem u64_small (n : Int) (h0 : 0 ≤ n) (h : n < 18446744073709551616) : IntKind.u64.wrap n = n := by simp [IntKind.wrap, IntKind.bits, IntKind.signed]; omega
theorem or64 (n y k : Nat) (hn : n < 2 ^ (8 * k)) (hy : y < 256) (hk : k ≤ 7) : bits BinOp.or IntKind.u64 (n : Int) (IntKind.u64.wrap ((y : Int) * 2 ^ (8 * k))) = ((n + y * 2 ^ (8 * k) : Nat) : Int) := by
  have hp : (2 : Nat) ^ (8 * k) ≤ 2 ^ 56 := Nat.pow_le_pow_right (by decide) (by omega)
  have hp2 : (2 : Nat) ^ (8 * k) * 256 ≤ 2 ^ 64 := by
    have : (2 : Nat) ^ 64 = 2 ^ 56 * 256 := by decide
    rw [this]
    exact Nat.mul_le_mul_right _ hp
  obtain ⟨q, hq⟩ : ∃ q, (2 : Nat) ^ (8 * k) = q := ⟨_, rfl⟩
  have hor := Nat.two_pow_add_eq_or_of_lt hn y
  have hcast : ((y : Int) * 2 ^ (8 * k)) = ((y * 2 ^ (8 * k) : Nat) : Int) := by push_cast; rfl
  rw [hcast]
  rw [hq] at hn hp hp2 hor ⊢
  have hyq : y * q + q ≤ 2 ^ 64 := by
    have h1 : (y + 1) * q ≤ 256 * q := Nat.mul_le_mul_right _ (by omega)
    rw [Nat.add_mul, Nat.one_mul] at h1
    omega
  have h64 : (2 : Nat) ^ 64 = 18446744073709551616 := by decide
  rw [h64] at hyq
  have e1 : IntKind.u64.wrap ((y * q : Nat) : Int) = ((y * q : Nat) : Int) := u64_small _ (by omega) (by omega)
  rw [e1]
  show IntKind.u64.wrap ((BitVec.ofInt 64 (n : Int) ||| BitVec.ofInt 64 ((y * q : Nat) : Int)).toNat : Int) = _
  rw [BitVec.toNat_or, ofInt_u64 n (by omega), ofInt_u64 (y * q) (by omega), Nat.or_comm, Nat.mul_comm y q, ← hor, Nat.mul_comm q y, Nat.add_comm]
  exact u64_small _ (by omega) (by omega)
set_option maxHeartbeats 1000000 in
theorem load_any (w : World) (l : List Int) (A : Option Addr) (c : Nat) (hC : Kd.C (Kd.int .u8) w A l.length l) (hl : ∀ x ∈ l, 0 ≤ x ∧ x < 256) (h8 : l.length ≤ 8) : Calls Try.prog 64 #[.slice A l.length c] w fun e w' => e = .returned (.int .u64 (val l)) ∧ w = w' := by
  have KC := Aside0.mk hC
  have KL := Aside0.mk hl
  clear hC hl
  go_enter Try.func64, Try.ntmps64
  go_wp2
  go_loop [3, 7] (fun n i => ∃ k : Nat, k ≤ l.length ∧ i = .int .i64 k ∧ n = .int .u64 (val (l.take k))) (fun _ i => l.length - (intOf i).toNat)
  case atStart => exact ⟨0, by omega, rfl, rfl⟩
  case round =>
    obtain ⟨k, hk, rfl, rfl⟩ := hrel
    by_cases hlt : k < l.length
    · obtain ⟨ad, e, hx⟩ := Kd.at_int KC.out (k : Int) (by omega) (by omega)
      subst e
      obtain ⟨x, hxx⟩ : ∃ x, x = l[k] := ⟨_, rfl⟩
      have hxr : rd l (k : Int) = x := by
        rw [hxx, rd, Int.toNat_natCast, List.getD_eq_getElem?_getD, List.getElem?_eq_getElem hlt]
        rfl
      rw [hxr, Int.toNat_natCast] at hx
      have hxb := KL.out x (by rw [hxx]; exact List.getElem_mem hlt)
      obtain ⟨x0, x1⟩ := hxb
      obtain ⟨y, rfl⟩ := Int.eq_ofNat_of_zero_le x0
      have KT : Aside0 (val (l.take (k + 1)) = val (l.take k) + y * 2 ^ (8 * k)) := ⟨by rw [List.take_succ_eq_append_getElem hlt, ← hxx, val_snoc, List.length_take, Nat.min_eq_left (by omega)]; rfl⟩
      have KV : Aside0 (val (l.take k) < 2 ^ (8 * k)) := ⟨by have := val_lt (l.take k) (fun x hx => KL.out x (List.mem_of_mem_take hx)); rwa [List.length_take, Nat.min_eq_left (by omega)] at this⟩
      obtain ⟨n, hn⟩ : ∃ n, val (l.take k) = n := ⟨_, rfl⟩
      rw [hn] at KT KV
      clear hxr hxx
      rw [hn]
      go_wp2
      rw [or64 n y k KV.out (by omega) (by omega), ← KT.out]
      exact ⟨⟨k + 1, hlt, by go_num, rfl⟩, by simp [intOf]; omega⟩
    · obtain rfl : k = l.length := by omega
      go_wp2
      go_ret
      exact ⟨rfl, rfl⟩
/-- A part of bytes that are read. -/
theorem C_part {w : World} {A : Option Addr} {l : List Int} {c a n : Nat} (hC : Kd.C (Kd.int .u8) w A l.length l) (h : a + n ≤ l.length) (hc : l.length ≤ c) : Kd.C (Kd.int .u8) w (if c = a then A else Option.map (fun x => x.add a) A) ((l.drop a).take n).length ((l.drop a).take n) := by
  have h := Kd.C_mid (lo := a) (hi := a + n) (c := c) hC (by omega) (by omega) hc
  have e : (l.take (a + n)).drop a = (l.drop a).take n := by rw [List.drop_take, Nat.add_sub_cancel_left]
  have e2 : ((l.drop a).take n).length = n := by rw [List.length_take, List.length_drop]; omega
  rw [e] at h
  rw [e2]
  simpa [Kd.int, Kd.scalar, e2, -List.length_take, -List.length_drop] using h
/-- Are there so many bytes from a place on? -/
theorem within_any (w : World) (l : List Int) (A : Option Addr) (c : Nat) (a n : Nat) (hl : l.length ≤ 140737488355328) (ha : a ≤ 140737488355328) (hn : n ≤ 140737488355328000) : Calls Try.prog 63 #[.slice A l.length c, .int .i64 a, .int .i64 n] w fun e w' => e = .returned (.bool (decide (a + n ≤ l.length))) ∧ w = w' := by
  obtain ⟨m, hm⟩ : ∃ m, m = l.length := ⟨_, rfl⟩
  rw [← hm] at hl ⊢
  clear hm
  by_cases h1 : n ≤ m
  · by_cases h2 : a + n ≤ m
    · rw [decide_eq_true h2]
      have h3 : (a : Int) ≤ (m : Int) - (n : Int) := by omega
      go_enter Try.func63, Try.ntmps63
      go_wp2
      go_ret
      exact ⟨rfl, rfl⟩
    · rw [decide_eq_false h2]
      have h3 : decide ((a : Int) ≤ (m : Int) - (n : Int)) = false := decide_eq_false (by omega)
      go_enter Try.func63, Try.ntmps63
      go_wp2
      go_ret
      exact ⟨rfl, rfl⟩
  · rw [decide_eq_false (by omega)]
    have h3 : decide (n ≤ m) = false := decide_eq_false h1
    go_enter Try.func63, Try.ntmps63
    go_wp2
    go_ret
    exact ⟨rfl, rfl⟩
/-- A reader's place; is something wrong? -/
structure RS where
  at_ : Nat
  bad : Bool
def RS.e (s : RS) : Int := if s.bad = true then 6 else 0
def RS.next (s : RS) (l : List Int) (n : Nat) : RS := if s.bad = true then s else if s.at_ + n ≤ l.length then ⟨s.at_ + n, false⟩ else ⟨s.at_, true⟩
def RS.tk (s : RS) (l : List Int) (n : Nat) : List Int := if s.bad = false ∧ s.at_ + n ≤ l.length then (l.drop s.at_).take n else []
/-- A reader in memory. -/
structure FR (w0 : World) (base g : Nat) (w : World) (v : Value) (l : List Int) (s : RS) : Prop where
  blk : w.heap[g]? = some (.cells #[v, .int .i64 s.at_, .int .i64 s.e] 106 (0, 0))
  own : Row.OwnB w base v l
  below : Below base w0 w
  bg : base ≤ g
  at_ : s.at_ ≤ l.length
section
variable {w0 w w1 : World} {base g : Nat} {v v1 : Value} {l : List Int} {s : RS}
theorem FR.lt (h : FR w0 base g w v l s) : g < w.heap.size := blk_lt h.blk
theorem FR.size (h : FR w0 base g w v l s) : base ≤ w.heap.size := by have := h.lt; have := h.bg; omega
theorem FR.keep (h : FR w0 base g w v l s) (hb : Below w.heap.size w w1) : FR w0 base g w1 v l s := ⟨blk_below h.blk hb, h.own.below hb, below_then h.below h.size hb, h.bg, h.at_⟩
theorem FR.cells (h : FR w0 base g w v l s) : w.cell? ⟨g, 0, none⟩ = some v ∧ w.cell? ⟨g, 1, none⟩ = some (.int .i64 s.at_) ∧ w.cell? ⟨g, 2, none⟩ = some (.int .i64 s.e) :=
  ⟨(cell_of_row _ _ _ _ _ _ h.blk).trans rfl, (cell_of_row _ _ _ _ _ _ h.blk).trans rfl, (cell_of_row _ _ _ _ _ _ h.blk).trans rfl⟩
theorem FR.set (h : FR w0 base g w v l s) {s' : RS} (j : Nat) (u : Value) (hv : #[v, .int .i64 s'.at_, .int .i64 s'.e] = (#[v, .int .i64 s.at_, .int .i64 s.e] : Array Value).setIfInBounds j u) (ha : s'.at_ ≤ l.length) : FR w0 base g (w.setCell ⟨g, j, none⟩ u) v l s' :=
  ⟨by rw [hv]; exact blk_set h.blk j _, Kd.R_set h.own h.blk (fun q hq => by simp [Kd.int, Kd.scalar] at hq; omega) j _, h.below.setCell h.bg _, h.bg, ha⟩
set_option maxHeartbeats 1000000 in
theorem take_any (h : FR w0 base g w v l s) (n : Nat) (hl : l.length ≤ 140737488355328) (hn : n ≤ 140737488355328) : Calls Try.prog 65 #[.pointer (some ⟨g, 0, none⟩), .int .i64 n] w fun e w' => ∃ A c, e = .returned (.slice A (s.tk l n).length c) ∧ (s.tk l n).length ≤ c ∧ Kd.C (Kd.int .u8) w' A (s.tk l n).length (s.tk l n) ∧ FR w0 base g w' v l (s.next l n) ∧ KeepBut w w' g none := by
  obtain ⟨c0, c1, c2⟩ := h.cells
  obtain ⟨A, c, rfl, hle, hC⟩ := h.own.slice
  have f1 : w.frozen? ⟨g, 1, none⟩ = false := blk_frozen h.blk 1
  have f2 : w.frozen? ⟨g, 2, none⟩ = false := blk_frozen h.blk 2
  obtain ⟨a, bad⟩ := s
  have hat := h.at_
  simp only at c1 hat
  have KH := Aside0.mk h
  cases bad with
  | true =>
    have e1 : (⟨a, true⟩ : RS).tk l n = [] := by unfold RS.tk; rw [if_neg (by simp)]
    have e2 : (⟨a, true⟩ : RS).next l n = ⟨a, true⟩ := by unfold RS.next; rw [if_pos rfl]
    rw [e1, e2]
    simp only [RS.e, if_true] at c2
    clear h hC e1 e2
    go_enter Try.func65, Try.ntmps65
    go_wp2
    go_ret
    exact ⟨none, 0, rfl, Nat.le_refl _, Kd.C_nil _ _, KH.out, KeepBut.refl _ _ _⟩
  | false =>
    simp only [RS.e, Bool.false_eq_true, if_false] at c2
    have KW := Aside0.mk (fun w1 => within_any w1 l A c a n hl (by omega) (by omega))
    by_cases hw : a + n ≤ l.length
    · have e1 : (⟨a, false⟩ : RS).tk l n = (l.drop a).take n := by unfold RS.tk; rw [if_pos ⟨rfl, hw⟩]
      have e2 : (⟨a, false⟩ : RS).next l n = ⟨a + n, false⟩ := by unfold RS.next; rw [if_neg (by simp), if_pos hw]
      have e3 : ((l.drop a).take n).length = n := by rw [List.length_take, List.length_drop]; omega
      rw [e1, e2, e3]
      rw [decide_eq_true hw] at KW
      clear h hC e1 e2
      go_enter Try.func65, Try.ntmps65
      go_wp2
      go_quiet ((go_at_call 63; exact Calls.quiet_of_same ((KW.out _).mono fun _ _ hq => ⟨hq.1, hq.2.symm⟩)))
      go_wp2
      generalize hW : World.setCell _ _ _ = W
      have KF : Aside0 (FR w0 base g W (.slice A l.length c) l ⟨a + n, false⟩) := ⟨by rw [← hW]; exact (KH.out.keep (pw_below_drewN (Below.refl _ _) _)).set 1 _ (by simp [RS.e]) hw⟩
      obtain ⟨c0, c1, c2⟩ := KF.out.cells
      simp only at c1
      have e4 : IntKind.i64.wrap (((a + n : Nat) : Int) - (n : Int)) = (a : Int) := by
        rw [show ((a + n : Nat) : Int) - (n : Int) = (a : Int) by omega]
        exact IntWalk.i64_in _ (by omega)
      have e5 : wrap64 (((a + n : Nat) : Int) - (n : Int)) = (a : Int) := by unfold wrap64; omega
      obtain ⟨b, hb⟩ : ∃ b, b = a + n := ⟨_, rfl⟩
      rw [← hb] at c1 e4 e5 KF
      have Kb := Aside0.mk hb
      have hbc : b ≤ c := by omega
      have hab : (a : Int) ≤ (b : Int) := by omega
      have KW : Aside0 (KeepBut w W g none) := ⟨by rw [← hW]; exact (KeepBut.of_below (pw_below_drewN (Below.refl _ _) _) _ _).set_ _ _⟩
      clear hW hb
      go_quiet (fail)
      have hba : b - a = n := by have := Kb.out; omega
      have hca : n ≤ c - a := by have := Kb.out; omega
      rw [hba]
      obtain ⟨A8, hA8⟩ : ∃ A8, A8 = (if c = a then A else Option.map (fun x => x.add a) A) := ⟨_, rfl⟩
      rw [← hA8]
      have KA := Aside0.mk hA8
      clear hA8 hba
      go_wp2
      go_ret
      refine ⟨_, _, rfl, hca, ?_, ?_, ?_⟩
      · have h := C_part (a := a) (n := n) (Row.OwnB.reads KF.out.own).2.2 hw hle
        rw [e3, ← KA.out] at h
        exact Kd.C_below h (pw_below_drewN (Below.refl _ _) _)
      · rw [← Kb.out]
        exact KF.out.keep (pw_below_drewN (Below.refl _ _) _)
      · exact KW.out.trans (KeepBut.of_below (pw_below_drewN (Below.refl _ _) _) _ _) (Or.inl rfl)
    · have e1 : (⟨a, false⟩ : RS).tk l n = [] := by unfold RS.tk; rw [if_neg (fun h => hw h.2)]
      have e2 : (⟨a, false⟩ : RS).next l n = ⟨a, true⟩ := by unfold RS.next; rw [if_neg (by simp), if_neg hw]
      rw [e1, e2]
      rw [decide_eq_false hw] at KW
      clear h hC e1 e2
      go_enter Try.func65, Try.ntmps65
      go_wp2
      go_quiet ((go_at_call 63; exact Calls.quiet_of_same ((KW.out _).mono fun _ _ hq => ⟨hq.1, hq.2.symm⟩)))
      go_wp2
      go_ret
      refine ⟨none, 0, rfl, Nat.le_refl _, Kd.C_nil _ _, ?_, ?_⟩
      · exact (KH.out.keep (pw_below_drewN (Below.refl _ _) _)).set 2 _ (by simp [RS.e]) hat
      · exact (KeepBut.of_below (pw_below_drewN (Below.refl _ _) _) _ _).set_ _ _
theorem tk_le (s : RS) (l : List Int) (n : Nat) : (s.tk l n).length ≤ n := by
  unfold RS.tk
  split
  · rw [List.length_take]; exact Nat.min_le_left _ _
  · exact Nat.zero_le _
theorem tk_sub (s : RS) (l : List Int) (n : Nat) : ∀ x ∈ s.tk l n, x ∈ l := by
  unfold RS.tk
  split
  · exact fun x hx => List.mem_of_mem_drop (List.mem_of_mem_take hx)
  · intro x hx; cases hx
/-- A number. -/
theorem rnum_any (h : FR w0 base g w v l s) (hl : ∀ x ∈ l, 0 ≤ x ∧ x < 256) (hm : l.length ≤ 140737488355328) (k : Nat) (hk : wid k) : Calls Try.prog 46 #[.pointer (some ⟨g, 0, none⟩), .int .i64 k] w fun e w' => e = .returned (.int .u64 (val (s.tk l k))) ∧ FR w0 base g w' v l (s.next l k) ∧ KeepBut w w' g none := by
  have hk8 : k ≤ 8 := by rcases hk with h | h | h | h <;> omega
  have h8 : (s.tk l k).length ≤ 8 := Nat.le_trans (tk_le s l k) hk8
  have K1 := Aside0.mk (wide_yes k hk)
  have K2 := Aside0.mk (take_any h k hm (by omega))
  have K3 : Aside0 (∀ (w1 : World) (A : Option Addr) (c : Nat), Kd.C (Kd.int .u8) w1 A (s.tk l k).length (s.tk l k) → _) := ⟨fun w1 A c hC => load_any w1 (s.tk l k) A c hC (fun x hx => hl x (tk_sub s l k x hx)) h8⟩
  clear h hl hk h8
  go_enter Try.func46, Try.ntmps46
  go_wp2_with (first | (go_at_call 58; refine (K1.out _).mono ?_; rintro e w' ⟨rfl, rfl⟩) | (go_at_call 65; refine K2.out.mono ?_; rintro e w1 ⟨A, c, rfl, hc, hC, h1, hk1⟩; have KC := Aside0.mk hC; have KH := Aside0.mk h1; have KK := Aside0.mk hk1; clear hC h1 hk1) | (go_at_call 64; refine (K3.out _ _ _ KC.out).mono ?_; rintro e w' ⟨rfl, rfl⟩))
  go_ret
  exact ⟨rfl, KH.out, KK.out⟩
/-- Bytes. -/
theorem rbytes_any (h : FR w0 base g w v l s) (hm : l.length ≤ 140737488355328) (k : Nat) (hk : k ≤ 140737488355328) : Calls Try.prog 66 #[.pointer (some ⟨g, 0, none⟩), .int .i64 k] w fun e w' => ∃ A c, e = .returned (.slice A (s.tk l k).length c) ∧ (s.tk l k).length ≤ c ∧ Row.OwnB w' w.heap.size (.slice A (s.tk l k).length c) (s.tk l k) ∧ FR w0 base g w' v l (s.next l k) ∧ KeepBut w w' g none := by
  have hlt := h.lt
  have K2 := Aside0.mk (take_any h k hm hk)
  have K3 : Aside0 (∀ (w1 : World) (A : Option Addr) (c : Nat), Kd.C (Kd.int .u8) w1 A (s.tk l k).length (s.tk l k) → _) := ⟨fun w1 A c hC => copied_any w1 (s.tk l k) A c (fun w' hb => Kd.C_below hC hb) (Nat.le_trans (tk_le s l k) hk)⟩
  clear h
  go_enter Try.func66, Try.ntmps66
  go_wp2_with (first | (go_at_call 65; refine K2.out.mono ?_; rintro e w1 ⟨A, c, rfl, hc, hC, h1, hk1⟩; have KC := Aside0.mk hC; have KH := Aside0.mk h1; have KK := Aside0.mk hk1; clear hC h1 hk1) | (go_at_call 61; refine (K3.out _ _ _ KC.out).mono ?_; rintro e w2 ⟨u, rfl, ho, hb⟩; obtain ⟨A2, c2, rfl, hc2, -⟩ := ho.slice; have KO := Aside0.mk ho; have KB := Aside0.mk hb; clear ho hb))
  go_ret
  exact ⟨_, _, rfl, hc2, KO.out.lower KK.out.1, KH.out.keep KB.out, KK.out.trans (KeepBut.of_below KB.out _ _) (Or.inl rfl)⟩
theorem err_any (h : FR w0 base g w v l s) : Calls Try.prog 49 #[.pointer (some ⟨g, 0, none⟩)] w fun e w' => e = .returned (.tuple #[.int .i64 s.at_, .int .i64 s.e]) ∧ ∃ k, w' = w.drewN k := by
  obtain ⟨c0, c1, c2⟩ := h.cells
  clear h c0
  go_enter Try.func49, Try.ntmps49
  go_wp2
  go_quiet (fail)
  go_wp2
  go_ret2
  exact ⟨rfl, _, rfl⟩
end
theorem reader_new (w : World) (l : List Int) (A : Option Addr) (c : Nat) (hC : ∀ w', Below w.heap.size w w' → Kd.C (Kd.int .u8) w' A l.length l) (hl : l.length ≤ 140737488355328) : Calls Try.prog 45 #[.slice A l.length c] w fun e w' => ∃ g v, e = .returned (.pointer (some ⟨g, 0, none⟩)) ∧ FR w w.heap.size g w' v l ⟨0, false⟩ := by
  have K3 := Aside0.mk (copied_any w l A c hC hl)
  clear hC
  go_enter Try.func45, Try.ntmps45
  go_wp2_with (go_at_call 61; refine K3.out.mono ?_; rintro e w2 ⟨u, rfl, ho, hb⟩; obtain ⟨A2, c2, rfl, hc2, -⟩ := ho.slice; have KO := Aside0.mk ho; have KB := Aside0.mk hb; clear ho hb)
  go_ret
  have hs := KB.out.size
  exact ⟨w2.heap.size, _, rfl, heap_alloc_new _ _, KO.out.below (below_alloc (Below.refl _ _) _), below_then KB.out hs (below_alloc (Below.refl _ _) _), hs, Nat.zero_le _⟩
end Go.Proofs.Ytogplkochcalpaa.Fd
/- Numbers in bytes: the document's Store; numbers of int kind: walks. -/
set_option linter.unusedVariables false
set_option linter.unusedSimpArgs false
namespace Go.Proofs.Ytogplkochcalpaa.Fd
open Go.RowKit Go.Proofs.YtogplkochcalpaaW.PrintWords Go.Proofs.YtogplkochcalpaaW.PrintLast Go.Proofs.YtogplkochcalpaaW.PrintMore
theorem num_okI {w0 w : World} {base g : Nat} {most : Int} {v : Value} {xs : List Int} (h : FW w0 base g most w v xs) (n : Int) (k : Nat) (h0 : 0 ≤ n) (hk : wid k) (hn : n < 2 ^ (8 * k)) (hk2 : (k : Int) ≤ most - xs.length) (hm : most ≤ 100000000) : Calls Try.prog 41 #[.pointer (some ⟨g, 0, none⟩), .int .u64 n, .int .i64 k] w fun e w' => e = .returned (.tuple #[]) ∧ ∃ v', FW w0 base g most w' v' (xs ++ le n.toNat k) ∧ KeepBut w w' g v.ownBlock := by
  obtain ⟨m, rfl⟩ := Int.eq_ofNat_of_zero_le h0
  refine num_ok h m k hk ?_ hk2 hm
  have e : ((2 : Int) ^ (8 * k)) = ((2 ^ (8 * k) : Nat) : Int) := by push_cast; rfl
  rw [e] at hn
  exact Int.ofNat_lt.1 hn
theorem div_pow (n j : Nat) : n / 2 ^ (8 * j) / 256 = n / 2 ^ (8 * (j + 1)) := by
  rw [Nat.div_div_eq_div_mul, show 8 * (j + 1) = 8 * j + 8 by omega, Nat.pow_add]
set_option maxHeartbeats 1000000 in
/-- The document's bytes of a number. -/
theorem rstore_any (w : World) (n k : Nat) (hk : k ≤ 8) (hn : Aside0 (n < 18446744073709551616)) :
    Calls Try.prog 31 #[.int .u64 n, .int .i64 k] w fun e w' => ∃ v', e = .returned v' ∧ Row.OwnB w' w.heap.size v' (le n k) ∧ Below w.heap.size w w' := by
  have KG := Aside0.mk (Gr.refl (Row.OwnB.nil w w.heap.size) (Below.refl w.heap.size w))
  go_enter Try.func31, Try.ntmps31
  go_wp2
  go_loopw [0, 5, 6] (fun m u i wr => ∃ (j : Nat) (A : Option Addr) (c : Nat), j ≤ k ∧ i = .int .i64 j ∧ m = .int .u64 ((n / 2 ^ (8 * j) : Nat) : Int) ∧ u = .slice A j c ∧ w.heap.size ≤ wr.heap.size ∧ Aside0 (Gr w w w.heap.size (Value.slice none 0 0).ownBlock wr (.slice A j c) (le n j))) (fun _ _ i _ => k - (intOf i).toNat)
  case atStart => exact ⟨0, none, 0, by omega, rfl, by simp, rfl, Nat.le_refl _, KG⟩
  case round =>
    obtain ⟨j, A, c, hj, rfl, rfl, rfl, hbr, HG⟩ := hrel
    have hyl : Aside0 ((le n j).length = j) := ⟨le_length n j⟩
    obtain ⟨q, hq⟩ : ∃ q, q = n / 2 ^ (8 * j) := ⟨_, rfl⟩
    have Kq : Aside0 (le n (j + 1) = le n j ++ [((q % 256 : Nat) : Int)]) := ⟨by rw [le, ← hq]⟩
    have Kq3 : Aside0 (IntKind.u64.wrap ((q : Int) / 256) = ((q / 256 : Nat) : Int)) := ⟨by
      have h1 : q ≤ n := by rw [hq]; exact Nat.div_le_self _ _
      have h2 := hn.out
      rw [u64_small _ (by omega) (by omega)]
      rfl⟩
    have Kq2 : Aside0 (n / 2 ^ (8 * (j + 1)) = q / 256) := ⟨by rw [hq, div_pow]⟩
    rw [← hq]
    clear hq
    by_cases hlt : j < k
    · go_wp2_with ((with_reducible refine gate_builtin (b := .append) (xs := #[.tmp 12, .tmp 16]) rfl ?_); apply Aside0.out)
      refine ⟨?_⟩
      refine Kd.R_append (Kd.int .u8) (w0 := w) (W := wr) w.heap.size rfl (.tmp 12) (.tmp 16) 22 5 (.int .u8 0) 1 rfl Try.underlying22 Row.info8 rfl (by decide) (by decide) (.slice A j c) (le n j) ((q : Int) % 256) [.int .u8 ((q : Int) % 256)] (fun _ => True) (fun _ => False) rfl rfl rfl (fun _ h => h.elim) (fun _ _ => trivial) HG.out.own HG.out.below hbr (by rw [hyl.out]; omega) ?_
      intro v5 w5 h5 hb5 hg5 hat5
      have KG5 := Aside0.mk (HG.out.next h5 hb5 hg5 hat5)
      have hbr5 : w.heap.size ≤ w5.heap.size := Nat.le_trans hbr hg5.size
      obtain ⟨A5, c5, hv5⟩ := Kd.R_slice h5
      rw [List.length_append, List.length_singleton, hyl.out] at hv5
      subst hv5
      clear h5 hb5 hg5 hat5
      go_wp2
      refine ⟨⟨j + 1, A5, c5, by omega, by go_num, by rw [Kq2.out, Kq3.out], rfl, hbr5, ?_⟩, by simp [intOf]; omega⟩
      rw [Kq.out]
      exact KG5
    · obtain rfl : j = k := by omega
      go_wp2
      go_ret
      exact ⟨_, rfl, HG.out.own, HG.out.below⟩
theorem rstore_anyI (w : World) (n : Int) (k : Nat) (h0 : 0 ≤ n) (hk : k ≤ 8) (hn : Aside0 (n < 18446744073709551616)) :
    Calls Try.prog 31 #[.int .u64 n, .int .i64 k] w fun e w' => ∃ v', e = .returned v' ∧ Row.OwnB w' w.heap.size v' (le n.toNat k) ∧ Below w.heap.size w w' := by
  obtain ⟨m, rfl⟩ := Int.eq_ofNat_of_zero_le h0
  exact rstore_any w m k hk ⟨by have := hn.out; omega⟩
theorem le_isB (n : Nat) : ∀ k, ∀ x ∈ le n k, 0 ≤ x ∧ x < 256
  | 0, x, hx => by cases hx
  | k + 1, x, hx => by
    rw [le, List.mem_append, List.mem_singleton] at hx
    rcases hx with h | h
    · exact le_isB n k x h
    · have := Nat.mod_lt (n / 2 ^ (8 * k)) (by decide : 256 > 0); omega
/-- What is stored is loaded. -/
theorem val_le (n : Nat) : ∀ k, n < 2 ^ (8 * k) → val (le n k) = n
  | k, h => by
    have key : ∀ k, val (le n k) = n % 2 ^ (8 * k) := by
      intro k
      induction k with
      | zero => simp [le, val, Nat.mod_one]
      | succ k ih =>
        rw [le, val_snoc, ih, le_length, show 8 * (k + 1) = 8 * k + 8 by omega, Nat.pow_add]
        have e : (2 : Nat) ^ 8 = 256 := by decide
        rw [e, Int.toNat_natCast, Nat.mod_mul, Nat.mul_comm (n / 2 ^ (8 * k) % 256)]
    rw [key, Nat.mod_eq_of_lt h]
end Go.Proofs.Ytogplkochcalpaa.Fd
/- Bytes with their own sum behind them; numbers read; bits of a burst turned: the ground of several chapters. -/
set_option linter.unusedVariables false
set_option linter.unusedSimpArgs false
namespace Go.Proofs.Ytogplkochcalpaa.Bg
open Go.RowKit Go.Proofs.Ytogplkochcalpaa.Fd Go.Proofs.YtogplkochcalpaaW.PrintWords Go.Proofs.YtogplkochcalpaaW.PrintLast Go.Proofs.YtogplkochcalpaaW.PrintMore
theorem isB_app {a b : List Int} (ha : ∀ x ∈ a, 0 ≤ x ∧ x < 256) (hb : ∀ x ∈ b, 0 ≤ x ∧ x < 256) : ∀ x ∈ a ++ b, 0 ≤ x ∧ x < 256 := fun x hx => (List.mem_append.1 hx).elim (ha x) (hb x)
theorem crc_lt (l : List Int) : Sum.crc 0 l < 4294967296 := by unfold Sum.crc; omega
theorem lt16 {n : Int} (h : n < 65536) : n < 2 ^ (8 * 2) := h
theorem lt32n {n : Nat} (h : n < 4294967296) : n < 2 ^ (8 * 4) := by simpa using h
theorem lt32 {n : Int} (h : n < 4294967296) : n < 2 ^ (8 * 4) := h
theorem lit_cells (w : World) (g : Nat) (c : Array Value) (fr : Nat × Nat) (hg : w.heap[g]? = some (.cells c 5 fr)) (l : List Int) (hc : c.toList = nums .u8 l) (hl : l.length ≤ 9223372036854775807) : Kd.C (Kd.int .u8) w (some ⟨g, 0, none⟩) l.length l := by
  refine Kd.C_of_reads (d := (0 : Int)) ⟨rfl, hl, fun _ => ⟨_, rfl, fun j hj => ?_⟩⟩
  rw [add_plain, cell_of_row _ _ _ _ _ _ hg, ← Array.getElem?_toList, hc]
  simp [nums, List.getElem?_eq_getElem hj]
theorem lit_foot {w0 w2 : World} {base g : Nat} {most : Int} {v : Value} {xs : List Int} (h : FW w0 base g most w2 v xs) {a b c d : Int} {fr : Nat × Nat} : ∀ w', KeepBut (w2.alloc (.cells #[.int .u8 a, .int .u8 b, .int .u8 c, .int .u8 d] 5 fr)) w' g none → Kd.C (Kd.int .u8) w' (some ⟨w2.heap.size, 0, none⟩) ([a, b, c, d] : List Int).length [a, b, c, d] := fun w' hk => by
  have hlt := h.lt
  have h1 : w'.heap[w2.heap.size]? = some (.cells #[.int .u8 a, .int .u8 b, .int .u8 c, .int .u8 d] 5 fr) := by
    exact (hk.2 w2.heap.size (by simp) (by omega) (by simp)).trans (heap_alloc_new _ _)
  exact lit_cells w' _ _ fr h1 [a, b, c, d] rfl (by simp)
def rdN (l : List Int) (p n : Nat) : Nat := val ((l.drop p).take n)
theorem rdN_lt {l : List Int} (h : ∀ x ∈ l, 0 ≤ x ∧ x < 256) (p n : Nat) (hp : p + n ≤ l.length) : rdN l p n < 2 ^ (8 * n) := by
  have h2 := val_lt ((l.drop p).take n) (fun x hx => h x (List.mem_of_mem_drop (List.mem_of_mem_take hx)))
  have e : ((l.drop p).take n).length = n := by rw [List.length_take, List.length_drop]; omega
  rwa [e] at h2
theorem rd16 {l : List Int} (h : ∀ x ∈ l, 0 ≤ x ∧ x < 256) (p : Nat) (hp : p + 2 ≤ l.length) : rdN l p 2 < 65536 := rdN_lt h p 2 hp
theorem rd32 {l : List Int} (h : ∀ x ∈ l, 0 ≤ x ∧ x < 256) (p : Nat) (hp : p + 4 ≤ l.length) : rdN l p 4 < 4294967296 := rdN_lt h p 4 hp
theorem rnum_ok {w0 w : World} {base g : Nat} {v : Value} {l : List Int} (p k q : Nat) (h : FR w0 base g w v l ⟨p, false⟩) (hl : ∀ x ∈ l, 0 ≤ x ∧ x < 256) (hm : l.length ≤ 140737488355328) (hk : wid k) (hp : p + k ≤ l.length) (hq : p + k = q) : Calls Try.prog 46 #[.pointer (some ⟨g, 0, none⟩), .int .i64 k] w fun e w' => e = .returned (.int .u64 (rdN l p k)) ∧ FR w0 base g w' v l ⟨q, false⟩ ∧ KeepBut w w' g none :=
  (rnum_any h hl hm k hk).mono fun e w' ⟨he, h1, h2⟩ => by
    have e1 : (⟨p, false⟩ : RS).tk l k = (l.drop p).take k := if_pos ⟨rfl, hp⟩
    have e2 : (⟨p, false⟩ : RS).next l k = ⟨q, false⟩ := by unfold RS.next; rw [if_neg (by simp), if_pos hp, hq]
    rw [e1] at he
    rw [e2] at h1
    exact ⟨he, h1, h2⟩
theorem own_keep {wr w' : World} {base g T : Nat} {v : Value} {xs : List Int} {cs : Array Value} (h : Row.OwnB wr base v xs) (hk : KeepBut wr w' g none) (hg : wr.heap[g]? = some (.cells cs T (0, 0))) (ht : T ≠ 5) : Row.OwnB w' base v xs := Kd.R_mono (Kd.R_keep (Kd.R_types h hg (fun q hq => by simp [Kd.int, Kd.scalar] at hq; omega)) hk (fun _ hk => hk.2)) (fun _ hk => hk.1)
theorem own_set {wr : World} {base g T : Nat} {v : Value} {xs : List Int} {cs : Array Value} (h : Row.OwnB wr base v xs) (hg : wr.heap[g]? = some (.cells cs T (0, 0))) (ht : T ≠ 5) (j : Nat) (u : Value) : Row.OwnB (wr.setCell ⟨g, j, none⟩ u) base v xs := Kd.R_set h hg (fun q hq => by simp [Kd.int, Kd.scalar] at hq; omega) j u
theorem FR_far {w0 wa : World} {base g b T : Nat} {v : Value} {l : List Int} {s : RS} {cs : Array Value} (h : FR w0 base g wa v l s) (hb : wa.heap[b]? = some (.cells cs T (0, 0))) (h1 : T ≠ 106) (h2 : T ≠ 5) (hbase : base ≤ b) (j : Nat) (u : Value) : FR w0 base g (wa.setCell ⟨b, j, none⟩ u) v l s :=
  ⟨(Below.heap_setCell _ _ _ _ (blk_ne h.blk hb (Ne.symm h1))).trans h.blk, Kd.R_set h.own hb (fun q hq => by simp [Kd.int, Kd.scalar] at hq; omega) j u, h.below.setCell hbase _, h.bg, h.at_⟩
theorem dec_keep {w0 wa wb : World} {base g b : Nat} {v : Value} {l : List Int} {s : RS} {o : Obj} (h : FR w0 base g wa v l s) (hk : KeepBut wa wb g none) {n : Nat} (hbr : b < n ∧ n ≤ g) (hz : wa.heap[b]? = some o) : wb.heap[b]? = some o := hk.blk hz (by omega) (by simp)
theorem xor_not (r : Nat) (h : r < 4294967296) : r ^^^ (4294967295 - r) = 4294967295 := by
  apply Nat.eq_of_testBit_eq
  intro i
  rw [Nat.testBit_xor, show 4294967295 - r = 2 ^ 32 - (r + 1) by omega, Nat.testBit_two_pow_sub_succ (by omega), show (4294967295 : Nat) = 2 ^ 32 - (0 + 1) by omega, Nat.testBit_two_pow_sub_succ (by omega)]
  by_cases hi : i < 32
  · simp [hi]
  · have : r.testBit i = false := Nat.testBit_lt_two_pow ((by have h2 : 2 ^ 32 ≤ 2 ^ i := Nat.pow_le_pow_right (n := 2) (by decide) (by omega); omega))
    simp [hi, this]
theorem val_num : ∀ l : List Int, val l = Crc.num (l.map Int.toNat)
  | [] => rfl
  | x :: l => by rw [val, List.map_cons, Crc.num, val_num l]
theorem nat_of {l : List Int} (h : ∀ x ∈ l, 0 ≤ x ∧ x < 256) : ∀ x ∈ l.map Int.toNat, x < 256 := fun x hx => by
  obtain ⟨y, hy, rfl⟩ := List.mem_map.1 hx
  have := h y hy
  omega
theorem resid (m t : List Int) (hm : ∀ x ∈ m, 0 ≤ x ∧ x < 256) (ht : ∀ x ∈ t, 0 ≤ x ∧ x < 256) (h4 : t.length = 4) (h : Sum.crc 0 m = val t) : Crc.run (4294967295 - 0) ((m ++ t).map Int.toNat) = Crc.iter 32 4294967295 := by
  rw [List.map_append, Crc.run_append, Crc.run_num _ _ (nat_of ht), List.length_map, h4, ← val_num, ← h]
  have hlt := Crc.run_lt (4294967295 - 0) (m.map Int.toNat) (by omega) (nat_of hm)
  unfold Sum.crc
  rw [xor_not _ hlt]
/-- Bytes whose last four are the others' sum. -/
theorem resid_take {l : List Int} (n : Nat) (hl : ∀ x ∈ l, 0 ≤ x ∧ x < 256) (hn : l.length = n + 4) (h : Sum.crc 0 (l.take n) = rdN l n 4) : Crc.run (4294967295 - 0) (l.map Int.toNat) = Crc.iter 32 4294967295 := by
  have e : l.take n ++ (l.drop n).take 4 = l := by
    rw [List.take_of_length_le (l := l.drop n) (by rw [List.length_drop]; omega), List.take_append_drop]
  have h2 := resid (l.take n) ((l.drop n).take 4) (fun x hx => hl x (List.mem_of_mem_take hx)) (fun x hx => hl x (List.mem_of_mem_drop (List.mem_of_mem_take hx))) (by rw [List.length_take, List.length_drop]; omega) h
  rwa [e] at h2
/-- Bits of a burst turned: the sum is another. -/
theorem burst_no (l0 zs : List Int) (n p b : Nat) (h0 : ∀ x ∈ l0, 0 ≤ x ∧ x < 256) (hz : ∀ x ∈ zs, 0 ≤ x ∧ x < 256) (hl0 : l0.length = n + 4) (hlen : zs.length = n + 4) (hr : Sum.crc 0 (l0.take n) = rdN l0 n 4) (hp : p < 8 * (n + 4)) (hb0 : b ≠ 0) (hb : b < 4294967296) (h : Crc.num (l0.map Int.toNat) ^^^ Crc.num (zs.map Int.toNat) = 2 ^ p * (b % 2 ^ 32)) : Sum.crc 0 (zs.take n) ≠ rdN zs n 4 := by
  intro he
  have h1 := resid_take n hz hlen he
  have h2 := Burst.sums (4294967295 - 0) (l0.map Int.toNat) (zs.map Int.toNat) p b (nat_of h0) (nat_of hz) (by simp [hlen, hl0]) (by rw [List.length_map, hl0]; omega) hb0 hb h
  exact h2 (by rw [h1, resid_take n h0 hl0 hr])
theorem rd_mid (pre post : List Int) (n k p : Nat) (hp : pre.length = p) (hn : n < 2 ^ (8 * k)) (l : List Int) (hl : l = pre ++ le n k ++ post) : rdN l p k = n := by
  unfold rdN
  rw [hl, List.append_assoc, ← hp, List.drop_left, List.take_left' (le_length n k), val_le n k hn]
structure Held (wr : World) (base : Nat) (v : Value) (l0 : List Int) (at_ b k : Nat) (w : World) : Prop where
  mk :: (out : ∃ zs : List Int, Row.OwnB wr base v zs ∧ zs.length = l0.length ∧ (∀ x ∈ zs, 0 ≤ x ∧ x < 256) ∧ Crc.num (l0.map Int.toNat) ^^^ Crc.num (zs.map Int.toNat) = 2 ^ at_ * (b % 2 ^ k) ∧ Below w.heap.size w wr)
theorem shift_bit (b k : Nat) (h : b < 4294967296) : bits .and .u32 ((b : Int) / 2 ^ k) 1 = ((b / 2 ^ k % 2 : Nat) : Int) := by
  have e : ((b : Int) / 2 ^ k) = ((b / 2 ^ k : Nat) : Int) := by
    rw [Int.natCast_ediv]; congr 1
  have h2 := u32_and_nat (b / 2 ^ k) 1 (Nat.lt_of_le_of_lt (Nat.div_le_self _ _) h) (by decide)
  rw [Nat.and_one_is_mod] at h2
  rw [e]
  exact h2
theorem shl_bit (r : Nat) (h : r < 8) : IntKind.u8.wrap (2 ^ min r 8) = ((2 ^ r : Nat) : Int) := by
  have h2 : 2 ^ r < 256 := by
    have : 2 ^ r < 2 ^ 8 := Nat.pow_lt_pow_right (by omega) h
    omega
  rw [Nat.min_eq_left (by omega), IntKind.wrap_u8, show ((2 : Int) ^ r) = ((2 ^ r : Nat) : Int) from (Int.natCast_pow 2 r).symm]
  generalize 2 ^ r = x at h2 ⊢
  omega
theorem next_same {wr w : World} {base : Nat} {v : Value} {l0 : List Int} {p b k : Nat} (h : Held wr base v l0 p b k w) (hb : b / 2 ^ k % 2 = 0) : Held wr base v l0 p b (k + 1) w := by
  obtain ⟨zs, h1, h2, h3, h4, h5⟩ := h
  exact ⟨⟨zs, h1, h2, h3, by rw [h4, Burst.low_same b k hb], h5⟩⟩
theorem next_turned {wr w : World} {base g n c : Nat} {l0 : List Int} {p b k q r : Nat} (h : Held wr base (.slice (some ⟨g, 0, none⟩) n c) l0 p b k w) (hg : w.heap.size ≤ g) (hb : b / 2 ^ k % 2 = 1) (hq : q < n) (hr : r < 8) (hqr : 8 * q + r = p + k) :
    ∃ z : Nat, z < 256 ∧ wr.cell? ⟨g, q, none⟩ = some (.int .u8 z) ∧ wr.frozen? ⟨g, q, none⟩ = false ∧ Held ((wr.drew).setCell ⟨g, q, none⟩ (.int .u8 ((z ^^^ 2 ^ r : Nat) : Int))) base (.slice (some ⟨g, 0, none⟩) n c) l0 p b (k + 1) w := by
  obtain ⟨zs, h1, h2, h3, h4, h5⟩ := h
  have hn := (Row.OwnB.reads h1).1
  have h1d : Row.OwnB wr.drew base (.slice (some ⟨g, 0, none⟩) n c) zs := Row.OwnB.below h1 (below_drew (Below.refl _ _))
  have hz := h3 zs[q] (List.getElem_mem _)
  have hzz : zs.getD q 0 = zs[q] := by rw [List.getD_eq_getElem?_getD, List.getElem?_eq_getElem (by omega)]; rfl
  have hr2 : 2 ^ r < 256 := by
    have : 2 ^ r < 2 ^ 8 := Nat.pow_lt_pow_right (by omega) hr
    omega
  have hx : zs[q].toNat ^^^ 2 ^ r < 256 := Nat.xor_lt_two_pow (n := 8) (by omega) hr2
  have hc := Kd.R_celln (0 : Int) h1 (q : Int) (by omega) (by omega)
  have hput := Kd.R_putn h1d (q : Int) (((zs[q].toNat ^^^ 2 ^ r : Nat) : Int))
  rw [Int.toNat_natCast] at hc hput
  have hcell : rdOf 0 zs (q : Int) = ((zs[q].toNat : Nat) : Int) := by
    unfold rdOf
    rw [Int.toNat_natCast, hzz]; omega
  refine ⟨zs[q].toNat, by omega, ?_, hc.2, ⟨⟨zs.set q (((zs[q].toNat ^^^ 2 ^ r : Nat) : Int)), hput, by simp [h2], ?_, ?_, (below_drew h5).setCell hg _⟩⟩⟩
  · rw [hc.1, hcell]
  · intro x hx'
    rcases List.mem_or_eq_of_mem_set hx' with hx' | rfl
    · exact h3 x hx'
    · exact ⟨by omega, by omega⟩
  · have ht := Burst.turned (l0.map Int.toNat) (zs.map Int.toNat) p b k q r (nat_of h3) (by simp; omega) hr hqr hb h4
    have he : (zs.map Int.toNat).getD q 0 = zs[q].toNat := by
      rw [List.getD_eq_getElem?_getD, List.getElem?_map, List.getElem?_eq_getElem (by omega)]; rfl
    rw [he] at ht
    rw [List.map_set, Int.toNat_natCast]
    exact ht
theorem spots (t : Nat) (ht : t ≤ 70000) : ∃ q r : Nat, (t : Int).tdiv 8 = q ∧ wrap64 (q : Int) = q ∧ (t : Int).tmod 8 = r ∧ r < 8 ∧ 8 * q + r = t := by
  refine ⟨t / 8, t % 8, ?_, ?_, ?_, by omega, by omega⟩
  · rw [Int.tdiv_eq_ediv_of_nonneg (by omega)]; omega
  · unfold wrap64; omega
  · rw [Int.tmod_eq_emod_of_nonneg (by omega)]; omega
theorem exec_convert {o : Oper} {a : Act} {w : World} (s d : TypeId) (x : Operand) (ho : o.op = .convert s d x) (v u : Value) (hx : a.eval x = v) (hrun : (convert s d v).run Try.prog w = .ok u w) : (execOp a.eval o).run Try.prog w = .ok (.value u) w := by
  unfold execOp
  simp [ho, hx, hrun, Result.andThen]
end Go.Proofs.Ytogplkochcalpaa.Bg
