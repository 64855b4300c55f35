/- Texts put together: KA. -/
import Derived.WalkKit
import Derived.Test.YtpdggoapjbjmhaaProg
import Derived.WalkLawsBesides
import Derived.Test.YtpdggoapjbjmhaaWWords
import Derived.Test.YtpdggoapjbjmhaaWLast
import Derived.Test.YtpdggoapjbjmhaaWX
import Derived.Test.YtpdggoapjbjmhaaZR
import Derived.Test.YtpdggoapjbjmhaaRows
import Derived.OpenShut
import Derived.WalkSpells
import Derived.Deep.QuietTactic
import Derived.BigQuiet
import Derived.Lib.Bytes
import Derived.Lib.SliceRun
import Derived.Lib.SlBytesConst
/- Texts put together: Crc, Bits, SumN, Burst, Fs, Eq, Clone, Bgs. -/
/- The sum CRC-32 in plain numbers: its byte step by a table, what bytes one behind the other give, and that bursts of 32 bits change it. -/
namespace Go.Proofs.Ytpdggoapjbjmhaa.Crc
/-- One step: half, exclusive-or the polynomial if the lowest bit is 1. -/
def M (s : Nat) : Nat := if s % 2 = 1 then s / 2 ^^^ 3988292384 else s / 2
def iter : Nat → Nat → Nat
  | 0, s => s
  | n + 1, s => iter n (M s)
theorem iter_succ (n s : Nat) : iter (n + 1) s = iter n (M s) := rfl
theorem iter_add (m n s : Nat) : iter (m + n) s = iter n (iter m s) := by
  induction m generalizing s with
  | zero => simp [iter]
  | succ m ih => rw [show m + 1 + n = (m + n) + 1 from by omega]; exact ih _
theorem xor_mod_two (a b : Nat) : (a ^^^ b) % 2 = (a + b) % 2 := by
  have h := Nat.xor_mod_two_pow (a := a) (b := b) (n := 1)
  simp only [Nat.pow_one] at h
  rw [h]
  rcases Nat.mod_two_eq_zero_or_one a with ha | ha <;> rcases Nat.mod_two_eq_zero_or_one b with hb | hb <;> rw [ha, hb] <;> simp <;> omega
theorem xor_half (a b : Nat) : (a ^^^ b) / 2 = a / 2 ^^^ b / 2 := by
  have := Nat.xor_div_two (a := a) (b := b)
  exact this
theorem M_xor (a b : Nat) : M (a ^^^ b) = M a ^^^ M b := by
  unfold M
  rw [xor_half, xor_mod_two]
  by_cases ha : a % 2 = 1 <;> by_cases hb : b % 2 = 1
  · rw [if_neg (by omega), if_pos ha, if_pos hb]
    rw [Nat.xor_assoc, Nat.xor_comm (3988292384) (b / 2 ^^^ 3988292384), Nat.xor_assoc (b/2), Nat.xor_self, Nat.xor_zero]
  · rw [if_pos (by omega), if_pos ha, if_neg hb]
    rw [Nat.xor_assoc, Nat.xor_assoc, Nat.xor_comm (b / 2)]
  · rw [if_pos (by omega), if_neg ha, if_pos hb, Nat.xor_assoc]
  · rw [if_neg (by omega), if_neg ha, if_neg hb]
theorem iter_xor (n a b : Nat) : iter n (a ^^^ b) = iter n a ^^^ iter n b := by
  induction n generalizing a b with
  | zero => rfl
  | succ n ih => rw [iter_succ, iter_succ, iter_succ, M_xor, ih]
theorem M_two (w : Nat) : M (2 * w) = w := by unfold M; rw [if_neg (by omega)]; omega
theorem iter_pow (n w : Nat) : iter n (2 ^ n * w) = w := by
  induction n generalizing w with
  | zero => simp [iter]
  | succ n ih => rw [iter_succ, show 2 ^ (n + 1) * w = 2 * (2 ^ n * w) from by rw [Nat.pow_succ]; ac_rfl, M_two, ih]
/-- A number is its high part and its low part. -/
theorem split (n v : Nat) : v = (2 ^ n * (v / 2 ^ n)) ^^^ (v % 2 ^ n) := by
  apply Nat.eq_of_testBit_eq
  intro i
  rw [Nat.testBit_xor, Nat.testBit_mod_two_pow, Nat.testBit_two_pow_mul, Nat.testBit_div_two_pow]
  by_cases h : i < n
  · have : ¬ n ≤ i := by omega
    simp [h, this]
  · have h' : n ≤ i := by omega
    simp [h, h', Nat.sub_add_cancel h']
theorem iter_split (n v : Nat) : iter n v = v / 2 ^ n ^^^ iter n (v % 2 ^ n) := by
  conv => lhs; rw [split n v]
  rw [iter_xor, iter_pow]
theorem M_lt (s : Nat) (h : s < 4294967296) : M s < 4294967296 := by
  unfold M
  split
  · exact Nat.xor_lt_two_pow (n := 32) (by omega) (by decide)
  · omega
theorem iter_lt (n s : Nat) (h : s < 4294967296) : iter n s < 4294967296 := by
  induction n generalizing s with
  | zero => exact h
  | succ n ih => exact ih _ (M_lt s h)
theorem M_ne (s : Nat) (h0 : s ≠ 0) (h : s < 4294967296) : M s ≠ 0 := by
  unfold M
  split
  · intro h1
    have h2 : s / 2 = 3988292384 := by
      have h3 : (s / 2 ^^^ 3988292384) ^^^ 3988292384 = 0 ^^^ 3988292384 := by rw [h1]
      rw [Nat.xor_assoc, Nat.xor_self, Nat.xor_zero, Nat.zero_xor] at h3
      exact h3
    omega
  · omega
theorem iter_ne (n s : Nat) (h0 : s ≠ 0) (h : s < 4294967296) : iter n s ≠ 0 := by
  induction n generalizing s with
  | zero => exact h0
  | succ n ih => exact ih _ (M_ne s h0 h) (M_lt s h)
/-- A byte's step of the sum. -/
def step (c x : Nat) : Nat := iter 8 (c ^^^ x)
/-- The table's way. -/
theorem step_table (c x : Nat) (hx : x < 256) : step c x = c / 256 ^^^ iter 8 (c % 256 ^^^ x) := by
  unfold step
  rw [iter_split]
  have h1 : (c ^^^ x) / 2 ^ 8 = c / 256 := by
    rw [Nat.xor_div_two_pow]
    have : x / 2 ^ 8 = 0 := by omega
    rw [this, Nat.xor_zero]
  have h2 : (c ^^^ x) % 2 ^ 8 = c % 256 ^^^ x := by
    rw [Nat.xor_mod_two_pow, Nat.mod_eq_of_lt (a := x) (by omega)]
  rw [h1, h2]
def run : Nat → List Nat → Nat
  | c, [] => c
  | c, x :: l => run (step c x) l
def num : List Nat → Nat
  | [] => 0
  | x :: l => x + 256 * num l
theorem num_cons (x : Nat) (l : List Nat) (hx : x < 256) : num (x :: l) = x ^^^ 256 * num l := by
  show x + 256 * num l = _
  have h := Nat.two_pow_add_eq_or_of_lt (i := 8) (b := x) (by omega) (num l)
  have h2 : 2 ^ 8 * num l ||| x = 256 * num l ^^^ x := by
    apply Nat.eq_of_testBit_eq
    intro i
    rw [Nat.testBit_or, show 256 * num l = 2 ^ 8 * num l from rfl, Nat.testBit_xor, Nat.testBit_two_pow_mul]
    by_cases h : i < 8
    · have : ¬ 8 ≤ i := by omega
      simp [this]
    · have : x.testBit i = false := Nat.testBit_lt_two_pow (by
        have : 2 ^ 8 ≤ 2 ^ i := Nat.pow_le_pow_right (by omega) (by omega)
        omega)
      simp [this]
  rw [Nat.add_comm, show 256 * num l = 2 ^ 8 * num l from rfl, h, h2, Nat.xor_comm]
theorem step_num (c x : Nat) (l : List Nat) (hx : x < 256) : iter 8 (c ^^^ num (x :: l)) = step c x ^^^ num l := by
  unfold step
  rw [num_cons x l hx, ← Nat.xor_assoc, iter_xor 8 (c ^^^ x)]
  have h := iter_pow 8 (num l)
  rw [show (2 : Nat) ^ 8 = 256 from by decide] at h
  rw [h]
theorem run_num (c : Nat) (l : List Nat) (hl : ∀ x ∈ l, x < 256) : run c l = iter (8 * l.length) (c ^^^ num l) := by
  induction l generalizing c with
  | nil =>
    have h1 : run c [] = c := rfl
    have h2 : num [] = 0 := rfl
    have h3 : iter (8 * ([] : List Nat).length) (c ^^^ 0) = c ^^^ 0 := rfl
    rw [h1, h2, h3, Nat.xor_zero]
  | cons x l ih =>
    have hx := hl x (by simp)
    have h1 : run c (x :: l) = run (step c x) l := rfl
    have h2 : 8 * (x :: l).length = 8 + 8 * l.length := by rw [List.length_cons]; omega
    rw [h1, ih _ (fun y hy => hl y (by simp [hy])), h2, iter_add, step_num c x l hx]
theorem run_append (c : Nat) (a b : List Nat) : run c (a ++ b) = run (run c a) b := by
  induction a generalizing c with
  | nil => rfl
  | cons x a ih => exact ih _
/-- Bytes whose numbers differ by a burst of 32 bits have unlike sums. -/
theorem burst (c : Nat) (a b : List Nat) (ha : ∀ x ∈ a, x < 256) (hb : ∀ x ∈ b, x < 256) (hlen : a.length = b.length) (at_ v : Nat) (hv0 : v ≠ 0) (hv : v < 4294967296)
    (hat : at_ ≤ 8 * a.length) (hd : num a ^^^ num b = 2 ^ at_ * v) : run c a ≠ run c b := by
  intro h
  rw [run_num c a ha, run_num c b hb, ← hlen] at h
  have h1 : iter (8 * a.length) ((c ^^^ num a) ^^^ (c ^^^ num b)) = 0 := by rw [iter_xor, h, Nat.xor_self]
  have h2 : (c ^^^ num a) ^^^ (c ^^^ num b) = num a ^^^ num b := by
    rw [Nat.xor_comm c (num a), Nat.xor_assoc, ← Nat.xor_assoc c c, Nat.xor_self, Nat.zero_xor]
  rw [h2, hd, show 8 * a.length = at_ + (8 * a.length - at_) from by omega, iter_add, iter_pow] at h1
  exact iter_ne _ _ hv0 hv h1
end Go.Proofs.Ytpdggoapjbjmhaa.Crc
/- Whole numbers in the walk's own spelling: what the sums' operations on bits come to in plain numbers. -/
set_option linter.unusedVariables false
set_option linter.unusedSimpArgs false
namespace Go.Proofs.Ytpdggoapjbjmhaa.Bits
theorem not32 (c : Nat) (h : c < 4294967296) : bits .xor .u32 IntKind.u32.max (c : Int) = ((4294967295 - c : Nat) : Int) := by
  have h1 : IntKind.u32.max = ((4294967295 : Nat) : Int) := by decide
  rw [h1, u32_xor_nat _ _ (by decide) h]
  congr 1
  apply Nat.eq_of_testBit_eq
  intro i
  rw [Nat.testBit_xor]
  have h2 : (4294967295 - c : Nat) = 2 ^ 32 - (c + 1) := by omega
  rw [h2, Nat.testBit_two_pow_sub_succ (by omega)]
  have h3 : (4294967295 : Nat) = 2 ^ 32 - 1 := by decide
  rw [h3, Nat.testBit_two_pow_sub_one]
  by_cases hi : i < 32
  · simp [hi]
  · have : c.testBit i = false := Nat.testBit_lt_two_pow (Nat.lt_of_lt_of_le h (by
      have : 2 ^ 32 ≤ 2 ^ i := Nat.pow_le_pow_right (by decide) (by omega)
      omega))
    simp [hi, this]
/-- The program's step of a table's entry. -/
theorem stepM (s : Nat) (h : s < 4294967296) : bits .xor .u32 ((s : Int) / 2) (bits .and .u32 3988292384 ((-(bits .and .u32 (s : Int) 1)) % 4294967296)) = ((Crc.M s : Nat) : Int) := by
  have h1 : bits .and .u32 (s : Int) 1 = ((s % 2 : Nat) : Int) := by
    have := u32_and_nat s 1 h (by decide)
    rw [Nat.and_one_is_mod] at this
    exact this
  rw [h1]
  have h2 : ((s : Int) / 2) = ((s / 2 : Nat) : Int) := by omega
  unfold Crc.M
  by_cases hs : s % 2 = 1
  · rw [if_pos hs, hs]
    have h3 : (-((1 : Nat) : Int)) % 4294967296 = ((4294967295 : Nat) : Int) := by decide
    rw [h3]
    have h4 : bits .and .u32 3988292384 ((4294967295 : Nat) : Int) = ((3988292384 : Nat) : Int) := by
      have := u32_and_nat 3988292384 4294967295 (by decide) (by decide)
      rw [show (3988292384 &&& 4294967295 : Nat) = 3988292384 from by decide] at this
      exact this
    rw [h4, h2, u32_xor_nat _ _ (by omega) (by decide)]
  · have hs0 : s % 2 = 0 := by omega
    rw [if_neg hs, hs0]
    have h3 : (-((0 : Nat) : Int)) % 4294967296 = ((0 : Nat) : Int) := by decide
    rw [h3]
    have h4 : bits .and .u32 3988292384 ((0 : Nat) : Int) = ((0 : Nat) : Int) := by
      have := u32_and_nat 3988292384 0 (by decide) (by decide)
      rw [Nat.and_zero] at this
      exact this
    rw [h4, h2, u32_xor_nat _ _ (by omega) (by decide), Nat.xor_zero]
theorem xor8 (s x : Nat) (hx : x < 256) : bits .xor .u8 ((s : Int) % 256) (x : Int) = ((s % 256 ^^^ x : Nat) : Int) := by
  have h2 : ((s : Int) % 256) = ((s % 256 : Nat) : Int) := by omega
  rw [h2, u8_xor_nat _ _ (by omega) hx]
theorem xor8_lt (s x : Nat) (hx : x < 256) : s % 256 ^^^ x < 256 := Nat.xor_lt_two_pow (n := 8) (by omega) hx
theorem step32 (s x : Nat) (hs : s < 4294967296) (hx : x < 256) : bits .xor .u32 ((s : Int) / 256) ((Crc.iter 8 (s % 256 ^^^ x) : Nat) : Int) = ((Crc.step s x : Nat) : Int) := by
  have h2 : ((s : Int) / 256) = ((s / 256 : Nat) : Int) := by omega
  rw [h2, u32_xor_nat _ _ (by omega) (Crc.iter_lt _ _ (by have := xor8_lt s x hx; omega)), ← Crc.step_table s x hx]
theorem step_lt (s x : Nat) (hs : s < 4294967296) (hx : x < 256) : Crc.step s x < 4294967296 := Crc.iter_lt _ _ (Nat.xor_lt_two_pow (n := 32) (by omega) (by omega))
/-- The reference's step of a table's entry. -/
theorem stepM_odd (s : Nat) (h : s < 4294967296) (ho : s % 2 = 1) : bits .xor .u32 ((s : Int) / 2) 3988292384 = ((Crc.M s : Nat) : Int) := by
  have h2 : ((s : Int) / 2) = ((s / 2 : Nat) : Int) := by omega
  have h3 : (3988292384 : Int) = ((3988292384 : Nat) : Int) := rfl
  unfold Crc.M
  rw [if_pos ho, h2, h3, u32_xor_nat _ _ (by omega) (by decide)]
theorem stepM_even (s : Nat) (ho : ¬ s % 2 = 1) : ((s : Int) / 2) = ((Crc.M s : Nat) : Int) := by
  unfold Crc.M
  rw [if_neg ho]
  omega
theorem xor32 (s x : Nat) (hx : x < 256) : bits .xor .u32 ((s : Int) % 256) (x : Int) = ((s % 256 ^^^ x : Nat) : Int) := by
  have h2 : ((s : Int) % 256) = ((s % 256 : Nat) : Int) := by omega
  rw [h2, u32_xor_nat _ _ (by omega) (by omega)]
/-- A table's cells. -/
def tab (T : Nat → Nat) : Array Value := Array.ofFn (n := 256) fun i => .int .u32 (T i.val : Nat)
theorem tab_size (T : Nat → Nat) : (tab T).size = 256 := by simp [tab]
theorem tab_at (T : Nat → Nat) (i : Nat) (h : i < 256) : (tab T)[i]? = some (.int .u32 (T i : Nat)) := by simp [tab, h]
theorem tab_set (T : Nat → Nat) (i v : Nat) (h : i < 256) : (tab T).setIfInBounds i (.int .u32 (v : Nat)) = tab (fun j => if j = i then v else T j) := by
  apply Array.ext
  · simp [tab]
  · intro j h1 h2
    have hj : j < 256 := by simpa [tab] using h2
    by_cases e : i = j
    · subst e; simp [tab]
    · rw [Array.getElem_setIfInBounds_ne (by simpa [tab] using hj) e]
      simp [tab, Ne.symm e]
theorem tab_congr (T U : Nat → Nat) (h : ∀ i, i < 256 → T i = U i) : tab T = tab U := by
  apply Array.ext
  · simp [tab]
  · intro j h1 h2
    have hj : j < 256 := by simpa [tab] using h2
    simp [tab, h j hj]
/-- The sum by any table. -/
def stepT (T : Nat → Nat) (c x : Nat) : Nat := c / 256 ^^^ T (c % 256 ^^^ x)
def runT (T : Nat → Nat) : Nat → List Nat → Nat
  | c, [] => c
  | c, x :: l => runT T (stepT T c x) l
theorem runT_append (T : Nat → Nat) (c : Nat) (a b : List Nat) : runT T c (a ++ b) = runT T (runT T c a) b := by
  induction a generalizing c with
  | nil => rfl
  | cons x a ih => exact ih _
theorem runT_good (T : Nat → Nat) (h : ∀ i, i < 256 → T i = Crc.iter 8 i) (c : Nat) (l : List Nat) (hl : ∀ x ∈ l, x < 256) : runT T c l = Crc.run c l := by
  induction l generalizing c with
  | nil => rfl
  | cons x l ih =>
    have hx := hl x (by simp)
    have e : stepT T c x = Crc.step c x := by
      unfold stepT
      rw [Crc.step_table c x hx, h _ (xor8_lt c x hx)]
    have h1 : runT T c (x :: l) = runT T (stepT T c x) l := rfl
    have h2 : Crc.run c (x :: l) = Crc.run (Crc.step c x) l := rfl
    rw [h1, h2, e, ih _ (fun y hy => hl y (by simp [hy]))]
theorem stepT_lt (T : Nat → Nat) (hT : ∀ i, i < 256 → T i < 4294967296) (c x : Nat) (hc : c < 4294967296) (hx : x < 256) : stepT T c x < 4294967296 :=
  Nat.xor_lt_two_pow (n := 32) (by omega) (hT _ (xor8_lt c x hx))
theorem stepT_32 (T : Nat → Nat) (hT : ∀ i, i < 256 → T i < 4294967296) (s x : Nat) (hs : s < 4294967296) (hx : x < 256) : bits .xor .u32 ((s : Int) / 256) ((T (s % 256 ^^^ x) : Nat) : Int) = ((stepT T s x : Nat) : Int) := by
  have h2 : ((s : Int) / 256) = ((s / 256 : Nat) : Int) := by omega
  rw [h2, u32_xor_nat _ _ (by omega) (hT _ (xor8_lt s x hx))]
  rfl
theorem sub32 (c : Nat) (h : c < 4294967296) : (4294967295 : Int) - (c : Int) = ((4294967295 - c : Nat) : Int) := by omega
end Go.Proofs.Ytpdggoapjbjmhaa.Bits
/- What the sums' functions of the program do: walks. -/
namespace Go.Proofs.Ytpdggoapjbjmhaa.Sum
open Go.RowKit Go.Proofs.YtpdggoapjbjmhaaW.PrintWords Go.Proofs.YtpdggoapjbjmhaaW.PrintLast Go.Proofs.YtpdggoapjbjmhaaW.PrintMore
set_option linter.unusedVariables false
set_option linter.unusedSimpArgs false
/-- The number that a sum of bytes is. -/
def crc (c : Nat) (l : List Int) : Nat := 4294967295 - Crc.run (4294967295 - c) (l.map Int.toNat)
def crcT (T : Nat → Nat) (c : Nat) (l : List Int) : Nat := 4294967295 - Bits.runT T (4294967295 - c) (l.map Int.toNat)
/-- A byte of the list, as a number. -/
theorem rd_nat (l : List Int) (hl : ∀ x ∈ l, 0 ≤ x ∧ x < 256) (k : Nat) (hk : k < l.length) : ∃ x : Nat, rd l (k : Int) = (x : Int) ∧ x < 256 ∧ (l.take (k + 1)).map Int.toNat = (l.take k).map Int.toNat ++ [x] := by
  have h1 := hl l[k] (List.getElem_mem hk)
  refine ⟨l[k].toNat, ?_, by omega, ?_⟩
  · unfold rd
    rw [Int.toNat_natCast, List.getD_eq_getElem?_getD, List.getElem?_eq_getElem hk]
    simp only [Option.getD_some]
    omega
  · rw [List.take_succ_eq_append_getElem hk, List.map_append]
    rfl
theorem entry_nat (y : Nat) (h1 : y < 4294967296) (w : World) : Calls Try.prog 70 #[.int .u32 y] w fun e w' => e = .returned (.int .u32 (Crc.iter 8 y : Nat)) ∧ w = w' := by
  go_enter Try.func70, Try.ntmps70
  go_wp2
  go_loop [0, 3] (fun v i => ∃ k s : Nat, k ≤ 8 ∧ s < 4294967296 ∧ i = .int .i64 k ∧ v = .int .u32 s ∧ Aside0 (Crc.iter 8 y = Crc.iter (8 - k) s)) (fun _ i => 8 - (intOf i).toNat)
  case atStart => exact ⟨0, y, by omega, by omega, rfl, rfl, ⟨rfl⟩⟩
  case round =>
    obtain ⟨k, s, hk, hs, rfl, rfl, HS⟩ := hrel
    by_cases hlt : k < 8
    · have hb := Bits.stepM s hs
      go_wp2
      clear hb
      go_round
      case rel => exact ⟨k + 1, Crc.M s, by omega, Crc.M_lt s hs, by go_num, rfl, ⟨by rw [HS.out, show 8 - k = (8 - (k + 1)) + 1 from by omega, Crc.iter_succ]⟩⟩
      case measure => simp [intOf]; omega
    · have hk8 : 8 - k = 0 := by omega
      have HE := HS.out
      rw [hk8] at HE
      have HE' : Aside0 (Crc.iter 8 y = s) := ⟨HE⟩
      clear HE hk8
      go_wp2
      go_ret
      exact ⟨by rw [HE'.out]; rfl, rfl⟩
theorem more_nil (c : Nat) (hc : c < 4294967296) (A : Option Addr) (cap : Nat) (l : List Int) (w : World) (hr : Kd.C (Kd.int .u8) w A l.length l) (hm : l.length ≤ 140737488351232) (hl : ∀ x ∈ l, 0 ≤ x ∧ x < 256) :
    Calls Try.prog 62 #[.pointer none, .int .u32 c, .slice A l.length cap] w fun e w' => e = .returned (.int .u32 (crc c l : Nat)) ∧ w = w' := by
  have HR := Aside0.mk hr
  have HL := Aside0.mk hl
  have hn := Bits.not32 c hc
  clear hr hl
  go_enter Try.func62, Try.ntmps62
  go_wp2
  clear hn
  go_loop [1, 14] (fun v i => ∃ k s : Nat, k ≤ l.length ∧ s < 4294967296 ∧ i = .int .i64 k ∧ v = .int .u32 s ∧ Aside0 (s = Crc.run (4294967295 - c) ((l.take k).map Int.toNat))) (fun _ i => l.length - (intOf i).toNat)
  case atStart => exact ⟨0, 4294967295 - c, by omega, by omega, rfl, rfl, ⟨by simp; rfl⟩⟩
  case round =>
    obtain ⟨k, s, hk, hs, rfl, rfl, HS⟩ := hrel
    by_cases hlt : k < l.length
    · obtain ⟨ad, e, hx⟩ := Kd.at_int HR.out (k : Int) (by omega) (by omega)
      cases e
      obtain ⟨x, hx1, hx2, hx3⟩ := rd_nat l HL.out k hlt
      have HX3 := Aside0.mk hx3
      clear hx3
      rw [hx1, Int.toNat_natCast] at hx
      clear hx1
      have hb := Bits.xor8 s x hx2
      have hb2 := Bits.xor8_lt s x hx2
      have hb3 := Bits.step32 s x hs hx2
      obtain ⟨y, hy⟩ : ∃ y, y = s % 256 ^^^ x := ⟨_, rfl⟩
      rw [← hy] at hb hb2 hb3
      clear hy
      go_wp2_with (go_at_call 70; refine (entry_nat y (by omega) _).mono ?_; rintro e w' ⟨rfl, rfl⟩)
      clear hb hb3
      go_round
      case rel => exact ⟨k + 1, Crc.step s x, by omega, Bits.step_lt s x hs hx2, by go_num, rfl, ⟨by rw [HX3.out, Crc.run_append, ← HS.out]; rfl⟩⟩
      case measure => simp [intOf]; omega
    · have HE : Aside0 (s = Crc.run (4294967295 - c) (l.map Int.toNat)) := ⟨by have h := HS.out; rwa [List.take_of_length_le (by omega)] at h⟩
      have hn := Bits.not32 s hs
      go_wp2
      go_ret
      exact ⟨by unfold crc; rw [← HE.out]; rfl, rfl⟩
theorem crc_nil (A : Option Addr) (cap : Nat) (l : List Int) (w : World) (hr : Kd.C (Kd.int .u8) w A l.length l) (hm : l.length ≤ 140737488351232) (hl : ∀ x ∈ l, 0 ≤ x ∧ x < 256) :
    Calls Try.prog 45 #[.pointer none, .slice A l.length cap] w fun e w' => e = .returned (.int .u32 (crc 0 l : Nat)) ∧ w = w' := by
  have HR := Aside0.mk hr
  have HL := Aside0.mk hl
  clear hr hl
  go_enter Try.func45, Try.ntmps45
  go_wp2_with (go_at_call 62; refine (more_nil 0 (by omega) _ _ l _ HR.out hm HL.out).mono ?_; rintro e w' ⟨rfl, rfl⟩)
  go_ret
  exact ⟨rfl, rfl⟩
theorem refEntry_nat (y : Nat) (h1 : y < 4294967296) (w : World) : Calls Try.prog 57 #[.int .u32 y] w fun e w' => e = .returned (.int .u32 (Crc.iter 8 y : Nat)) ∧ w = w' := by
  go_enter Try.func57, Try.ntmps57
  go_wp2
  go_loop [0, 3] (fun v i => ∃ k s : Nat, k ≤ 8 ∧ s < 4294967296 ∧ i = .int .i64 k ∧ v = .int .u32 s ∧ Aside0 (Crc.iter 8 y = Crc.iter (8 - k) s)) (fun _ i => 8 - (intOf i).toNat)
  case atStart => exact ⟨0, y, by omega, by omega, rfl, rfl, ⟨rfl⟩⟩
  case round =>
    obtain ⟨k, s, hk, hs, rfl, rfl, HS⟩ := hrel
    by_cases hlt : k < 8
    · have HN : Aside0 (Crc.iter 8 y = Crc.iter (8 - (k + 1)) (Crc.M s)) := ⟨by rw [HS.out, show 8 - k = (8 - (k + 1)) + 1 from by omega, Crc.iter_succ]⟩
      have hml := Crc.M_lt s hs
      by_cases ho : s % 2 = 1
      · have hb := Bits.stepM_odd s hs ho
        have ho2 : ((s : Int) % 2 == 1) = true := by simp; omega
        have HO := Aside0.mk ho
        clear ho
        go_wp2
        clear hb ho2
        go_round
        case rel => exact ⟨k + 1, Crc.M s, by omega, hml, by go_num, rfl, HN⟩
        case measure => simp [intOf]; omega
      · have hb := Bits.stepM_even s ho
        have ho2 : ((s : Int) % 2 == 1) = false := by simp; omega
        have HO := Aside0.mk ho
        clear ho
        go_wp2
        clear hb ho2
        go_round
        case rel => exact ⟨k + 1, Crc.M s, by omega, hml, by go_num, rfl, HN⟩
        case measure => simp [intOf]; omega
    · have hk8 : 8 - k = 0 := by omega
      have HE := HS.out
      rw [hk8] at HE
      have HE' : Aside0 (Crc.iter 8 y = s) := ⟨HE⟩
      clear HE hk8
      go_wp2
      go_ret
      exact ⟨by rw [HE'.out]; rfl, rfl⟩
theorem refCrc_any (c : Nat) (hc : c < 4294967296) (A : Option Addr) (cap : Nat) (l : List Int) (w : World) (hr : Kd.C (Kd.int .u8) w A l.length l) (hm : l.length ≤ 140737488351232) (hl : ∀ x ∈ l, 0 ≤ x ∧ x < 256) :
    Calls Try.prog 42 #[.int .u32 c, .slice A l.length cap] w fun e w' => e = .returned (.int .u32 (crc c l : Nat)) ∧ w = w' := by
  have HR := Aside0.mk hr
  have HL := Aside0.mk hl
  have hn := Bits.sub32 c hc
  clear hr hl
  go_enter Try.func42, Try.ntmps42
  go_wp2
  clear hn
  go_loop [0, 5] (fun v i => ∃ k s : Nat, k ≤ l.length ∧ s < 4294967296 ∧ i = .int .i64 k ∧ v = .int .u32 s ∧ Aside0 (s = Crc.run (4294967295 - c) ((l.take k).map Int.toNat))) (fun _ i => l.length - (intOf i).toNat)
  case atStart => exact ⟨0, 4294967295 - c, by omega, by omega, rfl, rfl, ⟨by simp; rfl⟩⟩
  case round =>
    obtain ⟨k, s, hk, hs, rfl, rfl, HS⟩ := hrel
    by_cases hlt : k < l.length
    · obtain ⟨ad, e, hx⟩ := Kd.at_int HR.out (k : Int) (by omega) (by omega)
      cases e
      obtain ⟨x, hx1, hx2, hx3⟩ := rd_nat l HL.out k hlt
      have HX3 := Aside0.mk hx3
      clear hx3
      rw [hx1, Int.toNat_natCast] at hx
      clear hx1
      have hb := Bits.xor32 s x hx2
      have hb2 := Bits.xor8_lt s x hx2
      have hb3 := Bits.step32 s x hs hx2
      obtain ⟨y, hy⟩ : ∃ y, y = s % 256 ^^^ x := ⟨_, rfl⟩
      rw [← hy] at hb hb2 hb3
      clear hy
      go_wp2_with (go_at_call 57; refine (refEntry_nat y (by omega) _).mono ?_; rintro e w' ⟨rfl, rfl⟩)
      clear hb hb3
      go_round
      case rel => exact ⟨k + 1, Crc.step s x, by omega, Bits.step_lt s x hs hx2, by go_num, rfl, ⟨by rw [HX3.out, Crc.run_append, ← HS.out]; rfl⟩⟩
      case measure => simp [intOf]; omega
    · have HE : Aside0 (s = Crc.run (4294967295 - c) (l.map Int.toNat)) := ⟨by have h := HS.out; rwa [List.take_of_length_le (by omega)] at h⟩
      have hn := Bits.sub32 s hs
      go_wp2
      go_ret
      exact ⟨by unfold crc; rw [← HE.out]; rfl, rfl⟩
end Go.Proofs.Ytpdggoapjbjmhaa.Sum
/- Bytes in which bits of a burst are turned, one by one: plain numbers. -/
set_option linter.unusedVariables false
namespace Go.Proofs.Ytpdggoapjbjmhaa.Burst
theorem mul_xor (n a b : Nat) : 2 ^ n * (a ^^^ b) = 2 ^ n * a ^^^ 2 ^ n * b := by
  apply Nat.eq_of_testBit_eq
  intro i
  rw [Nat.testBit_xor, Nat.testBit_two_pow_mul, Nat.testBit_two_pow_mul, Nat.testBit_two_pow_mul, Nat.testBit_xor]
  by_cases h : n ≤ i <;> simp [h]
theorem num_set (l : List Nat) (q d : Nat) (hl : ∀ x ∈ l, x < 256) (hq : q < l.length) (hd : d < 256) : Crc.num (l.set q (l.getD q 0 ^^^ d)) = Crc.num l ^^^ 2 ^ (8 * q) * d := by
  induction l generalizing q with
  | nil => simp at hq
  | cons x l ih =>
    have hx := hl x (by simp)
    cases q with
    | zero =>
      have h1 : x ^^^ d < 256 := Nat.xor_lt_two_pow (n := 8) hx hd
      show Crc.num ((x ^^^ d) :: l) = _
      rw [Crc.num_cons _ _ h1, Crc.num_cons _ _ hx, show 2 ^ (8 * 0) * d = d from by simp, Nat.xor_assoc, Nat.xor_assoc, Nat.xor_comm d]
    | succ q =>
      have h1 := ih q (fun y hy => hl y (by simp [hy])) (by simpa using hq)
      show Crc.num (x :: l.set q (l.getD q 0 ^^^ d)) = _
      rw [Crc.num_cons _ _ hx, h1, Crc.num_cons _ _ hx, show (256 : Nat) = 2 ^ 8 from rfl, mul_xor, ← Nat.mul_assoc, ← Nat.pow_add, show 8 + 8 * q = 8 * (q + 1) from by omega, Nat.xor_assoc]
theorem low_step (b k : Nat) (h : b / 2 ^ k % 2 = 1) : b % 2 ^ (k + 1) = b % 2 ^ k ^^^ 2 ^ k := by
  have h1 := Crc.split k (b % 2 ^ (k + 1))
  have h2 : b % 2 ^ (k + 1) / 2 ^ k = b / 2 ^ k % 2 := by
    rw [Nat.pow_succ, Nat.mod_mul_right_div_self]
  have h3 : b % 2 ^ (k + 1) % 2 ^ k = b % 2 ^ k := by
    rw [Nat.pow_succ, Nat.mod_mul_right_mod]
  rw [h2, h3, h, Nat.mul_one, Nat.xor_comm] at h1
  exact h1
/-- One more bit of the burst is turned. -/
theorem turned (l0 l : List Nat) (p b k q r : Nat) (hl : ∀ x ∈ l, x < 256) (hq : q < l.length) (hr : r < 8) (hqr : 8 * q + r = p + k) (hb : b / 2 ^ k % 2 = 1) (h : Crc.num l0 ^^^ Crc.num l = 2 ^ p * (b % 2 ^ k)) :
    Crc.num l0 ^^^ Crc.num (l.set q (l.getD q 0 ^^^ 2 ^ r)) = 2 ^ p * (b % 2 ^ (k + 1)) := by
  have hr2 : 2 ^ r < 256 := by
    have : 2 ^ r < 2 ^ 8 := Nat.pow_lt_pow_right (by omega) hr
    omega
  rw [num_set l q _ hl hq hr2, ← Nat.xor_assoc, h, low_step b k hb, mul_xor, ← Nat.pow_add, ← Nat.pow_add, hqr]
/-- The sums differ. -/
theorem sums (c : Nat) (l0 l : List Nat) (p b : Nat) (h0 : ∀ x ∈ l0, x < 256) (hl : ∀ x ∈ l, x < 256) (hlen : l.length = l0.length) (hp : p / 8 < l0.length) (hb0 : b ≠ 0) (hb : b < 4294967296) (h : Crc.num l0 ^^^ Crc.num l = 2 ^ p * (b % 2 ^ 32)) :
    Crc.run c l0 ≠ Crc.run c l := by
  rw [Nat.mod_eq_of_lt (a := b) (by omega)] at h
  exact Crc.burst c l0 l h0 hl hlen.symm p b hb0 hb (by omega) h
end Go.Proofs.Ytpdggoapjbjmhaa.Burst
/- Numbers in bytes: what stands without a reader or a writer: walks. -/
set_option linter.unusedVariables false
set_option linter.unusedSimpArgs false
namespace Go.Proofs.Ytpdggoapjbjmhaa.Fd
open Go.RowKit Go.Proofs.YtpdggoapjbjmhaaW.PrintWords Go.Proofs.YtpdggoapjbjmhaaW.PrintLast Go.Proofs.YtpdggoapjbjmhaaW.PrintMore
def le (n : Nat) : Nat → List Int
  | 0 => []
  | k + 1 => le n k ++ [((n / 2 ^ (8 * k) % 256 : Nat) : Int)]
theorem le_length (n : Nat) : ∀ k, (le n k).length = k
  | 0 => rfl
  | k + 1 => by rw [le, List.length_append, le_length n k]; rfl
structure Gr (w0 w : World) (base : Nat) (r : Option Nat) (wr : World) (u : Value) (ys : List Int) : Prop where
  own : Row.OwnB wr base u ys
  below : Below base w0 wr
  grown : w.grownBy wr r
  at_ : u.ownBlock = r ∨ ∃ b, u.ownBlock = some b ∧ w.heap.size ≤ b
theorem Gr.refl {w0 w : World} {base : Nat} {v : Value} {xs : List Int} (h : Row.OwnB w base v xs) (hb : Below base w0 w) : Gr w0 w base v.ownBlock w v xs := ⟨h, hb, ⟨rfl, rfl, rfl, Nat.le_refl _, fun _ _ _ => rfl⟩, Or.inl rfl⟩
theorem Gr.next {w0 w wr w1 : World} {base : Nat} {r : Option Nat} {u u1 : Value} {ys zs : List Int} (h : Gr w0 w base r wr u ys) (h1 : Row.OwnB w1 base u1 zs) (hb : Below base w0 w1) (hg : wr.grownBy w1 u.ownBlock) (hat : u1.ownBlock = u.ownBlock ∨ ∃ b, u1.ownBlock = some b ∧ wr.heap.size ≤ b) : Gr w0 w base r w1 u1 zs := by
  have hs := h.grown.size
  refine ⟨h1, hb, ⟨hg.os.trans h.grown.os, hg.tape.trans h.grown.tape, hg.output.trans h.grown.output, Nat.le_trans h.grown.size hg.size, fun k hk hne => (hg.block k (Nat.lt_of_lt_of_le hk hs) ?_).trans (h.grown.block k hk hne)⟩, ?_⟩
  · rcases h.at_ with e | ⟨b, e, hb⟩
    · rw [e]; exact hne
    · rw [e]; intro e2; injection e2 with e2; omega
  · rcases hat with e | ⟨b, e, hb⟩
    · rw [e]; exact h.at_
    · exact Or.inr ⟨b, e, by omega⟩
set_option maxHeartbeats 1000000 in
theorem store_any (w0 w : World) (base : Nat) (v : Value) (xs : List Int) (n k : Nat) (HO : Row.OwnB w base v xs) (HB : Below base w0 w) (hbase : base ≤ w.heap.size) (hx : xs.length ≤ 100000000) (hk : k ≤ 8) :
    Calls Try.prog 68 #[v, .int .u64 n, .int .i64 k] w fun e w' => ∃ v', e = .returned v' ∧ Gr w0 w base v.ownBlock w' v' (xs ++ le n k) := by
  obtain ⟨A1, c1, rfl, hle, hC1⟩ := HO.slice
  have KG := Aside0.mk (Gr.refl HO HB)
  clear HO HB hC1
  go_enter Try.func68, Try.ntmps68
  go_wp2
  go_loopw [0, 9] (fun u i wr => ∃ (j : Nat) (A : Option Addr) (c : Nat), j ≤ k ∧ i = .int .i64 j ∧ u = .slice A (xs.length + j) c ∧ base ≤ wr.heap.size ∧ Aside0 (Gr w0 w base (Value.slice A1 xs.length c1).ownBlock wr (.slice A (xs.length + j) c) (xs ++ le n j))) (fun _ i _ => k - (intOf i).toNat)
  case atStart => exact ⟨0, A1, c1, by omega, rfl, rfl, hbase, ⟨by simpa [le] using KG.out⟩⟩
  case round =>
    obtain ⟨j, A, c, hj, rfl, rfl, hbr, HG⟩ := hrel
    obtain ⟨m, hm⟩ : ∃ m, m = xs.length + j := ⟨_, rfl⟩
    rw [← hm] at HG
    rw [← hm]
    have Km := Aside0.mk hm
    have hyl : Aside0 ((xs ++ le n j).length = m) := ⟨by rw [List.length_append, le_length, hm]⟩
    clear hm
    by_cases hlt : j < k
    · have hd0 : Aside0 (0 ≤ n / 2 ^ (8 * j)) := ⟨Nat.zero_le _⟩
      go_wp2_with ((with_reducible refine gate_builtin (b := .append) (xs := #[.tmp 12, .tmp 18]) rfl ?_); apply Aside0.out)
      refine ⟨?_⟩
      refine Kd.R_append (Kd.int .u8) (w0 := w0) (W := wr) base rfl (.tmp 12) (.tmp 18) 37 5 (.int .u8 0) 1 rfl Try.underlying37 Row.info8 rfl (by decide) (by decide) (.slice A m c) (xs ++ le n j) ((n : Int) / 2 ^ (8 * j) % 256) [.int .u8 ((n : Int) / 2 ^ (8 * j) % 256)] (fun _ => True) (fun _ => False) rfl rfl rfl (fun _ h => h.elim) (fun _ _ => trivial) HG.out.own HG.out.below hbr (by rw [hyl.out]; have := Km.out; omega) ?_
      intro v5 w5 h5 hb5 hg5 hat5
      have KG5 := Aside0.mk (HG.out.next h5 hb5 hg5 hat5)
      have hbr5 : base ≤ w5.heap.size := Nat.le_trans hbr hg5.size
      obtain ⟨A5, c5, hv5⟩ := Kd.R_slice h5
      rw [List.length_append, List.length_singleton, hyl.out] at hv5
      subst hv5
      clear h5 hb5 hg5 hat5
      go_wp2
      have hh : xs.length + (j + 1) = m + 1 := by rw [Km.out]; omega
      refine ⟨⟨j + 1, A5, c5, by omega, by go_num, by rw [hh], hbr5, ?_⟩, by simp [intOf]; omega⟩
      rw [hh, le, ← List.append_assoc]
      exact KG5
    · obtain rfl : j = k := by omega
      go_wp2
      go_ret
      exact ⟨_, rfl, HG.out⟩
def wid (k : Nat) : Prop := k = 1 ∨ k = 2 ∨ k = 4 ∨ k = 8
theorem wide_yes (k : Nat) (hk : wid k) (w : World) : Calls Try.prog 59 #[.int .i64 k] w fun e w' => e = .returned (.bool true) ∧ w = w' := by
  rcases hk with rfl | rfl | rfl | rfl
  all_goals
    go_enter Try.func59, Try.ntmps59
    go_wp2
    go_ret
    exact ⟨rfl, rfl⟩
theorem fits_yes (n k : Nat) (hk : wid k) (hn : n < 2 ^ (8 * k)) (w : World) : Calls Try.prog 67 #[.int .u64 n, .int .i64 k] w fun e w' => e = .returned (.bool true) ∧ w = w' := by
  rcases hk with rfl | rfl | rfl | rfl
  · have h1 : (((n : Int) / 256) == 0) = true := by simp at hn ⊢; omega
    clear hn
    go_enter Try.func67, Try.ntmps67
    go_wp2
    go_ret
    exact ⟨rfl, rfl⟩
  · have h1 : (((n : Int) / 65536) == 0) = true := by simp at hn ⊢; omega
    clear hn
    go_enter Try.func67, Try.ntmps67
    go_wp2
    go_ret
    exact ⟨rfl, rfl⟩
  · have h1 : (((n : Int) / 4294967296) == 0) = true := by simp at hn ⊢; omega
    clear hn
    go_enter Try.func67, Try.ntmps67
    go_wp2
    go_ret
    exact ⟨rfl, rfl⟩
  · clear hn
    go_enter Try.func67, Try.ntmps67
    go_wp2
    go_ret
    exact ⟨rfl, rfl⟩
theorem copied_any (w : World) (l : List Int) (A : Option Addr) (c : Nat) (hC : ∀ w', Below w.heap.size w w' → Kd.C (Kd.int .u8) w' A l.length l) (hl : l.length ≤ 140737488355328) : Calls Try.prog 69 #[.slice A l.length c] w fun e w' => ∃ v, e = .returned v ∧ Row.OwnB w' w.heap.size v l ∧ Below w.heap.size w w' := by
  have K4 := Aside0.mk hC
  clear hC
  go_enter Try.func69, Try.ntmps69
  go_wp2_with ((with_reducible refine gate_builtin (b := .append) (xs := #[.tmp 3, .tmp 4]) rfl ?_); apply Aside0.out)
  refine ⟨?_⟩
  have hb := below_alloc (Below.refl w.heap.size w) (.cells #[] 5)
  refine Row.app_rows (w0 := w) w.heap.size rfl (.tmp 3) (.tmp 4) rfl _ [] l A l.length c rfl rfl (Row.OwnB.lit w w.heap.size #[] [] rfl (Nat.le_refl _) (by simp)) (K4.out _ hb) hb (by simp) (by simp; omega) ?_
  intro zs A1 c1 w1 hz ho hzl hzle hzc hC1 hb1 hbs hg1 hat1
  have hz := hz.out
  rw [List.nil_append] at hz
  have KO : Aside0 (Row.OwnB w1 w.heap.size (.slice A1 zs.length c1) l) := ⟨by have := ho.out; rwa [hz] at this ⊢⟩
  have KB := Aside0.mk hb1.out
  clear hz ho hzl hC1 hg1 hat1 hb1 hzle hb hbs
  go_wp2
  go_ret
  exact ⟨_, rfl, KO.out, KB.out⟩
def val : List Int → Nat
  | [] => 0
  | x :: r => x.toNat + 256 * val r
theorem val_snoc (l : List Int) (x : Int) : val (l ++ [x]) = val l + x.toNat * 2 ^ (8 * l.length) := by
  induction l with
  | nil => simp [val]
  | cons a l ih =>
    rw [List.cons_append, val, ih, val, List.length_cons, show 8 * (l.length + 1) = 8 * l.length + 8 by omega, Nat.pow_add]
    have : (2 : Nat) ^ 8 = 256 := by decide
    rw [this, Nat.mul_add, ← Nat.mul_assoc x.toNat, Nat.mul_comm 256 (x.toNat * 2 ^ (8 * l.length))]
    omega
theorem val_lt (l : List Int) (h : ∀ x ∈ l, 0 ≤ x ∧ x < 256) : val l < 2 ^ (8 * l.length) := by
  induction l with
  | nil => simp [val]
  | cons a l ih =>
    have h1 := ih (fun x hx => h x (by simp [hx]))
    have h2 := h a (by simp)
    rw [val, List.length_cons, show 8 * (l.length + 1) = 8 * l.length + 8 by omega, Nat.pow_add]
    have : (2 : Nat) ^ 8 = 256 := by decide
    rw [this]
    omega
theorem pow_le8 {k j : Nat} (h : k ≤ j) : 2 ^ (8 * k) ≤ 2 ^ (8 * j) := Nat.pow_le_pow_right (by decide) (by omega)
theorem u64_small (n : Int) (h0 : 0 ≤ n) (h : n < 18446744073709551616) : IntKind.u64.wrap n = n := by simp [IntKind.wrap, IntKind.bits, IntKind.signed]; omega
theorem or64 (n y k : Nat) (hn : n < 2 ^ (8 * k)) (hy : y < 256) (hk : k ≤ 7) : bits BinOp.or IntKind.u64 (n : Int) (IntKind.u64.wrap ((y : Int) * 2 ^ (8 * k))) = ((n + y * 2 ^ (8 * k) : Nat) : Int) := by
  have hp : (2 : Nat) ^ (8 * k) ≤ 2 ^ 56 := Nat.pow_le_pow_right (by decide) (by omega)
  have hp2 : (2 : Nat) ^ (8 * k) * 256 ≤ 2 ^ 64 := by
    have : (2 : Nat) ^ 64 = 2 ^ 56 * 256 := by decide
    rw [this]
    exact Nat.mul_le_mul_right _ hp
  obtain ⟨q, hq⟩ : ∃ q, (2 : Nat) ^ (8 * k) = q := ⟨_, rfl⟩
  have hor := Nat.two_pow_add_eq_or_of_lt hn y
  have hcast : ((y : Int) * 2 ^ (8 * k)) = ((y * 2 ^ (8 * k) : Nat) : Int) := by push_cast; rfl
  rw [hcast]
  rw [hq] at hn hp hp2 hor ⊢
  have hyq : y * q + q ≤ 2 ^ 64 := by
    have h1 : (y + 1) * q ≤ 256 * q := Nat.mul_le_mul_right _ (by omega)
    rw [Nat.add_mul, Nat.one_mul] at h1
    omega
  have h64 : (2 : Nat) ^ 64 = 18446744073709551616 := by decide
  rw [h64] at hyq
  have e1 : IntKind.u64.wrap ((y * q : Nat) : Int) = ((y * q : Nat) : Int) := u64_small _ (by omega) (by omega)
  rw [e1]
  show IntKind.u64.wrap ((BitVec.ofInt 64 (n : Int) ||| BitVec.ofInt 64 ((y * q : Nat) : Int)).toNat : Int) = _
  rw [BitVec.toNat_or, ofInt_u64 n (by omega), ofInt_u64 (y * q) (by omega), Nat.or_comm, Nat.mul_comm y q, ← hor, Nat.mul_comm q y, Nat.add_comm]
  exact u64_small _ (by omega) (by omega)
theorem le_isB (n : Nat) : ∀ k, ∀ x ∈ le n k, 0 ≤ x ∧ x < 256
  | 0, x, hx => by cases hx
  | k + 1, x, hx => by
    rw [le, List.mem_append, List.mem_singleton] at hx
    rcases hx with h | h
    · exact le_isB n k x h
    · have := Nat.mod_lt (n / 2 ^ (8 * k)) (by decide : 256 > 0); omega
theorem val_le (n : Nat) : ∀ k, n < 2 ^ (8 * k) → val (le n k) = n
  | k, h => by
    have key : ∀ k, val (le n k) = n % 2 ^ (8 * k) := by
      intro k
      induction k with
      | zero => simp [le, val, Nat.mod_one]
      | succ k ih =>
        rw [le, val_snoc, ih, le_length, show 8 * (k + 1) = 8 * k + 8 by omega, Nat.pow_add]
        have e : (2 : Nat) ^ 8 = 256 := by decide
        rw [e, Int.toNat_natCast, Nat.mod_mul, Nat.mul_comm (n / 2 ^ (8 * k) % 256)]
    rw [key, Nat.mod_eq_of_lt h]
end Go.Proofs.Ytpdggoapjbjmhaa.Fd
/- Bytes held against bytes: as strings, by bytes.Equal: walks. -/
set_option linter.unusedVariables false
set_option linter.unusedSimpArgs false
namespace Go.Proofs.Ytpdggoapjbjmhaa.Eq_
open Go.RowKit Go.Proofs.YtpdggoapjbjmhaaW.PrintWords Go.Proofs.YtpdggoapjbjmhaaW.PrintLast Go.Proofs.YtpdggoapjbjmhaaW.PrintMore
end Go.Proofs.Ytpdggoapjbjmhaa.Eq_
/- Bytes in new memory, by bytes.Clone: a walk. -/
set_option linter.unusedVariables false
set_option linter.unusedSimpArgs false
namespace Go.Proofs.Ytpdggoapjbjmhaa.Eq_
open Go.RowKit Go.Proofs.YtpdggoapjbjmhaaW.PrintWords Go.Proofs.YtpdggoapjbjmhaaW.PrintLast Go.Proofs.YtpdggoapjbjmhaaW.PrintMore
set_option maxHeartbeats 1000000 in
set_option maxRecDepth 100000 in
theorem clone_any (w : World) (A : Option Addr) (n c : Nat) (xs : List Int) (hC : Kd.C (Kd.int .u8) w A n xs) (hn : n ≤ 140737488355328) :
    Calls Try.prog 40 #[.slice A n c] w fun e w' => ∃ v, e = .returned v ∧ Row.OwnB w' w.heap.size v xs ∧ Below w.heap.size w w' := by
  have hlen := hC.1
  have hnil := fun w => Lib.run_eql_slice_nil (P := Try.prog) w 37 5 A n c 0 0 Try.underlying37
  have Kl := Aside0.mk hlen
  have KC := Aside0.mk hC
  have Khn := Aside0.mk hn
  clear hn
  cases A with
  | none =>
    have h0 : n = 0 := by
      rcases Nat.eq_zero_or_pos n with h | h
      · exact h
      · obtain ⟨ad, e, _⟩ := hC.2.2 h; cases e
    obtain rfl : xs = [] := List.eq_nil_of_length_eq_zero (by rw [hlen]; exact h0)
    subst h0
    clear hC hlen KC Khn Kl
    go_enter Try.func40, Try.ntmps40
    go_wp2
    go_ret
    exact ⟨_, rfl, Row.OwnB.nil _ _, Below.refl _ _⟩
  | some ad =>
    have hal : Below w.heap.size w (w.alloc (.cells #[] 5)) := below_alloc (Below.refl _ _) _
    have Kal := Aside0.mk hal
    have KO := Aside0.mk (Row.OwnB.lit w w.heap.size #[] [] rfl (Nat.le_refl _) (by simp))
    clear hC hal hlen
    go_enter Try.func40, Try.ntmps40
    go_wp2_with ((with_reducible refine gate_builtin (b := .append) (xs := #[.tmp 5, .tmp 6]) rfl ?_); apply Aside0.out)
    refine ⟨?_⟩
    refine Row.app_rows (w0 := w) w.heap.size rfl (.tmp 5) (.tmp 6) rfl (.slice (some ⟨w.heap.size, 0, none⟩) 0 0) [] xs (some ad) n c rfl rfl KO.out (Kd.C_below KC.out Kal.out) Kal.out Kal.out.size (by have := Khn.out; simp; omega) ?_
    intro zs A5 c5 w5 e1 e2 e3 h4 h5 e4 hb5 e5 e6 e7
    obtain rfl : zs = xs := by rw [e1.out]; rfl
    have K5 := Aside0.mk e2.out
    have Kb5 := Aside0.mk hb5.out
    clear e1 e2 e3 h4 e4 e5 e6 e7
    go_wp2
    go_ret
    exact ⟨_, rfl, K5.out, Kb5.out⟩
end Go.Proofs.Ytpdggoapjbjmhaa.Eq_
/- Bytes with their own sum behind them; bits of a burst turned: what stands without a reader or a writer. -/
set_option linter.unusedVariables false
set_option linter.unusedSimpArgs false
namespace Go.Proofs.Ytpdggoapjbjmhaa.Bg
open Go.RowKit Go.Proofs.Ytpdggoapjbjmhaa.Fd Go.Proofs.YtpdggoapjbjmhaaW.PrintWords Go.Proofs.YtpdggoapjbjmhaaW.PrintLast Go.Proofs.YtpdggoapjbjmhaaW.PrintMore
theorem isB_app {a b : List Int} (ha : ∀ x ∈ a, 0 ≤ x ∧ x < 256) (hb : ∀ x ∈ b, 0 ≤ x ∧ x < 256) : ∀ x ∈ a ++ b, 0 ≤ x ∧ x < 256 := fun x hx => (List.mem_append.1 hx).elim (ha x) (hb x)
theorem crc_lt (l : List Int) : Sum.crc 0 l < 4294967296 := by unfold Sum.crc; omega
theorem lt32n {n : Nat} (h : n < 4294967296) : n < 2 ^ (8 * 4) := by simpa using h
theorem lit_cells (w : World) (g : Nat) (c : Array Value) (fr : Nat × Nat) (hg : w.heap[g]? = some (.cells c 5 fr)) (l : List Int) (hc : c.toList = nums .u8 l) (hl : l.length ≤ 9223372036854775807) : Kd.C (Kd.int .u8) w (some ⟨g, 0, none⟩) l.length l := by
  refine Kd.C_of_reads (d := (0 : Int)) ⟨rfl, hl, fun _ => ⟨_, rfl, fun j hj => ?_⟩⟩
  rw [add_plain, cell_of_row _ _ _ _ _ _ hg, ← Array.getElem?_toList, hc]
  simp [nums, List.getElem?_eq_getElem hj]
def rdN (l : List Int) (p n : Nat) : Nat := val ((l.drop p).take n)
theorem rdN_lt {l : List Int} (h : ∀ x ∈ l, 0 ≤ x ∧ x < 256) (p n : Nat) (hp : p + n ≤ l.length) : rdN l p n < 2 ^ (8 * n) := by
  have h2 := val_lt ((l.drop p).take n) (fun x hx => h x (List.mem_of_mem_drop (List.mem_of_mem_take hx)))
  have e : ((l.drop p).take n).length = n := by rw [List.length_take, List.length_drop]; omega
  rwa [e] at h2
theorem rd16 {l : List Int} (h : ∀ x ∈ l, 0 ≤ x ∧ x < 256) (p : Nat) (hp : p + 2 ≤ l.length) : rdN l p 2 < 65536 := rdN_lt h p 2 hp
theorem rd32 {l : List Int} (h : ∀ x ∈ l, 0 ≤ x ∧ x < 256) (p : Nat) (hp : p + 4 ≤ l.length) : rdN l p 4 < 4294967296 := rdN_lt h p 4 hp
theorem rd_mid (pre post : List Int) (n k p : Nat) (hp : pre.length = p) (hn : n < 2 ^ (8 * k)) (l : List Int) (hl : l = pre ++ le n k ++ post) : rdN l p k = n := by
  unfold rdN
  rw [hl, List.append_assoc, ← hp, List.drop_left, List.take_left' (le_length n k), val_le n k hn]
end Go.Proofs.Ytpdggoapjbjmhaa.Bg
