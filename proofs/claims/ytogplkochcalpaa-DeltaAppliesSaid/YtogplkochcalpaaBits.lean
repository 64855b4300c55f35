/- Whole numbers in the walk's own spelling: what the sums' operations on bits come to in plain numbers. -/
import Derived.WalkKit
import Derived.Test.YtogplkochcalpaaCrc
set_option linter.unusedVariables false
set_option linter.unusedSimpArgs false
namespace Go.Proofs.Ytogplkochcalpaa.Bits
theorem not32 (c : Nat) (h : c < 4294967296) : bits .xor .u32 IntKind.u32.max (c : Int) = ((4294967295 - c : Nat) : Int) := by
  have h1 : IntKind.u32.max = ((4294967295 : Nat) : Int) := by decide
  rw [h1, u32_xor_nat _ _ (by decide) h]
  congr 1
  apply Nat.eq_of_testBit_eq
  intro i
  rw [Nat.testBit_xor]
  have h2 : (4294967295 - c : Nat) = 2 ^ 32 - (c + 1) := by omega
  rw [h2, Nat.testBit_two_pow_sub_succ (by omega)]
  have h3 : (4294967295 : Nat) = 2 ^ 32 - 1 := by decide
  rw [h3, Nat.testBit_two_pow_sub_one]
  by_cases hi : i < 32
  · simp [hi]
  · have : c.testBit i = false := Nat.testBit_lt_two_pow (Nat.lt_of_lt_of_le h (by
      have : 2 ^ 32 ≤ 2 ^ i := Nat.pow_le_pow_right (by decide) (by omega)
      omega))
    simp [hi, this]
/-- The program's step of a table's entry. -/
theorem stepM (s : Nat) (h : s < 4294967296) : bits .xor .u32 ((s : Int) / 2) (bits .and .u32 3988292384 ((-(bits .and .u32 (s : Int) 1)) % 4294967296)) = ((Crc.M s : Nat) : Int) := by
  have h1 : bits .and .u32 (s : Int) 1 = ((s % 2 : Nat) : Int) := by
    have := u32_and_nat s 1 h (by decide)
    rw [Nat.and_one_is_mod] at this
    exact this
  rw [h1]
  have h2 : ((s : Int) / 2) = ((s / 2 : Nat) : Int) := by omega
  unfold Crc.M
  by_cases hs : s % 2 = 1
  · rw [if_pos hs, hs]
    have h3 : (-((1 : Nat) : Int)) % 4294967296 = ((4294967295 : Nat) : Int) := by decide
    rw [h3]
    have h4 : bits .and .u32 3988292384 ((4294967295 : Nat) : Int) = ((3988292384 : Nat) : Int) := by
      have := u32_and_nat 3988292384 4294967295 (by decide) (by decide)
      rw [show (3988292384 &&& 4294967295 : Nat) = 3988292384 from by decide] at this
      exact this
    rw [h4, h2, u32_xor_nat _ _ (by omega) (by decide)]
  · have hs0 : s % 2 = 0 := by omega
    rw [if_neg hs, hs0]
    have h3 : (-((0 : Nat) : Int)) % 4294967296 = ((0 : Nat) : Int) := by decide
    rw [h3]
    have h4 : bits .and .u32 3988292384 ((0 : Nat) : Int) = ((0 : Nat) : Int) := by
      have := u32_and_nat 3988292384 0 (by decide) (by decide)
      rw [Nat.and_zero] at this
      exact this
    rw [h4, h2, u32_xor_nat _ _ (by omega) (by decide), Nat.xor_zero]
theorem xor8 (s x : Nat) (hx : x < 256) : bits .xor .u8 ((s : Int) % 256) (x : Int) = ((s % 256 ^^^ x : Nat) : Int) := by
  have h2 : ((s : Int) % 256) = ((s % 256 : Nat) : Int) := by omega
  rw [h2, u8_xor_nat _ _ (by omega) hx]
theorem xor8_lt (s x : Nat) (hx : x < 256) : s % 256 ^^^ x < 256 := Nat.xor_lt_two_pow (n := 8) (by omega) hx
theorem step32 (s x : Nat) (hs : s < 4294967296) (hx : x < 256) : bits .xor .u32 ((s : Int) / 256) ((Crc.iter 8 (s % 256 ^^^ x) : Nat) : Int) = ((Crc.step s x : Nat) : Int) := by
  have h2 : ((s : Int) / 256) = ((s / 256 : Nat) : Int) := by omega
  rw [h2, u32_xor_nat _ _ (by omega) (Crc.iter_lt _ _ (by have := xor8_lt s x hx; omega)), ← Crc.step_table s x hx]
theorem step_lt (s x : Nat) (hs : s < 4294967296) (hx : x < 256) : Crc.step s x < 4294967296 := Crc.iter_lt _ _ (Nat.xor_lt_two_pow (n := 32) (by omega) (by omega))
/-- A byte's step of the digest. -/
def fnv (d x : Nat) : Nat := (d ^^^ x) * 1099511628211 % 18446744073709551616
def digest : Nat → List Nat → Nat
  | d, [] => d
  | d, x :: l => digest (fnv d x) l
theorem digest_nil (d : Nat) : digest d [] = d := rfl
theorem digest_append (d : Nat) (a b : List Nat) : digest d (a ++ b) = digest (digest d a) b := by
  induction a generalizing d with
  | nil => rfl
  | cons x a ih => exact ih _
theorem fnv_lt (d x : Nat) : fnv d x < 18446744073709551616 := Nat.mod_lt _ (by decide)
theorem digest_lt (d : Nat) (l : List Nat) (h : d < 18446744073709551616) : digest d l < 18446744073709551616 := by
  induction l generalizing d with
  | nil => exact h
  | cons x l ih => exact ih _ (fnv_lt _ _)
theorem fnv_step (s x : Nat) (hs : s < 18446744073709551616) (hx : x < 256) : IntKind.u64.wrap (bits .xor .u64 (s : Int) (x : Int) * 1099511628211) = ((fnv s x : Nat) : Int) := by
  rw [u64_xor_nat _ _ hs (by omega), IntKind.wrap_u64]
  unfold fnv
  generalize s ^^^ x = z
  omega
/-- The reference's step of a table's entry. -/
theorem stepM_odd (s : Nat) (h : s < 4294967296) (ho : s % 2 = 1) : bits .xor .u32 ((s : Int) / 2) 3988292384 = ((Crc.M s : Nat) : Int) := by
  have h2 : ((s : Int) / 2) = ((s / 2 : Nat) : Int) := by omega
  have h3 : (3988292384 : Int) = ((3988292384 : Nat) : Int) := rfl
  unfold Crc.M
  rw [if_pos ho, h2, h3, u32_xor_nat _ _ (by omega) (by decide)]
theorem stepM_even (s : Nat) (ho : ¬ s % 2 = 1) : ((s : Int) / 2) = ((Crc.M s : Nat) : Int) := by
  unfold Crc.M
  rw [if_neg ho]
  omega
theorem xor32 (s x : Nat) (hx : x < 256) : bits .xor .u32 ((s : Int) % 256) (x : Int) = ((s % 256 ^^^ x : Nat) : Int) := by
  have h2 : ((s : Int) % 256) = ((s % 256 : Nat) : Int) := by omega
  rw [h2, u32_xor_nat _ _ (by omega) (by omega)]
/-- A table's cells. -/
def tab (T : Nat → Nat) : Array Value := Array.ofFn (n := 256) fun i => .int .u32 (T i.val : Nat)
theorem tab_size (T : Nat → Nat) : (tab T).size = 256 := by simp [tab]
theorem tab_at (T : Nat → Nat) (i : Nat) (h : i < 256) : (tab T)[i]? = some (.int .u32 (T i : Nat)) := by simp [tab, h]
theorem tab_set (T : Nat → Nat) (i v : Nat) (h : i < 256) : (tab T).setIfInBounds i (.int .u32 (v : Nat)) = tab (fun j => if j = i then v else T j) := by
  apply Array.ext
  · simp [tab]
  · intro j h1 h2
    have hj : j < 256 := by simpa [tab] using h2
    by_cases e : i = j
    · subst e; simp [tab]
    · rw [Array.getElem_setIfInBounds_ne (by simpa [tab] using hj) e]
      simp [tab, Ne.symm e]
theorem tab_congr (T U : Nat → Nat) (h : ∀ i, i < 256 → T i = U i) : tab T = tab U := by
  apply Array.ext
  · simp [tab]
  · intro j h1 h2
    have hj : j < 256 := by simpa [tab] using h2
    simp [tab, h j hj]
/-- The sum by any table. -/
def stepT (T : Nat → Nat) (c x : Nat) : Nat := c / 256 ^^^ T (c % 256 ^^^ x)
def runT (T : Nat → Nat) : Nat → List Nat → Nat
  | c, [] => c
  | c, x :: l => runT T (stepT T c x) l
theorem runT_append (T : Nat → Nat) (c : Nat) (a b : List Nat) : runT T c (a ++ b) = runT T (runT T c a) b := by
  induction a generalizing c with
  | nil => rfl
  | cons x a ih => exact ih _
theorem runT_good (T : Nat → Nat) (h : ∀ i, i < 256 → T i = Crc.iter 8 i) (c : Nat) (l : List Nat) (hl : ∀ x ∈ l, x < 256) : runT T c l = Crc.run c l := by
  induction l generalizing c with
  | nil => rfl
  | cons x l ih =>
    have hx := hl x (by simp)
    have e : stepT T c x = Crc.step c x := by
      unfold stepT
      rw [Crc.step_table c x hx, h _ (xor8_lt c x hx)]
    have h1 : runT T c (x :: l) = runT T (stepT T c x) l := rfl
    have h2 : Crc.run c (x :: l) = Crc.run (Crc.step c x) l := rfl
    rw [h1, h2, e, ih _ (fun y hy => hl y (by simp [hy]))]
theorem stepT_lt (T : Nat → Nat) (hT : ∀ i, i < 256 → T i < 4294967296) (c x : Nat) (hc : c < 4294967296) (hx : x < 256) : stepT T c x < 4294967296 :=
  Nat.xor_lt_two_pow (n := 32) (by omega) (hT _ (xor8_lt c x hx))
theorem stepT_32 (T : Nat → Nat) (hT : ∀ i, i < 256 → T i < 4294967296) (s x : Nat) (hs : s < 4294967296) (hx : x < 256) : bits .xor .u32 ((s : Int) / 256) ((T (s % 256 ^^^ x) : Nat) : Int) = ((stepT T s x : Nat) : Int) := by
  have h2 : ((s : Int) / 256) = ((s / 256 : Nat) : Int) := by omega
  rw [h2, u32_xor_nat _ _ (by omega) (hT _ (xor8_lt s x hx))]
  rfl
theorem sub32 (c : Nat) (h : c < 4294967296) : (4294967295 : Int) - (c : Int) = ((4294967295 - c : Nat) : Int) := by omega
end Go.Proofs.Ytogplkochcalpaa.Bits
