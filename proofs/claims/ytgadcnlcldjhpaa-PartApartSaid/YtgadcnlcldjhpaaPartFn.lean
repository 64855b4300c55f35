/- Where what lies in a flash: plain numbers. -/
set_option linter.unusedVariables false
namespace Go.Proofs.Ytgadcnlcldjhpaa.PartFn
/-- Which geometries may be. -/
def good (S P B : Int) : Prop := 1 ≤ S ∧ S ≤ 4096 ∧ 1 ≤ P ∧ P ≤ 1024 ∧ 16 ≤ B ∧ B ≤ 65536
instance (S P B : Int) : Decidable (good S P B) := by unfold good; infer_instance
def fck (S P B : Int) : Int := if good S P B then (if S * P * B > 16777216 then 2 else 0) else 1
def pck (S P B : Int) : Int := if fck S P B ≠ 0 then fck S P B else if S < 4 ∨ B < 64 then 1 else 0
def cnt (S P B : Int) : Int := min ((S - 2) / 2) (max (8388608 / (P * B)) 1)
theorem prods {S P B : Int} (h : good S P B) : 0 ≤ S * P ∧ S * P ≤ 4194304 ∧ 0 ≤ S * P * B ∧ S * P * B ≤ 274877906944 ∧ 16 ≤ P * B ∧ P * B ≤ 67108864 := by
  obtain ⟨h1, h2, h3, h4, h5, h6⟩ := h
  have a1 : 1 * 1 ≤ S * P := Int.mul_le_mul h1 h3 (by omega) (by omega)
  have a2 : S * P ≤ 4096 * 1024 := Int.mul_le_mul h2 h4 (by omega) (by omega)
  have a3 : 1 * 16 ≤ S * P * B := Int.mul_le_mul (by omega) h5 (by omega) (by omega)
  have a4 : S * P * B ≤ (4096 * 1024) * 65536 := Int.mul_le_mul a2 h6 (by omega) (by omega)
  have a5 : 1 * 16 ≤ P * B := Int.mul_le_mul h3 h5 (by omega) (by omega)
  have a6 : P * B ≤ 1024 * 65536 := Int.mul_le_mul h4 h6 (by omega) (by omega)
  omega
theorem pck_zero {S P B : Int} : pck S P B = 0 ↔ good S P B ∧ S * P * B ≤ 16777216 ∧ 4 ≤ S ∧ 64 ≤ B := by
  unfold pck fck
  by_cases h : good S P B
  · rw [if_pos h]
    by_cases h2 : S * P * B > 16777216
    · rw [if_pos h2]; simp; omega
    · rw [if_neg h2]
      by_cases h3 : S < 4 ∨ B < 64
      · simp [h3]; omega
      · simp [h3, h]; omega
  · rw [if_neg h]; simp [h]
theorem cnt_bounds {S P B : Int} (h : pck S P B = 0) : 1 ≤ cnt S P B ∧ 2 + 2 * cnt S P B ≤ S ∧ (cnt S P B = 1 ∨ cnt S P B * (P * B) ≤ 8388608) := by
  obtain ⟨h1, h2, h3, h4⟩ := pck_zero.1 h
  have hp := prods h1
  have hd : 8388608 / (P * B) * (P * B) ≤ 8388608 := Int.ediv_mul_le _ (by omega)
  have hd0 : 0 ≤ 8388608 / (P * B) := Int.ediv_nonneg (by omega) (by omega)
  unfold cnt
  by_cases hm : 8388608 / (P * B) ≤ 1
  · rw [Int.max_eq_right hm]
    have : min ((S - 2) / 2) 1 = 1 := by omega
    rw [this]; omega
  · rw [Int.max_eq_left (by omega)]
    refine ⟨by omega, by omega, .inr ?_⟩
    have : min ((S - 2) / 2) (8388608 / (P * B)) ≤ 8388608 / (P * B) := by omega
    have := Int.mul_le_mul_of_nonneg_right this (by omega : 0 ≤ P * B)
    omega
/-- The reference's count: as long as one more fits. -/
theorem cnt_step {S P B n : Int} (h : pck S P B = 0) (hn : 1 ≤ n) : (2 + 2 * (n + 1) ≤ S ∧ (n + 1) * P * B ≤ 8388608) ↔ n < cnt S P B := by
  obtain ⟨h1, h2, h3, h4⟩ := pck_zero.1 h
  have hp := prods h1
  have e : (n + 1) * P * B ≤ 8388608 ↔ n + 1 ≤ 8388608 / (P * B) := by
    rw [Int.mul_assoc]
    exact (Int.le_ediv_iff_mul_le (by omega)).symm
  rw [e]
  unfold cnt
  generalize 8388608 / (P * B) = q
  omega
end Go.Proofs.Ytgadcnlcldjhpaa.PartFn
