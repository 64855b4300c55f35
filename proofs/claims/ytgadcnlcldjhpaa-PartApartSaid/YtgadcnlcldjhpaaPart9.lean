/- Nothing in common: the walk. -/
import Derived.OpenShut
import Derived.Test.YtgadcnlcldjhpaaPart8a
import Derived.Test.YtgadcnlcldjhpaaPart8b
import Derived.Test.YtgadcnlcldjhpaaPart8c
set_option linter.unusedVariables false
set_option linter.unusedSimpArgs false
namespace Go.Proofs.Ytgadcnlcldjhpaa.Part
open Go.RowKit Go.Proofs.YtgadcnlcldjhpaaW.PrintWords Go.Proofs.YtgadcnlcldjhpaaW.PrintLast Go.Proofs.YtgadcnlcldjhpaaW.PrintMore PartFn
theorem apart_core (S P B n k k' a i bs pg o h sz : Int) (hk : a.tmod 2 = k) (hk0 : 0 ≤ k) (hk1 : k ≤ 1) (ho : (k' != k) = true) (ha0 : 0 ≤ a) (ha1 : a < 256)
    (n0 : 1 ≤ n) (n1 : n ≤ 4096) (n2 : 2 + n + n ≤ S) (n3 : S ≤ 4096) (hPB : P * B ≤ sz) (ePB : wrap64 (P * B) = P * B) (hsz : sz ≤ 8388608 ∨ (8388608 < sz ∧ n = 1))
    (hat : (i < 0 ∧ h = 9) ∨ (0 ≤ i ∧ sz ≤ i ∧ h = 9) ∨ (0 ≤ i ∧ i < sz ∧ h = 0 ∧ wrap64 (pg * B) = pg * B ∧ wrap64 (pg * B + o) = pg * B + o ∧ wrap64 (bs + i) = bs + i ∧ pg * B + o = bs + i ∧ o < B))
    (HM : ∀ w, Calls Try.prog 27 #[.agg (geo S P B)] w fun e' w' => e' = .returned (.tuple #[.agg (pl S P B 0 1 2 (2 + n) n), .int .i64 0]) ∧ Below w.heap.size w w')
    (HB : ∀ w, Calls Try.prog 35 #[.agg (pl S P B 0 1 2 (2 + n) n), .int .i64 k] w fun e' w' => e' = .returned (.tuple #[.int .i64 bs, .int .i64 0]) ∧ Below w.heap.size w w')
    (HP : ∀ w, Calls Try.prog 33 #[.agg (pl S P B 0 1 2 (2 + n) n), .int .i64 k, .int .i64 i] w fun e' w' => e' = .returned (.tuple #[.int .i64 pg, .int .i64 o, .int .i64 h]) ∧ Below w.heap.size w w')
    (HZ : ∀ w, Calls Try.prog 37 #[.agg (pl S P B 0 1 2 (2 + n) n)] w fun e' w' => e' = .returned (.int .i64 sz) ∧ Below w.heap.size w w')
    (HO : ∀ w, Calls Try.prog 39 #[.int .i64 k] w fun e' w' => e' = .returned (.int .i64 k') ∧ w = w')
    (HO2 : ∀ w, Calls Try.prog 39 #[.int .i64 k'] w fun e' w' => e' = .returned (.int .i64 k) ∧ w = w') (w : World) :
    Calls Try.prog 11 #[.agg (geo S P B), .int .u8 a, .int .i64 i] w fun e w' => e = .returned (.bool true) ∧ Below w.heap.size w w' := by
  rcases hat with t | t | t
  · exact apart_core_a S P B n k k' a i bs pg o h sz hk hk0 hk1 ho ha0 ha1 n0 n1 n2 n3 hPB ePB hsz t HM HB HP HZ HO HO2 w
  · exact apart_core_b S P B n k k' a i bs pg o h sz hk hk0 hk1 ho ha0 ha1 n0 n1 n2 n3 hPB ePB hsz t HM HB HP HZ HO HO2 w
  · exact apart_core_c S P B n k k' a i bs pg o h sz hk hk0 hk1 ho ha0 ha1 n0 n1 n2 n3 hPB ePB hsz t HM HB HP HZ HO HO2 w
theorem PartHlp (a : Int) (ha : (Lit.int .u8 a).wf = true) : 0 ≤ a ∧ a < 256 ∧ 0 ≤ a.tmod 2 ∧ a.tmod 2 ≤ 1 := by
  have h := Go.bounds_u8 ha
  have := Int.tmod_nonneg 2 h.1
  have := Int.tmod_lt_of_pos a (by decide : (0 : Int) < 2)
  omega
theorem PartHlp2 {pg B off bs d i : Int} (h0 : 0 ≤ i) (h1 : i ≤ 274877906944) (m0 : 0 ≤ off) (m1 : off < B) (hB : B ≤ 65536) (hm : pg * B = bs + d) (hd : d + off = i) (b0 : 0 ≤ bs) (b1 : bs ≤ 16777216) :
    wrap64 (pg * B) = pg * B ∧ wrap64 (pg * B + off) = pg * B + off ∧ wrap64 (bs + i) = bs + i ∧ pg * B + off = bs + i := by
  rw [hm]
  unfold wrap64
  omega
theorem apart_any (S P B a i : Int) (ha : (Lit.int .u8 a).wf = true) (hi : (Lit.int .i64 i).wf = true) (w : World) :
    Calls Try.prog 11 #[.agg (geo S P B), .int .u8 a, .int .i64 i] w fun e w' => e = .returned (.bool true) ∧ Below w.heap.size w w' := by
  by_cases h : pck S P B = 0
  · have hr : right S P B 0 1 2 (2 + cnt S P B) (cnt S P B) := by simp [right, h]
    have hw := PartHlp a ha
    obtain ⟨ha0, ha1, hk0, hk1⟩ := hw
    have hks : a.tmod 2 = 0 ∨ a.tmod 2 = 1 := by omega
    have hcb := cnt_bounds h
    obtain ⟨⟨g1, g2, g3, g4, g5, g6⟩, z1, z2, z3⟩ := pck_zero.1 h
    have hp := prods ⟨g1, g2, g3, g4, g5, g6⟩
    have esz : size S P B 0 1 2 (2 + cnt S P B) (cnt S P B) = cnt S P B * P * B := if_pos hr
    have hsb := size_bounds hr
    have hvs : sl (a.tmod 2) 2 (2 + cnt S P B) = 2 ∨ sl (a.tmod 2) 2 (2 + cnt S P B) = 2 + cnt S P B := by unfold sl; by_cases e : a.tmod 2 = 0 <;> simp [e]
    have hb := slot_bounds hr hvs
    have hB := base_ok S P B 0 1 2 (2 + cnt S P B) (cnt S P B) (a.tmod 2) hr hks
    have hZ := size_any S P B 0 1 2 (2 + cnt S P B) (cnt S P B)
    have hPB : P * B ≤ cnt S P B * P * B := by
      rw [Int.mul_assoc]
      have := Int.mul_le_mul_of_nonneg_right hcb.1 (by omega : 0 ≤ P * B)
      omega
    have hsz : cnt S P B * P * B ≤ 8388608 ∨ (8388608 < cnt S P B * P * B ∧ cnt S P B = 1) := by
      have e := Int.mul_assoc (cnt S P B) P B
      omega
    have hO := other_any (a.tmod 2)
    have hO2 := other_any (if a.tmod 2 = 0 then 1 else 0)
    have e2 : (if (if a.tmod 2 = 0 then (1 : Int) else 0) = 0 then (1 : Int) else 0) = a.tmod 2 := by rcases hks with e | e <;> simp [e]
    rw [e2] at hO2
    have ho : ((if a.tmod 2 = 0 then (1 : Int) else 0) != a.tmod 2) = true := by rcases hks with e | e <;> simp [e]
    have ePB : wrap64 (P * B) = P * B := by unfold wrap64; omega
    generalize hvv : sl (a.tmod 2) 2 (2 + cnt S P B) = v at hB hb
    by_cases hir : 0 ≤ i ∧ i < cnt S P B * P * B
    · have hPg := page_ok S P B 0 1 2 (2 + cnt S P B) (cnt S P B) (a.tmod 2) i hr hks (by rw [esz]; exact hir)
      rw [esz] at hZ
      rw [hvv] at hPg
      have hmul : (v * P + i / B) * B = v * P * B + i / B * B := Int.add_mul _ _ _
      have hdm : i / B * B + i % B = i := by have := Int.mul_ediv_add_emod i B; rw [Int.mul_comm] at this; exact this
      have hm0 : 0 ≤ i % B := Int.emod_nonneg _ (by omega)
      have hm1 : i % B < B := Int.emod_lt_of_pos _ (by omega)
      obtain ⟨r1, r2, r3, r4⟩ := PartHlp2 hir.1 (by omega) hm0 hm1 (by omega) hmul hdm hb.2.2.2.2.1 hb.2.2.2.2.2.1
      exact apart_core S P B (cnt S P B) (a.tmod 2) _ a i _ _ _ 0 _ rfl hk0 hk1 ho ha0 ha1 hcb.1 (by omega) (by omega) g2 hPB ePB hsz (.inr (.inr ⟨hir.1, hir.2, rfl, r1, r2, r3, r4, hm1⟩)) (make_ok S P B h) hB hPg hZ hO hO2 w
    · have hw9 : wrong S P B 0 1 2 (2 + cnt S P B) (cnt S P B) (a.tmod 2) i (size S P B 0 1 2 (2 + cnt S P B) (cnt S P B)) = 9 := by unfold wrong; rw [if_neg (by simp [hr]; omega), if_pos (by rw [esz]; omega)]
      have hPg := page_err S P B 0 1 2 (2 + cnt S P B) (cnt S P B) (a.tmod 2) i (by rw [hw9]; decide)
      rw [hw9] at hPg
      rw [esz] at hZ
      have hat : (i < 0 ∧ (9 : Int) = 9) ∨ (0 ≤ i ∧ cnt S P B * P * B ≤ i ∧ (9 : Int) = 9) := by omega
      exact apart_core S P B (cnt S P B) (a.tmod 2) _ a i _ _ _ 9 _ rfl hk0 hk1 ho ha0 ha1 hcb.1 (by omega) (by omega) g2 hPB ePB hsz (hat.imp id .inl) (make_ok S P B h) hB hPg hZ hO hO2 w
  · exact apart_err S P B _ a i (by simp [h]) (make_err S P B h) w
end Go.Proofs.Ytgadcnlcldjhpaa.Part
