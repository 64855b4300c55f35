/- Blocks: how much words have stored: what is printed of Extent, plain. -/
import Derived.Test.YtpdggoapjbjmhaaBk1
import Derived.Test.YtpdggoapjbjmhaaPBlocksExtentsx4
set_option linter.unusedVariables false
set_option linter.unusedSimpArgs false
namespace Go.Proofs.Ytpdggoapjbjmhaa.Bk
open Go.RowKit Go.Proofs.Ytpdggoapjbjmhaa.Fd Go.Proofs.Ytpdggoapjbjmhaa.Bg Go.Proofs.YtpdggoapjbjmhaaW.PrintWords Go.Proofs.YtpdggoapjbjmhaaW.PrintLast Go.Proofs.YtpdggoapjbjmhaaW.PrintMore
def ext : List Int → Int → Int × Int
  | [], s => if s > 8388608 then (0, 2) else (s, 0)
  | a :: l, s => if a = 0 then ext l s else if (prt a).2.2 = 0 then ext l (s + ((prt a).1 + 4)) else (0, (prt a).2.2)
def extent (l : List Int) : Int × Int := if l.length > 65536 then (0, 3) else ext l 0
theorem prt_bds (a : Int) : 0 ≤ (prt a).1 ∧ (prt a).1 ≤ 1048576 := by
  unfold prt
  split
  · omega
  · split <;> simp <;> omega
theorem w64 {x : Int} (h : -9223372036854775808 ≤ x) (h2 : x < 9223372036854775808) : wrap64 x = x := by unfold wrap64; omega
theorem ext_l0 (l : List Int) (hl : ∀ x ∈ l, -9223372036854775808 ≤ x ∧ x ≤ 9223372036854775807) (hm : l.length ≤ 100000) : ∀ (j i k : Nat) (s : Int), i + j = l.length → j < k → 0 ≤ s → s ≤ i * 1048580 → PBlocksExtents.blocks_Extent.l0 k s l (l.length : Int) (i : Int) = some ((ext (l.drop i) s).1, (ext (l.drop i) s).2) := by
  intro j
  induction j with
  | zero =>
    intro i k s hi hk h0 hs
    obtain ⟨k, rfl⟩ : ∃ k', k = k' + 1 := ⟨k - 1, by omega⟩
    rw [PBlocksExtents.blocks_Extent.l0, if_neg (by omega), List.drop_of_length_le (by omega), ext]
    by_cases h : s > 8388608
    · rw [if_pos h, if_pos h]
    · rw [if_neg h, if_neg h]
  | succ j ih =>
    intro i k s hi hk h0 hs
    obtain ⟨k, rfl⟩ : ∃ k', k = k' + 1 := ⟨k - 1, by omega⟩
    have hx := hl l[i] (List.getElem_mem _)
    have hr : rd l (i : Int) = l[i] := by
      unfold rd
      rw [Int.toNat_natCast, List.getD_eq_getElem?_getD, List.getElem?_eq_getElem (by omega)]
      rfl
    have hd : l.drop i = l[i] :: l.drop (i + 1) := List.drop_eq_getElem_cons (by omega)
    have e3 : wrap64 ((i : Int) + 1) = ((i + 1 : Nat) : Int) := w64 (x := (i : Int) + 1) (by omega) (by omega)
    have hb := prt_bds l[i]
    have e4 : wrap64 (s + wrap64 ((prt l[i]).1 + 4)) = s + ((prt l[i]).1 + 4) := by rw [w64 (x := (prt l[i]).1 + 4) (by omega) (by omega), w64 (by omega) (by omega)]
    have hp : PBlocksExtents.blocks_Parts.f l[i] = some ((prt l[i]).1, (prt l[i]).2.1, (prt l[i]).2.2) := parts_f l[i] hx.1 hx.2
    rw [PBlocksExtents.blocks_Extent.l0, if_pos (by omega), if_pos (by omega), if_pos (by omega), hr, e3, hd, ext]
    by_cases h : l[i] = 0
    · rw [if_pos h, if_pos h]
      exact ih (i + 1) k s (by omega) (by omega) h0 (by omega)
    · rw [if_neg h, if_neg h, hp, Option.bind_some]
      by_cases h2 : (prt l[i]).2.2 = 0
      · rw [if_pos h2, if_pos h2]
        show PBlocksExtents.blocks_Extent.l0 k (wrap64 (s + wrap64 ((prt l[i]).1 + 4))) l (l.length : Int) ((i + 1 : Nat) : Int) = _
        rw [e4]
        exact ih (i + 1) k _ (by omega) (by omega) (by omega) (by omega)
      · rw [if_neg h2, if_neg h2]
theorem rext_l0 (l : List Int) (hl : ∀ x ∈ l, -9223372036854775808 ≤ x ∧ x ≤ 9223372036854775807) (hm : l.length ≤ 100000) : ∀ (j i k : Nat) (s : Int), i + j = l.length → j < k → 0 ≤ s → s ≤ i * 1048580 → PBlocksExtents.portmanteauref18_Extent.l0 k l s (i : Int) = some ((ext (l.drop i) s).1, (ext (l.drop i) s).2) := by
  intro j
  induction j with
  | zero =>
    intro i k s hi hk h0 hs
    obtain ⟨k, rfl⟩ : ∃ k', k = k' + 1 := ⟨k - 1, by omega⟩
    rw [PBlocksExtents.portmanteauref18_Extent.l0, if_neg (by omega), List.drop_of_length_le (by omega), ext]
    by_cases h : s > 8388608
    · rw [if_pos h, if_pos h]
    · rw [if_neg h, if_neg h]
  | succ j ih =>
    intro i k s hi hk h0 hs
    obtain ⟨k, rfl⟩ : ∃ k', k = k' + 1 := ⟨k - 1, by omega⟩
    have hx := hl l[i] (List.getElem_mem _)
    have hr : rd l (i : Int) = l[i] := by
      unfold rd
      rw [Int.toNat_natCast, List.getD_eq_getElem?_getD, List.getElem?_eq_getElem (by omega)]
      rfl
    have hd : l.drop i = l[i] :: l.drop (i + 1) := List.drop_eq_getElem_cons (by omega)
    have e3 : wrap64 ((i : Int) + 1) = ((i + 1 : Nat) : Int) := w64 (x := (i : Int) + 1) (by omega) (by omega)
    have hb := prt_bds l[i]
    have e4 : wrap64 (wrap64 (s + (prt l[i]).1) + 4) = s + ((prt l[i]).1 + 4) := by rw [w64 (x := s + (prt l[i]).1) (by omega) (by omega), w64 (by omega) (by omega)]; omega
    have hp : PBlocksExtents.portmanteauref18_Parts.f l[i] = some ((prt l[i]).1, (prt l[i]).2.1, (prt l[i]).2.2) := rparts_f l[i] hx.1 hx.2
    rw [PBlocksExtents.portmanteauref18_Extent.l0, if_pos (by omega), if_pos (by omega), hr, e3, hd, ext]
    by_cases h : l[i] = 0
    · rw [if_pos h, if_pos h]
      exact ih (i + 1) k s (by omega) (by omega) h0 (by omega)
    · rw [if_neg h, if_neg h, hp, Option.bind_some]
      by_cases h2 : (prt l[i]).2.2 = 0
      · rw [if_pos h2, if_pos h2]
        show PBlocksExtents.portmanteauref18_Extent.l0 k l (wrap64 (wrap64 (s + (prt l[i]).1) + 4)) ((i + 1 : Nat) : Int) = _
        rw [e4]
        exact ih (i + 1) k _ (by omega) (by omega) (by omega) (by omega)
      · rw [if_neg h2, if_neg h2]
theorem extent_any (w : World) (l : List Int) (A : Option Addr) (c : Nat) (hC : Kd.C (Kd.int .i64) w A l.length l) (hc : l.length ≤ c) (hl : ∀ x ∈ l, -9223372036854775808 ≤ x ∧ x ≤ 9223372036854775807) (hm : l.length ≤ 100000) : Calls Try.prog 20 #[.slice A l.length c] w fun e w' => e = .returned (.tuple #[.int .i64 (extent l).1, .int .i64 (extent l).2]) ∧ Below w.heap.size w w' := by
  have hf : PBlocksExtents.blocks_Extent.f 200000 l = some ((extent l).1, (extent l).2) := by
    unfold PBlocksExtents.blocks_Extent.f extent
    by_cases h : l.length > 65536
    · rw [if_pos (by omega), if_pos h]
    · rw [if_neg (by omega), if_neg h]
      exact ext_l0 l hl hm l.length 0 200000 0 (by omega) (by omega) (by omega) (by omega)
  exact (PBlocksExtents.blocks_Extent.calls 200000 A c l _ _ w hC hc hf).mono fun e w' ⟨he, ⟨nd, h⟩⟩ => ⟨he, by rw [h]; exact pw_below_drewN (Below.refl _ _) _⟩
theorem rextent_any (w : World) (l : List Int) (A : Option Addr) (c : Nat) (hC : Kd.C (Kd.int .i64) w A l.length l) (hc : l.length ≤ c) (hl : ∀ x ∈ l, -9223372036854775808 ≤ x ∧ x ≤ 9223372036854775807) (hm : l.length ≤ 100000) : Calls Try.prog 21 #[.slice A l.length c] w fun e w' => e = .returned (.tuple #[.int .i64 (extent l).1, .int .i64 (extent l).2]) ∧ Below w.heap.size w w' := by
  have hf : PBlocksExtents.portmanteauref18_Extent.f 200000 l = some ((extent l).1, (extent l).2) := by
    unfold PBlocksExtents.portmanteauref18_Extent.f extent
    by_cases h : l.length > 65536
    · rw [if_pos (by omega), if_pos h]
    · rw [if_neg (by omega), if_neg h]
      exact rext_l0 l hl hm l.length 0 200000 0 (by omega) (by omega) (by omega) (by omega)
  exact (PBlocksExtents.portmanteauref18_Extent.calls 200000 A c l _ _ w hC hc hf).mono fun e w' ⟨he, ⟨nd, h⟩⟩ => ⟨he, by rw [h]; exact pw_below_drewN (Below.refl _ _) _⟩
end Go.Proofs.Ytpdggoapjbjmhaa.Bk
