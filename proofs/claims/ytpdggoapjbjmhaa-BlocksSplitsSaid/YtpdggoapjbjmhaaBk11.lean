/- Blocks: what Split made is loaded block by block; how much it has stored: plain. -/
import Derived.Test.YtpdggoapjbjmhaaBk10
import Derived.Test.YtpdggoapjbjmhaaBk5
set_option linter.unusedVariables false
set_option linter.unusedSimpArgs false
namespace Go.Proofs.Ytpdggoapjbjmhaa.Bk
open Go.RowKit Go.Proofs.Ytpdggoapjbjmhaa.Fd Go.Proofs.Ytpdggoapjbjmhaa.Bg Go.Proofs.Ytpdggoapjbjmhaa.Lz Go.Proofs.Ytpdggoapjbjmhaa.Ma Go.Proofs.YtpdggoapjbjmhaaW.PrintWords Go.Proofs.YtpdggoapjbjmhaaW.PrintLast Go.Proofs.YtpdggoapjbjmhaaW.PrintMore
theorem wds_rd (b : List Int) (z x : Nat) : ∀ q i, i < q → rd (wds b z x q) (i : Int) = (sto (blk b z i) x).1
  | q + 1, i, h => by
    unfold rd
    rw [Int.toNat_natCast, wds, List.getD_eq_getElem?_getD]
    by_cases hi : i < q
    · rw [List.getElem?_append_left (by rw [wds_len]; exact hi)]
      have h2 := wds_rd b z x q i hi
      unfold rd at h2
      rwa [Int.toNat_natCast, List.getD_eq_getElem?_getD] at h2
    · obtain rfl : i = q := by omega
      rw [List.getElem?_append_right (by rw [wds_len]; exact Nat.le_refl _), wds_len, Nat.sub_self]
      rfl
theorem ots_split (b : List Int) (z x : Nat) : ∀ q i, i < q → ∃ rest, ots b z x q = ots b z x i ++ (sto (blk b z i) x).2 ++ rest
  | q + 1, i, h => by
    by_cases hi : i < q
    · obtain ⟨rest, hr⟩ := ots_split b z x q i hi
      exact ⟨rest ++ (sto (blk b z q) x).2, by rw [ots, hr]; simp only [List.append_assoc]⟩
    · obtain rfl : i = q := by omega
      exact ⟨[], by rw [ots, List.append_nil]⟩
theorem all0_rep {l : List Int} (h : all0 l = true) : l = List.replicate l.length 0 := by
  apply List.ext_getElem
  · rw [List.length_replicate]
  · intro i h1 h2
    rw [List.getElem_replicate]
    have := List.all_eq_true.1 h _ (List.getElem_mem h1)
    simpa using this
theorem sto_zero {b : List Int} {x : Nat} (h : all0 b = true) : sto b x = (0, []) := if_pos h
theorem sto_some {b : List Int} {x : Nat} (h : all0 b = false) : sto b x = ((wrd (dat b x).length (pk b x)).1, sumd (dat b x)) := if_neg (by rw [h]; decide)
theorem sto_word {b : List Int} (hb : isB b) (hN : b.length ≤ 1048576) (hz : all0 b = false) (x : Nat) : prt (sto b x).1 = (((dat b x).length : Int), pk b x, 0) ∧ 1 ≤ (sto b x).1 ∧ (sto b x).1 ≤ 2148532224 := by
  obtain ⟨g1, g2⟩ := dat_len hb hN hz x
  rw [sto_some hz]
  refine ⟨prt_wrd _ _ (by omega) (by omega), ?_⟩
  show 1 ≤ (wrd ((dat b x).length : Int) (pk b x)).1 ∧ (wrd ((dat b x).length : Int) (pk b x)).1 ≤ 2148532224
  unfold wrd
  rw [if_neg (by omega)]
  split
  · exact ⟨by show (1 : Int) ≤ ((dat b x).length : Int); omega, by show ((dat b x).length : Int) ≤ 2148532224; omega⟩
  · exact ⟨by show (1 : Int) ≤ ((dat b x).length : Int) + 2147483648; omega, by show ((dat b x).length : Int) + 2147483648 ≤ 2148532224; omega⟩
theorem word_zero {b : List Int} (hb : isB b) (hN : b.length ≤ 1048576) (x : Nat) : ((sto b x).1 == 0) = all0 b := by
  cases hz : all0 b with
  | true => rw [sto_zero hz]; rfl
  | false =>
    have h := (sto_word hb hN hz x).2.1
    simp; omega
theorem word_bds {b : List Int} (hb : isB b) (hN : b.length ≤ 1048576) (x : Nat) : 0 ≤ (sto b x).1 ∧ (sto b x).1 ≤ 2148532224 := by
  cases hz : all0 b with
  | true => rw [sto_zero hz]; exact ⟨by decide, by decide⟩
  | false =>
    have h := (sto_word hb hN hz x).2
    omega
/-- One block of many is loaded. -/
theorem ld_block {b : List Int} (hb : isB b) (hn : b.length ≤ 20000) (z x q i : Nat) (hz1 : 1 ≤ z) (hzm : z ≤ 1048576) (hi : i < q) (hq : q * z ≤ b.length) : ldP (ots b z x q) ((ots b z x i).length : Int) (sto (blk b z i) x).1 (z : Int) = (blk b z i, 0) := by
  have hkz : i * z + z ≤ b.length := by
    have h1 : (i + 1) * z ≤ q * z := Nat.mul_le_mul_right _ hi
    rw [Nat.add_mul, Nat.one_mul] at h1
    omega
  have hbl : (blk b z i).length = z := by unfold blk; rw [List.length_take, List.length_drop]; omega
  have hbb : isB (blk b z i) := fun y hy => hb y (List.mem_of_mem_drop (List.mem_of_mem_take hy))
  cases h0 : all0 (blk b z i) with
  | true =>
    rw [sto_zero h0]
    unfold ldP
    rw [if_neg (by omega), if_pos rfl, Int.toNat_natCast]
    have h := all0_rep h0
    rw [hbl] at h
    rw [← h]
  | false =>
    obtain ⟨rest, hr⟩ := ots_split b z x q i hi
    have h := ld_back hbb (by rw [hbl]; exact hzm) h0 x (ots b z x i) rest
    rw [hbl] at h
    rw [hr, sto_some h0]
    exact h
theorem ext_one {b : List Int} (hb : isB b) (hN : b.length ≤ 1048576) (hn : b.length ≤ 20000) (x : Nat) : extent [(sto b x).1] = (((sto b x).2.length : Int), 0) := by
  have hl := sto_len b x hn
  unfold extent
  rw [if_neg (by simp)]
  unfold ext
  cases hz : all0 b with
  | true =>
    rw [sto_zero hz, if_pos rfl]
    rfl
  | false =>
    obtain ⟨h1, h2, h3⟩ := sto_word hb hN hz x
    rw [if_neg (by omega), h1, if_pos rfl]
    rw [sto_some hz] at hl ⊢
    have hsl : (sumd (dat b x)).length = (dat b x).length + 4 := sumd_len _
    show ext [] (0 + (((dat b x).length : Int) + 4)) = (((sumd (dat b x)).length : Int), 0)
    have hl2 : (sumd (dat b x)).length ≤ 30004 := hl
    unfold ext
    rw [if_neg (by omega), hsl]
    congr 1
    omega
theorem ext_app (l : List Int) : ∀ (s : Int) (r : List Int), (∀ a ∈ l, a = 0 ∨ (prt a).2.2 = 0) → ext (l ++ r) s = ext r (s + (l.map fun a => if a = 0 then 0 else (prt a).1 + 4).sum) := by
  induction l with
  | nil => intro s r _; simp
  | cons a l ih =>
    intro s r h
    have h2 := fun a' ha' => h a' (List.mem_cons_of_mem _ ha')
    rw [List.cons_append, ext, List.map_cons, List.sum_cons]
    by_cases h0 : a = 0
    · rw [if_pos h0, if_pos h0, ih s r h2, Int.zero_add]
    · have h3 := (h a (List.mem_cons_self)).resolve_left h0
      rw [if_neg h0, if_neg h0, if_pos h3, ih _ r h2, Int.add_assoc]
theorem ext_wds {b : List Int} (hb : isB b) (hn : b.length ≤ 20000) (z x : Nat) (hzm : z ≤ 1048576) : ∀ q, q ≤ 4 → extent (wds b z x q) = (((ots b z x q).length : Int), 0) := by
  have key : ∀ q, (∀ a ∈ wds b z x q, a = 0 ∨ (prt a).2.2 = 0) ∧ ((wds b z x q).map fun a => if a = 0 then 0 else (prt a).1 + 4).sum = ((ots b z x q).length : Int) := by
    intro q
    induction q with
    | zero => exact ⟨fun a ha => (by cases ha), rfl⟩
    | succ q ih =>
      have hbb : isB (blk b z q) := fun y hy => hb y (List.mem_of_mem_drop (List.mem_of_mem_take hy))
      have hN : (blk b z q).length ≤ 1048576 := by unfold blk; rw [List.length_take, List.length_drop]; omega
      have hw : (sto (blk b z q) x).1 = 0 ∨ (prt (sto (blk b z q) x).1).2.2 = 0 := by
        cases hz : all0 (blk b z q) with
        | true => rw [sto_zero hz]; exact Or.inl rfl
        | false => rw [(sto_word hbb hN hz x).1]; exact Or.inr rfl
      have hs : (if (sto (blk b z q) x).1 = 0 then 0 else (prt (sto (blk b z q) x).1).1 + 4) = ((sto (blk b z q) x).2.length : Int) := by
        cases hz : all0 (blk b z q) with
        | true => rw [sto_zero hz]; rfl
        | false =>
          obtain ⟨h1, h2, h3⟩ := sto_word hbb hN hz x
          rw [if_neg (by omega), h1, sto_some hz]
          show ((dat (blk b z q) x).length : Int) + 4 = ((sumd (dat (blk b z q) x)).length : Int)
          rw [sumd_len]; omega
      refine ⟨fun a ha => ?_, ?_⟩
      · rw [wds, List.mem_append, List.mem_singleton] at ha
        rcases ha with ha | rfl
        · exact ih.1 a ha
        · exact hw
      · rw [wds, List.map_append, List.sum_append, ih.2, ots, List.length_append]
        simp only [List.map_cons, List.map_nil, List.sum_cons, List.sum_nil]
        rw [hs]
        omega
  intro q hq
  obtain ⟨h1, h2⟩ := key q
  have hl := ots_len b z x hn q
  have h := ext_app (wds b z x q) 0 [] h1
  rw [List.append_nil, h2, Int.zero_add] at h
  unfold extent
  rw [if_neg (by rw [wds_len]; omega), h]
  unfold ext
  rw [if_neg (by omega)]
end Go.Proofs.Ytpdggoapjbjmhaa.Bk
