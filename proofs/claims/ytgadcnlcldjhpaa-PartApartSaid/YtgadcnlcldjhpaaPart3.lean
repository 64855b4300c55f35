/- Where what lies in a flash: the walks of part.Base, Page, Sector, Other. -/
import Derived.Test.YtgadcnlcldjhpaaPart2
import Derived.Deep.QuietTactic
import Derived.BigQuiet
set_option linter.unusedVariables false
set_option linter.unusedSimpArgs false
namespace Go.Proofs.Ytgadcnlcldjhpaa.Part
open Go.RowKit Go.Proofs.YtgadcnlcldjhpaaW.PrintWords Go.Proofs.YtgadcnlcldjhpaaW.PrintLast Go.Proofs.YtgadcnlcldjhpaaW.PrintMore PartFn
theorem slot_bounds {S P B b0 b1 s0 s1 n s : Int} (h : right S P B b0 b1 s0 s1 n) (hs : s = s0 ∨ s = s1) : 2 ≤ s ∧ s ≤ 4096 ∧ 0 ≤ s * P ∧ s * P ≤ 4194304 ∧ 0 ≤ s * P * B ∧ s * P * B ≤ 16777216 ∧ 1 ≤ P ∧ 64 ≤ B ∧ B ≤ 65536 ∧ s + n ≤ S ∧ S ≤ 4096 ∧ 1 ≤ n := by
  obtain ⟨h0, _, _, e0, e1, en⟩ := h
  have hc := cnt_bounds h0
  obtain ⟨⟨g1, g2, g3, g4, g5, g6⟩, q1, q2, q3⟩ := pck_zero.1 h0
  have b1 : 2 ≤ s ∧ s + n ≤ S := by omega
  have a0 : 2 * 1 ≤ s * P := Int.mul_le_mul b1.1 g3 (by omega) (by omega)
  have a1 : s * P ≤ S * P := Int.mul_le_mul_of_nonneg_right (by omega) (by omega)
  have a2 : s * P * B ≤ S * P * B := Int.mul_le_mul_of_nonneg_right a1 (by omega)
  have a3 : 2 * 1 * 16 ≤ s * P * B := Int.mul_le_mul a0 g5 (by omega) (by omega)
  have a4 : S * P ≤ 4096 * 1024 := Int.mul_le_mul g2 g4 (by omega) (by omega)
  omega
theorem ret_two {a b c d : Int} (h : a = c) (h2 : b = d) : Ending.returned (.tuple #[.int .i64 a, .int .i64 b]) = .returned (.tuple #[.int .i64 c, .int .i64 d]) := by rw [h, h2]
def sl (slot s0 s1 : Int) : Int := if slot = 0 then s0 else s1
theorem base_err (S P B b0 b1 s0 s1 n slot : Int) (h : wrong S P B b0 b1 s0 s1 n slot 0 1 ≠ 0) (w : World) : Calls Try.prog 35 #[.agg (pl S P B b0 b1 s0 s1 n), .int .i64 slot] w fun e w' => e = .returned (.tuple #[.int .i64 0, .int .i64 (wrong S P B b0 b1 s0 s1 n slot 0 1)]) ∧ Below w.heap.size w w' := by
  have hfn := right_any S P B b0 b1 s0 s1 n slot 0 1
  have hne : (wrong S P B b0 b1 s0 s1 n slot 0 1 != 0) = true := by simp [h]
  unfold pl at hfn ⊢
  have HF := Aside0.mk hfn
  clear hfn h
  go_enter Try.func35, Try.ntmps35
  go_wp2_with (first | (go_at_call 55; refine (HF.out _).mono ?_; rintro e w1 ⟨rfl, hb1⟩; have HB1 := Aside0.mk hb1; clear hb1))
  go_ret2
  exact ⟨rfl, below1 HB1.out⟩
theorem base_ok (S P B b0 b1 s0 s1 n slot : Int) (h : right S P B b0 b1 s0 s1 n) (hs : slot = 0 ∨ slot = 1) (w : World) : Calls Try.prog 35 #[.agg (pl S P B b0 b1 s0 s1 n), .int .i64 slot] w fun e w' => e = .returned (.tuple #[.int .i64 (sl slot s0 s1 * P * B), .int .i64 0]) ∧ Below w.heap.size w w' := by
  have hfn := right_any S P B b0 b1 s0 s1 n slot 0 1
  have hw : wrong S P B b0 b1 s0 s1 n slot 0 1 = 0 := by unfold wrong; rw [if_neg (by simp [h]; omega), if_neg (by omega)]
  rw [hw] at hfn
  have hb0 := slot_bounds h (.inl rfl)
  have hb1 := slot_bounds h (.inr rfl)
  unfold pl at hfn ⊢
  have HF := Aside0.mk hfn
  clear hfn h hw
  rcases hs with rfl | rfl
  · have HV : Aside0 (sl 0 s0 s1 = s0) := ⟨rfl⟩
    obtain ⟨_, _, p1, p2, p3, p4, _⟩ := hb0
    clear hb1
    go_enter Try.func35, Try.ntmps35
    go_wp2_with (first | (go_at_call 55; refine (HF.out _).mono ?_; rintro e w1 ⟨rfl, hb1⟩; obtain ⟨hc1, hf1⟩ := bcell hb1; have HB1 := Aside0.mk hb1; clear hb1 hf1))
    go_quiet (fail)
    go_wp2
    go_ret2
    exact ⟨ret_two (by rw [HV.out]) rfl, pw_below_drewN (below1 HB1.out) _⟩
  · have HV : Aside0 (sl 1 s0 s1 = s1) := ⟨rfl⟩
    obtain ⟨_, _, p1, p2, p3, p4, _⟩ := hb1
    clear hb0
    go_enter Try.func35, Try.ntmps35
    go_wp2_with (first | (go_at_call 55; refine (HF.out _).mono ?_; rintro e w1 ⟨rfl, hb1⟩; obtain ⟨hc1, hf1⟩ := bcell hb1; have HB1 := Aside0.mk hb1; clear hb1 hf1))
    go_quiet (fail)
    go_wp2
    go_ret2
    exact ⟨ret_two (by rw [HV.out]) rfl, pw_below_drewN (below1 HB1.out) _⟩
theorem sector_err (S P B b0 b1 s0 s1 n slot i : Int) (h : wrong S P B b0 b1 s0 s1 n slot i n ≠ 0) (w : World) : Calls Try.prog 36 #[.agg (pl S P B b0 b1 s0 s1 n), .int .i64 slot, .int .i64 i] w fun e w' => e = .returned (.tuple #[.int .i64 0, .int .i64 (wrong S P B b0 b1 s0 s1 n slot i n)]) ∧ Below w.heap.size w w' := by
  have hfn := right_any S P B b0 b1 s0 s1 n slot i n
  have hne : (wrong S P B b0 b1 s0 s1 n slot i n != 0) = true := by simp [h]
  unfold pl at hfn ⊢
  have HF := Aside0.mk hfn
  clear hfn h
  go_enter Try.func36, Try.ntmps36
  go_wp2_with (first | (go_at_call 55; refine (HF.out _).mono ?_; rintro e w1 ⟨rfl, hb1⟩; have HB1 := Aside0.mk hb1; clear hb1))
  go_ret2
  exact ⟨rfl, below1 HB1.out⟩
theorem sector_ok (S P B b0 b1 s0 s1 n slot i : Int) (h : right S P B b0 b1 s0 s1 n) (hs : slot = 0 ∨ slot = 1) (hi : 0 ≤ i ∧ i < n) (w : World) : Calls Try.prog 36 #[.agg (pl S P B b0 b1 s0 s1 n), .int .i64 slot, .int .i64 i] w fun e w' => e = .returned (.tuple #[.int .i64 (sl slot s0 s1 + i), .int .i64 0]) ∧ Below w.heap.size w w' := by
  have hfn := right_any S P B b0 b1 s0 s1 n slot i n
  have hw : wrong S P B b0 b1 s0 s1 n slot i n = 0 := by unfold wrong; rw [if_neg (by simp [h]; omega), if_neg (by omega)]
  rw [hw] at hfn
  have hb0 := slot_bounds h (.inl rfl)
  have hb1 := slot_bounds h (.inr rfl)
  unfold pl at hfn ⊢
  have HF := Aside0.mk hfn
  clear hfn h hw
  obtain ⟨hi0, hi1⟩ := hi
  rcases hs with rfl | rfl
  · have HV : Aside0 (sl 0 s0 s1 = s0) := ⟨rfl⟩
    obtain ⟨p1, p2, _, _, _, _, _, _, _, p3, p4, _⟩ := hb0
    clear hb1
    go_enter Try.func36, Try.ntmps36
    go_wp2_with (first | (go_at_call 55; refine (HF.out _).mono ?_; rintro e w1 ⟨rfl, hb1⟩; obtain ⟨hc1, hf1⟩ := bcell hb1; have HB1 := Aside0.mk hb1; clear hb1 hf1))
    go_ret2
    exact ⟨ret_two (by rw [HV.out]) rfl, below1 HB1.out⟩
  · have HV : Aside0 (sl 1 s0 s1 = s1) := ⟨rfl⟩
    obtain ⟨p1, p2, _, _, _, _, _, _, _, p3, p4, _⟩ := hb1
    clear hb0
    go_enter Try.func36, Try.ntmps36
    go_wp2_with (first | (go_at_call 55; refine (HF.out _).mono ?_; rintro e w1 ⟨rfl, hb1⟩; obtain ⟨hc1, hf1⟩ := bcell hb1; have HB1 := Aside0.mk hb1; clear hb1 hf1))
    go_ret2
    exact ⟨ret_two (by rw [HV.out]) rfl, below1 HB1.out⟩
theorem other_any (s : Int) (w : World) : Calls Try.prog 39 #[.int .i64 s] w fun e w' => e = .returned (.int .i64 (if s = 0 then 1 else 0)) ∧ w = w' := by
  by_cases h : s = 0
  · subst h
    rw [if_pos rfl]
    go_enter Try.func39, Try.ntmps39
    go_wp2
    go_ret
    exact ⟨rfl, rfl⟩
  · rw [if_neg h]
    have h' : (s == 0) = false := by simp [h]
    clear h
    go_enter Try.func39, Try.ntmps39
    go_wp2
    go_ret
    exact ⟨rfl, rfl⟩
/-- Behind the two calls at Page's head. -/
theorem page_err (S P B b0 b1 s0 s1 n slot i : Int) (h : wrong S P B b0 b1 s0 s1 n slot i (size S P B b0 b1 s0 s1 n) ≠ 0) (w : World) : Calls Try.prog 33 #[.agg (pl S P B b0 b1 s0 s1 n), .int .i64 slot, .int .i64 i] w fun e w' => e = .returned (.tuple #[.int .i64 0, .int .i64 0, .int .i64 (wrong S P B b0 b1 s0 s1 n slot i (size S P B b0 b1 s0 s1 n))]) ∧ Below w.heap.size w w' := by
  have hne : (wrong S P B b0 b1 s0 s1 n slot i (size S P B b0 b1 s0 s1 n) != 0) = true := by simp [h]
  have HG : Aside0 ((w.alloc (.cells (pl S P B b0 b1 s0 s1 n) 48)).heap[w.heap.size]? = some (.cells (pl S P B b0 b1 s0 s1 n) 48 (0, 0))) := ⟨heap_alloc_new _ _⟩
  clear h
  go_enter Try.func33, Try.ntmps33
  go_wp2
  refine start_ (n := 7) (S := fun w' => w'.heap[w.heap.size]? = some (.cells (pl S P B b0 b1 s0 s1 n) 48 (0, 0)) ∧ Below w.heap.size w w') (ds := []) #[false, false, false, false, false, false, false] (by kernel_rfl) rfl rfl ⟨HG.out, below_drew (below_alloc (Below.refl _ _) _)⟩ (fun hHeld => ?_)
  refine pure_ (i := 1) (N := some 11) (v := ?_) (a' := ?_) #[false, true, false, false, false, false, false] rfl rfl (by kernel_rfl) (fun _ _ _ h => h) (Or.inl ⟨by rfl, ?_⟩) ?_ ?_
  rotate_left
  · intro w'
    go_simp
    with_reducible rfl
  rotate_left
  · simp only [Act.put, List.setIfInBounds_toArray, List.set_cons_zero, List.set_cons_succ, i64_w, i32_w]
    rfl
  refine pure_ (i := 2) (N := some 12) (v := ?_) (a' := ?_) #[false, true, true, false, false, false, false] rfl rfl (by kernel_rfl) (fun _ _ _ h => h) (Or.inl ⟨by rfl, ?_⟩) ?_ ?_
  rotate_left
  · intro w'
    go_simp
    with_reducible rfl
  rotate_left
  · simp only [Act.put, List.setIfInBounds_toArray, List.set_cons_zero, List.set_cons_succ, i64_w, i32_w]
    rfl
  refine take_ (i := 0) (N := some 10) (v := .agg (pl S P B b0 b1 s0 s1 n)) (a' := ?_) #[true, true, true, false, false, false, false] rfl rfl (by kernel_rfl) (fun _ _ _ h => h) (Or.inl ⟨by rfl, ?_⟩) hHeld ?_ ?_
  · rintro w' ⟨s0, s1⟩
    exact Arr.exec_load_row 48 (Operand.tmp 3) (by rfl) w.heap.size (by rfl) _ _ _ _ s0 Try.underlying48 rfl (plSize _ _ _ _ _ _ _ _)
  rotate_left
  · simp only [Act.put, List.setIfInBounds_toArray, List.set_cons_zero, List.set_cons_succ, i64_w, i32_w]
    rfl
  refine take_ (i := 3) (N := some 13) (v := .agg (pl S P B b0 b1 s0 s1 n)) (a' := ?_) #[true, true, true, true, false, false, false] rfl rfl (by kernel_rfl) (fun _ _ _ h => h) (Or.inl ⟨by rfl, ?_⟩) hHeld ?_ ?_
  · rintro w' ⟨s0, s1⟩
    exact Arr.exec_load_row 48 (Operand.tmp 3) (by rfl) w.heap.size (by rfl) _ _ _ _ s0 Try.underlying48 rfl (plSize _ _ _ _ _ _ _ _)
  rotate_left
  · simp only [Act.put, List.setIfInBounds_toArray, List.set_cons_zero, List.set_cons_succ, i64_w, i32_w]
    rfl
  refine one_ (i := 4) (N := some 14) #[true, true, true, true, true, false, false] rfl rfl (by kernel_rfl) (by decide) (fun K hK => ?_)
  refine goes_ Try.func37 (by kernel_rfl) rfl #[.agg (pl S P B b0 b1 s0 s1 n)] (by rfl) rfl rfl (by simp only [List.map_toArray, List.map_cons, List.map_nil]; rfl) ?_
  with_reducible refine (size_any _ _ _ _ _ _ _ _ _).mono ?_
  rintro e w3 ⟨rfl, hb3⟩
  refine ⟨_, rfl, ?_⟩
  refine hK.out _ _ ⟨(show w3.heap[w.heap.size]? = _ from (hb3.block _ (Array.getElem?_eq_some_iff.1 hHeld.1).1).trans hHeld.1), (below_then hHeld.2 hHeld.2.size hb3)⟩ (fun hHeld => ?_)
  clear hK K
  refine norm_ (a' := ?_) ?_ ?_
  rotate_left
  · show Act.put _ (some 14) _ = _
    simp only [Act.put, List.setIfInBounds_toArray, List.set_cons_zero, List.set_cons_succ, i64_w, i32_w]
    rfl
  refine one_ (i := 5) (N := some 15) #[true, true, true, true, true, true, false] rfl rfl (by kernel_rfl) (by decide) (fun K hK => ?_)
  refine goes_ Try.func55 (by kernel_rfl) rfl #[.agg (pl S P B b0 b1 s0 s1 n), .int .i64 slot, .int .i64 i, .int .i64 (size S P B b0 b1 s0 s1 n)] (by rfl) rfl rfl (by simp only [List.map_toArray, List.map_cons, List.map_nil]; rfl) ?_
  with_reducible refine (right_any _ _ _ _ _ _ _ _ _ _ _ _).mono ?_
  rintro e w4 ⟨rfl, hb4⟩
  refine ⟨_, rfl, ?_⟩
  refine hK.out _ _ ⟨(show w4.heap[w.heap.size]? = _ from (hb4.block _ (Array.getElem?_eq_some_iff.1 hHeld.1).1).trans hHeld.1), (below_then hHeld.2 hHeld.2.size hb4)⟩ (fun hHeld => ?_)
  clear hK K
  refine norm_ (a' := ?_) ?_ ?_
  rotate_left
  · show Act.put _ (some 15) _ = _
    simp only [Act.put, List.setIfInBounds_toArray, List.set_cons_zero, List.set_cons_succ, i64_w, i32_w]
    rfl
  refine pure_ (i := 6) (N := some 9) (v := ?_) (a' := ?_) #[true, true, true, true, true, true, true] rfl rfl (by kernel_rfl) (fun _ _ _ h => h) (Or.inl ⟨by rfl, ?_⟩) ?_ ?_
  rotate_left
  · intro w'
    go_simp
    with_reducible rfl
  rotate_left
  · simp only [Act.put, List.setIfInBounds_toArray, List.set_cons_zero, List.set_cons_succ, i64_w, i32_w]
    rfl
  refine done_ (by kernel_rfl) ?_
  have HB := Aside0.mk hHeld.2
  clear hHeld
  go_wp2
  go_ret3
  exact ⟨rfl, HB.out⟩
theorem page_ok (S P B b0 b1 s0 s1 n slot i : Int) (h : right S P B b0 b1 s0 s1 n) (hs : slot = 0 ∨ slot = 1) (hi : 0 ≤ i ∧ i < size S P B b0 b1 s0 s1 n) (w : World) : Calls Try.prog 33 #[.agg (pl S P B b0 b1 s0 s1 n), .int .i64 slot, .int .i64 i] w fun e w' => e = .returned (.tuple #[.int .i64 (sl slot s0 s1 * P + i / B), .int .i64 (i % B), .int .i64 0]) ∧ Below w.heap.size w w' := by
  have hw : wrong S P B b0 b1 s0 s1 n slot i (size S P B b0 b1 s0 s1 n) = 0 := by unfold wrong; rw [if_neg (by simp [h]; omega), if_neg (by omega)]
  have HG : Aside0 ((w.alloc (.cells (pl S P B b0 b1 s0 s1 n) 48)).heap[w.heap.size]? = some (.cells (pl S P B b0 b1 s0 s1 n) 48 (0, 0))) := ⟨heap_alloc_new _ _⟩
  have hsb : sl slot s0 s1 = s0 ∨ sl slot s0 s1 = s1 := by unfold sl; by_cases e : slot = 0 <;> simp [e]
  have hsz : size S P B b0 b1 s0 s1 n ≤ 274877906944 := by
    have hq := size_bounds h
    have e : size S P B b0 b1 s0 s1 n = n * P * B := if_pos h
    omega
  have hb := slot_bounds h hsb
  have HW := Aside0.mk hw
  obtain ⟨v, hv⟩ : ∃ v, sl slot s0 s1 = v := ⟨_, rfl⟩
  have HV := Aside0.mk hv
  rw [hv] at hb ⊢
  obtain ⟨_, _, p1, p2, _, _, p3, p4, p5, _⟩ := hb
  obtain ⟨i0, i1⟩ := hi
  have hi2 : i ≤ 274877906944 := by omega
  have q1 : 0 ≤ i / B := Int.ediv_nonneg i0 (by omega)
  have q2 : i / B ≤ i := Int.ediv_le_self _ i0
  have q3 : 0 ≤ i % B := Int.emod_nonneg _ (by omega)
  have q4 : i % B < B := Int.emod_lt_of_pos _ (by omega)
  have hcase : (slot = 0 ∧ s0 = v) ∨ (slot = 1 ∧ s1 = v) := by
    unfold sl at hv
    rcases hs with rfl | rfl
    · exact .inl ⟨rfl, by simpa using hv⟩
    · exact .inr ⟨rfl, by simpa using hv⟩
  clear hsb hw hv h hs i1 hsz
  go_enter Try.func33, Try.ntmps33
  go_wp2
  refine start_ (n := 7) (S := fun w' => w'.heap[w.heap.size]? = some (.cells (pl S P B b0 b1 s0 s1 n) 48 (0, 0)) ∧ Below w.heap.size w w') (ds := []) #[false, false, false, false, false, false, false] (by kernel_rfl) rfl rfl ⟨HG.out, below_drew (below_alloc (Below.refl _ _) _)⟩ (fun hHeld => ?_)
  refine pure_ (i := 1) (N := some 11) (v := ?_) (a' := ?_) #[false, true, false, false, false, false, false] rfl rfl (by kernel_rfl) (fun _ _ _ h => h) (Or.inl ⟨by rfl, ?_⟩) ?_ ?_
  rotate_left
  · intro w'
    go_simp
    with_reducible rfl
  rotate_left
  · simp only [Act.put, List.setIfInBounds_toArray, List.set_cons_zero, List.set_cons_succ, i64_w, i32_w]
    rfl
  refine pure_ (i := 2) (N := some 12) (v := ?_) (a' := ?_) #[false, true, true, false, false, false, false] rfl rfl (by kernel_rfl) (fun _ _ _ h => h) (Or.inl ⟨by rfl, ?_⟩) ?_ ?_
  rotate_left
  · intro w'
    go_simp
    with_reducible rfl
  rotate_left
  · simp only [Act.put, List.setIfInBounds_toArray, List.set_cons_zero, List.set_cons_succ, i64_w, i32_w]
    rfl
  refine take_ (i := 0) (N := some 10) (v := .agg (pl S P B b0 b1 s0 s1 n)) (a' := ?_) #[true, true, true, false, false, false, false] rfl rfl (by kernel_rfl) (fun _ _ _ h => h) (Or.inl ⟨by rfl, ?_⟩) hHeld ?_ ?_
  · rintro w' ⟨s0, s1⟩
    exact Arr.exec_load_row 48 (Operand.tmp 3) (by rfl) w.heap.size (by rfl) _ _ _ _ ‹_› Try.underlying48 rfl (plSize _ _ _ _ _ _ _ _)
  rotate_left
  · simp only [Act.put, List.setIfInBounds_toArray, List.set_cons_zero, List.set_cons_succ, i64_w, i32_w]
    rfl
  refine take_ (i := 3) (N := some 13) (v := .agg (pl S P B b0 b1 s0 s1 n)) (a' := ?_) #[true, true, true, true, false, false, false] rfl rfl (by kernel_rfl) (fun _ _ _ h => h) (Or.inl ⟨by rfl, ?_⟩) hHeld ?_ ?_
  · rintro w' ⟨s0, s1⟩
    exact Arr.exec_load_row 48 (Operand.tmp 3) (by rfl) w.heap.size (by rfl) _ _ _ _ ‹_› Try.underlying48 rfl (plSize _ _ _ _ _ _ _ _)
  rotate_left
  · simp only [Act.put, List.setIfInBounds_toArray, List.set_cons_zero, List.set_cons_succ, i64_w, i32_w]
    rfl
  refine one_ (i := 4) (N := some 14) #[true, true, true, true, true, false, false] rfl rfl (by kernel_rfl) (by decide) (fun K hK => ?_)
  refine goes_ Try.func37 (by kernel_rfl) rfl #[.agg (pl S P B b0 b1 s0 s1 n)] (by rfl) rfl rfl (by simp only [List.map_toArray, List.map_cons, List.map_nil]; rfl) ?_
  with_reducible refine (size_any _ _ _ _ _ _ _ _ _).mono ?_
  rintro e w3 ⟨rfl, hb3⟩
  refine ⟨_, rfl, ?_⟩
  refine hK.out _ _ ⟨(show w3.heap[w.heap.size]? = _ from (hb3.block _ (Array.getElem?_eq_some_iff.1 hHeld.1).1).trans hHeld.1), (below_then hHeld.2 hHeld.2.size hb3)⟩ (fun hHeld => ?_)
  clear hK K
  refine norm_ (a' := ?_) ?_ ?_
  rotate_left
  · show Act.put _ (some 14) _ = _
    simp only [Act.put, List.setIfInBounds_toArray, List.set_cons_zero, List.set_cons_succ, i64_w, i32_w]
    rfl
  refine one_ (i := 5) (N := some 15) #[true, true, true, true, true, true, false] rfl rfl (by kernel_rfl) (by decide) (fun K hK => ?_)
  refine goes_ Try.func55 (by kernel_rfl) rfl #[.agg (pl S P B b0 b1 s0 s1 n), .int .i64 slot, .int .i64 i, .int .i64 (size S P B b0 b1 s0 s1 n)] (by rfl) rfl rfl (by simp only [List.map_toArray, List.map_cons, List.map_nil]; rfl) ?_
  with_reducible refine (right_any _ _ _ _ _ _ _ _ _ _ _ _).mono ?_
  rintro e w4 ⟨rfl, hb4⟩
  refine ⟨_, rfl, ?_⟩
  refine hK.out _ _ ⟨(show w4.heap[w.heap.size]? = _ from (hb4.block _ (Array.getElem?_eq_some_iff.1 hHeld.1).1).trans hHeld.1), (below_then hHeld.2 hHeld.2.size hb4)⟩ (fun hHeld => ?_)
  clear hK K
  refine norm_ (a' := ?_) ?_ ?_
  rotate_left
  · show Act.put _ (some 15) _ = _
    simp only [Act.put, List.setIfInBounds_toArray, List.set_cons_zero, List.set_cons_succ, i64_w, i32_w]
    rfl
  refine pure_ (i := 6) (N := some 9) (v := ?_) (a' := ?_) #[true, true, true, true, true, true, true] rfl rfl (by kernel_rfl) (fun _ _ _ h => h) (Or.inl ⟨by rfl, ?_⟩) ?_ ?_
  rotate_left
  · intro w'
    go_simp
    with_reducible rfl
  rotate_left
  · simp only [Act.put, List.setIfInBounds_toArray, List.set_cons_zero, List.set_cons_succ, i64_w, i32_w]
    rfl
  refine done_ (by kernel_rfl) ?_
  have HB := Aside0.mk hHeld.2
  have hcl : ∀ o, w4.cell? ⟨w.heap.size, o, none⟩ = (pl S P B b0 b1 s0 s1 n)[o]? := fun o => cell_of_row _ _ _ _ _ _ hHeld.1
  have h1 := hcl 1
  have h2 := hcl 2
  have h5 := hcl 5
  have h6 := hcl 6
  clear hHeld hb3 hb4 hcl
  rw [HW.out]
  rcases hcase with ⟨rfl, rfl⟩ | ⟨rfl, rfl⟩
  all_goals
    simp only [pl] at h1 h2 h5 h6
    go_wp2
    go_quiet (fail)
    go_wp2
    go_ret3
    exact ⟨rfl, pw_below_drewN HB.out _⟩
end Go.Proofs.Ytgadcnlcldjhpaa.Part
