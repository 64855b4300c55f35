/- The walks of the laws on flash: FlashChecks. -/
import Derived.Test.YtepmgkmbmejkjaaFl8
import Derived.Test.YtepmgkmbmejkjaaArr
set_option linter.unusedVariables false
set_option linter.unusedSimpArgs false
namespace Go.Proofs.Ytepmgkmbmejkjaa
open Go.RowKit Go.Proofs.YtepmgkmbmejkjaaW.PrintWords Go.Proofs.YtepmgkmbmejkjaaW.PrintLast Go.Proofs.YtepmgkmbmejkjaaW.PrintMore
namespace Fl
theorem geoSize (a b c : Value) : (Try.prog.info? 23).map (·.size) = some (#[a, b, c] : Array Value).size := by kernel_rfl
theorem geo_of {w : World} {cs0 : Array Value} {x0 : Int × Int × Int} (r0 : ∃ c00 c01, cs0.toList = c00 ++ c01 ∧ ((Kd.int .i64).K w x0.1 c00 ∧ (fun n : Int => (Lit.int .i64 n).wf = true) x0.1) ∧ (∃ c10 c11, c01 = c10 ++ c11 ∧ ((Kd.int .i64).K w x0.2.1 c10 ∧ (fun n : Int => (Lit.int .i64 n).wf = true) x0.2.1) ∧ ((Kd.int .i64).K w x0.2.2 c11 ∧ (fun n : Int => (Lit.int .i64 n).wf = true) x0.2.2))) :
    ∃ S P B, cs0 = #[.int .i64 S, .int .i64 P, .int .i64 B] := by
  obtain ⟨c00, c01, h, ⟨h1, -⟩, c10, c11, h2, ⟨h3, -⟩, ⟨h4, -⟩⟩ := r0
  refine ⟨x0.1, x0.2.1, x0.2.2, Array.toList_inj.1 ?_⟩
  rw [h, h2, show c00 = _ from h1, show c10 = _ from h3, show c11 = _ from h4]
  rfl
end Fl
namespace FlashChecks
set_option maxHeartbeats 2000000 in
theorem walk (w : World) (cs0 : Array Value) (x0 : Int × Int × Int) (r0 : ∃ c00 c01, cs0.toList = c00 ++ c01 ∧ ((Kd.int .i64).K w x0.1 c00 ∧ (fun n : Int => (Lit.int .i64 n).wf = true) x0.1) ∧ (∃ c10 c11, c01 = c10 ++ c11 ∧ ((Kd.int .i64).K w x0.2.1 c10 ∧ (fun n : Int => (Lit.int .i64 n).wf = true) x0.2.1) ∧ ((Kd.int .i64).K w x0.2.2 c11 ∧ (fun n : Int => (Lit.int .i64 n).wf = true) x0.2.2))) :
    Calls Try.prog 3 #[.agg cs0] w fun e w' => e = .returned (.bool true) ∧ Below w.heap.size w w' := by
  obtain ⟨S, P, B, rfl⟩ := Fl.geo_of r0
  clear r0
  have hal : Below w.heap.size w (w.alloc (.cells #[.int .i64 S, .int .i64 P, .int .i64 B] 23)) := below_alloc (Below.refl _ _) _
  have hX : (w.alloc (.cells #[.int .i64 S, .int .i64 P, .int .i64 B] 23)).heap[w.heap.size]? = some (.cells #[.int .i64 S, .int .i64 P, .int .i64 B] 23 (0, 0)) := heap_alloc_new w _
  obtain ⟨W, hW⟩ : ∃ W, W = w.alloc (.cells #[.int .i64 S, .int .i64 P, .int .i64 B] 23) := ⟨_, rfl⟩
  obtain ⟨q, hq⟩ : ∃ q, q = Fl.chk S P B := ⟨_, rfl⟩
  have hc1 : ∀ w', Calls Try.prog 12 #[.agg #[.int .i64 S, .int .i64 P, .int .i64 B]] w' fun e w'' => e = .returned (.int .i64 q) ∧ Below w'.heap.size w' w'' := by rw [hq]; exact Fl.check_any S P B
  have hc2 : ∀ w', Calls Try.prog 13 #[.agg #[.int .i64 S, .int .i64 P, .int .i64 B]] w' fun e w'' => e = .returned (.int .i64 q) ∧ Below w'.heap.size w' w'' := by rw [hq]; exact Fl.rcheck_any S P B
  have Kal : Aside0 (Below w.heap.size w W) := ⟨by rw [hW]; exact hal⟩
  rw [← hW] at hX
  have KX := Aside0.mk hX
  have K1 := Aside0.mk hc1
  have K2 := Aside0.mk hc2
  obtain ⟨g, hg⟩ : ∃ g, g = w.heap.size := ⟨_, rfl⟩
  rw [← hg] at KX
  clear hal hX hq hc1 hc2
  go_enter Try.func3, Try.ntmps3
  go_wp2
  rw [← hW, ← hg]
  have Kg := Aside0.mk hg
  clear hW hg
  refine start_ (n := 10) (S := fun w' => w'.heap[g]? = some (.cells #[.int .i64 S, .int .i64 P, .int .i64 B] 23 (0, 0)) ∧ Below w.heap.size w w') (ds := []) #[false, false, false, false, false, false, false, false, false, false] (by kernel_rfl) rfl rfl ⟨KX.out, (Kal.out.drew)⟩ (fun hHeld => ?_)
  refine take_ (i := 0) (N := some 3) (v := .agg #[.int .i64 S, .int .i64 P, .int .i64 B]) (a' := ?_) #[true, false, false, false, false, false, false, false, false, false] rfl rfl (by kernel_rfl) (fun _ _ _ h => h) (Or.inl ⟨by rfl, ?_⟩) hHeld ?_ ?_
  · rintro w' ⟨s0, s1⟩
    exact Arr.exec_load_row 23 (Operand.tmp 1) (by rfl) g (by rfl) _ _ _ _ s0 Try.underlying23 rfl (Fl.geoSize _ _ _)
  rotate_left
  · simp only [Act.put, List.setIfInBounds_toArray, List.set_cons_zero, List.set_cons_succ, i64_w, i32_w]
    rfl
  refine take_ (i := 3) (N := some 6) (v := .agg #[.int .i64 S, .int .i64 P, .int .i64 B]) (a' := ?_) #[true, false, false, true, false, false, false, false, false, false] rfl rfl (by kernel_rfl) (fun _ _ _ h => h) (Or.inl ⟨by rfl, ?_⟩) hHeld ?_ ?_
  · rintro w' ⟨s0, s1⟩
    exact Arr.exec_load_row 23 (Operand.tmp 1) (by rfl) g (by rfl) _ _ _ _ s0 Try.underlying23 rfl (Fl.geoSize _ _ _)
  rotate_left
  · simp only [Act.put, List.setIfInBounds_toArray, List.set_cons_zero, List.set_cons_succ, i64_w, i32_w]
    rfl
  refine one_ (i := 1) (N := some 4) #[true, true, false, true, false, false, false, false, false, false] rfl rfl (by kernel_rfl) (by decide) (fun K hK => ?_)
  refine goes_ Try.func12 (by kernel_rfl) rfl #[.agg #[.int .i64 S, .int .i64 P, .int .i64 B]] (by rfl) rfl rfl (by simp only [List.map_toArray, List.map_cons, List.map_nil]; rfl) ?_
  with_reducible refine (K1.out _).mono ?_
  rintro e w3 ⟨rfl, hb3⟩
  refine ⟨_, rfl, ?_⟩
  refine hK.out _ _ ⟨(blk_below hHeld.1 hb3), (below_then hHeld.2 hHeld.2.size hb3)⟩ (fun hHeld => ?_)
  clear hK K
  refine norm_ (a' := ?_) ?_ ?_
  rotate_left
  · show Act.put _ (some 4) _ = _
    simp only [Act.put, List.setIfInBounds_toArray, List.set_cons_zero, List.set_cons_succ, i64_w, i32_w]
    rfl
  refine one_ (i := 2) (N := some 5) #[true, true, true, true, false, false, false, false, false, false] rfl rfl (by kernel_rfl) (by decide) (fun K hK => ?_)
  refine goes_ Try.func11 (by kernel_rfl) rfl #[.int .i64 q] (by rfl) rfl rfl (by simp only [List.map_toArray, List.map_cons, List.map_nil]; rfl) ?_
  with_reducible refine (Fl.num_any q _).mono ?_
  rintro e w4 ⟨rfl, rfl⟩
  refine ⟨_, rfl, ?_⟩
  refine hK.out _ _ ⟨hHeld.1, hHeld.2⟩ (fun hHeld => ?_)
  clear hK K
  refine norm_ (a' := ?_) ?_ ?_
  rotate_left
  · show Act.put _ (some 5) _ = _
    simp only [Act.put, List.setIfInBounds_toArray, List.set_cons_zero, List.set_cons_succ, i64_w, i32_w]
    rfl
  refine one_ (i := 4) (N := some 7) #[true, true, true, true, true, false, false, false, false, false] rfl rfl (by kernel_rfl) (by decide) (fun K hK => ?_)
  refine goes_ Try.func13 (by kernel_rfl) rfl #[.agg #[.int .i64 S, .int .i64 P, .int .i64 B]] (by rfl) rfl rfl (by simp only [List.map_toArray, List.map_cons, List.map_nil]; rfl) ?_
  with_reducible refine (K2.out _).mono ?_
  rintro e w5 ⟨rfl, hb5⟩
  refine ⟨_, rfl, ?_⟩
  refine hK.out _ _ ⟨(blk_below hHeld.1 hb5), (below_then hHeld.2 hHeld.2.size hb5)⟩ (fun hHeld => ?_)
  clear hK K
  refine norm_ (a' := ?_) ?_ ?_
  rotate_left
  · show Act.put _ (some 7) _ = _
    simp only [Act.put, List.setIfInBounds_toArray, List.set_cons_zero, List.set_cons_succ, i64_w, i32_w]
    rfl
  refine pure_ (i := 5) (N := some 8) (v := ?_) (a' := ?_) #[true, true, true, true, true, true, false, false, false, false] rfl rfl (by kernel_rfl) (fun _ _ _ h => h) (Or.inl ⟨by rfl, ?_⟩) ?_ ?_
  rotate_left
  · intro w'
    go_simp
    with_reducible rfl
  rotate_left
  · simp only [Act.put, List.setIfInBounds_toArray, List.set_cons_zero, List.set_cons_succ, i64_w, i32_w]
    rfl
  refine pure_ (i := 6) (N := some 9) (v := ?_) (a' := ?_) #[true, true, true, true, true, true, true, false, false, false] rfl rfl (by kernel_rfl) (fun _ _ _ h => h) (Or.inl ⟨by rfl, ?_⟩) ?_ ?_
  rotate_left
  · intro w'
    go_simp
    with_reducible rfl
  rotate_left
  · simp only [Act.put, List.setIfInBounds_toArray, List.set_cons_zero, List.set_cons_succ, i64_w, i32_w]
    rfl
  refine one_ (i := 7) (N := some 10) #[true, true, true, true, true, true, true, true, false, false] rfl rfl (by kernel_rfl) (by decide) (fun K hK => ?_)
  refine goes_ Try.func14 (by kernel_rfl) rfl #[] (by rfl) rfl rfl (by simp) ?_
  with_reducible refine (Fl.live_any _).mono ?_
  rintro e w6 ⟨rfl, hb6⟩
  refine ⟨_, rfl, ?_⟩
  refine hK.out _ _ ⟨(blk_below hHeld.1 hb6), (below_then hHeld.2 hHeld.2.size hb6)⟩ (fun hHeld => ?_)
  clear hK K
  refine norm_ (a' := ?_) ?_ ?_
  rotate_left
  · show Act.put _ (some 10) _ = _
    simp only [Act.put, List.setIfInBounds_toArray, List.set_cons_zero, List.set_cons_succ, i64_w, i32_w]
    rfl
  refine pure_ (i := 8) (N := some 11) (v := ?_) (a' := ?_) #[true, true, true, true, true, true, true, true, true, false] rfl rfl (by kernel_rfl) (fun _ _ _ h => h) (Or.inl ⟨by rfl, ?_⟩) ?_ ?_
  rotate_left
  · intro w'
    go_simp
    with_reducible rfl
  rotate_left
  · simp only [Act.put, List.setIfInBounds_toArray, List.set_cons_zero, List.set_cons_succ, i64_w, i32_w]
    rfl
  refine pure_ (i := 9) (N := some 2) (v := ?_) (a' := ?_) #[true, true, true, true, true, true, true, true, true, true] rfl rfl (by kernel_rfl) (fun _ _ _ h => h) (Or.inl ⟨by rfl, ?_⟩) ?_ ?_
  rotate_left
  · intro w'
    go_simp
    with_reducible rfl
  rotate_left
  · simp only [Act.put, List.setIfInBounds_toArray, List.set_cons_zero, List.set_cons_succ, i64_w, i32_w]
    rfl
  refine done_ (by kernel_rfl) ?_
  go_wp2
  go_ret
  exact ⟨rfl, hHeld.2⟩
end FlashChecks
end Go.Proofs.Ytepmgkmbmejkjaa
