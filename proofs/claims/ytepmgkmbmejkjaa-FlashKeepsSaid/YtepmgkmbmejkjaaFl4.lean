/- A flash memory: made. -/
import Derived.Test.YtepmgkmbmejkjaaFl3
set_option linter.unusedVariables false
set_option linter.unusedSimpArgs false
namespace Go.Proofs.Ytepmgkmbmejkjaa.Fl
open Go.RowKit Go.Proofs.YtepmgkmbmejkjaaW.PrintWords Go.Proofs.YtepmgkmbmejkjaaW.PrintLast Go.Proofs.YtepmgkmbmejkjaaW.PrintMore
section
variable {ops : Array Oper} {o : Oper} {a : Act} {Q : Exit → Act → World → Prop} {Kc : Act → World → Prop} {W : World}
theorem make_step (hw : Region.wanted o (yielded ops a.tmps) = true) (t e : TypeId) (z : Value) (bytes : Nat) (x y : Operand) (ho : o.op = .makeSlice t x y) (m : Nat) (hx : a.eval x = .int .i64 m) (hy : a.eval y = .int .i64 m)
    (ht : Try.prog.underlying t = some (.slice e)) (hinfo : (Try.prog.info? e).map (fun i => (i.zero, i.size, i.bytes)) = some (some z, 1, bytes)) (hz : z.cells = #[z]) (hb0 : 0 < bytes) (hn : m * bytes ≤ 281474976710656)
    (h : ∀ (g : Nat) (w' : World), W.heap.size ≤ g → w'.heap[g]? = some (.cells (List.replicate m z).toArray e (0, 0)) → Aside0 (∀ (k : Nat) (ob : Obj), W.heap[k]? = some ob → w'.heap[k]? = some ob) → Aside0 (Below W.heap.size W w') → Kc (a.put o.dst (.slice (some ⟨g, 0, none⟩) m m)) w') : if Region.wanted o (yielded ops a.tmps) = true then Oper.wp Try.prog o a W Kc Q else Kc (a.put o.dst undef) W := by
  have hr := print_make_of (P := Try.prog) t e z bytes ht hinfo hz hb0 m hn W
  refine event_step (v := .slice (some ⟨W.heap.size, 0, none⟩) m m) (w1 := W.alloc (.cells (madeCells #[z] m) e)) hw ?_ ?_
  · simp [execOp, ho, hx, hy, hr]
  · refine h W.heap.size _ (Nat.le_refl _) ?_ ⟨fun k ob hk => blk_alloc hk _⟩ ⟨below_alloc (Below.refl _ _) _⟩
    rw [heap_alloc_new]
    have hl : madeCells #[z] m = (List.replicate m z).toArray := by
      apply Array.ext'
      apply List.ext_getElem
      · simp [madeCells]
      · intro i h1 h2
        simp [madeCells, Nat.mod_one]
    rw [hl]
end
theorem info8 : (Try.prog.info? 5).map (fun i => (i.zero, i.size, i.bytes)) = some (some (.int .u8 0), 1, 1) := by kernel_rfl
theorem infoB : (Try.prog.info? 4).map (fun i => (i.zero, i.size, i.bytes)) = some (some (.bool false), 1, 1) := by kernel_rfl
theorem infoI : (Try.prog.info? 3).map (fun i => (i.zero, i.size, i.bytes)) = some (some (.int .i64 0), 1, 8) := by kernel_rfl
/-- A new one. -/
def fresh (S P B : Nat) : Fl := ⟨S, P, B, List.replicate (S * P * B) 255, List.replicate (S * P) false, List.replicate S 0, 0, false, false, 0, []⟩
theorem fresh_shape {S P B : Nat} (h : chk S P B = 0) : Shape (fresh S P B) := by
  obtain ⟨⟨h1, h2, h3⟩, h4⟩ := chk_ok h
  refine ⟨by simp only [fresh]; omega, by simp only [fresh]; omega, by simp only [fresh]; omega, ?_, by simp [fresh], by simp [fresh], by simp [fresh]⟩
  have e : ((S * P * B : Nat) : Int) ≤ 16777216 := by simpa using h4
  exact Int.ofNat_le.1 e
theorem splice_all (L : List Int) (x : Int) : splice L 0 (List.replicate L.length x) = List.replicate L.length x := by simp [splice]
set_option maxHeartbeats 4000000 in
set_option maxRecDepth 100000 in
theorem new_ok (w : World) (S P B : Nat) (h : chk S P B = 0) :
    Calls Try.prog 16 #[.agg #[.int .i64 S, .int .i64 P, .int .i64 B]] w fun e w' => ∃ f gb gd gw, e = .returned (.tuple #[.pointer (some ⟨f, 0, none⟩), .int .i64 0]) ∧ FM w' w.heap.size f gb gd gw (.slice none 0 0) (fresh S P B) ∧ Below w.heap.size w w' := by
  have hsh := fresh_shape h
  obtain ⟨⟨a1, a2, a3⟩, a4⟩ := chk_ok h
  obtain ⟨m1, m2, m3, m4⟩ := mul3 ⟨a1, a2, a3⟩
  have hchk := fun w => check_any (S : Int) P B w
  rw [h] at hchk
  obtain ⟨tb, htb⟩ : ∃ tb, tb = w.heap.size := ⟨_, rfl⟩
  obtain ⟨x, hx⟩ : ∃ x : Nat, S * P = x := ⟨_, rfl⟩
  have hxi : (S : Int) * (P : Int) = (x : Int) := by rw [← hx]; simp
  rw [hxi] at m1 m2 m3 m4 a4
  obtain ⟨y, hy⟩ : ∃ y : Nat, x * B = y := ⟨_, rfl⟩
  have hyi : (x : Int) * (B : Int) = (y : Int) := by rw [← hy]; simp
  rw [hyi] at m3 m4 a4
  have hw1 : IntKind.i64.wrap ((S : Int) * (P : Int)) = (x : Int) := by rw [hxi]; exact IntWalk.i64_in _ (by omega)
  have hw2 : IntKind.i64.wrap ((x : Int) * (B : Int)) = (y : Int) := by rw [hyi]; exact IntWalk.i64_in _ (by omega)
  have hal : Below w.heap.size w (w.alloc (.cells #[.int .i64 S, .int .i64 P, .int .i64 B] 23)) := below_alloc (Below.refl _ _) _
  have hbx : (w.alloc (.cells #[.int .i64 S, .int .i64 P, .int .i64 B] 23)).heap[tb]? = some (.cells #[.int .i64 S, .int .i64 P, .int .i64 B] 23 (0, 0)) := by rw [htb]; exact heap_alloc_new w _
  have Ka := Aside0.mk (And.intro hal hbx)
  have Kc := Aside0.mk hchk
  have Kxy := Aside0.mk (And.intro hx hy)
  have Ktb := Aside0.mk htb
  have Ky1 : y ≤ 16777216 := by omega
  have Kx1 : x ≤ 4194304 := by omega
  have KS1 : S ≤ 4096 := by omega
  clear hal hbx hchk hx hy hxi hyi h m1 m2 m3 m4 a1 a2 a3 a4 htb
  go_enter Try.func16, Try.ntmps16
  go_wp2_with (go_at_call 12; refine (Kc.out _).mono ?_; rintro e w1 ⟨rfl, hb1⟩; rw [← Ktb.out]; have KB1 : Aside0 (Below w.heap.size w w1) := ⟨below_then Ka.out.1 Ka.out.1.size hb1⟩; have KX1 := Aside0.mk (blk_below Ka.out.2 hb1); clear hb1)
  have hc0 : w1.cell? ⟨tb, 0, none⟩ = some (.int .i64 S) := (cell_of_row _ _ _ _ _ _ KX1.out).trans rfl
  have hc1 : w1.cell? ⟨tb, 1, none⟩ = some (.int .i64 P) := (cell_of_row _ _ _ _ _ _ KX1.out).trans rfl
  have hc2 : w1.cell? ⟨tb, 2, none⟩ = some (.int .i64 B) := (cell_of_row _ _ _ _ _ _ KX1.out).trans rfl
  have hB : Aside0 (Below w.heap.size w w1.drew) := ⟨KB1.out.drew⟩
  refine start_ (n := 22) (S := fun w' => w'.cell? ⟨tb, 0, none⟩ = some (.int .i64 S) ∧ w'.cell? ⟨tb, 1, none⟩ = some (.int .i64 P) ∧ w'.cell? ⟨tb, 2, none⟩ = some (.int .i64 B)) (ds := []) #[false, false, false, false, false, false, false, false, false, false, false, false, false, false, false, false, false, false, false, false, false, false] (by kernel_rfl) rfl rfl ⟨(show w1.cell? _ = _ from hc0), (show w1.cell? _ = _ from hc1), (show w1.cell? _ = _ from hc2)⟩ (fun hHeld => ?_)
  refine pure_ (i := 1) (N := some 12) (v := ?_) (a' := ?_) #[false, true, false, false, false, false, false, false, false, false, false, false, false, false, false, false, false, false, false, false, false, false] rfl rfl (by kernel_rfl) (fun _ _ _ h => h) (Or.inl ⟨by rfl, ?_⟩) ?_ ?_
  rotate_left
  · intro w'
    go_simp
    with_reducible rfl
  rotate_left
  · simp only [Act.put, List.setIfInBounds_toArray, List.set_cons_zero, List.set_cons_succ, i64_w, i32_w]
    rfl
  refine pure_ (i := 3) (N := some 14) (v := ?_) (a' := ?_) #[false, true, false, true, false, false, false, false, false, false, false, false, false, false, false, false, false, false, false, false, false, false] rfl rfl (by kernel_rfl) (fun _ _ _ h => h) (Or.inl ⟨by rfl, ?_⟩) ?_ ?_
  rotate_left
  · intro w'
    go_simp
    with_reducible rfl
  rotate_left
  · simp only [Act.put, List.setIfInBounds_toArray, List.set_cons_zero, List.set_cons_succ, i64_w, i32_w]
    rfl
  refine pure_ (i := 6) (N := some 17) (v := ?_) (a' := ?_) #[false, true, false, true, false, false, true, false, false, false, false, false, false, false, false, false, false, false, false, false, false, false] rfl rfl (by kernel_rfl) (fun _ _ _ h => h) (Or.inl ⟨by rfl, ?_⟩) ?_ ?_
  rotate_left
  · intro w'
    go_simp
    with_reducible rfl
  rotate_left
  · simp only [Act.put, List.setIfInBounds_toArray, List.set_cons_zero, List.set_cons_succ, i64_w, i32_w]
    rfl
  refine pure_ (i := 10) (N := some 21) (v := ?_) (a' := ?_) #[false, true, false, true, false, false, true, false, false, false, true, false, false, false, false, false, false, false, false, false, false, false] rfl rfl (by kernel_rfl) (fun _ _ _ h => h) (Or.inl ⟨by rfl, ?_⟩) ?_ ?_
  rotate_left
  · intro w'
    go_simp
    with_reducible rfl
  rotate_left
  · simp only [Act.put, List.setIfInBounds_toArray, List.set_cons_zero, List.set_cons_succ, i64_w, i32_w]
    rfl
  refine pure_ (i := 12) (N := some 23) (v := ?_) (a' := ?_) #[false, true, false, true, false, false, true, false, false, false, true, false, true, false, false, false, false, false, false, false, false, false] rfl rfl (by kernel_rfl) (fun _ _ _ h => h) (Or.inl ⟨by rfl, ?_⟩) ?_ ?_
  rotate_left
  · intro w'
    go_simp
    with_reducible rfl
  rotate_left
  · simp only [Act.put, List.setIfInBounds_toArray, List.set_cons_zero, List.set_cons_succ, i64_w, i32_w]
    rfl
  refine pure_ (i := 16) (N := some 27) (v := ?_) (a' := ?_) #[false, true, false, true, false, false, true, false, false, false, true, false, true, false, false, false, true, false, false, false, false, false] rfl rfl (by kernel_rfl) (fun _ _ _ h => h) (Or.inl ⟨by rfl, ?_⟩) ?_ ?_
  rotate_left
  · intro w'
    go_simp
    with_reducible rfl
  rotate_left
  · simp only [Act.put, List.setIfInBounds_toArray, List.set_cons_zero, List.set_cons_succ, i64_w, i32_w]
    rfl
  refine take_ (i := 0) (N := some 11) (v := ?_) (a' := ?_) #[true, true, false, true, false, false, true, false, false, false, true, false, true, false, false, false, true, false, false, false, false, false] rfl rfl (by kernel_rfl) (fun _ _ _ h => h) (Or.inl ⟨by rfl, ?_⟩) hHeld ?_ ?_
  rotate_left
  · rintro w' ⟨s0, s1, s2⟩
    go_simp
    with_reducible rfl
  rotate_left
  · simp only [Act.put, List.setIfInBounds_toArray, List.set_cons_zero, List.set_cons_succ, i64_w, i32_w]
    rfl
  refine take_ (i := 2) (N := some 13) (v := ?_) (a' := ?_) #[true, true, true, true, false, false, true, false, false, false, true, false, true, false, false, false, true, false, false, false, false, false] rfl rfl (by kernel_rfl) (fun _ _ _ h => h) (Or.inl ⟨by rfl, ?_⟩) hHeld ?_ ?_
  rotate_left
  · rintro w' ⟨s0, s1, s2⟩
    go_simp
    with_reducible rfl
  rotate_left
  · simp only [Act.put, List.setIfInBounds_toArray, List.set_cons_zero, List.set_cons_succ, i64_w, i32_w]
    rfl
  refine take_ (i := 4) (N := some 15) (v := ?_) (a' := ?_) #[true, true, true, true, true, false, true, false, false, false, true, false, true, false, false, false, true, false, false, false, false, false] rfl rfl (by kernel_rfl) (fun _ _ _ h => h) (Or.inl ⟨by rfl, ?_⟩) hHeld ?_ ?_
  rotate_left
  · rintro w' ⟨s0, s1, s2⟩
    go_simp
    with_reducible rfl
  rotate_left
  · simp only [Act.put, List.setIfInBounds_toArray, List.set_cons_zero, List.set_cons_succ, i64_w, i32_w]
    rfl
  refine pure_ (i := 5) (N := some 16) (v := ?_) (a' := ?_) #[true, true, true, true, true, true, true, false, false, false, true, false, true, false, false, false, true, false, false, false, false, false] rfl rfl (by kernel_rfl) (fun _ _ _ h => h) (Or.inl ⟨by rfl, ?_⟩) ?_ ?_
  rotate_left
  · intro w'
    go_simp
    with_reducible rfl
  rotate_left
  · simp only [Act.put, List.setIfInBounds_toArray, List.set_cons_zero, List.set_cons_succ, i64_w, i32_w]
    rfl
  refine take_ (i := 7) (N := some 18) (v := ?_) (a' := ?_) #[true, true, true, true, true, true, true, true, false, false, true, false, true, false, false, false, true, false, false, false, false, false] rfl rfl (by kernel_rfl) (fun _ _ _ h => h) (Or.inl ⟨by rfl, ?_⟩) hHeld ?_ ?_
  rotate_left
  · rintro w' ⟨s0, s1, s2⟩
    go_simp
    with_reducible rfl
  rotate_left
  · simp only [Act.put, List.setIfInBounds_toArray, List.set_cons_zero, List.set_cons_succ, i64_w, i32_w]
    rfl
  refine pure_ (i := 8) (N := some 19) (v := ?_) (a' := ?_) #[true, true, true, true, true, true, true, true, true, false, true, false, true, false, false, false, true, false, false, false, false, false] rfl rfl (by kernel_rfl) (fun _ _ _ h => h) (Or.inl ⟨by rfl, ?_⟩) ?_ ?_
  rotate_left
  · intro w'
    go_simp
    with_reducible rfl
  rotate_left
  · simp only [Act.put, List.setIfInBounds_toArray, List.set_cons_zero, List.set_cons_succ, i64_w, i32_w]
    rfl
  refine take_ (i := 11) (N := some 22) (v := ?_) (a' := ?_) #[true, true, true, true, true, true, true, true, true, false, true, true, true, false, false, false, true, false, false, false, false, false] rfl rfl (by kernel_rfl) (fun _ _ _ h => h) (Or.inl ⟨by rfl, ?_⟩) hHeld ?_ ?_
  rotate_left
  · rintro w' ⟨s0, s1, s2⟩
    go_simp
    with_reducible rfl
  rotate_left
  · simp only [Act.put, List.setIfInBounds_toArray, List.set_cons_zero, List.set_cons_succ, i64_w, i32_w]
    rfl
  refine take_ (i := 13) (N := some 24) (v := ?_) (a' := ?_) #[true, true, true, true, true, true, true, true, true, false, true, true, true, true, false, false, true, false, false, false, false, false] rfl rfl (by kernel_rfl) (fun _ _ _ h => h) (Or.inl ⟨by rfl, ?_⟩) hHeld ?_ ?_
  rotate_left
  · rintro w' ⟨s0, s1, s2⟩
    go_simp
    with_reducible rfl
  rotate_left
  · simp only [Act.put, List.setIfInBounds_toArray, List.set_cons_zero, List.set_cons_succ, i64_w, i32_w]
    rfl
  refine pure_ (i := 14) (N := some 25) (v := ?_) (a' := ?_) #[true, true, true, true, true, true, true, true, true, false, true, true, true, true, true, false, true, false, false, false, false, false] rfl rfl (by kernel_rfl) (fun _ _ _ h => h) (Or.inl ⟨by rfl, ?_⟩) ?_ ?_
  rotate_left
  · intro w'
    go_simp
    with_reducible rfl
  rotate_left
  · simp only [Act.put, List.setIfInBounds_toArray, List.set_cons_zero, List.set_cons_succ, i64_w, i32_w]
    rfl
  refine take_ (i := 17) (N := some 28) (v := ?_) (a' := ?_) #[true, true, true, true, true, true, true, true, true, false, true, true, true, true, true, false, true, true, false, false, false, false] rfl rfl (by kernel_rfl) (fun _ _ _ h => h) (Or.inl ⟨by rfl, ?_⟩) hHeld ?_ ?_
  rotate_left
  · rintro w' ⟨s0, s1, s2⟩
    go_simp
    with_reducible rfl
  rotate_left
  · simp only [Act.put, List.setIfInBounds_toArray, List.set_cons_zero, List.set_cons_succ, i64_w, i32_w]
    rfl
  refine join_ (σ := Nat × Nat × Nat) 3 #[true, true, true, true, true, true, true, true, true, true, true, true, true, true, true, true, true, true, true, false, false, false] (fun s => [(20, .slice (some ⟨s.1, 0, none⟩) y y), (26, .slice (some ⟨s.2.1, 0, none⟩) x x), (29, .slice (some ⟨s.2.2, 0, none⟩) S S)]) (fun s w' => w'.heap[s.1]? = some (.cells (List.replicate y (Value.int .u8 0)).toArray 5 (0, 0)) ∧ w'.heap[s.2.1]? = some (.cells (List.replicate x (Value.bool false)).toArray 4 (0, 0)) ∧ w'.heap[s.2.2]? = some (.cells (List.replicate S (Value.int .i64 0)).toArray 3 (0, 0)) ∧ Aside0 (Below w.heap.size w w') ∧ (w'.cell? ⟨tb, 0, none⟩ = some (.int .i64 S) ∧ w'.cell? ⟨tb, 1, none⟩ = some (.int .i64 P) ∧ w'.cell? ⟨tb, 2, none⟩ = some (.int .i64 B)) ∧ w.heap.size ≤ s.1 ∧ w.heap.size ≤ s.2.1 ∧ w.heap.size ≤ s.2.2) ?_ ?_
  rotate_left
  · intro hCont
    refine three_ (i := 9) (j := 15) (k := 18) (Ni := some 20) (Nj := some 26) (Nk := some 29) #[true, true, true, true, true, true, true, true, true, true, true, true, true, true, true, false, true, true, false, false, false, false] #[true, true, true, true, true, true, true, true, true, false, true, true, true, true, true, true, true, true, false, false, false, false] #[true, true, true, true, true, true, true, true, true, false, true, true, true, true, true, false, true, true, true, false, false, false] rfl rfl rfl rfl rfl rfl (by kernel_rfl) (by decide) (by decide) (by decide) (fun K hK => ?_) (fun K hK => ?_) (fun K hK => ?_)
    · skip
      refine make_step (by rfl) 30 5 (.int .u8 0) 1 (.tmp 19) (.tmp 19) rfl y rfl rfl Try.underlying30 info8 rfl (by decide) (by omega) ?_
      intro g9 w9 hz9 hs9 hk9' hb9
      have hg9 := Nat.le_trans hB.out.size hz9
      have hk9 := hk9'.out
      replace hB : Aside0 (Below w.heap.size w w9) := ⟨below_then hB.out hB.out.size hb9.out⟩
      refine hK.out _ _ ⟨pw_cell_below hb9.out hHeld.1, pw_cell_below hb9.out hHeld.2.1, pw_cell_below hb9.out hHeld.2.2⟩ (fun hHeld => ?_)
      clear hK K
      refine norm_ (a' := ?_) ?_ ?_
      rotate_left
      · show Act.put _ (some 20) _ = _
        simp only [Act.put, List.setIfInBounds_toArray, List.set_cons_zero, List.set_cons_succ, i64_w, i32_w]
        rfl
      refine two_ (i := 15) (j := 18) (Ni := some 26) (Nj := some 29) #[true, true, true, true, true, true, true, true, true, true, true, true, true, true, true, true, true, true, false, false, false, false] #[true, true, true, true, true, true, true, true, true, true, true, true, true, true, true, false, true, true, true, false, false, false] rfl rfl rfl rfl (by kernel_rfl) (by decide) (by decide) (fun K hK => ?_) (fun K hK => ?_)
      · skip
        refine make_step (by rfl) 48 4 (.bool false) 1 (.tmp 25) (.tmp 25) rfl x rfl rfl Try.underlying48 infoB rfl (by decide) (by omega) ?_
        intro g15 w15 hz15 hs15 hk15' hb15
        have hg15 := Nat.le_trans hB.out.size hz15
        have hk15 := hk15'.out
        replace hB : Aside0 (Below w.heap.size w w15) := ⟨below_then hB.out hB.out.size hb15.out⟩
        replace hs9 := hk15 _ _ hs9
        refine hK.out _ _ ⟨pw_cell_below hb15.out hHeld.1, pw_cell_below hb15.out hHeld.2.1, pw_cell_below hb15.out hHeld.2.2⟩ (fun hHeld => ?_)
        clear hK K
        refine norm_ (a' := ?_) ?_ ?_
        rotate_left
        · show Act.put _ (some 26) _ = _
          simp only [Act.put, List.setIfInBounds_toArray, List.set_cons_zero, List.set_cons_succ, i64_w, i32_w]
          rfl
        refine one_ (i := 18) (N := some 29) #[true, true, true, true, true, true, true, true, true, true, true, true, true, true, true, true, true, true, true, false, false, false] rfl rfl (by kernel_rfl) (by decide) (fun K hK => ?_)
        refine make_step (by rfl) 49 3 (.int .i64 0) 8 (.tmp 28) (.tmp 28) rfl S rfl rfl Try.underlying49 infoI rfl (by decide) (by omega) ?_
        intro g18 w18 hz18 hs18 hk18' hb18
        have hg18 := Nat.le_trans hB.out.size hz18
        have hk18 := hk18'.out
        replace hB : Aside0 (Below w.heap.size w w18) := ⟨below_then hB.out hB.out.size hb18.out⟩
        replace hs9 := hk18 _ _ hs9
        replace hs15 := hk18 _ _ hs15
        refine hK.out _ _ ⟨pw_cell_below hb18.out hHeld.1, pw_cell_below hb18.out hHeld.2.1, pw_cell_below hb18.out hHeld.2.2⟩ (fun hHeld => ?_)
        clear hK K
        refine norm_ (a' := ?_) ?_ ?_
        rotate_left
        · show Act.put _ (some 29) _ = _
          simp only [Act.put, List.setIfInBounds_toArray, List.set_cons_zero, List.set_cons_succ, i64_w, i32_w]
          rfl
        exact norm_ (by simp only [putAll, Act.put, List.setIfInBounds_toArray, List.set_cons_zero, List.set_cons_succ]) (hCont (g9, g15, g18) _ ⟨hs9, hs15, hs18, hB, hHeld, hg9, hg15, hg18⟩)
      · skip
        refine make_step (by rfl) 49 3 (.int .i64 0) 8 (.tmp 28) (.tmp 28) rfl S rfl rfl Try.underlying49 infoI rfl (by decide) (by omega) ?_
        intro g18 w18 hz18 hs18 hk18' hb18
        have hg18 := Nat.le_trans hB.out.size hz18
        have hk18 := hk18'.out
        replace hB : Aside0 (Below w.heap.size w w18) := ⟨below_then hB.out hB.out.size hb18.out⟩
        replace hs9 := hk18 _ _ hs9
        refine hK.out _ _ ⟨pw_cell_below hb18.out hHeld.1, pw_cell_below hb18.out hHeld.2.1, pw_cell_below hb18.out hHeld.2.2⟩ (fun hHeld => ?_)
        clear hK K
        refine norm_ (a' := ?_) ?_ ?_
        rotate_left
        · show Act.put _ (some 29) _ = _
          simp only [Act.put, List.setIfInBounds_toArray, List.set_cons_zero, List.set_cons_succ, i64_w, i32_w]
          rfl
        refine one_ (i := 15) (N := some 26) #[true, true, true, true, true, true, true, true, true, true, true, true, true, true, true, true, true, true, true, false, false, false] rfl rfl (by kernel_rfl) (by decide) (fun K hK => ?_)
        refine make_step (by rfl) 48 4 (.bool false) 1 (.tmp 25) (.tmp 25) rfl x rfl rfl Try.underlying48 infoB rfl (by decide) (by omega) ?_
        intro g15 w15 hz15 hs15 hk15' hb15
        have hg15 := Nat.le_trans hB.out.size hz15
        have hk15 := hk15'.out
        replace hB : Aside0 (Below w.heap.size w w15) := ⟨below_then hB.out hB.out.size hb15.out⟩
        replace hs9 := hk15 _ _ hs9
        replace hs18 := hk15 _ _ hs18
        refine hK.out _ _ ⟨pw_cell_below hb15.out hHeld.1, pw_cell_below hb15.out hHeld.2.1, pw_cell_below hb15.out hHeld.2.2⟩ (fun hHeld => ?_)
        clear hK K
        refine norm_ (a' := ?_) ?_ ?_
        rotate_left
        · show Act.put _ (some 26) _ = _
          simp only [Act.put, List.setIfInBounds_toArray, List.set_cons_zero, List.set_cons_succ, i64_w, i32_w]
          rfl
        exact norm_ (by simp only [putAll, Act.put, List.setIfInBounds_toArray, List.set_cons_zero, List.set_cons_succ]) (hCont (g9, g15, g18) _ ⟨hs9, hs15, hs18, hB, hHeld, hg9, hg15, hg18⟩)
    · skip
      refine make_step (by rfl) 48 4 (.bool false) 1 (.tmp 25) (.tmp 25) rfl x rfl rfl Try.underlying48 infoB rfl (by decide) (by omega) ?_
      intro g15 w15 hz15 hs15 hk15' hb15
      have hg15 := Nat.le_trans hB.out.size hz15
      have hk15 := hk15'.out
      replace hB : Aside0 (Below w.heap.size w w15) := ⟨below_then hB.out hB.out.size hb15.out⟩
      refine hK.out _ _ ⟨pw_cell_below hb15.out hHeld.1, pw_cell_below hb15.out hHeld.2.1, pw_cell_below hb15.out hHeld.2.2⟩ (fun hHeld => ?_)
      clear hK K
      refine norm_ (a' := ?_) ?_ ?_
      rotate_left
      · show Act.put _ (some 26) _ = _
        simp only [Act.put, List.setIfInBounds_toArray, List.set_cons_zero, List.set_cons_succ, i64_w, i32_w]
        rfl
      refine two_ (i := 9) (j := 18) (Ni := some 20) (Nj := some 29) #[true, true, true, true, true, true, true, true, true, true, true, true, true, true, true, true, true, true, false, false, false, false] #[true, true, true, true, true, true, true, true, true, false, true, true, true, true, true, true, true, true, true, false, false, false] rfl rfl rfl rfl (by kernel_rfl) (by decide) (by decide) (fun K hK => ?_) (fun K hK => ?_)
      · skip
        refine make_step (by rfl) 30 5 (.int .u8 0) 1 (.tmp 19) (.tmp 19) rfl y rfl rfl Try.underlying30 info8 rfl (by decide) (by omega) ?_
        intro g9 w9 hz9 hs9 hk9' hb9
        have hg9 := Nat.le_trans hB.out.size hz9
        have hk9 := hk9'.out
        replace hB : Aside0 (Below w.heap.size w w9) := ⟨below_then hB.out hB.out.size hb9.out⟩
        replace hs15 := hk9 _ _ hs15
        refine hK.out _ _ ⟨pw_cell_below hb9.out hHeld.1, pw_cell_below hb9.out hHeld.2.1, pw_cell_below hb9.out hHeld.2.2⟩ (fun hHeld => ?_)
        clear hK K
        refine norm_ (a' := ?_) ?_ ?_
        rotate_left
        · show Act.put _ (some 20) _ = _
          simp only [Act.put, List.setIfInBounds_toArray, List.set_cons_zero, List.set_cons_succ, i64_w, i32_w]
          rfl
        refine one_ (i := 18) (N := some 29) #[true, true, true, true, true, true, true, true, true, true, true, true, true, true, true, true, true, true, true, false, false, false] rfl rfl (by kernel_rfl) (by decide) (fun K hK => ?_)
        refine make_step (by rfl) 49 3 (.int .i64 0) 8 (.tmp 28) (.tmp 28) rfl S rfl rfl Try.underlying49 infoI rfl (by decide) (by omega) ?_
        intro g18 w18 hz18 hs18 hk18' hb18
        have hg18 := Nat.le_trans hB.out.size hz18
        have hk18 := hk18'.out
        replace hB : Aside0 (Below w.heap.size w w18) := ⟨below_then hB.out hB.out.size hb18.out⟩
        replace hs15 := hk18 _ _ hs15
        replace hs9 := hk18 _ _ hs9
        refine hK.out _ _ ⟨pw_cell_below hb18.out hHeld.1, pw_cell_below hb18.out hHeld.2.1, pw_cell_below hb18.out hHeld.2.2⟩ (fun hHeld => ?_)
        clear hK K
        refine norm_ (a' := ?_) ?_ ?_
        rotate_left
        · show Act.put _ (some 29) _ = _
          simp only [Act.put, List.setIfInBounds_toArray, List.set_cons_zero, List.set_cons_succ, i64_w, i32_w]
          rfl
        exact norm_ (by simp only [putAll, Act.put, List.setIfInBounds_toArray, List.set_cons_zero, List.set_cons_succ]) (hCont (g9, g15, g18) _ ⟨hs9, hs15, hs18, hB, hHeld, hg9, hg15, hg18⟩)
      · skip
        refine make_step (by rfl) 49 3 (.int .i64 0) 8 (.tmp 28) (.tmp 28) rfl S rfl rfl Try.underlying49 infoI rfl (by decide) (by omega) ?_
        intro g18 w18 hz18 hs18 hk18' hb18
        have hg18 := Nat.le_trans hB.out.size hz18
        have hk18 := hk18'.out
        replace hB : Aside0 (Below w.heap.size w w18) := ⟨below_then hB.out hB.out.size hb18.out⟩
        replace hs15 := hk18 _ _ hs15
        refine hK.out _ _ ⟨pw_cell_below hb18.out hHeld.1, pw_cell_below hb18.out hHeld.2.1, pw_cell_below hb18.out hHeld.2.2⟩ (fun hHeld => ?_)
        clear hK K
        refine norm_ (a' := ?_) ?_ ?_
        rotate_left
        · show Act.put _ (some 29) _ = _
          simp only [Act.put, List.setIfInBounds_toArray, List.set_cons_zero, List.set_cons_succ, i64_w, i32_w]
          rfl
        refine one_ (i := 9) (N := some 20) #[true, true, true, true, true, true, true, true, true, true, true, true, true, true, true, true, true, true, true, false, false, false] rfl rfl (by kernel_rfl) (by decide) (fun K hK => ?_)
        refine make_step (by rfl) 30 5 (.int .u8 0) 1 (.tmp 19) (.tmp 19) rfl y rfl rfl Try.underlying30 info8 rfl (by decide) (by omega) ?_
        intro g9 w9 hz9 hs9 hk9' hb9
        have hg9 := Nat.le_trans hB.out.size hz9
        have hk9 := hk9'.out
        replace hB : Aside0 (Below w.heap.size w w9) := ⟨below_then hB.out hB.out.size hb9.out⟩
        replace hs15 := hk9 _ _ hs15
        replace hs18 := hk9 _ _ hs18
        refine hK.out _ _ ⟨pw_cell_below hb9.out hHeld.1, pw_cell_below hb9.out hHeld.2.1, pw_cell_below hb9.out hHeld.2.2⟩ (fun hHeld => ?_)
        clear hK K
        refine norm_ (a' := ?_) ?_ ?_
        rotate_left
        · show Act.put _ (some 20) _ = _
          simp only [Act.put, List.setIfInBounds_toArray, List.set_cons_zero, List.set_cons_succ, i64_w, i32_w]
          rfl
        exact norm_ (by simp only [putAll, Act.put, List.setIfInBounds_toArray, List.set_cons_zero, List.set_cons_succ]) (hCont (g9, g15, g18) _ ⟨hs9, hs15, hs18, hB, hHeld, hg9, hg15, hg18⟩)
    · skip
      refine make_step (by rfl) 49 3 (.int .i64 0) 8 (.tmp 28) (.tmp 28) rfl S rfl rfl Try.underlying49 infoI rfl (by decide) (by omega) ?_
      intro g18 w18 hz18 hs18 hk18' hb18
      have hg18 := Nat.le_trans hB.out.size hz18
      have hk18 := hk18'.out
      replace hB : Aside0 (Below w.heap.size w w18) := ⟨below_then hB.out hB.out.size hb18.out⟩
      refine hK.out _ _ ⟨pw_cell_below hb18.out hHeld.1, pw_cell_below hb18.out hHeld.2.1, pw_cell_below hb18.out hHeld.2.2⟩ (fun hHeld => ?_)
      clear hK K
      refine norm_ (a' := ?_) ?_ ?_
      rotate_left
      · show Act.put _ (some 29) _ = _
        simp only [Act.put, List.setIfInBounds_toArray, List.set_cons_zero, List.set_cons_succ, i64_w, i32_w]
        rfl
      refine two_ (i := 9) (j := 15) (Ni := some 20) (Nj := some 26) #[true, true, true, true, true, true, true, true, true, true, true, true, true, true, true, false, true, true, true, false, false, false] #[true, true, true, true, true, true, true, true, true, false, true, true, true, true, true, true, true, true, true, false, false, false] rfl rfl rfl rfl (by kernel_rfl) (by decide) (by decide) (fun K hK => ?_) (fun K hK => ?_)
      · skip
        refine make_step (by rfl) 30 5 (.int .u8 0) 1 (.tmp 19) (.tmp 19) rfl y rfl rfl Try.underlying30 info8 rfl (by decide) (by omega) ?_
        intro g9 w9 hz9 hs9 hk9' hb9
        have hg9 := Nat.le_trans hB.out.size hz9
        have hk9 := hk9'.out
        replace hB : Aside0 (Below w.heap.size w w9) := ⟨below_then hB.out hB.out.size hb9.out⟩
        replace hs18 := hk9 _ _ hs18
        refine hK.out _ _ ⟨pw_cell_below hb9.out hHeld.1, pw_cell_below hb9.out hHeld.2.1, pw_cell_below hb9.out hHeld.2.2⟩ (fun hHeld => ?_)
        clear hK K
        refine norm_ (a' := ?_) ?_ ?_
        rotate_left
        · show Act.put _ (some 20) _ = _
          simp only [Act.put, List.setIfInBounds_toArray, List.set_cons_zero, List.set_cons_succ, i64_w, i32_w]
          rfl
        refine one_ (i := 15) (N := some 26) #[true, true, true, true, true, true, true, true, true, true, true, true, true, true, true, true, true, true, true, false, false, false] rfl rfl (by kernel_rfl) (by decide) (fun K hK => ?_)
        refine make_step (by rfl) 48 4 (.bool false) 1 (.tmp 25) (.tmp 25) rfl x rfl rfl Try.underlying48 infoB rfl (by decide) (by omega) ?_
        intro g15 w15 hz15 hs15 hk15' hb15
        have hg15 := Nat.le_trans hB.out.size hz15
        have hk15 := hk15'.out
        replace hB : Aside0 (Below w.heap.size w w15) := ⟨below_then hB.out hB.out.size hb15.out⟩
        replace hs18 := hk15 _ _ hs18
        replace hs9 := hk15 _ _ hs9
        refine hK.out _ _ ⟨pw_cell_below hb15.out hHeld.1, pw_cell_below hb15.out hHeld.2.1, pw_cell_below hb15.out hHeld.2.2⟩ (fun hHeld => ?_)
        clear hK K
        refine norm_ (a' := ?_) ?_ ?_
        rotate_left
        · show Act.put _ (some 26) _ = _
          simp only [Act.put, List.setIfInBounds_toArray, List.set_cons_zero, List.set_cons_succ, i64_w, i32_w]
          rfl
        exact norm_ (by simp only [putAll, Act.put, List.setIfInBounds_toArray, List.set_cons_zero, List.set_cons_succ]) (hCont (g9, g15, g18) _ ⟨hs9, hs15, hs18, hB, hHeld, hg9, hg15, hg18⟩)
      · skip
        refine make_step (by rfl) 48 4 (.bool false) 1 (.tmp 25) (.tmp 25) rfl x rfl rfl Try.underlying48 infoB rfl (by decide) (by omega) ?_
        intro g15 w15 hz15 hs15 hk15' hb15
        have hg15 := Nat.le_trans hB.out.size hz15
        have hk15 := hk15'.out
        replace hB : Aside0 (Below w.heap.size w w15) := ⟨below_then hB.out hB.out.size hb15.out⟩
        replace hs18 := hk15 _ _ hs18
        refine hK.out _ _ ⟨pw_cell_below hb15.out hHeld.1, pw_cell_below hb15.out hHeld.2.1, pw_cell_below hb15.out hHeld.2.2⟩ (fun hHeld => ?_)
        clear hK K
        refine norm_ (a' := ?_) ?_ ?_
        rotate_left
        · show Act.put _ (some 26) _ = _
          simp only [Act.put, List.setIfInBounds_toArray, List.set_cons_zero, List.set_cons_succ, i64_w, i32_w]
          rfl
        refine one_ (i := 9) (N := some 20) #[true, true, true, true, true, true, true, true, true, true, true, true, true, true, true, true, true, true, true, false, false, false] rfl rfl (by kernel_rfl) (by decide) (fun K hK => ?_)
        refine make_step (by rfl) 30 5 (.int .u8 0) 1 (.tmp 19) (.tmp 19) rfl y rfl rfl Try.underlying30 info8 rfl (by decide) (by omega) ?_
        intro g9 w9 hz9 hs9 hk9' hb9
        have hg9 := Nat.le_trans hB.out.size hz9
        have hk9 := hk9'.out
        replace hB : Aside0 (Below w.heap.size w w9) := ⟨below_then hB.out hB.out.size hb9.out⟩
        replace hs18 := hk9 _ _ hs18
        replace hs15 := hk9 _ _ hs15
        refine hK.out _ _ ⟨pw_cell_below hb9.out hHeld.1, pw_cell_below hb9.out hHeld.2.1, pw_cell_below hb9.out hHeld.2.2⟩ (fun hHeld => ?_)
        clear hK K
        refine norm_ (a' := ?_) ?_ ?_
        rotate_left
        · show Act.put _ (some 20) _ = _
          simp only [Act.put, List.setIfInBounds_toArray, List.set_cons_zero, List.set_cons_succ, i64_w, i32_w]
          rfl
        exact norm_ (by simp only [putAll, Act.put, List.setIfInBounds_toArray, List.set_cons_zero, List.set_cons_succ]) (hCont (g9, g15, g18) _ ⟨hs9, hs15, hs18, hB, hHeld, hg9, hg15, hg18⟩)
  rintro ⟨gb, gd, gw⟩ w2 ⟨hs9, hs15, hs18, hB2, hHeld, hg9, hg15, hg18⟩
  refine norm_ (a' := ?_) ?_ ?_
  rotate_left
  · simp only [putAll, Act.put, List.setIfInBounds_toArray, List.set_cons_zero, List.set_cons_succ]
    rfl
  refine pure_ (i := 19) (N := some 30) (v := ?_) (a' := ?_) #[true, true, true, true, true, true, true, true, true, true, true, true, true, true, true, true, true, true, true, true, false, false] rfl rfl (by kernel_rfl) (fun _ _ _ h => h) (Or.inl ⟨by rfl, ?_⟩) ?_ ?_
  rotate_left
  · intro w'
    go_simp
    with_reducible rfl
  rotate_left
  · simp only [Act.put, List.setIfInBounds_toArray, List.set_cons_zero, List.set_cons_succ, i64_w, i32_w]
    rfl
  refine one_ (i := 20) (N := some 31) #[true, true, true, true, true, true, true, true, true, true, true, true, true, true, true, true, true, true, true, true, true, false] rfl rfl (by kernel_rfl) (by decide) (fun K hK => ?_)
  refine value_ (w1 := ?_) (v := ?_) (by rfl) rfl ?_ ?_
  rotate_left 2
  · go_simp
    constructor
    · rfl
    · rfl
  refine hK.out _ _ ⟨pw_cell_below (below_alloc (Below.refl _ _) _) hHeld.1, pw_cell_below (below_alloc (Below.refl _ _) _) hHeld.2.1, pw_cell_below (below_alloc (Below.refl _ _) _) hHeld.2.2⟩ (fun hHeld => ?_)
  clear hK K
  refine norm_ (a' := ?_) ?_ ?_
  rotate_left
  · show Act.put _ (some 31) _ = _
    simp only [Act.put, List.setIfInBounds_toArray, List.set_cons_zero, List.set_cons_succ, i64_w, i32_w]
    rfl
  refine pure_ (i := 21) (N := some 5) (v := ?_) (a' := ?_) #[true, true, true, true, true, true, true, true, true, true, true, true, true, true, true, true, true, true, true, true, true, true] rfl rfl (by kernel_rfl) (fun _ _ _ h => h) (Or.inl ⟨by rfl, ?_⟩) ?_ ?_
  rotate_left
  · intro w'
    go_simp
    with_reducible rfl
  rotate_left
  · simp only [Act.put, List.setIfInBounds_toArray, List.set_cons_zero, List.set_cons_succ, i64_w, i32_w]
    rfl
  refine done_ (by kernel_rfl) ?_
  obtain ⟨f, hf⟩ : ∃ f, f = w2.heap.size := ⟨_, rfl⟩
  rw [← hf]
  obtain ⟨w3, hw3⟩ : ∃ w3, w3 = w2.alloc (.cells #[.int .i64 S, .int .i64 P, .int .i64 B, .slice (some ⟨gb, 0, none⟩) y y, .slice (some ⟨gd, 0, none⟩) x x, .slice (some ⟨gw, 0, none⟩) S S, .int .i64 0, .bool false, .bool false, .int .i64 0, .slice none 0 0] 82) := ⟨_, rfl⟩
  have hfb : w3.heap[f]? = some (.cells #[.int .i64 S, .int .i64 P, .int .i64 B, .slice (some ⟨gb, 0, none⟩) y y, .slice (some ⟨gd, 0, none⟩) x x, .slice (some ⟨gw, 0, none⟩) S S, .int .i64 0, .bool false, .bool false, .int .i64 0, .slice none 0 0] 82 (0, 0)) := by rw [hw3, hf]; exact heap_alloc_new w2 _
  have hal2 : Below w2.heap.size w2 w3 := by rw [hw3]; exact below_alloc (Below.refl _ _) _
  have hM3 : Mem w3 gb (List.replicate y 0) := by
    unfold Mem
    rw [blk_below hs9 hal2]
    simp [nums]
  have hD3 := blk_below hs15 hal2
  have hW3 := blk_below hs18 hal2
  rw [← hw3]
  have hc3 : w3.cell? ⟨f, 3, none⟩ = some (.slice (some ⟨gb, 0, none⟩) y y) := (cell_of_row _ _ _ _ _ _ hfb).trans rfl
  have Kb3 : Aside0 (Below w.heap.size w w3) := ⟨below_then hB2.out hB2.out.size hal2⟩
  have Kbl := Aside0.mk (blank_any (o := 0) (n := y) (c := y) hM3 (by simp) (by simp; omega))
  have KF := Aside0.mk (And.intro hfb (And.intro hM3 (And.intro hD3 hW3)))
  have Kff : Aside0 (w.heap.size ≤ f) := ⟨by rw [hf]; exact hB2.out.size⟩
  have Kg := Aside0.mk (And.intro hg9 (And.intro hg15 hg18))
  clear hfb hM3 hD3 hW3 hs9 hs15 hs18 hal2 hw3 hHeld hf hg9 hg15 hg18 hw1 hw2 hc0 hc1 hc2
  go_wp2_with (go_at_call 42; refine Kbl.out.mono ?_; rintro e w4 ⟨rfl, hM4, hO4⟩; have KM4 := Aside0.mk hM4; have KO4 := Aside0.mk hO4; clear hM4 hO4)
  go_ret2
  obtain ⟨hfb, hM3, hD3, hW3⟩ := KF.out
  obtain ⟨hg9, hg15, hg18⟩ := Kg.out
  have n1 := blk_ne hfb hM3 (by decide)
  have n2 := blk_ne hM3 hD3 (by decide)
  have n3 := blk_ne hM3 hW3 (by decide)
  refine ⟨f, gb, gd, gw, rfl, ⟨?_, ?_, ?_, ?_, Kd.R_nil _ _ _ _ _, Kff.out, hg9, hg15, hg18⟩, Kb3.out.trans (KO4.out.1.mono hg9)⟩
  · unfold Blk
    rw [KO4.out.2.2 f n1, hfb]
    simp [fresh, Kxy.out.1, Kxy.out.2]
  · have := KM4.out
    have h2 := splice_all (List.replicate y (0 : Int)) 255
    rw [List.length_replicate] at h2
    rw [h2] at this
    simp only [fresh, Kxy.out.1, Kxy.out.2]
    exact this
  · rw [KO4.out.2.2 gd (Ne.symm n2), hD3]
    simp [fresh, Kxy.out.1, bools]
  · rw [KO4.out.2.2 gw (Ne.symm n3), hW3]
    simp [fresh, nums]
set_option maxHeartbeats 1000000 in
theorem new_bad (w : World) (S P B e0 : Int) (h : chk S P B = e0) (hne : e0 ≠ 0) :
    Calls Try.prog 16 #[.agg #[.int .i64 S, .int .i64 P, .int .i64 B]] w fun e w' => e = .returned (.tuple #[.pointer none, .int .i64 e0]) ∧ Below w.heap.size w w' := by
  have hchk := fun w => check_any S P B w
  rw [h] at hchk
  have Kc := Aside0.mk hchk
  have hal : Below w.heap.size w (w.alloc (.cells #[.int .i64 S, .int .i64 P, .int .i64 B] 23)) := below_alloc (Below.refl _ _) _
  have Ka := Aside0.mk hal
  have hb : ((e0 : Int) != 0) = true := by simpa using hne
  clear hchk hal h
  go_enter Try.func16, Try.ntmps16
  go_wp2_with (go_at_call 12; refine (Kc.out _).mono ?_; rintro e w1 ⟨rfl, hb1⟩; have KB1 : Aside0 (Below w.heap.size w w1) := ⟨below_then Ka.out Ka.out.size hb1⟩; clear hb1)
  go_ret2
  exact ⟨rfl, KB1.out⟩
end Go.Proofs.Ytepmgkmbmejkjaa.Fl
