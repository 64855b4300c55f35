/- A flash memory: armed, power again. -/
import Derived.Test.YtepmgkmbmejkjaaFl10
set_option linter.unusedVariables false
set_option linter.unusedSimpArgs false
namespace Go.Proofs.Ytepmgkmbmejkjaa.Fl
open Go.RowKit Go.Proofs.YtepmgkmbmejkjaaW.PrintWords Go.Proofs.YtepmgkmbmejkjaaW.PrintLast Go.Proofs.YtepmgkmbmejkjaaW.PrintMore
def bootP (x : Fl) : Fl := { x with off := false, armed := false }
def armP (x : Fl) (n : Int) (ys : List Int) : Fl × Int := if n < 1 then (x, 1) else if x.off = true then (x, 40) else ({ x with armed := true, left := n, torn := ys }, 0)
section
variable {w : World} {base f gb gd gw : Nat} {tv : Value} {x : Fl}
theorem FM.setTorn (h : FM w base f gb gd gw tv x) {v : Value} {ys : List Int} (hv : Kd.R (Kd.int .u8) 5 w base (fun k => k ≠ gb) v ys) : FM (w.setCell ⟨f, 10, none⟩ v) base f gb gd gw v { x with torn := ys } := by
  obtain ⟨n1, n2, n3, n4, n5, n6⟩ := h.ne
  refine ⟨blk_set h.blk 10 v, (Below.heap_setCell _ _ _ _ (Ne.symm n1)).trans h.mem, (Below.heap_setCell _ _ _ _ (Ne.symm n2)).trans h.dirty, (Below.heap_setCell _ _ _ _ (Ne.symm n3)).trans h.worn, Kd.R_set hv h.blk (fun q hq => by simp [Kd.int, Kd.scalar] at hq; omega) 10 v, h.bf, h.bb, h.bd, h.bw⟩
set_option maxHeartbeats 1000000 in
theorem boot_any (h : FM w base f gb gd gw tv x) : Calls Try.prog 24 #[.pointer (some ⟨f, 0, none⟩)] w fun e w' => e = .returned (.tuple #[]) ∧ FM w' base f gb gd gw tv (bootP x) ∧ Ch base w w' f gb gd gw := by
  obtain ⟨c0, c1, c2, c3, c4, c5, c6, c7, c8, c9, c10⟩ := h.cells
  have z7 := h.frz 7
  have z8 := h.frz 8
  have K := Aside0.mk h
  clear h c0 c1 c2 c3 c4 c5 c6 c9 c10
  go_enter Try.func24, Try.ntmps24
  go_wp2
  go_end0
  have h1 : FM (w.setCell ⟨f, 7, none⟩ (.bool false)) base f gb gd gw tv { x with off := false } := K.out.set 7 _ rfl rfl rfl rfl rfl (blk_set K.out.blk 7 _)
  exact ⟨rfl, h1.set 8 _ rfl rfl rfl rfl rfl (blk_set h1.blk 8 _), ((Ch.refl base w f gb gd gw).set K.out.bf (Or.inl rfl) 7 _).set K.out.bf (Or.inl rfl) 8 _⟩
set_option maxRecDepth 100000 in
set_option maxHeartbeats 2000000 in
theorem arm_any (h : FM w base f gb gd gw tv x) (n : Int) (A : Option Addr) (c : Nat) (ys : List Int) (hC : ∀ w', Ch base w w' f gb gd gw → Kd.C (Kd.int .u8) w' A ys.length ys) (hl : ys.length ≤ 140737488355328) :
    Calls Try.prog 23 #[.pointer (some ⟨f, 0, none⟩), .agg #[.int .i64 n, .slice A ys.length c]] w fun e w' => e = .returned (.int .i64 (armP x n ys).2) ∧ (∃ tv', FM w' base f gb gd gw tv' (armP x n ys).1) ∧ Ch base w w' f gb gd gw := by
  obtain ⟨m, hm⟩ : ∃ m, m = ys.length := ⟨_, rfl⟩
  have hal : Below w.heap.size w (w.alloc (.cells #[.int .i64 n, .slice A m c] 46)) := below_alloc (Below.refl _ _) _
  have hX : (w.alloc (.cells #[.int .i64 n, .slice A m c] 46)).heap[w.heap.size]? = some (.cells #[.int .i64 n, .slice A m c] 46 (0, 0)) := heap_alloc_new w _
  have h1 := h.below hal
  have hch1 := (Ch.refl base w f gb gd gw).below_ h.size hal
  obtain ⟨q1, q2, q3, q4⟩ := h.lt
  obtain ⟨W, hW⟩ : ∃ W, W = w.alloc (.cells #[.int .i64 n, .slice A m c] 46) := ⟨_, rfl⟩
  obtain ⟨g, hg⟩ : ∃ g, g = w.heap.size := ⟨_, rfl⟩
  rw [← hW] at h1 hch1 hX
  rw [← hg] at hX
  obtain ⟨c0, c1, c2, c3, c4, c5, c6, c7, c8, c9, c10⟩ := h1.cells
  have e0 : W.cell? ⟨g, 0, none⟩ = some (.int .i64 n) := (cell_of_row _ _ _ _ _ _ hX).trans rfl
  have e1 : W.cell? ⟨g, 1, none⟩ = some (.slice A m c) := (cell_of_row _ _ _ _ _ _ hX).trans rfl
  have KX := Aside0.mk hX
  have z8 := h1.frz 8
  have z9 := h1.frz 9
  have z10 := h1.frz 10
  have K1 := Aside0.mk h1
  have Kch1 := Aside0.mk hch1
  have KC := Aside0.mk hC
  have Km := Aside0.mk hm
  have Kl := Aside0.mk hl
  have Kq : Aside0 (gb < g ∧ f < g) := ⟨by omega⟩
  rw [← hm]
  clear h h1 hch1 hC hm hl hal hX c0 c1 c2 c3 c4 c5 c6 q1 q2 q3 q4
  unfold armP
  by_cases hn : n < 1
  · rw [if_pos hn]
    go_enter Try.func23, Try.ntmps23
    go_wp2_with (fail)
    rw [← hW]
    go_ret
    exact ⟨rfl, ⟨_, K1.out⟩, Kch1.out⟩
  rw [if_neg hn]
  by_cases hoff : x.off = true
  · rw [if_pos hoff]
    rw [hoff] at c7
    clear hoff
    rw [hW] at c7
    go_enter Try.func23, Try.ntmps23
    go_wp2_with (fail)
    rw [← hW]
    go_ret
    exact ⟨rfl, ⟨_, K1.out⟩, Kch1.out⟩
  rw [if_neg hoff]
  have hoff := Bool.eq_false_iff.2 hoff
  rw [hoff] at c7
  have c7a := c7
  rw [hW] at c7a
  have Kg := Aside0.mk hg
  have hne : g ≠ f := by have := Kq.out.2; omega
  have Kc1 := Aside0.mk (And.intro c8 (And.intro c9 (And.intro c10 (And.intro e0 (And.intro e1 (And.intro z8 (And.intro z9 z10)))))))
  have Kn := Aside0.mk hn
  have Khoff := Aside0.mk hoff
  clear c7 c8 c9 c10 e0 e1 z8 z9 z10 hoff
  go_enter Try.func23, Try.ntmps23
  go_wp2_with (fail)
  rw [← hW, ← hg]
  obtain ⟨c8, c9, c10, e0, e1, z8, z9, z10⟩ := Kc1.out
  clear c7a hW hg hn Kc1
  refine start_ (n := 10) (S := fun w' => w'.cell? ⟨g, 0, none⟩ = some (.int .i64 n)) (ds := [9]) #[false, false, false, false, false, false, false, false, false, false] (by kernel_rfl) rfl rfl ((show W.cell? _ = _ from e0)) (fun hHeld => ?_)
  refine pure_ (i := 0) (N := some 17) (v := ?_) (a' := ?_) #[true, false, false, false, false, false, false, false, false, false] rfl rfl (by kernel_rfl) (fun _ _ _ h => h) (Or.inl ⟨by rfl, ?_⟩) ?_ ?_
  rotate_left
  · intro w'
    go_simp
    with_reducible rfl
  rotate_left
  · simp only [Act.put, List.setIfInBounds_toArray, List.set_cons_zero, List.set_cons_succ, i64_w, i32_w]
    rfl
  refine pure_ (i := 1) (N := some 18) (v := ?_) (a' := ?_) #[true, true, false, false, false, false, false, false, false, false] rfl rfl (by kernel_rfl) (fun _ _ _ h => h) (Or.inl ⟨by rfl, ?_⟩) ?_ ?_
  rotate_left
  · intro w'
    go_simp
    with_reducible rfl
  rotate_left
  · simp only [Act.put, List.setIfInBounds_toArray, List.set_cons_zero, List.set_cons_succ, i64_w, i32_w]
    rfl
  refine pure_ (i := 2) (N := some 19) (v := ?_) (a' := ?_) #[true, true, true, false, false, false, false, false, false, false] rfl rfl (by kernel_rfl) (fun _ _ _ h => h) (Or.inl ⟨by rfl, ?_⟩) ?_ ?_
  rotate_left
  · intro w'
    go_simp
    with_reducible rfl
  rotate_left
  · simp only [Act.put, List.setIfInBounds_toArray, List.set_cons_zero, List.set_cons_succ, i64_w, i32_w]
    rfl
  refine pure_ (i := 4) (N := some 21) (v := ?_) (a' := ?_) #[true, true, true, false, true, false, false, false, false, false] rfl rfl (by kernel_rfl) (fun _ _ _ h => h) (Or.inl ⟨by rfl, ?_⟩) ?_ ?_
  rotate_left
  · intro w'
    go_simp
    with_reducible rfl
  rotate_left
  · simp only [Act.put, List.setIfInBounds_toArray, List.set_cons_zero, List.set_cons_succ, i64_w, i32_w]
    rfl
  refine pure_ (i := 5) (N := some 22) (v := ?_) (a' := ?_) #[true, true, true, false, true, true, false, false, false, false] rfl rfl (by kernel_rfl) (fun _ _ _ h => h) (Or.inl ⟨by rfl, ?_⟩) ?_ ?_
  rotate_left
  · intro w'
    go_simp
    with_reducible rfl
  rotate_left
  · simp only [Act.put, List.setIfInBounds_toArray, List.set_cons_zero, List.set_cons_succ, i64_w, i32_w]
    rfl
  refine take_ (i := 3) (N := some 20) (v := ?_) (a' := ?_) #[true, true, true, true, true, true, false, false, false, false] rfl rfl (by kernel_rfl) (fun _ _ _ h => h) (Or.inl ⟨by rfl, ?_⟩) hHeld ?_ ?_
  rotate_left
  · intro w' s0
    go_simp
    with_reducible rfl
  rotate_left
  · simp only [Act.put, List.setIfInBounds_toArray, List.set_cons_zero, List.set_cons_succ, i64_w, i32_w]
    rfl
  refine one_ (i := 6) (N := none) #[true, true, true, true, true, true, true, false, false, false] rfl rfl (by kernel_rfl) (by decide) (fun K hK => ?_)
  refine skip_ (w1 := ?_) (by rfl) rfl ?_ ?_
  rotate_left
  · go_simp
    rfl
  refine hK.out _ _ (((World.cell?_of_block (a := ⟨g, 0, none⟩) (Below.heap_setCell _ ⟨f, 8, none⟩ _ g hne)).trans hHeld)) (fun hHeld => ?_)
  clear hK K
  refine pure_ (i := 7) (N := some 23) (v := ?_) (a' := ?_) #[true, true, true, true, true, true, true, true, false, false] rfl rfl (by kernel_rfl) (fun _ _ _ h => h) (Or.inl ⟨by rfl, ?_⟩) ?_ ?_
  rotate_left
  · intro w'
    go_simp
    with_reducible rfl
  rotate_left
  · simp only [Act.put, List.setIfInBounds_toArray, List.set_cons_zero, List.set_cons_succ, i64_w, i32_w]
    rfl
  refine pure_ (i := 8) (N := some 24) (v := ?_) (a' := ?_) #[true, true, true, true, true, true, true, true, true, false] rfl rfl (by kernel_rfl) (fun _ _ _ h => h) (Or.inl ⟨by rfl, ?_⟩) ?_ ?_
  rotate_left
  · intro w'
    go_simp
    with_reducible rfl
  rotate_left
  · simp only [Act.put, List.setIfInBounds_toArray, List.set_cons_zero, List.set_cons_succ, i64_w, i32_w]
    rfl
  refine last_ (i := 9) (N := none) #[true, true, true, true, true, true, true, true, true, true] rfl rfl (by kernel_rfl) (by decide) (fun K hK => ?_)
  refine skip_ (w1 := ?_) (by rfl) rfl ?_ ?_
  rotate_left
  · go_simp
    rfl
  refine hK.out _ _ ?_
  clear hK K
  refine done_ (by kernel_rfl) ?_
  have F2 : FM (W.setCell ⟨f, 8, none⟩ (.bool true)) base f gb gd gw tv { x with armed := true } := K1.out.set 8 _ rfl rfl rfl rfl rfl (blk_set K1.out.blk 8 _)
  have F3 : FM ((W.setCell ⟨f, 8, none⟩ (.bool true)).setCell ⟨f, 9, none⟩ (.int .i64 n)) base f gb gd gw tv { x with armed := true, left := n } := F2.set 9 _ rfl rfl rfl rfl rfl (blk_set F2.blk 9 _)
  have F4 := F3.below (Below.refl _ _).drew
  have C3 := (Kch1.out.set K1.out.bf (Or.inl rfl) 8 (.bool true)).set K1.out.bf (Or.inl rfl) 9 (.int .i64 n)
  have C4 := C3.below_ F3.size (Below.refl _ _).drew
  have hXR : (((W.setCell ⟨f, 8, none⟩ (.bool true)).setCell ⟨f, 9, none⟩ (.int .i64 n)).drew).heap[g]? = some (.cells #[.int .i64 n, .slice A m c] 46 (0, 0)) := (Below.heap_setCell (W.setCell ⟨f, 8, none⟩ (.bool true)) ⟨f, 9, none⟩ _ g hne).trans ((Below.heap_setCell W ⟨f, 8, none⟩ _ g hne).trans KX.out)
  clear hHeld c8 c9 c10 e0 e1 z8 z9 z10
  obtain ⟨wR, hwR⟩ : ∃ wR, wR = ((W.setCell ⟨f, 8, none⟩ (.bool true)).setCell ⟨f, 9, none⟩ (.int .i64 n)).drew := ⟨_, rfl⟩
  rw [← hwR] at F4 C4 hXR ⊢
  have e1 : wR.cell? ⟨g, 1, none⟩ = some (.slice A m c) := (cell_of_row _ _ _ _ _ _ hXR).trans rfl
  have hcl := clone_any wR A m c ys (by rw [Km.out]; exact KC.out wR C4) (by rw [Km.out]; exact Kl.out)
  have Kcl := Aside0.mk hcl
  have K4 := Aside0.mk F4
  have KC4 := Aside0.mk C4
  clear F2 F3 F4 C3 C4 hXR hwR hcl hne
  go_wp2_with (go_at_call 45; refine Kcl.out.mono ?_; rintro e w5 ⟨v5, rfl, hO5, hb5⟩; obtain ⟨A5, c5, hv5, -, -⟩ := Row.OwnB.slice hO5; rw [← Km.out] at hv5; subst hv5; have h5 := K4.out.below hb5; have d10 := h5.cells.2.2.2.2.2.2.2.2.2.2; have z10 := h5.frz 10; have K5 := Aside0.mk h5; have KC5 := Aside0.mk (KC4.out.below_ K4.out.size hb5); have KO5 := Aside0.mk hO5; clear hO5 hb5 h5 Kcl)
  go_ret
  exact ⟨rfl, ⟨_, K5.out.setTorn (Kd.R_lower (Kd.R_mono (Kd.R_bound KO5.out) (fun k hk => by have := hk.2.1; have := K4.out.lt.2.1; omega)) K4.out.size)⟩, KC5.out.set K5.out.bf (Or.inl rfl) 10 _⟩
end
end Go.Proofs.Ytepmgkmbmejkjaa.Fl
