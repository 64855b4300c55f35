/- Deltas are made: what is told as it is: walks. -/
import Derived.Test.YtogplkochcalpaaDe4
import Derived.Test.YtogplkochcalpaaClone
set_option linter.unusedVariables false
set_option linter.unusedSimpArgs false
namespace Go.Proofs.Ytogplkochcalpaa.De
open Go.RowKit Go.Proofs.Ytogplkochcalpaa.PD Go.Proofs.Ytogplkochcalpaa.Fd Go.Proofs.Ytogplkochcalpaa.Bg Go.Proofs.YtogplkochcalpaaW.PrintWords Go.Proofs.YtogplkochcalpaaW.PrintLast Go.Proofs.YtogplkochcalpaaW.PrintMore
theorem info8' : ∃ x, Try.prog.info? 5 = some x ∧ x.size = 1 := by
  have h : (Try.prog.info? 5).map (·.size) = some 1 := by kernel_rfl
  cases hx : Try.prog.info? 5 with
  | none => rw [hx] at h; simp at h
  | some x => rw [hx] at h; exact ⟨x, rfl, by simpa using h⟩
/-- The bytes from a place to another. -/
theorem cut_mid2 (A : Option Addr) (c : Nat) (b : List Int) (p q : Nat) (hp : p ≤ q) (hq : q ≤ b.length) (hc : b.length ≤ c) :
    ∃ (A' : Option Addr) (m c' : Nat), ((b.drop p).take (q - p)).length = m ∧ m ≤ c' ∧ (∀ W : World, (Instr.slice 22 (.slice A b.length c) (some (.int .i64 (p : Int))) (some (.int .i64 (q : Int))) none).run Try.prog W = .ok (.slice A' m c') W) ∧ ∀ w : World, Kd.C (Kd.int .u8) w A b.length b → Kd.C (Kd.int .u8) w A' ((b.drop p).take (q - p)).length ((b.drop p).take (q - p)) := by
  obtain ⟨x, hx, hs⟩ := info8'
  have e : (b.take q).drop p = (b.drop p).take (q - p) := by rw [List.drop_take]
  obtain ⟨A', h1, h2, h3⟩ := print_mid_of (P := Try.prog) (Value.int .u8) (0 : Int) 22 5 .i64 .i64 Try.underlying22 hx hs A c b (p : Int) (q : Int) (by omega) (by omega) (by omega) hc
  simp only [Int.toNat_natCast, e] at h1 h2 h3
  exact ⟨A', _, c - p, rfl, h3, h1, fun w hC => Kd.C_of_reads (h1 := fun _ => rfl) (h2 w (Kd.reads_of_C hC))⟩
/-- The maker in memory. -/
structure MS (w0 : World) (g : Nat) (so sb : Value) (mv : Option Nat) (w : World) (ov : Value) (ops : List S37) (from_ : Int) : Prop where
  blk : w.heap[g]? = some (.cells #[so, sb, .map mv, ov, .int .i64 from_] 60 (0, 0))
  own : Kd.N k37 37 w w0.heap.size (fun k => w0.heap.size ≤ k ∧ k ≠ g) ov ops
  below : Below w0.heap.size w0 w
  bg : w0.heap.size ≤ g
/-- What is no row of ops, nor the maker, stands. -/
def Else (g : Nat) (w w' : World) : Prop := w.heap.size ≤ w'.heap.size ∧ ∀ k o, w.heap[k]? = some o → k ≠ g → (∀ cells, o ≠ .cells cells 37 (0, 0)) → w'.heap[k]? = some o
theorem Else.refl (g : Nat) (w : World) : Else g w w := ⟨Nat.le_refl _, fun k o h _ _ => h⟩
theorem Else.trans {g : Nat} {w w1 w2 : World} (h : Else g w w1) (h1 : Else g w1 w2) : Else g w w2 := ⟨Nat.le_trans h.1 h1.1, fun k o hk hg ho => h1.2 k o (h.2 k o hk hg ho) hg ho⟩
section
variable {w0 w w1 : World} {g : Nat} {so sb ov ov1 : Value} {mv : Option Nat} {ops ops1 : List S37} {f : Int}
theorem Else.below (h : Below w.heap.size w w1) : Else g w w1 := ⟨h.size, fun k o hk _ _ => blk_below hk h⟩
theorem MS.lt (h : MS w0 g so sb mv w ov ops f) : g < w.heap.size := blk_lt h.blk
theorem MS.size (h : MS w0 g so sb mv w ov ops f) : w0.heap.size ≤ w.heap.size := h.below.size
theorem MS.cells (h : MS w0 g so sb mv w ov ops f) : w.cell? ⟨g, 0, none⟩ = some so ∧ w.cell? ⟨g, 1, none⟩ = some sb ∧ w.cell? ⟨g, 2, none⟩ = some (.map mv) ∧ w.cell? ⟨g, 3, none⟩ = some ov ∧ w.cell? ⟨g, 4, none⟩ = some (.int .i64 f) :=
  ⟨(cell_of_row _ _ _ _ _ _ h.blk).trans rfl, (cell_of_row _ _ _ _ _ _ h.blk).trans rfl, (cell_of_row _ _ _ _ _ _ h.blk).trans rfl, (cell_of_row _ _ _ _ _ _ h.blk).trans rfl, (cell_of_row _ _ _ _ _ _ h.blk).trans rfl⟩
theorem MS.keep (h : MS w0 g so sb mv w ov ops f) (hb : Below w.heap.size w w1) : MS w0 g so sb mv w1 ov ops f := ⟨blk_below h.blk hb, Kd.N_below h.own hb, below_then h.below h.size hb, h.bg⟩
theorem MS.from_ (h : MS w0 g so sb mv w ov ops f) (t : Int) : MS w0 g so sb mv (w.setCell ⟨g, 4, none⟩ (.int .i64 t)) ov ops t := ⟨blk_set h.blk 4 _, Kd.N_far h.own (p := ⟨g, 4, none⟩) (fun k hk => hk.2) _, h.below.setCell h.bg _, h.bg⟩
theorem else_set {j : Nat} {u : Value} : Else g w (w.setCell ⟨g, j, none⟩ u) := ⟨by simp, fun k o hk hg _ => (Below.heap_setCell w ⟨g, j, none⟩ u k hg).trans hk⟩
theorem MS.frozen (h : MS w0 g so sb mv w ov ops f) (j : Nat) : w.frozen? ⟨g, j, none⟩ = false := blk_frozen h.blk j
/-- Behind an append to the ops. -/
theorem MS.grown (h : MS w0 g so sb mv w ov ops f) (hb : Below w0.heap.size w0 w1) (hg : w.grownBy w1 ov.ownBlock) : w1.heap[g]? = some (.cells #[so, sb, .map mv, ov, .int .i64 f] 60 (0, 0)) :=
  (hg.block g h.lt (Kd.N_ne h.own h.blk (by decide))).trans h.blk
theorem MS.next (h : MS w0 g so sb mv w ov ops f) (hb : Below w0.heap.size w0 w1) (hg : w.grownBy w1 ov.ownBlock) (hN : Kd.N k37 37 w1 w0.heap.size (fun k => w0.heap.size ≤ k ∧ k ≠ g) ov1 ops1) : MS w0 g so sb mv (w1.setCell ⟨g, 3, none⟩ ov1) ov1 ops1 f :=
  ⟨blk_set (h.grown hb hg) 3 _, Kd.N_far hN (p := ⟨g, 3, none⟩) (fun k hk => hk.2) _, hb.setCell h.bg _, h.bg⟩
theorem MS.else_ (h : MS w0 g so sb mv w ov ops f) (hg : w.grownBy w1 ov.ownBlock) : Else g w w1 := ⟨hg.size, fun k o hk hne ho => (hg.block k (blk_lt hk) (fun e => by
    obtain ⟨cells, hc⟩ := Kd.N_typed h.own k e.symm
    rw [hk] at hc
    exact ho cells (Option.some.inj hc))).trans hk⟩
end
theorem data_FK {w0 w w2 wd : World} {g : Nat} {so sb ov : Value} {mv : Option Nat} {ops : List S37} {f : Int} {A2 : Option Addr} {nn n2 : Nat} {xs : List Int} {o : S37} (h : MS w0 g so sb mv w ov ops f) (hw : wd.heap.size = w.heap.size) (hO : Row.OwnB w2 wd.heap.size (.slice A2 nn n2) xs) (ho : o = ⟨0, 0, xs⟩) : Kd.FK k37 w2 (fun k => (w0.heap.size ≤ k ∧ k ≠ g) ∧ some k ≠ ov.ownBlock) o [.int .i64 0, .int .i64 0, .slice A2 nn n2] := by
  have hn := (Row.OwnB.reads hO).1
  subst ho
  subst hn
  have hF := Kd.R_F (Kd.R_tight rfl hO)
  refine k37_mkF _ _ (⟨0, 0, xs⟩ : S37) (Row.OwnB.reads hO).2.1 (Kd.F_mono hF fun k hk => ?_)
  have h1 := Kd.R_base hO k hk.symm
  have := h.lt
  have := h.size
  refine ⟨⟨by omega, by omega⟩, fun e => ?_⟩
  have := Kd.N_lt h.own k e.symm
  omega
def dataP (ops : List S37) (b : List Int) (p q : Nat) : List S37 := if p < q then ops ++ [⟨0, 0, (b.drop p).take (q - p)⟩] else ops
set_option maxHeartbeats 4000000 in
set_option maxRecDepth 100000 in
theorem data_any {w0 w : World} {g : Nat} {so : Value} {A : Option Addr} {cb : Nat} {mv : Option Nat} {ov : Value} {ops : List S37} (b : List Int) (p q : Nat) (h : MS w0 g so (.slice A b.length cb) mv w ov ops p) (hC : Kd.C (Kd.int .u8) w0 A b.length b) (hcb : b.length ≤ cb) (hp : p ≤ q) (hq : q ≤ b.length) (hb : b.length ≤ 8388608) (hl : ops.length ≤ 100000000) :
    Calls Try.prog 54 #[.pointer (some ⟨g, 0, none⟩), .int .i64 (q : Int)] w fun e w' => e = .returned (.tuple #[]) ∧ (∃ ov', MS w0 g so (.slice A b.length cb) mv w' ov' (dataP ops b p q) q) ∧ Else g w w' := by
  obtain ⟨c0, c1, c2, c3, c4⟩ := h.cells
  have hfz := h.frozen 4
  obtain ⟨n, hn⟩ : ∃ n, n = b.length := ⟨_, rfl⟩
  by_cases hlt : p < q
  · obtain ⟨AL, nn, cL, hnn, hncL, hcut, hCL⟩ := cut_mid2 A cb b p q hp hq hcb
    obtain ⟨o, ho⟩ : ∃ o : S37, o = ⟨0, 0, (b.drop p).take (q - p)⟩ := ⟨_, rfl⟩
    have KD : Aside0 (dataP ops b p q = ops ++ [o]) := ⟨by rw [ho]; exact if_pos hlt⟩
    have hnnb : nn ≤ 8388608 := by rw [← hnn, List.length_take, List.length_drop]; omega
    have KCl : Aside0 (∀ w', Below w0.heap.size w0 w' → _) := ⟨fun w' hB => Eq_.clone_any w' AL nn cL ((b.drop p).take (q - p)) (by have := hCL w' (Kd.C_below hC hB); rwa [hnn] at this) (by omega)⟩
    have Ko := Aside0.mk ho
    have Knn := Aside0.mk hnn
    rw [← hn] at hcut c1 h ⊢
    have KM := Aside0.mk h
    clear hC hCL ho hnn h hn hcb hb hq
    go_enter Try.func54, Try.ntmps54
    go_wp2
    refine start_ (n := 22) (S := fun w' => w'.cell? ⟨g, 3, none⟩ = some ov ∧ w'.cell? ⟨g, 1, none⟩ = some (.slice A n cb) ∧ w'.cell? ⟨g, 4, none⟩ = some (.int .i64 (p : Int))) (ds := [18, 21]) #[false, false, false, false, false, false, false, false, false, false, false, false, false, false, false, false, false, false, false, false, false, false] (by kernel_rfl) rfl rfl ⟨(show w.cell? _ = _ from c3), (show w.cell? _ = _ from c1), (show w.cell? _ = _ from c4)⟩ (fun hHeld => ?_)
    refine pure_ (i := 0) (N := some 10) (v := ?_) (a' := ?_) #[true, false, false, false, false, false, false, false, false, false, false, false, false, false, false, false, false, false, false, false, false, false] rfl rfl (by kernel_rfl) (fun _ _ _ h => h) (Or.inl ⟨by rfl, ?_⟩) ?_ ?_
    rotate_left
    · intro w'
      go_simp
      with_reducible rfl
    rotate_left
    · simp only [Act.put, List.setIfInBounds_toArray, List.set_cons_zero, List.set_cons_succ, i64_w, i32_w]
      rfl
    refine pure_ (i := 1) (N := some 11) (v := ?_) (a' := ?_) #[true, true, false, false, false, false, false, false, false, false, false, false, false, false, false, false, false, false, false, false, false, false] rfl rfl (by kernel_rfl) (fun _ _ _ h => h) (Or.inl ⟨by rfl, ?_⟩) ?_ ?_
    rotate_left
    · intro w'
      go_simp
      with_reducible rfl
    rotate_left
    · simp only [Act.put, List.setIfInBounds_toArray, List.set_cons_zero, List.set_cons_succ, i64_w, i32_w]
      rfl
    refine pure_ (i := 2) (N := some 12) (v := ?_) (a' := ?_) #[true, true, true, false, false, false, false, false, false, false, false, false, false, false, false, false, false, false, false, false, false, false] rfl rfl (by kernel_rfl) (fun _ _ _ h => h) (Or.inl ⟨by rfl, ?_⟩) ?_ ?_
    rotate_left
    · intro w'
      go_simp
      with_reducible rfl
    rotate_left
    · simp only [Act.put, List.setIfInBounds_toArray, List.set_cons_zero, List.set_cons_succ, i64_w, i32_w]
      rfl
    refine pure_ (i := 3) (N := some 13) (v := ?_) (a' := ?_) #[true, true, true, true, false, false, false, false, false, false, false, false, false, false, false, false, false, false, false, false, false, false] rfl rfl (by kernel_rfl) (fun _ _ _ h => h) (Or.inl ⟨by rfl, ?_⟩) ?_ ?_
    rotate_left
    · intro w'
      go_simp
      with_reducible rfl
    rotate_left
    · simp only [Act.put, List.setIfInBounds_toArray, List.set_cons_zero, List.set_cons_succ, i64_w, i32_w]
      rfl
    refine pure_ (i := 5) (N := some 15) (v := ?_) (a' := ?_) #[true, true, true, true, false, true, false, false, false, false, false, false, false, false, false, false, false, false, false, false, false, false] rfl rfl (by kernel_rfl) (fun _ _ _ h => h) (Or.inl ⟨by rfl, ?_⟩) ?_ ?_
    rotate_left
    · intro w'
      go_simp
      with_reducible rfl
    rotate_left
    · simp only [Act.put, List.setIfInBounds_toArray, List.set_cons_zero, List.set_cons_succ, i64_w, i32_w]
      rfl
    refine pure_ (i := 6) (N := some 16) (v := ?_) (a' := ?_) #[true, true, true, true, false, true, true, false, false, false, false, false, false, false, false, false, false, false, false, false, false, false] rfl rfl (by kernel_rfl) (fun _ _ _ h => h) (Or.inl ⟨by rfl, ?_⟩) ?_ ?_
    rotate_left
    · intro w'
      go_simp
      with_reducible rfl
    rotate_left
    · simp only [Act.put, List.setIfInBounds_toArray, List.set_cons_zero, List.set_cons_succ, i64_w, i32_w]
      rfl
    refine pure_ (i := 7) (N := some 17) (v := ?_) (a' := ?_) #[true, true, true, true, false, true, true, true, false, false, false, false, false, false, false, false, false, false, false, false, false, false] rfl rfl (by kernel_rfl) (fun _ _ _ h => h) (Or.inl ⟨by rfl, ?_⟩) ?_ ?_
    rotate_left
    · intro w'
      go_simp
      with_reducible rfl
    rotate_left
    · simp only [Act.put, List.setIfInBounds_toArray, List.set_cons_zero, List.set_cons_succ, i64_w, i32_w]
      rfl
    refine pure_ (i := 9) (N := some 19) (v := ?_) (a' := ?_) #[true, true, true, true, false, true, true, true, false, true, false, false, false, false, false, false, false, false, false, false, false, false] rfl rfl (by kernel_rfl) (fun _ _ _ h => h) (Or.inl ⟨by rfl, ?_⟩) ?_ ?_
    rotate_left
    · intro w'
      go_simp
      with_reducible rfl
    rotate_left
    · simp only [Act.put, List.setIfInBounds_toArray, List.set_cons_zero, List.set_cons_succ, i64_w, i32_w]
      rfl
    refine pure_ (i := 10) (N := some 20) (v := ?_) (a' := ?_) #[true, true, true, true, false, true, true, true, false, true, true, false, false, false, false, false, false, false, false, false, false, false] rfl rfl (by kernel_rfl) (fun _ _ _ h => h) (Or.inl ⟨by rfl, ?_⟩) ?_ ?_
    rotate_left
    · intro w'
      go_simp
      with_reducible rfl
    rotate_left
    · simp only [Act.put, List.setIfInBounds_toArray, List.set_cons_zero, List.set_cons_succ, i64_w, i32_w]
      rfl
    refine pure_ (i := 11) (N := some 21) (v := ?_) (a' := ?_) #[true, true, true, true, false, true, true, true, false, true, true, true, false, false, false, false, false, false, false, false, false, false] rfl rfl (by kernel_rfl) (fun _ _ _ h => h) (Or.inl ⟨by rfl, ?_⟩) ?_ ?_
    rotate_left
    · intro w'
      go_simp
      with_reducible rfl
    rotate_left
    · simp only [Act.put, List.setIfInBounds_toArray, List.set_cons_zero, List.set_cons_succ, i64_w, i32_w]
      rfl
    refine pure_ (i := 13) (N := some 23) (v := ?_) (a' := ?_) #[true, true, true, true, false, true, true, true, false, true, true, true, false, true, false, false, false, false, false, false, false, false] rfl rfl (by kernel_rfl) (fun _ _ _ h => h) (Or.inl ⟨by rfl, ?_⟩) ?_ ?_
    rotate_left
    · intro w'
      go_simp
      with_reducible rfl
    rotate_left
    · simp only [Act.put, List.setIfInBounds_toArray, List.set_cons_zero, List.set_cons_succ, i64_w, i32_w]
      rfl
    refine take_ (i := 4) (N := some 14) (v := ?_) (a' := ?_) #[true, true, true, true, true, true, true, true, false, true, true, true, false, true, false, false, false, false, false, false, false, false] rfl rfl (by kernel_rfl) (fun _ _ _ h => h) (Or.inl ⟨by rfl, ?_⟩) hHeld ?_ ?_
    rotate_left
    · rintro w' ⟨s0, s1, s2⟩
      go_simp
      with_reducible rfl
    rotate_left
    · simp only [Act.put, List.setIfInBounds_toArray, List.set_cons_zero, List.set_cons_succ, i64_w, i32_w]
      rfl
    refine take_ (i := 8) (N := some 18) (v := ?_) (a' := ?_) #[true, true, true, true, true, true, true, true, true, true, true, true, false, true, false, false, false, false, false, false, false, false] rfl rfl (by kernel_rfl) (fun _ _ _ h => h) (Or.inl ⟨by rfl, ?_⟩) hHeld ?_ ?_
    rotate_left
    · rintro w' ⟨s0, s1, s2⟩
      go_simp
      with_reducible rfl
    rotate_left
    · simp only [Act.put, List.setIfInBounds_toArray, List.set_cons_zero, List.set_cons_succ, i64_w, i32_w]
      rfl
    refine take_ (i := 12) (N := some 22) (v := ?_) (a' := ?_) #[true, true, true, true, true, true, true, true, true, true, true, true, true, true, false, false, false, false, false, false, false, false] rfl rfl (by kernel_rfl) (fun _ _ _ h => h) (Or.inl ⟨by rfl, ?_⟩) hHeld ?_ ?_
    rotate_left
    · rintro w' ⟨s0, s1, s2⟩
      go_simp
      with_reducible rfl
    rotate_left
    · simp only [Act.put, List.setIfInBounds_toArray, List.set_cons_zero, List.set_cons_succ, i64_w, i32_w]
      rfl
    refine pure_ (i := 14) (N := some 24) (v := ?_) (a' := ?_) #[true, true, true, true, true, true, true, true, true, true, true, true, true, true, true, false, false, false, false, false, false, false] rfl rfl (by kernel_rfl) (fun _ _ _ h => h) (Or.inl ⟨by rfl, ?_⟩) ?_ ?_
    rotate_left
    · intro w'
      go_simp
      with_reducible rfl
    rotate_left
    · simp only [Act.put, List.setIfInBounds_toArray, List.set_cons_zero, List.set_cons_succ, i64_w, i32_w]
      rfl
    refine one_ (i := 15) (N := some 25) #[true, true, true, true, true, true, true, true, true, true, true, true, true, true, true, true, false, false, false, false, false, false] rfl rfl (by kernel_rfl) (by decide) (fun K hK => ?_)
    refine goes_ Try.func36 (by kernel_rfl) rfl #[.slice AL nn cL] (by rfl) rfl rfl (by simp only [List.map_toArray, List.map_cons, List.map_nil]; rfl) ?_
    with_reducible refine (KCl.out _ (below_drew KM.out.below)).mono ?_
    rintro e w2 ⟨v2, rfl, hO2, hb2⟩
    refine ⟨_, rfl, ?_⟩
    have KM2 := Aside0.mk ((KM.out.keep (below_drew (Below.refl _ _))).keep hb2)
    have KO2 := Aside0.mk hO2
    have Kb2 := Aside0.mk (below_then (below_drew (Below.refl _ _)) (Nat.le_refl _) hb2)
    obtain ⟨A2, n2, hv2, hn2, hC2⟩ := hO2.slice
    rw [Knn.out] at hv2
    subst hv2
    obtain ⟨d0, d1, d2, d3, d4⟩ := KM2.out.cells
    clear hO2 hb2 hC2 d0 d2
    refine hK.out _ _ ⟨d3, d1, d4⟩ (fun hHeld => ?_)
    clear hK K
    refine norm_ (a' := ?_) ?_ ?_
    rotate_left
    · show Act.put _ (some 25) _ = _
      simp only [Act.put, List.setIfInBounds_toArray, List.set_cons_zero, List.set_cons_succ, i64_w, i32_w]
      rfl
    refine pure_ (i := 16) (N := some 26) (v := ?_) (a' := ?_) #[true, true, true, true, true, true, true, true, true, true, true, true, true, true, true, true, true, false, false, false, false, false] rfl rfl (by kernel_rfl) (fun _ _ _ h => h) (Or.inl ⟨by rfl, ?_⟩) ?_ ?_
    rotate_left
    · intro w'
      go_simp
      with_reducible rfl
    rotate_left
    · simp only [Act.put, List.setIfInBounds_toArray, List.set_cons_zero, List.set_cons_succ, i64_w, i32_w]
      rfl
    refine one_ (i := 17) (N := some 27) #[true, true, true, true, true, true, true, true, true, true, true, true, true, true, true, true, true, true, false, false, false, false] rfl rfl (by kernel_rfl) (by decide) (fun K hK => ?_)
    refine value_ (w1 := ?_) (v := ?_) (by rfl) rfl ?_ ?_
    rotate_left 2
    · go_simp
      constructor
      · rfl
      · rfl
    refine hK.out _ _ ⟨((cell_of_row _ _ _ _ _ _ (blk_alloc KM2.out.blk _)).trans rfl), ((cell_of_row _ _ _ _ _ _ (blk_alloc KM2.out.blk _)).trans rfl), ((cell_of_row _ _ _ _ _ _ (blk_alloc KM2.out.blk _)).trans rfl)⟩ (fun hHeld => ?_)
    clear hK K
    refine norm_ (a' := ?_) ?_ ?_
    rotate_left
    · show Act.put _ (some 27) _ = _
      simp only [Act.put, List.setIfInBounds_toArray, List.set_cons_zero, List.set_cons_succ, i64_w, i32_w]
      rfl
    refine last_ (i := 18) (N := some 28) #[true, true, true, true, true, true, true, true, true, true, true, true, true, true, true, true, true, true, true, false, false, false] rfl rfl (by kernel_rfl) (by decide) (fun K hK => ?_)
    refine Kd.N_append_step k37 (w0 := w0) w0.heap.size (by rfl) (.tmp 14) (.tmp 27) 25 37 (.agg #[(.int .i64 0), (.int .i64 0), (.slice none 0 0)]) 40 rfl Try.underlying25 info37 rfl (by decide) (by omega) ov ops o [.int .i64 0, .int .i64 0, .slice A2 nn n2] (fun k => w0.heap.size ≤ k ∧ k ≠ g) (fun k => (w0.heap.size ≤ k ∧ k ≠ g) ∧ some k ≠ ov.ownBlock) rfl rfl (data_FK (wd := w.drew) KM.out rfl KO2.out Ko.out) (fun _ hk => hk) (fun k hk => ⟨Nat.le_trans KM2.out.size hk, fun e => by have := KM2.out.lt; omega⟩) KM2.out.own KM2.out.below KM2.out.size (by omega) ?_; intro v3 w3 hN3 hB3 hg3 hat3; obtain ⟨A3, C3, hv3⟩ := Kd.N_slice hN3; obtain ⟨l3, hl3⟩ : ∃ l3, l3 = (ops ++ [o]).length := ⟨_, rfl⟩; rw [← hl3] at hv3; subst hv3; have hG3 := KM2.out.grown hB3 hg3; have e3 : w3.cell? ⟨g, 3, none⟩ = some ov := (cell_of_row _ _ _ _ _ _ hG3).trans rfl; have e1 : w3.cell? ⟨g, 1, none⟩ = some (.slice A n cb) := (cell_of_row _ _ _ _ _ _ hG3).trans rfl; have e4 : w3.cell? ⟨g, 4, none⟩ = some (.int .i64 (p : Int)) := (cell_of_row _ _ _ _ _ _ hG3).trans rfl; have hfz3 : w3.frozen? ⟨g, 3, none⟩ = false := blk_frozen hG3 3; have KM4 := Aside0.mk (KM2.out.next hB3 hg3 hN3); have KE4 := Aside0.mk ((Else.below Kb2.out : Else g w w2).trans ((KM2.out.else_ hg3).trans (else_set (j := 3) (u := .slice A3 l3 C3)))); clear hN3 hB3 hg3 hat3 hG3 hl3
    refine hK.out _ _ ?_
    clear hK K
    refine norm_ (a' := ?_) ?_ ?_
    rotate_left
    · show Act.put _ (some 28) _ = _
      simp only [Act.put, List.setIfInBounds_toArray, List.set_cons_zero, List.set_cons_succ, i64_w, i32_w]
      rfl
    refine pure_ (i := 19) (N := some 29) (v := ?_) (a' := ?_) #[true, true, true, true, true, true, true, true, true, true, true, true, true, true, true, true, true, true, true, true, false, false] rfl rfl (by kernel_rfl) (fun _ _ _ h => h) (Or.inl ⟨by rfl, ?_⟩) ?_ ?_
    rotate_left
    · intro w'
      go_simp
      with_reducible rfl
    rotate_left
    · simp only [Act.put, List.setIfInBounds_toArray, List.set_cons_zero, List.set_cons_succ, i64_w, i32_w]
      rfl
    refine pure_ (i := 20) (N := some 30) (v := ?_) (a' := ?_) #[true, true, true, true, true, true, true, true, true, true, true, true, true, true, true, true, true, true, true, true, true, false] rfl rfl (by kernel_rfl) (fun _ _ _ h => h) (Or.inl ⟨by rfl, ?_⟩) ?_ ?_
    rotate_left
    · intro w'
      go_simp
      with_reducible rfl
    rotate_left
    · simp only [Act.put, List.setIfInBounds_toArray, List.set_cons_zero, List.set_cons_succ, i64_w, i32_w]
      rfl
    refine last_ (i := 21) (N := none) #[true, true, true, true, true, true, true, true, true, true, true, true, true, true, true, true, true, true, true, true, true, true] rfl rfl (by kernel_rfl) (by decide) (fun K hK => ?_)
    refine skip_ (w1 := ?_) (by rfl) rfl ?_ ?_
    rotate_left
    · go_simp
      rfl
    refine hK.out _ _ ?_
    clear hK K
    refine done_ (by kernel_rfl) ?_
    obtain ⟨w4, hw4⟩ : ∃ w4, w4 = w3.setCell ⟨g, 3, none⟩ (.slice A3 l3 C3) := ⟨_, rfl⟩
    rw [← hw4] at KM4 KE4
    rw [← hw4]
    have hf4 := KM4.out.frozen 4
    have hc4 := KM4.out.cells.2.2.2.2
    clear hw4
    try clear hHeld
    go_wp2
    go_end0
    exact ⟨rfl, ⟨_, by rw [KD.out]; exact KM4.out.from_ q⟩, KE4.out.trans else_set⟩
  · obtain rfl : p = q := by omega
    rw [← hn] at c1 h ⊢
    have KM := Aside0.mk h
    have KD : Aside0 (dataP ops b p p = ops) := ⟨if_neg hlt⟩
    clear hC h hn hcb hb hq
    go_enter Try.func54, Try.ntmps54
    go_wp2
    go_end0
    exact ⟨rfl, ⟨ov, by rw [KD.out]; exact KM.out.from_ p⟩, else_set⟩
end Go.Proofs.Ytogplkochcalpaa.De
