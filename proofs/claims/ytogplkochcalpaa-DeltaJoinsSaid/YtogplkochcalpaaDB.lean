/- Texts put together: De5, De6, De7, De8, DeL. -/
import Derived.Test.YtogplkochcalpaaDA
import Derived.Test.YtogplkochcalpaaEA
import Derived.Carry
/- Deltas are made: what is told as it is: walks. -/
set_option linter.unusedVariables false
set_option linter.unusedSimpArgs false
namespace Go.Proofs.Ytogplkochcalpaa.De
open Go.RowKit Go.Proofs.Ytogplkochcalpaa.PD Go.Proofs.Ytogplkochcalpaa.Fd Go.Proofs.Ytogplkochcalpaa.Bg Go.Proofs.YtogplkochcalpaaW.PrintWords Go.Proofs.YtogplkochcalpaaW.PrintLast Go.Proofs.YtogplkochcalpaaW.PrintMore
theorem info8' : ∃ x, Try.prog.info? 5 = some x ∧ x.size = 1 := by
  have h : (Try.prog.info? 5).map (·.size) = some 1 := by kernel_rfl
  cases hx : Try.prog.info? 5 with
  | none => rw [hx] at h; simp at h
  | some x => rw [hx] at h; exact ⟨x, rfl, by simpa using h⟩
/-- The bytes from a place to another. -/
theorem cut_mid2 (A : Option Addr) (c : Nat) (b : List Int) (p q : Nat) (hp : p ≤ q) (hq : q ≤ b.length) (hc : b.length ≤ c) :
    ∃ (A' : Option Addr) (m c' : Nat), ((b.drop p).take (q - p)).length = m ∧ m ≤ c' ∧ (∀ W : World, (Instr.slice 22 (.slice A b.length c) (some (.int .i64 (p : Int))) (some (.int .i64 (q : Int))) none).run Try.prog W = .ok (.slice A' m c') W) ∧ ∀ w : World, Kd.C (Kd.int .u8) w A b.length b → Kd.C (Kd.int .u8) w A' ((b.drop p).take (q - p)).length ((b.drop p).take (q - p)) := by
  obtain ⟨x, hx, hs⟩ := info8'
  have e : (b.take q).drop p = (b.drop p).take (q - p) := by rw [List.drop_take]
  obtain ⟨A', h1, h2, h3⟩ := print_mid_of (P := Try.prog) (Value.int .u8) (0 : Int) 22 5 .i64 .i64 Try.underlying22 hx hs A c b (p : Int) (q : Int) (by omega) (by omega) (by omega) hc
  simp only [Int.toNat_natCast, e] at h1 h2 h3
  exact ⟨A', _, c - p, rfl, h3, h1, fun w hC => Kd.C_of_reads (h1 := fun _ => rfl) (h2 w (Kd.reads_of_C hC))⟩
/-- The maker in memory. -/
structure MS (w0 : World) (g : Nat) (so sb : Value) (mv : Option Nat) (w : World) (ov : Value) (ops : List S37) (from_ : Int) : Prop where
  blk : w.heap[g]? = some (.cells #[so, sb, .map mv, ov, .int .i64 from_] 60 (0, 0))
  own : Kd.N k37 37 w w0.heap.size (fun k => w0.heap.size ≤ k ∧ k ≠ g) ov ops
  below : Below w0.heap.size w0 w
  bg : w0.heap.size ≤ g
/-- What is no row of ops, nor the maker, stands. -/
def Else (g : Nat) (w w' : World) : Prop := w.heap.size ≤ w'.heap.size ∧ ∀ k o, w.heap[k]? = some o → k ≠ g → (∀ cells, o ≠ .cells cells 37 (0, 0)) → w'.heap[k]? = some o
theorem Else.refl (g : Nat) (w : World) : Else g w w := ⟨Nat.le_refl _, fun k o h _ _ => h⟩
theorem Else.trans {g : Nat} {w w1 w2 : World} (h : Else g w w1) (h1 : Else g w1 w2) : Else g w w2 := ⟨Nat.le_trans h.1 h1.1, fun k o hk hg ho => h1.2 k o (h.2 k o hk hg ho) hg ho⟩
section
variable {w0 w w1 : World} {g : Nat} {so sb ov ov1 : Value} {mv : Option Nat} {ops ops1 : List S37} {f : Int}
theorem Else.below (h : Below w.heap.size w w1) : Else g w w1 := ⟨h.size, fun k o hk _ _ => blk_below hk h⟩
theorem MS.lt (h : MS w0 g so sb mv w ov ops f) : g < w.heap.size := blk_lt h.blk
theorem MS.size (h : MS w0 g so sb mv w ov ops f) : w0.heap.size ≤ w.heap.size := h.below.size
theorem MS.cells (h : MS w0 g so sb mv w ov ops f) : w.cell? ⟨g, 0, none⟩ = some so ∧ w.cell? ⟨g, 1, none⟩ = some sb ∧ w.cell? ⟨g, 2, none⟩ = some (.map mv) ∧ w.cell? ⟨g, 3, none⟩ = some ov ∧ w.cell? ⟨g, 4, none⟩ = some (.int .i64 f) :=
  ⟨(cell_of_row _ _ _ _ _ _ h.blk).trans rfl, (cell_of_row _ _ _ _ _ _ h.blk).trans rfl, (cell_of_row _ _ _ _ _ _ h.blk).trans rfl, (cell_of_row _ _ _ _ _ _ h.blk).trans rfl, (cell_of_row _ _ _ _ _ _ h.blk).trans rfl⟩
theorem MS.keep (h : MS w0 g so sb mv w ov ops f) (hb : Below w.heap.size w w1) : MS w0 g so sb mv w1 ov ops f := ⟨blk_below h.blk hb, Kd.N_below h.own hb, below_then h.below h.size hb, h.bg⟩
theorem MS.from_ (h : MS w0 g so sb mv w ov ops f) (t : Int) : MS w0 g so sb mv (w.setCell ⟨g, 4, none⟩ (.int .i64 t)) ov ops t := ⟨blk_set h.blk 4 _, Kd.N_far h.own (p := ⟨g, 4, none⟩) (fun k hk => hk.2) _, h.below.setCell h.bg _, h.bg⟩
theorem else_set {j : Nat} {u : Value} : Else g w (w.setCell ⟨g, j, none⟩ u) := ⟨by simp, fun k o hk hg _ => (Below.heap_setCell w ⟨g, j, none⟩ u k hg).trans hk⟩
theorem MS.frozen (h : MS w0 g so sb mv w ov ops f) (j : Nat) : w.frozen? ⟨g, j, none⟩ = false := blk_frozen h.blk j
/-- Behind an append to the ops. -/
theorem MS.grown (h : MS w0 g so sb mv w ov ops f) (hb : Below w0.heap.size w0 w1) (hg : w.grownBy w1 ov.ownBlock) : w1.heap[g]? = some (.cells #[so, sb, .map mv, ov, .int .i64 f] 60 (0, 0)) :=
  (hg.block g h.lt (Kd.N_ne h.own h.blk (by decide))).trans h.blk
theorem MS.next (h : MS w0 g so sb mv w ov ops f) (hb : Below w0.heap.size w0 w1) (hg : w.grownBy w1 ov.ownBlock) (hN : Kd.N k37 37 w1 w0.heap.size (fun k => w0.heap.size ≤ k ∧ k ≠ g) ov1 ops1) : MS w0 g so sb mv (w1.setCell ⟨g, 3, none⟩ ov1) ov1 ops1 f :=
  ⟨blk_set (h.grown hb hg) 3 _, Kd.N_far hN (p := ⟨g, 3, none⟩) (fun k hk => hk.2) _, hb.setCell h.bg _, h.bg⟩
theorem MS.else_ (h : MS w0 g so sb mv w ov ops f) (hg : w.grownBy w1 ov.ownBlock) : Else g w w1 := ⟨hg.size, fun k o hk hne ho => (hg.block k (blk_lt hk) (fun e => by
    obtain ⟨cells, hc⟩ := Kd.N_typed h.own k e.symm
    rw [hk] at hc
    exact ho cells (Option.some.inj hc))).trans hk⟩
end
theorem data_FK {w0 w w2 wd : World} {g : Nat} {so sb ov : Value} {mv : Option Nat} {ops : List S37} {f : Int} {A2 : Option Addr} {nn n2 : Nat} {xs : List Int} {o : S37} (h : MS w0 g so sb mv w ov ops f) (hw : wd.heap.size = w.heap.size) (hO : Row.OwnB w2 wd.heap.size (.slice A2 nn n2) xs) (ho : o = ⟨0, 0, xs⟩) : Kd.FK k37 w2 (fun k => (w0.heap.size ≤ k ∧ k ≠ g) ∧ some k ≠ ov.ownBlock) o [.int .i64 0, .int .i64 0, .slice A2 nn n2] := by
  have hn := (Row.OwnB.reads hO).1
  subst ho
  subst hn
  have hF := Kd.R_F (Kd.R_tight rfl hO)
  refine k37_mkF _ _ (⟨0, 0, xs⟩ : S37) (Row.OwnB.reads hO).2.1 (Kd.F_mono hF fun k hk => ?_)
  have h1 := Kd.R_base hO k hk.symm
  have := h.lt
  have := h.size
  refine ⟨⟨by omega, by omega⟩, fun e => ?_⟩
  have := Kd.N_lt h.own k e.symm
  omega
def dataP (ops : List S37) (b : List Int) (p q : Nat) : List S37 := if p < q then ops ++ [⟨0, 0, (b.drop p).take (q - p)⟩] else ops
set_option maxHeartbeats 4000000 in
set_option maxRecDepth 100000 in
theorem data_any {w0 w : World} {g : Nat} {so : Value} {A : Option Addr} {cb : Nat} {mv : Option Nat} {ov : Value} {ops : List S37} (b : List Int) (p q : Nat) (h : MS w0 g so (.slice A b.length cb) mv w ov ops p) (hC : Kd.C (Kd.int .u8) w0 A b.length b) (hcb : b.length ≤ cb) (hp : p ≤ q) (hq : q ≤ b.length) (hb : b.length ≤ 8388608) (hl : ops.length ≤ 100000000) :
    Calls Try.prog 54 #[.pointer (some ⟨g, 0, none⟩), .int .i64 (q : Int)] w fun e w' => e = .returned (.tuple #[]) ∧ (∃ ov', MS w0 g so (.slice A b.length cb) mv w' ov' (dataP ops b p q) q) ∧ Else g w w' := by
  obtain ⟨c0, c1, c2, c3, c4⟩ := h.cells
  have hfz := h.frozen 4
  obtain ⟨n, hn⟩ : ∃ n, n = b.length := ⟨_, rfl⟩
  by_cases hlt : p < q
  · obtain ⟨AL, nn, cL, hnn, hncL, hcut, hCL⟩ := cut_mid2 A cb b p q hp hq hcb
    obtain ⟨o, ho⟩ : ∃ o : S37, o = ⟨0, 0, (b.drop p).take (q - p)⟩ := ⟨_, rfl⟩
    have KD : Aside0 (dataP ops b p q = ops ++ [o]) := ⟨by rw [ho]; exact if_pos hlt⟩
    have hnnb : nn ≤ 8388608 := by rw [← hnn, List.length_take, List.length_drop]; omega
    have KCl : Aside0 (∀ w', Below w0.heap.size w0 w' → _) := ⟨fun w' hB => Eq_.clone_any w' AL nn cL ((b.drop p).take (q - p)) (by have := hCL w' (Kd.C_below hC hB); rwa [hnn] at this) (by omega)⟩
    have Ko := Aside0.mk ho
    have Knn := Aside0.mk hnn
    rw [← hn] at hcut c1 h ⊢
    have KM := Aside0.mk h
    clear hC hCL ho hnn h hn hcb hb hq
    go_enter Try.func54, Try.ntmps54
    go_wp2
    refine start_ (n := 22) (S := fun w' => w'.cell? ⟨g, 3, none⟩ = some ov ∧ w'.cell? ⟨g, 1, none⟩ = some (.slice A n cb) ∧ w'.cell? ⟨g, 4, none⟩ = some (.int .i64 (p : Int))) (ds := [18, 21]) #[false, false, false, false, false, false, false, false, false, false, false, false, false, false, false, false, false, false, false, false, false, false] (by kernel_rfl) rfl rfl ⟨(show w.cell? _ = _ from c3), (show w.cell? _ = _ from c1), (show w.cell? _ = _ from c4)⟩ (fun hHeld => ?_)
    refine pure_ (i := 0) (N := some 10) (v := ?_) (a' := ?_) #[true, false, false, false, false, false, false, false, false, false, false, false, false, false, false, false, false, false, false, false, false, false] rfl rfl (by kernel_rfl) (fun _ _ _ h => h) (Or.inl ⟨by rfl, ?_⟩) ?_ ?_
    rotate_left
    · intro w'
      go_simp
      with_reducible rfl
    rotate_left
    · simp only [Act.put, List.setIfInBounds_toArray, List.set_cons_zero, List.set_cons_succ, i64_w, i32_w]
      rfl
    refine pure_ (i := 1) (N := some 11) (v := ?_) (a' := ?_) #[true, true, false, false, false, false, false, false, false, false, false, false, false, false, false, false, false, false, false, false, false, false] rfl rfl (by kernel_rfl) (fun _ _ _ h => h) (Or.inl ⟨by rfl, ?_⟩) ?_ ?_
    rotate_left
    · intro w'
      go_simp
      with_reducible rfl
    rotate_left
    · simp only [Act.put, List.setIfInBounds_toArray, List.set_cons_zero, List.set_cons_succ, i64_w, i32_w]
      rfl
    refine pure_ (i := 2) (N := some 12) (v := ?_) (a' := ?_) #[true, true, true, false, false, false, false, false, false, false, false, false, false, false, false, false, false, false, false, false, false, false] rfl rfl (by kernel_rfl) (fun _ _ _ h => h) (Or.inl ⟨by rfl, ?_⟩) ?_ ?_
    rotate_left
    · intro w'
      go_simp
      with_reducible rfl
    rotate_left
    · simp only [Act.put, List.setIfInBounds_toArray, List.set_cons_zero, List.set_cons_succ, i64_w, i32_w]
      rfl
    refine pure_ (i := 3) (N := some 13) (v := ?_) (a' := ?_) #[true, true, true, true, false, false, false, false, false, false, false, false, false, false, false, false, false, false, false, false, false, false] rfl rfl (by kernel_rfl) (fun _ _ _ h => h) (Or.inl ⟨by rfl, ?_⟩) ?_ ?_
    rotate_left
    · intro w'
      go_simp
      with_reducible rfl
    rotate_left
    · simp only [Act.put, List.setIfInBounds_toArray, List.set_cons_zero, List.set_cons_succ, i64_w, i32_w]
      rfl
    refine pure_ (i := 5) (N := some 15) (v := ?_) (a' := ?_) #[true, true, true, true, false, true, false, false, false, false, false, false, false, false, false, false, false, false, false, false, false, false] rfl rfl (by kernel_rfl) (fun _ _ _ h => h) (Or.inl ⟨by rfl, ?_⟩) ?_ ?_
    rotate_left
    · intro w'
      go_simp
      with_reducible rfl
    rotate_left
    · simp only [Act.put, List.setIfInBounds_toArray, List.set_cons_zero, List.set_cons_succ, i64_w, i32_w]
      rfl
    refine pure_ (i := 6) (N := some 16) (v := ?_) (a' := ?_) #[true, true, true, true, false, true, true, false, false, false, false, false, false, false, false, false, false, false, false, false, false, false] rfl rfl (by kernel_rfl) (fun _ _ _ h => h) (Or.inl ⟨by rfl, ?_⟩) ?_ ?_
    rotate_left
    · intro w'
      go_simp
      with_reducible rfl
    rotate_left
    · simp only [Act.put, List.setIfInBounds_toArray, List.set_cons_zero, List.set_cons_succ, i64_w, i32_w]
      rfl
    refine pure_ (i := 7) (N := some 17) (v := ?_) (a' := ?_) #[true, true, true, true, false, true, true, true, false, false, false, false, false, false, false, false, false, false, false, false, false, false] rfl rfl (by kernel_rfl) (fun _ _ _ h => h) (Or.inl ⟨by rfl, ?_⟩) ?_ ?_
    rotate_left
    · intro w'
      go_simp
      with_reducible rfl
    rotate_left
    · simp only [Act.put, List.setIfInBounds_toArray, List.set_cons_zero, List.set_cons_succ, i64_w, i32_w]
      rfl
    refine pure_ (i := 9) (N := some 19) (v := ?_) (a' := ?_) #[true, true, true, true, false, true, true, true, false, true, false, false, false, false, false, false, false, false, false, false, false, false] rfl rfl (by kernel_rfl) (fun _ _ _ h => h) (Or.inl ⟨by rfl, ?_⟩) ?_ ?_
    rotate_left
    · intro w'
      go_simp
      with_reducible rfl
    rotate_left
    · simp only [Act.put, List.setIfInBounds_toArray, List.set_cons_zero, List.set_cons_succ, i64_w, i32_w]
      rfl
    refine pure_ (i := 10) (N := some 20) (v := ?_) (a' := ?_) #[true, true, true, true, false, true, true, true, false, true, true, false, false, false, false, false, false, false, false, false, false, false] rfl rfl (by kernel_rfl) (fun _ _ _ h => h) (Or.inl ⟨by rfl, ?_⟩) ?_ ?_
    rotate_left
    · intro w'
      go_simp
      with_reducible rfl
    rotate_left
    · simp only [Act.put, List.setIfInBounds_toArray, List.set_cons_zero, List.set_cons_succ, i64_w, i32_w]
      rfl
    refine pure_ (i := 11) (N := some 21) (v := ?_) (a' := ?_) #[true, true, true, true, false, true, true, true, false, true, true, true, false, false, false, false, false, false, false, false, false, false] rfl rfl (by kernel_rfl) (fun _ _ _ h => h) (Or.inl ⟨by rfl, ?_⟩) ?_ ?_
    rotate_left
    · intro w'
      go_simp
      with_reducible rfl
    rotate_left
    · simp only [Act.put, List.setIfInBounds_toArray, List.set_cons_zero, List.set_cons_succ, i64_w, i32_w]
      rfl
    refine pure_ (i := 13) (N := some 23) (v := ?_) (a' := ?_) #[true, true, true, true, false, true, true, true, false, true, true, true, false, true, false, false, false, false, false, false, false, false] rfl rfl (by kernel_rfl) (fun _ _ _ h => h) (Or.inl ⟨by rfl, ?_⟩) ?_ ?_
    rotate_left
    · intro w'
      go_simp
      with_reducible rfl
    rotate_left
    · simp only [Act.put, List.setIfInBounds_toArray, List.set_cons_zero, List.set_cons_succ, i64_w, i32_w]
      rfl
    refine take_ (i := 4) (N := some 14) (v := ?_) (a' := ?_) #[true, true, true, true, true, true, true, true, false, true, true, true, false, true, false, false, false, false, false, false, false, false] rfl rfl (by kernel_rfl) (fun _ _ _ h => h) (Or.inl ⟨by rfl, ?_⟩) hHeld ?_ ?_
    rotate_left
    · rintro w' ⟨s0, s1, s2⟩
      go_simp
      with_reducible rfl
    rotate_left
    · simp only [Act.put, List.setIfInBounds_toArray, List.set_cons_zero, List.set_cons_succ, i64_w, i32_w]
      rfl
    refine take_ (i := 8) (N := some 18) (v := ?_) (a' := ?_) #[true, true, true, true, true, true, true, true, true, true, true, true, false, true, false, false, false, false, false, false, false, false] rfl rfl (by kernel_rfl) (fun _ _ _ h => h) (Or.inl ⟨by rfl, ?_⟩) hHeld ?_ ?_
    rotate_left
    · rintro w' ⟨s0, s1, s2⟩
      go_simp
      with_reducible rfl
    rotate_left
    · simp only [Act.put, List.setIfInBounds_toArray, List.set_cons_zero, List.set_cons_succ, i64_w, i32_w]
      rfl
    refine take_ (i := 12) (N := some 22) (v := ?_) (a' := ?_) #[true, true, true, true, true, true, true, true, true, true, true, true, true, true, false, false, false, false, false, false, false, false] rfl rfl (by kernel_rfl) (fun _ _ _ h => h) (Or.inl ⟨by rfl, ?_⟩) hHeld ?_ ?_
    rotate_left
    · rintro w' ⟨s0, s1, s2⟩
      go_simp
      with_reducible rfl
    rotate_left
    · simp only [Act.put, List.setIfInBounds_toArray, List.set_cons_zero, List.set_cons_succ, i64_w, i32_w]
      rfl
    refine pure_ (i := 14) (N := some 24) (v := ?_) (a' := ?_) #[true, true, true, true, true, true, true, true, true, true, true, true, true, true, true, false, false, false, false, false, false, false] rfl rfl (by kernel_rfl) (fun _ _ _ h => h) (Or.inl ⟨by rfl, ?_⟩) ?_ ?_
    rotate_left
    · intro w'
      go_simp
      with_reducible rfl
    rotate_left
    · simp only [Act.put, List.setIfInBounds_toArray, List.set_cons_zero, List.set_cons_succ, i64_w, i32_w]
      rfl
    refine one_ (i := 15) (N := some 25) #[true, true, true, true, true, true, true, true, true, true, true, true, true, true, true, true, false, false, false, false, false, false] rfl rfl (by kernel_rfl) (by decide) (fun K hK => ?_)
    refine goes_ Try.func36 (by kernel_rfl) rfl #[.slice AL nn cL] (by rfl) rfl rfl (by simp only [List.map_toArray, List.map_cons, List.map_nil]; rfl) ?_
    with_reducible refine (KCl.out _ (below_drew KM.out.below)).mono ?_
    rintro e w2 ⟨v2, rfl, hO2, hb2⟩
    refine ⟨_, rfl, ?_⟩
    have KM2 := Aside0.mk ((KM.out.keep (below_drew (Below.refl _ _))).keep hb2)
    have KO2 := Aside0.mk hO2
    have Kb2 := Aside0.mk (below_then (below_drew (Below.refl _ _)) (Nat.le_refl _) hb2)
    obtain ⟨A2, n2, hv2, hn2, hC2⟩ := hO2.slice
    rw [Knn.out] at hv2
    subst hv2
    obtain ⟨d0, d1, d2, d3, d4⟩ := KM2.out.cells
    clear hO2 hb2 hC2 d0 d2
    refine hK.out _ _ ⟨d3, d1, d4⟩ (fun hHeld => ?_)
    clear hK K
    refine norm_ (a' := ?_) ?_ ?_
    rotate_left
    · show Act.put _ (some 25) _ = _
      simp only [Act.put, List.setIfInBounds_toArray, List.set_cons_zero, List.set_cons_succ, i64_w, i32_w]
      rfl
    refine pure_ (i := 16) (N := some 26) (v := ?_) (a' := ?_) #[true, true, true, true, true, true, true, true, true, true, true, true, true, true, true, true, true, false, false, false, false, false] rfl rfl (by kernel_rfl) (fun _ _ _ h => h) (Or.inl ⟨by rfl, ?_⟩) ?_ ?_
    rotate_left
    · intro w'
      go_simp
      with_reducible rfl
    rotate_left
    · simp only [Act.put, List.setIfInBounds_toArray, List.set_cons_zero, List.set_cons_succ, i64_w, i32_w]
      rfl
    refine one_ (i := 17) (N := some 27) #[true, true, true, true, true, true, true, true, true, true, true, true, true, true, true, true, true, true, false, false, false, false] rfl rfl (by kernel_rfl) (by decide) (fun K hK => ?_)
    refine value_ (w1 := ?_) (v := ?_) (by rfl) rfl ?_ ?_
    rotate_left 2
    · go_simp
      constructor
      · rfl
      · rfl
    refine hK.out _ _ ⟨((cell_of_row _ _ _ _ _ _ (blk_alloc KM2.out.blk _)).trans rfl), ((cell_of_row _ _ _ _ _ _ (blk_alloc KM2.out.blk _)).trans rfl), ((cell_of_row _ _ _ _ _ _ (blk_alloc KM2.out.blk _)).trans rfl)⟩ (fun hHeld => ?_)
    clear hK K
    refine norm_ (a' := ?_) ?_ ?_
    rotate_left
    · show Act.put _ (some 27) _ = _
      simp only [Act.put, List.setIfInBounds_toArray, List.set_cons_zero, List.set_cons_succ, i64_w, i32_w]
      rfl
    refine last_ (i := 18) (N := some 28) #[true, true, true, true, true, true, true, true, true, true, true, true, true, true, true, true, true, true, true, false, false, false] rfl rfl (by kernel_rfl) (by decide) (fun K hK => ?_)
    refine Kd.N_append_step k37 (w0 := w0) w0.heap.size (by rfl) (.tmp 14) (.tmp 27) 25 37 (.agg #[(.int .i64 0), (.int .i64 0), (.slice none 0 0)]) 40 rfl Try.underlying25 info37 rfl (by decide) (by omega) ov ops o [.int .i64 0, .int .i64 0, .slice A2 nn n2] (fun k => w0.heap.size ≤ k ∧ k ≠ g) (fun k => (w0.heap.size ≤ k ∧ k ≠ g) ∧ some k ≠ ov.ownBlock) rfl rfl (data_FK (wd := w.drew) KM.out rfl KO2.out Ko.out) (fun _ hk => hk) (fun k hk => ⟨Nat.le_trans KM2.out.size hk, fun e => by have := KM2.out.lt; omega⟩) KM2.out.own KM2.out.below KM2.out.size (by omega) ?_; intro v3 w3 hN3 hB3 hg3 hat3; obtain ⟨A3, C3, hv3⟩ := Kd.N_slice hN3; obtain ⟨l3, hl3⟩ : ∃ l3, l3 = (ops ++ [o]).length := ⟨_, rfl⟩; rw [← hl3] at hv3; subst hv3; have hG3 := KM2.out.grown hB3 hg3; have e3 : w3.cell? ⟨g, 3, none⟩ = some ov := (cell_of_row _ _ _ _ _ _ hG3).trans rfl; have e1 : w3.cell? ⟨g, 1, none⟩ = some (.slice A n cb) := (cell_of_row _ _ _ _ _ _ hG3).trans rfl; have e4 : w3.cell? ⟨g, 4, none⟩ = some (.int .i64 (p : Int)) := (cell_of_row _ _ _ _ _ _ hG3).trans rfl; have hfz3 : w3.frozen? ⟨g, 3, none⟩ = false := blk_frozen hG3 3; have KM4 := Aside0.mk (KM2.out.next hB3 hg3 hN3); have KE4 := Aside0.mk ((Else.below Kb2.out : Else g w w2).trans ((KM2.out.else_ hg3).trans (else_set (j := 3) (u := .slice A3 l3 C3)))); clear hN3 hB3 hg3 hat3 hG3 hl3
    refine hK.out _ _ ?_
    clear hK K
    refine norm_ (a' := ?_) ?_ ?_
    rotate_left
    · show Act.put _ (some 28) _ = _
      simp only [Act.put, List.setIfInBounds_toArray, List.set_cons_zero, List.set_cons_succ, i64_w, i32_w]
      rfl
    refine pure_ (i := 19) (N := some 29) (v := ?_) (a' := ?_) #[true, true, true, true, true, true, true, true, true, true, true, true, true, true, true, true, true, true, true, true, false, false] rfl rfl (by kernel_rfl) (fun _ _ _ h => h) (Or.inl ⟨by rfl, ?_⟩) ?_ ?_
    rotate_left
    · intro w'
      go_simp
      with_reducible rfl
    rotate_left
    · simp only [Act.put, List.setIfInBounds_toArray, List.set_cons_zero, List.set_cons_succ, i64_w, i32_w]
      rfl
    refine pure_ (i := 20) (N := some 30) (v := ?_) (a' := ?_) #[true, true, true, true, true, true, true, true, true, true, true, true, true, true, true, true, true, true, true, true, true, false] rfl rfl (by kernel_rfl) (fun _ _ _ h => h) (Or.inl ⟨by rfl, ?_⟩) ?_ ?_
    rotate_left
    · intro w'
      go_simp
      with_reducible rfl
    rotate_left
    · simp only [Act.put, List.setIfInBounds_toArray, List.set_cons_zero, List.set_cons_succ, i64_w, i32_w]
      rfl
    refine last_ (i := 21) (N := none) #[true, true, true, true, true, true, true, true, true, true, true, true, true, true, true, true, true, true, true, true, true, true] rfl rfl (by kernel_rfl) (by decide) (fun K hK => ?_)
    refine skip_ (w1 := ?_) (by rfl) rfl ?_ ?_
    rotate_left
    · go_simp
      rfl
    refine hK.out _ _ ?_
    clear hK K
    refine done_ (by kernel_rfl) ?_
    obtain ⟨w4, hw4⟩ : ∃ w4, w4 = w3.setCell ⟨g, 3, none⟩ (.slice A3 l3 C3) := ⟨_, rfl⟩
    rw [← hw4] at KM4 KE4
    rw [← hw4]
    have hf4 := KM4.out.frozen 4
    have hc4 := KM4.out.cells.2.2.2.2
    clear hw4
    try clear hHeld
    go_wp2
    go_end0
    exact ⟨rfl, ⟨_, by rw [KD.out]; exact KM4.out.from_ q⟩, KE4.out.trans else_set⟩
  · obtain rfl : p = q := by omega
    rw [← hn] at c1 h ⊢
    have KM := Aside0.mk h
    have KD : Aside0 (dataP ops b p p = ops) := ⟨if_neg hlt⟩
    clear hC h hn hcb hb hq
    go_enter Try.func54, Try.ntmps54
    go_wp2
    go_end0
    exact ⟨rfl, ⟨ov, by rw [KD.out]; exact KM.out.from_ p⟩, else_set⟩
end Go.Proofs.Ytogplkochcalpaa.De
/- Deltas: the page's example: walks. -/
set_option linter.unusedVariables false
set_option linter.unusedSimpArgs false
namespace Go.Proofs.Ytogplkochcalpaa.De
open Go.RowKit Go.Proofs.Ytogplkochcalpaa.PD Go.Proofs.Ytogplkochcalpaa.Fd Go.Proofs.Ytogplkochcalpaa.Bg Go.Proofs.YtogplkochcalpaaW.PrintWords Go.Proofs.YtogplkochcalpaaW.PrintLast Go.Proofs.YtogplkochcalpaaW.PrintMore
/-- Old bytes without a piece. -/
theorem index_short {w0 w : World} {g : Nat} {A : Option Addr} {n ca : Nat} {sb : Value} (h : MS w0 g (.slice A n ca) sb none w (.slice none 0 0) [] 0) (hn : n < 16) :
    Calls Try.prog 52 #[.pointer (some ⟨g, 0, none⟩)] w fun e w' => e = .returned (.tuple #[]) ∧ ∃ m, MS w0 g (.slice A n ca) sb (some m) w' (.slice none 0 0) [] 0 := by
  have hmm := @run_makeMap Try.prog
  obtain ⟨w1, hw1⟩ : ∃ w1, w1 = w.alloc (.map #[] 0) := ⟨_, rfl⟩
  have hal : Below w.heap.size w w1 := by rw [hw1]; exact below_alloc (Below.refl _ _) _
  have h1 := h.keep hal
  have K2 : Aside0 (MS w0 g (.slice A n ca) sb (some w.heap.size) (w1.setCell ⟨g, 2, none⟩ (.map (some w.heap.size))) (.slice none 0 0) [] 0) := ⟨⟨blk_set h1.blk 2 _, Kd.N_nil _ _ _ _ _, h1.below.setCell h1.bg _, h1.bg⟩⟩
  rw [hw1] at K2 h1
  obtain ⟨c0, c1, c2, c3, c4⟩ := h1.cells
  have hf := h1.frozen 2
  obtain ⟨d0, d1, d2, d3, d4⟩ := K2.out.cells
  clear hal h h1 hw1
  go_enter Try.func52, Try.ntmps52
  go_wp2
  go_loop [2] (fun i => i = .int .i64 0) (fun _ => 0)
  case atStart => exact rfl
  case round =>
    subst hrel
    go_wp2
    go_end0
    exact ⟨rfl, _, K2.out⟩
theorem num_any (n : Int) (w : World) : Calls Try.prog 12 #[.int .i64 n] w fun e w' => e = .returned (.int .i64 n) ∧ w = w' := by
  go_enter Try.func12, Try.ntmps12
  go_wp2
  go_ret
  exact ⟨rfl, rfl⟩
set_option maxHeartbeats 4000000 in
/-- Short bytes by short ones: all of them as they are. -/
theorem run_short {w0 w : World} {g : Nat} {A B : Option Addr} {n ca cb : Nat} (b : List Int) (h : MS w0 g (.slice A n ca) (.slice B b.length cb) none w (.slice none 0 0) [] 0) (hn : n < 16) (hb : b.length < 16) (hC : Kd.C (Kd.int .u8) w0 B b.length b) (hcb : b.length ≤ cb) (h0 : 0 < b.length) :
    Calls Try.prog 29 #[.pointer (some ⟨g, 0, none⟩)] w fun e w' => e = .returned (.tuple #[]) ∧ ∃ m ov, MS w0 g (.slice A n ca) (.slice B b.length cb) (some m) w' ov [⟨0, 0, b⟩] b.length := by
  have KI := Aside0.mk (index_short h hn)
  obtain ⟨k, hk⟩ : ∃ k, k = b.length := ⟨_, rfl⟩
  have KD : Aside0 (∀ w1 m, MS w0 g (.slice A n ca) (.slice B k cb) (some m) w1 (.slice none 0 0) [] 0 → _) := ⟨fun w1 m h1 => by rw [hk] at h1; exact data_any b 0 b.length h1 hC hcb (by omega) (Nat.le_refl _) (by omega) (by simp)⟩
  have KP : Aside0 (dataP [] b 0 b.length = [⟨0, 0, b⟩]) := ⟨by unfold dataP; rw [if_pos h0]; simp⟩
  rw [KP.out] at KD
  rw [← hk] at KI hb ⊢
  rw [← hk] at KD
  clear h hC hcb h0 hk
  go_enter Try.func29, Try.ntmps29
  go_wp2_with (go_at_call 52; apply Aside0.out)
  refine ⟨?_⟩
  refine KI.out.mono ?_
  rintro e w1 ⟨rfl, m, h1⟩
  have K1 := Aside0.mk h1
  obtain ⟨c0, c1, c2, c3, c4⟩ := h1.cells
  clear h1
  go_wp2
  go_loop [2] (fun i => i = .int .i64 0) (fun _ => 0)
  case atStart => exact rfl
  case round =>
    subst hrel
    go_wp2_with (go_at_call 54; apply Aside0.out)
    refine ⟨?_⟩
    refine (KD.out w1 m K1.out).mono ?_
    rintro e w2 ⟨rfl, ⟨ov, h2⟩, -⟩
    have K2 := Aside0.mk h2
    clear h2
    go_wp2
    go_end0
    exact ⟨rfl, m, ov, K2.out⟩
end Go.Proofs.Ytogplkochcalpaa.De
/- Deltas: the page's example: Make of two bytes: a walk. -/
set_option linter.unusedVariables false
set_option linter.unusedSimpArgs false
namespace Go.Proofs.Ytogplkochcalpaa.De
open Go.RowKit Go.Proofs.Ytogplkochcalpaa.PD Go.Proofs.Ytogplkochcalpaa.Fd Go.Proofs.Ytogplkochcalpaa.Bg Go.Proofs.YtogplkochcalpaaW.PrintWords Go.Proofs.YtogplkochcalpaaW.PrintLast Go.Proofs.YtogplkochcalpaaW.PrintMore
theorem szDel : (Try.prog.info? 27).map (·.size) = some 5 := by kernel_rfl
theorem store_del {ops : Array Oper} {rest : List Oper} {o : Oper} {a : Act} {w : World} {Q : Exit → Act → World → Prop} (hgd : o.guard = none) (x y : Operand) (ho : o.op = .store 27 x y) (g : Nat) (cells old : Array Value) (hx : a.eval x = .pointer (some ⟨g, 0, none⟩)) (hy : a.eval y = .agg cells) (hg : w.heap[g]? = some (.cells old 27 (0, 0))) (hs : cells.size = 5) (hold : old.size = 5) (h1 : cells.all (·.oneCell') = true)
    (h : ∀ w', w'.heap[g]? = some (.cells cells 27 (0, 0)) → (∀ b w0, b ≤ g → Below b w0 w → Below b w0 w') → (∀ k, k ≠ g → w'.heap[k]? = w.heap[k]?) → w'.heap.size = w.heap.size → wpList Try.prog ops Q rest (a.put o.dst undef) w') : wpList Try.prog ops Q (o :: rest) a w := by
  refine wpList_store_row hgd 27 x y ho g cells hx hy 27 old hg (by rw [hs]; exact szDel) (by rw [hs, hold]) h1 (h _ (setRow_heap w g _ _ _ (0, 0) hg) (fun b w0 hb hB => ⟨hB.os, hB.tape, hB.output, by have := hB.size; simpa [World.setRow] using this, fun k hk => (setRow_other w g k cells (by omega)).trans (hB.block k hk)⟩) (fun k hk => setRow_other w g k cells hk) (by simp [World.setRow]))
set_option maxHeartbeats 4000000 in
set_option maxRecDepth 100000 in
theorem make_nil (w : World) (b : List Int) (B : Option Addr) (cb : Nat) (hC : Kd.C (Kd.int .u8) w B b.length b) (hcb : b.length ≤ cb) (h0 : 0 < b.length) (hb : b.length < 16) (hB : ∀ x ∈ b, 0 ≤ x ∧ x < 256) :
    Calls Try.prog 11 #[.slice none 0 0, .slice B b.length cb] w fun e w' => ∃ ov, e = .returned (.tuple #[.agg #[.int .i64 0, .int .i64 b.length, .int .u64 (digF []), .int .u64 (digF b), ov], .int .i64 0]) ∧ Kd.N k37 37 w' w.heap.size (fun k => w.heap.size ≤ k) ov [⟨0, 0, b⟩] ∧ Below w.heap.size w w' := by
  have hz0 := heap_alloc_new w (.cells #[.int .i64 0, .int .i64 0, .int .u64 0, .int .u64 0, .slice none 0 0] 27)
  have hB0 := below_alloc (Below.refl w.heap.size w) (.cells #[.int .i64 0, .int .i64 0, .int .u64 0, .int .u64 0, .slice none 0 0] 27)
  have KZ0 := Aside0.mk hz0
  have KB0 := Aside0.mk hB0
  have KD0 : Aside0 (∀ w1 : World, _) := ⟨fun w1 => digest_any [] none 0 w1 (Kd.C_nil _ _) (by simp) (by simp)⟩
  have KD1 : Aside0 (∀ w1 : World, Below w.heap.size w w1 → _) := ⟨fun w1 h => digest_any b B cb w1 (Kd.C_below hC h) hcb (by omega)⟩
  have KEq : Aside0 (∀ w1 : World, Below w.heap.size w w1 → _) := ⟨fun w1 h => Eq_.equal_any none 0 [] B cb b w1 (Kd.C_nil _ _) (by simp) (Kd.C_below hC h) hcb (by simp) hB⟩
  have hne : decide (([] : List Int) = b) = false := by
    rw [decide_eq_false_iff_not]; intro e; rw [← e] at h0; simp at h0
  rw [hne] at KEq
  have KR : Aside0 (∀ (w1 w2 : World) (g : Nat), Below w.heap.size w w1 → MS w1 g (.slice none 0 0) (.slice B b.length cb) none w2 (.slice none 0 0) [] 0 → _) := ⟨fun w1 w2 g h1 h2 => run_short (n := 0) (ca := 0) (A := none) b h2 (by decide) hb (Kd.C_below hC h1) hcb h0⟩
  obtain ⟨d0, hd0⟩ : ∃ d0, d0 = digF [] := ⟨_, rfl⟩
  obtain ⟨d1, hd1⟩ : ∃ d1, d1 = digF b := ⟨_, rfl⟩
  obtain ⟨k, hk⟩ : ∃ k, k = b.length := ⟨_, rfl⟩
  simp only [List.length_nil] at KD0 KEq
  rw [← hd0] at KD0 ⊢
  rw [← hd1] at KD1 ⊢
  rw [← hk] at KD1 KEq KR hb h0 hcb ⊢
  have Kk := Aside0.mk hk
  clear hC hB hne hd0 hd1 hz0 hB0 hk
  go_enter Try.func11, Try.ntmps11
  go_wp2_with (go_at_call 27; apply Aside0.out)
  refine ⟨?_⟩
  refine (KD0.out _).mono ?_
  rintro e w1 ⟨rfl, hdr⟩
  have KB1 := Aside0.mk (below_then KB0.out KB0.out.size hdr.below)
  have KZ1 := Aside0.mk (blk_below KZ0.out (hdr.below))
  clear hdr KZ0 KB0
  go_wp2_with (go_at_call 27; apply Aside0.out)
  refine ⟨?_⟩
  refine (KD1.out _ KB1.out).mono ?_
  rintro e w2 ⟨rfl, hdr⟩
  have KB2 := Aside0.mk (below_then KB1.out KB1.out.size hdr.below)
  have KZ2 := Aside0.mk (blk_below KZ1.out (hdr.below))
  have hX := heap_alloc_new w2 (.cells #[.int .i64 0, .int .i64 k, .int .u64 d0, .int .u64 d1, .slice none 0 0] 27)
  have hXb := below_alloc (Below.refl w2.heap.size w2) (.cells #[.int .i64 0, .int .i64 k, .int .u64 d0, .int .u64 d1, .slice none 0 0] 27)
  have KX3 := Aside0.mk hX
  have KZ3 := Aside0.mk (blk_below KZ2.out hXb)
  have KB3 := Aside0.mk (below_then KB2.out KB2.out.size hXb)
  clear hdr KB1 KZ1 hX hXb
  go_wp2_with (go_at_call 28; apply Aside0.out)
  refine ⟨?_⟩
  refine (KEq.out _ KB3.out).mono ?_
  rintro e w3 ⟨rfl, hw3⟩
  subst hw3
  obtain ⟨w3, hw3⟩ : ∃ w3, w3 = w2.alloc (.cells #[.int .i64 0, .int .i64 k, .int .u64 d0, .int .u64 d1, .slice none 0 0] 27) := ⟨_, rfl⟩
  rw [← hw3] at KX3 KZ3 KB3
  rw [← hw3]
  have hMg := heap_alloc_new w3 (.cells #[.slice none 0 0, .slice B k cb, .map none, .slice none 0 0, .int .i64 0] 60)
  have hMb := below_alloc (Below.refl w3.heap.size w3) (.cells #[.slice none 0 0, .slice B k cb, .map none, .slice none 0 0, .int .i64 0] 60)
  have KM4 : Aside0 (MS w3 w3.heap.size (.slice none 0 0) (.slice B k cb) none (w3.alloc (.cells #[.slice none 0 0, .slice B k cb, .map none, .slice none 0 0, .int .i64 0] 60)) (.slice none 0 0) [] 0) := ⟨⟨hMg, Kd.N_nil _ _ _ _ _, hMb, Nat.le_refl _⟩⟩
  have hsz : w2.heap.size < w3.heap.size := blk_lt KX3.out
  clear hMg hMb hw3
  go_wp2_with (go_at_call 29; apply Aside0.out)
  refine ⟨?_⟩
  refine (KR.out _ _ _ KB3.out KM4.out).mono ?_
  rintro e w5 ⟨rfl, m, ov, h5⟩
  have KM5 := Aside0.mk h5
  obtain ⟨c0, c1, c2, c3, c4⟩ := h5.cells
  have KB5 := Aside0.mk (below_then KB3.out KB3.out.size h5.below)
  have KX5 := Aside0.mk ((h5.below.block _ (blk_lt KX3.out)).trans KX3.out)
  have KZ5 := Aside0.mk ((h5.below.block _ (blk_lt KZ3.out)).trans KZ3.out)
  have x4 : w5.cell? ⟨w2.heap.size, 4, none⟩ = some (.slice none 0 0) := (cell_of_row _ _ _ _ _ _ KX5.out).trans rfl
  have xf : w5.frozen? ⟨w2.heap.size, 4, none⟩ = false := blk_frozen KX5.out 4
  obtain ⟨A5, C5, hv5⟩ := Kd.N_slice h5.own
  simp only [List.length_singleton] at hv5
  subst hv5
  clear h5 c0 c1 c2 c4
  have KX6 := Aside0.mk (blk_set KX5.out 4 (.slice A5 1 C5))
  obtain ⟨w6, hw6⟩ : ∃ w6, w6 = w5.setCell ⟨w2.heap.size, 4, none⟩ (.slice A5 1 C5) := ⟨_, rfl⟩
  have KZ6 : Aside0 (w6.heap[w.heap.size]? = some (.cells #[.int .i64 0, .int .i64 0, .int .u64 0, .int .u64 0, .slice none 0 0] 27 (0, 0))) := ⟨by rw [hw6]; exact (Below.heap_setCell _ ⟨w2.heap.size, 4, none⟩ _ w.heap.size (by have := blk_lt KZ2.out; show w.heap.size ≠ w2.heap.size; omega)).trans KZ5.out⟩
  have KB6 : Aside0 (Below w.heap.size w w6) := ⟨by rw [hw6]; exact KB5.out.setCell KB2.out.size _⟩
  have hN6 : Kd.N k37 37 w6 w3.heap.size (fun k => w3.heap.size ≤ k ∧ k ≠ w3.heap.size) (.slice A5 1 C5) [⟨0, 0, b⟩] := by rw [hw6]; exact Kd.N_far KM5.out.own (p := ⟨w2.heap.size, 4, none⟩) (fun k hk => by have h9 : w3.heap.size ≤ k := hk.1; intro h10; have h11 : k = w2.heap.size := h10; omega) _
  have KN6 := Aside0.mk hN6
  rw [← hw6] at KX6
  have z0 : w6.cell? ⟨w2.heap.size, 0, none⟩ = some (.int .i64 0) := (cell_of_row _ _ _ _ _ _ KX6.out).trans rfl
  have z1 : w6.cell? ⟨w2.heap.size, 1, none⟩ = some (.int .i64 k) := (cell_of_row _ _ _ _ _ _ KX6.out).trans rfl
  have z2 : w6.cell? ⟨w2.heap.size, 2, none⟩ = some (.int .u64 d0) := (cell_of_row _ _ _ _ _ _ KX6.out).trans rfl
  have z3 : w6.cell? ⟨w2.heap.size, 3, none⟩ = some (.int .u64 d1) := (cell_of_row _ _ _ _ _ _ KX6.out).trans rfl
  have z4 : w6.cell? ⟨w2.heap.size, 4, none⟩ = some (.slice A5 1 C5) := (cell_of_row _ _ _ _ _ _ KX6.out).trans rfl
  rw [hw6] at z0 z1 z2 z3 z4
  clear hN6
  go_wp2_with ((with_reducible refine gate_store (t := 27) (p := 4) rfl ?_); apply Aside0.out)
  refine ⟨?_⟩
  rw [← hw6]
  refine store_del rfl (.tmp 4) (.tmp 50) rfl w.heap.size _ _ rfl rfl KZ6.out rfl rfl (by simp [Value.oneCell']) ?_
  intro w7 hg hB hE hS
  have KB7 := Aside0.mk (hB _ _ (Nat.le_refl _) KB6.out)
  have KZ7 := Aside0.mk hg
  have KN7 : Aside0 (Kd.N k37 37 w7 w.heap.size (fun k => w.heap.size ≤ k) (.slice A5 1 C5) [⟨0, 0, b⟩]) := ⟨Kd.N_mono (Kd.N_lower (Kd.N_step KN6.out (fun k hk _ => hE k (by have := hk.1; have := KB3.out.size; have := blk_lt KZ2.out; omega))) KB3.out.size) (fun k hk => by have := hk.1; have := KB3.out.size; omega)⟩
  clear hg hB hE hS z0 z1 z2 z3 z4 hw6 x4 xf
  go_wp2
  refine bodyPost_ret (results_list (rs := [.cell 4 27, .tmp 5]) rfl (by simp) (.cell w.heap.size 27 _ _ _ rfl KZ7.out Try.underlying27 rfl szDel (.tmp .nil))) rfl ?_
  exact ⟨_, rfl, KN7.out, KB7.out⟩
end Go.Proofs.Ytogplkochcalpaa.De
/- Deltas: the page's example: a walk. -/
set_option linter.unusedVariables false
set_option linter.unusedSimpArgs false
namespace Go.Proofs.Ytogplkochcalpaa.De
open Go.RowKit Go.Proofs.Ytogplkochcalpaa.PD Go.Proofs.Ytogplkochcalpaa.Fd Go.Proofs.Ytogplkochcalpaa.Bg Go.Proofs.YtogplkochcalpaaW.PrintWords Go.Proofs.YtogplkochcalpaaW.PrintLast Go.Proofs.YtogplkochcalpaaW.PrintMore
def dl2 : Dl := ⟨0, 2, digF [], digF [97, 98], [⟨0, 0, [97, 98]⟩]⟩
theorem right_gen (c d : Int) : rightD ⟨0, 2, c, d, [⟨0, 0, [97, 98]⟩]⟩ = true := by simp [rightD, rightL, rightO, ol]
theorem len_gen (c d : Int) : (bytesB ⟨0, 2, c, d, [⟨0, 0, [97, 98]⟩]⟩).length = 39 := by rw [bytesB_len]; rfl
theorem u64B (n : Int) : 0 ≤ IntKind.u64.wrap n ∧ IntKind.u64.wrap n < 18446744073709551616 := by simp [IntKind.wrap, IntKind.bits, IntKind.signed]; omega
theorem onF_bound (l : List Int) : ∀ d : Int, 0 ≤ d ∧ d < 18446744073709551616 → 0 ≤ onF d l ∧ onF d l < 18446744073709551616 := by
  induction l with
  | nil => intro d h; exact h
  | cons x l ih => intro d h; exact ih _ (u64B _)
theorem digF_bound (l : List Int) : 0 ≤ digF l ∧ digF l < 18446744073709551616 := onF_bound l _ (by decide)
theorem N_C {w : World} {base : Nat} {ok : Nat → Prop} {v : Value} {l : List S37} (h : Kd.N k37 37 w base ok v l) : ∃ A c, v = .slice A l.length c ∧ l.length ≤ c ∧ Kd.C k37 w A l.length l := by
  obtain ⟨A, c, rfl, hl⟩ := Kd.N_slice h
  obtain ⟨h1, h2, h3⟩ := Kd.N_reads' h
  exact ⟨A, c, rfl, h2, h3⟩
theorem str_atE {w : World} {A : Option Addr} {n c : Nat} {xs : List Int} (h : (Kd.int .u8).C w A n xs) : (convert 22 9 (.slice A n c)).run Try.prog w = .ok (.string (strOfNums xs)) w :=
  Kd.C_string Try.underlying22 Try.underlying5 Try.underlying9 h
set_option maxHeartbeats 4000000 in
set_option maxRecDepth 100000 in
theorem live_any (w : World) : Calls Try.prog 10 #[] w fun e w' => e = .returned (.bool true) ∧ Below w.heap.size w w' := by
  have hb0 := below_alloc (Below.refl w.heap.size w) (.cells #[.int .u8 97, .int .u8 98] 5 (2, 3))
  have hl0 := lit_cells _ w.heap.size _ _ (heap_alloc_new w (.cells #[.int .u8 97, .int .u8 98] 5 (2, 3))) [97, 98] rfl (by simp)
  have KM := Aside0.mk (make_nil (w.alloc (.cells #[.int .u8 97, .int .u8 98] 5 (2, 3))) [97, 98] _ 2 hl0 (by simp) (by simp) (by simp) (by decide))
  have KB0 := Aside0.mk hb0
  have kc := fun (w : World) (C : Array Value) (n c : Nat) => Lib.run_convert_bytes_const (P := Try.prog) w 22 5 C n c Try.underlying22 Try.underlying5
  obtain ⟨d0, hd0⟩ : ∃ d0, d0 = digF [] := ⟨_, rfl⟩
  obtain ⟨d1, hd1⟩ : ∃ d1, d1 = digF [97, 98] := ⟨_, rfl⟩
  have Kd0 : Aside0 (0 ≤ d0 ∧ d0 < 18446744073709551616) := ⟨by rw [hd0]; exact digF_bound _⟩
  have Kd1 : Aside0 (0 ≤ d1 ∧ d1 < 18446744073709551616) := ⟨by rw [hd1]; exact digF_bound _⟩
  rw [← hd0, ← hd1] at KM
  simp only [List.length_cons, List.length_nil, Nat.zero_add, Nat.reduceAdd] at KM
  clear hb0 hl0 hd0 hd1
  have KW : Aside0 (WfD ⟨0, 2, d0, d1, [⟨0, 0, [97, 98]⟩]⟩) := ⟨⟨fun o ho => by simp at ho; subst ho; exact ⟨by decide, by decide, by decide⟩, fun o ho => by simp at ho; subst ho; decide, Kd0.out.1, Kd0.out.2, Kd1.out.1, Kd1.out.2⟩⟩
  have KE : Aside0 (∀ (w1 : World) A c, Kd.C k37 w1 A 1 [⟨0, 0, [97, 98]⟩] → 1 ≤ c → _) := ⟨fun w1 A c h1 h2 => encode_ok ⟨0, 2, d0, d1, [⟨0, 0, [97, 98]⟩]⟩ A c w1 h1 h2 KW.out (by simp) (right_gen _ _) (by rw [len_gen]; decide)⟩
  have KS : Aside0 (∀ (w1 : World) A c, Kd.C k37 w1 A 1 [⟨0, 0, [97, 98]⟩] → 1 ≤ c → _) := ⟨fun w1 A c h1 h2 => size_any ⟨0, 2, d0, d1, [⟨0, 0, [97, 98]⟩]⟩ A c w1 h1 h2 KW.out.ops (by simp) (by rw [len_gen]; decide)⟩
  simp only [right_gen, len_gen, if_true, dv, List.length_cons, List.length_nil, Nat.zero_add, Nat.reduceAdd] at KS KE
  go_enter Try.func10, Try.ntmps10
  go_wp2_with (go_at_call 11; apply Aside0.out)
  refine ⟨?_⟩
  refine KM.out.mono ?_
  rintro e w1 ⟨ov, rfl, hN, hb⟩
  obtain ⟨A1, C1, rfl, hle, hC1⟩ := N_C hN
  simp only [List.length_singleton] at hC1 hle ⊢
  have KC1 := Aside0.mk hC1
  have KB1 := Aside0.mk (below_then KB0.out KB0.out.size hb)
  have hX := heap_alloc_new w1 (.cells #[.int .i64 0, .int .i64 2, .int .u64 d0, .int .u64 d1, .slice A1 1 C1] 27)
  have hXb := below_alloc (Below.refl w1.heap.size w1) (.cells #[.int .i64 0, .int .i64 2, .int .u64 d0, .int .u64 d1, .slice A1 1 C1] 27)
  have KX := Aside0.mk hX
  have KXb := Aside0.mk hXb
  have KE2 := Aside0.mk (KE.out _ _ _ (Kd.C_below hC1 hXb) hle)
  clear hN hb hC1 hX hXb KM
  go_wp2_with (go_at_call 23; apply Aside0.out)
  refine ⟨?_⟩
  refine KE2.out.mono ?_
  rintro e w2 ⟨u2, rfl, hO2, hb2⟩
  obtain ⟨A2, C2, rfl, hle2, -⟩ := hO2.slice
  have e39 := len_gen d0 d1
  rw [e39] at hle2 ⊢
  have KX2 := Aside0.mk (blk_below KX.out hb2)
  have KC2 := Aside0.mk (Kd.C_below (Kd.C_below KC1.out KXb.out) hb2)
  have KB2 := Aside0.mk (below_then (below_then KB1.out KB1.out.size KXb.out) (below_then KB1.out KB1.out.size KXb.out).size hb2)
  obtain ⟨ad, B, cb, rfl, x0, x1, x2, hcb, hCB⟩ := at_T37 KC2.out (0 : Int) (by omega) (by omega)
  have er : rd_T37 [(⟨0, 0, [97, 98]⟩ : S37)] 0 = ⟨0, 0, [97, 98]⟩ := rfl
  rw [er] at x0 x1 x2 hcb hCB
  have e0 : ad.add ((0 : Int).toNat * 3) = ad := rfl
  rw [e0] at x0 x1 x2
  simp only [List.length_cons, List.length_nil, Nat.zero_add, Nat.reduceAdd] at x2 hcb hCB
  have hst := str_atE (c := cb) hCB
  have KS2 := Aside0.mk (KS.out w2 _ C1 KC2.out hle)
  rw [show ((39 : Nat) : Int) = 39 from rfl] at KS2
  have z0 : w2.cell? ⟨w1.heap.size, 0, none⟩ = some (.int .i64 0) := (cell_of_row _ _ _ _ _ _ KX2.out).trans rfl
  have z1 : w2.cell? ⟨w1.heap.size, 1, none⟩ = some (.int .i64 2) := (cell_of_row _ _ _ _ _ _ KX2.out).trans rfl
  have z2 : w2.cell? ⟨w1.heap.size, 2, none⟩ = some (.int .u64 d0) := (cell_of_row _ _ _ _ _ _ KX2.out).trans rfl
  have z3 : w2.cell? ⟨w1.heap.size, 3, none⟩ = some (.int .u64 d1) := (cell_of_row _ _ _ _ _ _ KX2.out).trans rfl
  have z4 : w2.cell? ⟨w1.heap.size, 4, none⟩ = some (.slice (some ad) 1 C1) := (cell_of_row _ _ _ _ _ _ KX2.out).trans rfl
  have hs : ((strOfNums [97, 98]).toList == [97, 98]) = true := by rw [Go.Lib.strOfNums_toList]; rfl
  clear hO2 hb2 er hCB KE2 e0
  go_wp2_with (first | (go_at_call 12; refine (num_any _ _).mono ?_; rintro e w' ⟨rfl, rfl⟩) | (go_at_call 24; apply Aside0.out))
  refine ⟨?_⟩
  refine KS2.out.mono ?_
  rintro e w3 ⟨rfl, hb3⟩
  have KB3 := Aside0.mk (below_then KB2.out KB2.out.size hb3)
  clear hb3
  go_wp2
  go_ret
  exact ⟨rfl, KB3.out⟩
end Go.Proofs.Ytogplkochcalpaa.De
/- Deltas: how they come in; much. -/
set_option linter.unusedVariables false
set_option linter.unusedSimpArgs false
namespace Go.Proofs.Ytogplkochcalpaa
open Go.RowKit Go.Proofs.Ytogplkochcalpaa.PD Go.Proofs.Ytogplkochcalpaa.Fd Go.Proofs.Ytogplkochcalpaa.Bg Go.Proofs.YtogplkochcalpaaW.PrintWords Go.Proofs.YtogplkochcalpaaW.PrintLast Go.Proofs.YtogplkochcalpaaW.PrintMore
namespace De
def ofT (t : Int × Int × List Int) : S37 := ⟨t.1, t.2.1, t.2.2⟩
theorem C_iso {w : World} {A : Option Addr} {n : Nat} {xs : List (Int × Int × List Int)} (h : Kd.C (Kd.pair (Kd.int .i64) (Kd.pair (Kd.int .i64) (Kd.slice 5 (Kd.int .u8)))) w A n xs) : Kd.C k37 w A n (xs.map ofT) := by
  obtain ⟨h1, h2, h3⟩ := h
  refine ⟨by rw [List.length_map]; exact h1, h2, fun hn => ?_⟩
  obtain ⟨ad, e, hc⟩ := h3 hn
  refine ⟨ad, e, fun j p hj => ?_⟩
  rw [List.getElem?_map, Option.map_eq_some_iff] at hj
  obtain ⟨q, hq, rfl⟩ := hj
  exact hc j q hq
theorem i64_b {n : Int} (h : (Lit.int .i64 n).wf = true) : -9223372036854775808 ≤ n ∧ n ≤ 9223372036854775807 := by
  have e1 : IntKind.i64.min = -9223372036854775808 := by decide
  have e2 : IntKind.i64.max = 9223372036854775807 := by decide
  simp only [Lit.wf, e1, e2, Bool.and_eq_true, decide_eq_true_eq] at h
  exact h
theorem u8_b {l : List Int} (h : ∀ v ∈ l, (fun n : Int => (Lit.int .u8 n).wf = true) v) : ∀ x ∈ l, 0 ≤ x ∧ x < 256 := fun x hx => by
  have h1 := h x hx
  have e1 : IntKind.u8.min = 0 := by decide
  have e2 : IntKind.u8.max = 255 := by decide
  simp only [Lit.wf, e1, e2, Bool.and_eq_true, decide_eq_true_eq] at h1
  omega
theorem del_of {w : World} {cs0 : Array Value} {x0 : Int × Int × Int × Int × (List (Int × Int × List Int))} (r0 : ∃ c00 c01, cs0.toList = c00 ++ c01 ∧ ((Kd.int .i64).K w x0.1 c00 ∧ (fun n : Int => (Lit.int .i64 n).wf = true) x0.1) ∧ (∃ c10 c11, c01 = c10 ++ c11 ∧ ((Kd.int .i64).K w x0.2.1 c10 ∧ (fun n : Int => (Lit.int .i64 n).wf = true) x0.2.1) ∧ (∃ c20 c21, c11 = c20 ++ c21 ∧ ((Kd.int .u64).K w x0.2.2.1 c20 ∧ (fun n : Int => (Lit.int .u64 n).wf = true) x0.2.2.1) ∧ (∃ c30 c31, c21 = c30 ++ c31 ∧ ((Kd.int .u64).K w x0.2.2.2.1 c30 ∧ (fun n : Int => (Lit.int .u64 n).wf = true) x0.2.2.2.1) ∧ ((Kd.slice 37 (Kd.pair (Kd.int .i64) (Kd.pair (Kd.int .i64) (Kd.slice 5 (Kd.int .u8))))).K w x0.2.2.2.2 c31 ∧ (fun xs => (∀ v ∈ xs, (fun x : Int × Int × List Int => (fun n : Int => (Lit.int .i64 n).wf = true) x.1 ∧ (fun x : Int × List Int => (fun n : Int => (Lit.int .i64 n).wf = true) x.1 ∧ (fun xs => (∀ v ∈ xs, (fun n : Int => (Lit.int .u8 n).wf = true) v) ∧ xs.length * 1 ≤ 140737488351232) x.2) x.2) v) ∧ xs.length * 40 ≤ 140737488351232) x0.2.2.2.2))))) :
    ∃ (d : Dl) (A : Option Addr) (c : Nat), cs0 = #[.int .i64 d.a, .int .i64 d.b, .int .u64 d.c, .int .u64 d.d, .slice A d.l.length c] ∧ WfD d ∧ Kd.C k37 w A d.l.length d.l ∧ d.l.length ≤ c := by
  obtain ⟨c00, c01, h, ⟨h1, f1⟩, c10, c11, h2, ⟨h3, f2⟩, c20, c21, h4, ⟨h5, f3⟩, c30, c31, h6, ⟨h7, f4⟩, ⟨A, c, h8, hc, hC⟩, g, m⟩ := r0
  have e0 : c00 = [Value.int .i64 x0.1] := h1
  have e1 : c10 = [Value.int .i64 x0.2.1] := h3
  have e2 : c20 = [Value.int .u64 x0.2.2.1] := h5
  have e3 : c30 = [Value.int .u64 x0.2.2.2.1] := h7
  have b1 := Go.bounds_u64 f3
  have b6 := Go.bounds_u64 f4
  refine ⟨⟨x0.1, x0.2.1, x0.2.2.1, x0.2.2.2.1, x0.2.2.2.2.map ofT⟩, A, c, Array.toList_inj.1 ?_, ⟨fun o ho => ?_, fun o ho => ?_, by show (0 : Int) ≤ x0.2.2.1; omega, by show x0.2.2.1 < 18446744073709551616; omega, by show (0 : Int) ≤ x0.2.2.2.1; omega, by show x0.2.2.2.1 < 18446744073709551616; omega⟩, ?_, by show (x0.2.2.2.2.map ofT).length ≤ c; rw [List.length_map]; exact hc⟩
  · rw [h, h2, h4, h6, e0, e1, e2, e3, h8]
    simp
  · obtain ⟨t, ht, rfl⟩ := List.mem_map.1 ho
    obtain ⟨k1, k2, k3, k4⟩ := g t ht
    exact ⟨i64_b k1, i64_b k2, by have : t.2.2.length * 1 ≤ 140737488351232 := k4; show t.2.2.length ≤ _; omega⟩
  · obtain ⟨t, ht, rfl⟩ := List.mem_map.1 ho
    obtain ⟨k1, k2, k3, k4⟩ := g t ht
    exact u8_b k3
  · show Kd.C k37 w A (x0.2.2.2.2.map ofT).length (x0.2.2.2.2.map ofT)
    rw [List.length_map]
    exact C_iso hC
def muchB (d : Dl) : Bool := decide (200 < d.l.length) || d.l.any (fun o => decide (5000 < o.f2.length))
theorem much_l0 (l : List S37) (a0 a1 a2 a3 : Int) (hl : l.length ≤ 200) : ∀ (m i k : Nat), m + i = l.length → m < k → portmanteaulaw30_much.l0 k (i : Int) a0 a1 a2 a3 l = some ((l.drop i).any (fun o => decide (5000 < o.f2.length))) := by
  intro m
  induction m with
  | zero =>
    intro i k hm hk
    obtain ⟨k, rfl⟩ : ∃ q, k = q + 1 := ⟨k - 1, by omega⟩
    rw [portmanteaulaw30_much.l0]
    rw [if_neg (by omega), List.drop_eq_nil_of_le (by omega)]; rfl
  | succ m ih =>
    intro i k hm hk
    obtain ⟨k, rfl⟩ : ∃ q, k = q + 1 := ⟨k - 1, by omega⟩
    obtain ⟨o, e1, e2, e3⟩ := rd_drop (l := l) (i := i) (by omega)
    rw [portmanteaulaw30_much.l0]
    rw [if_pos (by omega), if_pos (by omega), e1, e2, List.any_cons]
    by_cases c : (o.f2.length : Int) > 5000
    · rw [if_pos c, show decide (5000 < o.f2.length) = true from decide_eq_true (by omega)]; rfl
    · rw [if_neg c, wrap_in (by omega), show ((i : Int) + 1) = ((i + 1 : Nat) : Int) by omega, ih (i + 1) k (by omega) (by omega), show decide (5000 < o.f2.length) = false from decide_eq_false (by omega)]; rfl
theorem much_f (d : Dl) : portmanteaulaw30_much.f (d.l.length + 1) d.a d.b d.c d.d d.l = some (muchB d) := by
  unfold portmanteaulaw30_much.f muchB
  by_cases c : (d.l.length : Int) > 200
  · rw [if_pos c, show decide (200 < d.l.length) = true from decide_eq_true (by omega)]; rfl
  · have := much_l0 d.l d.a d.b d.c d.d (by omega) d.l.length 0 (d.l.length + 1) (by omega) (by omega)
    rw [show ((0 : Nat) : Int) = 0 from rfl, List.drop_zero] at this
    rw [if_neg c, this, show decide (200 < d.l.length) = false from decide_eq_false (by omega)]; rfl
theorem much_any (d : Dl) (A : Option Addr) (c : Nat) (w : World) (hC : Kd.C k37 w A d.l.length d.l) (hc : d.l.length ≤ c) : Calls Try.prog 16 #[dv d A c] w fun e w' => e = .returned (.bool (muchB d)) ∧ Below w.heap.size w w' :=
  portmanteaulaw30_much.calls (d.l.length + 1) d.a d.b d.c d.d A c d.l _ w hC hc (much_f d)
theorem much_no {d : Dl} (h : muchB d = false) : d.l.length ≤ 200 ∧ ∀ o ∈ d.l, o.f2.length ≤ 5000 := by
  unfold muchB at h
  rw [Bool.or_eq_false_iff, decide_eq_false_iff_not, List.any_eq_false] at h
  exact ⟨by omega, fun o ho => by have := h.2 o ho; simpa using this⟩
theorem ops_small {l : List S37} (h : ∀ o ∈ l, o.f2.length ≤ 5000) : (opsB l).length ≤ 5005 * l.length := by
  induction l with
  | nil => simp [opsB]
  | cons o l ih =>
    have h1 := ih (fun p hp => h p (by simp [hp]))
    have h2 := h o (by simp)
    have e : opsB (o :: l) = opB o ++ opsB l := by simp [opsB]
    rw [e, List.length_append, opB_len, List.length_cons]
    split <;> omega
theorem bytes_small {d : Dl} (h : muchB d = false) : (bytesB d).length ≤ 2000000 := by
  obtain ⟨h1, h2⟩ := much_no h
  have := ops_small h2
  rw [bytesB_len]; omega
end De
end Go.Proofs.Ytogplkochcalpaa
