/- Deltas joined: delta.Join: the failing cases; marks of ranges over a function; how many parts. -/
import Derived.Test.YtogplkochcalpaaDj2
import Derived.Test.YtogplkochcalpaaDj4
set_option linter.unusedVariables false
set_option linter.unusedSimpArgs false
namespace Go.Proofs.Ytogplkochcalpaa.De
open Go.RowKit Go.Proofs.Ytogplkochcalpaa.PD Go.Proofs.Ytogplkochcalpaa.Fd Go.Proofs.Ytogplkochcalpaa.Bg Go.Proofs.YtogplkochcalpaaW.PrintWords Go.Proofs.YtogplkochcalpaaW.PrintLast Go.Proofs.YtogplkochcalpaaW.PrintMore
/-! ### How many parts -/
theorem parts_len : ∀ (l : List S37) (a x at_ n : Int), rightL a x l = true → 0 ≤ n → ((partsP l at_ n).length : Int) ≤ n
  | [], a, x, at_, n, h, hn => by simp [partsP, hn]
  | o :: r, a, x, at_, n, h, hn => by
    obtain ⟨h1, h2, h3⟩ := rightL_cons h
    have hp := ol_pos h1
    rw [partsP]
    by_cases c1 : ol o ≤ at_
    · rw [if_pos c1]
      exact parts_len r a _ _ n h3 hn
    · rw [if_neg c1]
      by_cases c2 : n = 0
      · rw [if_pos c2, c2]; simp
      · rw [if_neg c2, List.length_cons]
        have h9 := parts_len r a _ 0 (n - min n (ol o - at_)) h3 (by omega)
        omega
theorem joinO_len {a x : Int} {l : List S37} {o : S37} {old : Int} (h : rightL a x l = true) (ho : rightO o old) : ((joinO l o).length : Int) ≤ ol o := by
  have hp := ol_pos ho
  unfold joinO
  by_cases c : o.f1 = 0
  · rw [if_pos c]; simp; omega
  · rw [if_neg c]
    have h1 := (rightO_n c).1 ho
    have h9 := parts_len l a x o.f0 o.f1 h (by omega)
    unfold ol
    omega
theorem joinP_len {a x : Int} {l : List S37} (h : rightL a x l = true) : ∀ (m : List S37) (a2 x2 : Int), rightL a2 x2 m = true → ((joinP l m).length : Int) ≤ x2
  | [], a2, x2, hm => by
    simp only [rightL, decide_eq_true_eq] at hm
    simp [joinP, hm]
  | o :: r, a2, x2, hm => by
    obtain ⟨h1, h2, h3⟩ := rightL_cons hm
    have h4 := joinO_len h h1
    have h5 := joinP_len h r a2 _ h3
    have e : joinP l (o :: r) = joinO l o ++ joinP l r := by simp [joinP]
    rw [e, List.length_append]
    omega
/-! ### Marks -/
/-- A function's open marks. -/
def Marks (b0 b1 : Nat) (ds : List Deferred) (w : World) : Prop := ∀ d ∈ ds, ∃ D, d.target = .collected D ∧ b0 ≤ D ∧ D < b1 ∧ w.heap[D]? = some (.deferred (some []))
/-- The marks' blocks. -/
def Mk (ds : List Deferred) (k : Nat) : Prop := ∃ d ∈ ds, d.target = .collected k
theorem Mk.cons {ds : List Deferred} {D k : Nat} {args : Array Value} (h : Mk ({ target := .collected D, args } :: ds) k) : k = D ∨ Mk ds k := by
  obtain ⟨d, hd, he⟩ := h
  rcases List.mem_cons.1 hd with rfl | hd
  · injection he with he
    exact Or.inl he.symm
  · exact Or.inr ⟨d, hd, he⟩
theorem Mk.lt {b0 b1 : Nat} {ds : List Deferred} {w : World} {k : Nat} (h : Mk ds k) (hm : Marks b0 b1 ds w) : b0 ≤ k ∧ k < b1 ∧ w.heap[k]? = some (.deferred (some [])) := by
  obtain ⟨d, hd, he⟩ := h
  obtain ⟨D, h1, h2, h3, h4⟩ := hm d hd
  rw [he] at h1
  injection h1 with h1
  subst h1
  exact ⟨h2, h3, h4⟩
/-- What shutting marks leaves. -/
structure MShut (b0 : Nat) (ds : List Deferred) (w w' : World) : Prop where
  below : Below b0 w w'
  same : ∀ k, ¬ Mk ds k → w'.heap[k]? = w.heap[k]?
theorem MShut.refl {b0 : Nat} {w : World} : MShut b0 [] w w := ⟨Below.refl _ _, fun _ _ => rfl⟩
theorem MShut.put {b0 D : Nat} {d : Deferred} {ds : List Deferred} {w w1 : World} (h : MShut b0 ds (w.putObj D (.deferred none)) w1) (hd : d.target = .collected D) (hD : b0 ≤ D) : MShut b0 (d :: ds) w w1 := by
  have hP : Below b0 w (w.putObj D (.deferred none)) := ⟨rfl, rfl, rfl, Nat.le_of_eq World.putObj_size.symm, fun k hk => World.putObj_heap_other (by omega)⟩
  refine ⟨hP.trans h.below, fun k hk => ?_⟩
  have h1 : k ≠ D := fun e => hk ⟨d, List.mem_cons_self .., by rw [e]; exact hd⟩
  have h2 : ¬ Mk ds k := fun ⟨e, he, ht⟩ => hk ⟨e, List.mem_cons_of_mem _ he, ht⟩
  exact (h.same k h2).trans (World.putObj_heap_other h1)
theorem leaves_marks {F : Fence} {n : Nat} {fn : Func} {tmps : Array Value} {R : Ending → World → Prop} (b0 b1 : Nat) : ∀ (ds : List Deferred) (w : World), Marks b0 b1 ds w → ds.Pairwise (fun d e => d.target ≠ e.target) → (∀ w', MShut b0 ds w w' → LeavesInM F n Try.prog fn tmps R [] .returning w') → LeavesInM F n Try.prog fn tmps R ds .returning w
  | [], w, _, _, h => h w MShut.refl
  | d :: ds, w, hm, hp, h => by
    obtain ⟨D, hd, hD, -, hk⟩ := hm d (List.mem_cons_self ..)
    rw [List.pairwise_cons] at hp
    refine ⟨by simp, .inl ⟨D, _, hd, run_takeDeferred hk, leaves_marks b0 b1 ds _ ?_ hp.2 fun w' hs => h w' (hs.put hd hD)⟩⟩
    intro e he
    obtain ⟨E, h1, h2, h4, h3⟩ := hm e (List.mem_cons_of_mem _ he)
    refine ⟨E, h1, h2, h4, (World.putObj_heap_other ?_).trans h3⟩
    rintro rfl
    exact hp.1 e he (hd.trans h1.symm)
theorem Marks.keep {b0 b1 : Nat} {ds : List Deferred} {w w1 : World} (h : Marks b0 b1 ds w) (hb : ∀ k, k < b1 → ∀ o, o.isCells = false → w.heap[k]? = some o → w1.heap[k]? = some o) : Marks b0 b1 ds w1 := fun d hd => by
  obtain ⟨D, h1, h2, h3, h4⟩ := h d hd
  exact ⟨D, h1, h2, h3, hb D h3 _ rfl h4⟩
theorem Marks.below {b0 b1 : Nat} {ds : List Deferred} {w w1 : World} (h : Marks b0 b1 ds w) (hb : Below w.heap.size w w1) : Marks b0 b1 ds w1 := h.keep fun k _ o _ hk => blk_below hk hb
theorem Marks.wider {b0 b1 b2 : Nat} {ds : List Deferred} {w : World} (h : Marks b0 b1 ds w) (hb : b1 ≤ b2) : Marks b0 b2 ds w := fun d hd => by
  obtain ⟨D, h1, h2, h3, h4⟩ := h d hd
  exact ⟨D, h1, h2, by omega, h4⟩
theorem Marks.else_ {b0 b1 xb : Nat} {ds : List Deferred} {w w1 : World} {cs : Array Value} {t : TypeId} {p : Nat × Nat} (h : Marks b0 b1 ds w) (hE : Else xb w w1) (hx : w.heap[xb]? = some (.cells cs t p)) : Marks b0 b1 ds w1 := h.keep fun k _ o ho hk => hE.2 k o hk (fun e => by
    rw [e, hx] at hk
    rw [← Option.some.inj hk] at ho
    cases ho) (fun cells e => by rw [e] at ho; cases ho)
theorem Marks.more {b0 b1 b2 D : Nat} {ds : List Deferred} {w : World} {args : Array Value} (h : Marks b0 b1 ds w) (hp : ds.Pairwise (fun d e => d.target ≠ e.target)) (hD : b1 ≤ D) (h0 : b0 ≤ D) (h1 : D < b2) (hk : w.heap[D]? = some (.deferred (some []))) : Marks b0 b2 ({ target := .collected D, args } :: ds) w ∧ ({ target := .collected D, args } :: ds : List Deferred).Pairwise (fun d e => d.target ≠ e.target) := by
  refine ⟨fun d hd => ?_, List.pairwise_cons.2 ⟨fun e he => ?_, hp⟩⟩
  · rcases List.mem_cons.1 hd with rfl | hd
    · exact ⟨D, rfl, h0, h1, hk⟩
    · obtain ⟨E, g1, g2, g3, g4⟩ := h d hd
      exact ⟨E, g1, g2, by omega, g4⟩
  · obtain ⟨E, g1, g2, g3, g4⟩ := h e he
    rw [g1]
    intro e2
    injection e2 with e3
    omega
/-! ### The failing cases -/
section
variable (w : World) (d f : Dl) (A : Option Addr) (c : Nat) (B : Option Addr) (cb : Nat) (hd : Kd.C k37 w A d.l.length d.l) (hc : d.l.length ≤ c) (hf : Kd.C k37 w B f.l.length f.l) (hcb : f.l.length ≤ cb) (hwd : ∀ o ∈ d.l, WfO o) (hwf : ∀ o ∈ f.l, WfO o) (hld : d.l.length ≤ 8388608) (hlf : f.l.length ≤ 8388608)
include hd hc hwd hld
set_option maxHeartbeats 4000000 in
set_option maxRecDepth 100000 in
theorem join_d (hr : rightD d = false) : Calls Try.prog 20 #[dv d A c, dv f B cb] w fun e w' => JR w (zeroD, 1) e w' := by
  have KG := Aside0.mk (fun w1 (h : Below w.heap.size w w1) => check_any d A c w1 (Kd.C_below hd h) hc hwd hld)
  rw [hr, if_neg (by decide)] at KG
  have K3 := Aside0.mk (B3.new w d f A c B cb d.l.length f.l.length)
  simp only [dv] at KG ⊢
  obtain ⟨nd, hnd⟩ : ∃ nd, nd = d.l.length := ⟨_, rfl⟩
  obtain ⟨nf, hnf⟩ : ∃ nf, nf = f.l.length := ⟨_, rfl⟩
  rw [← hnd] at KG K3 ⊢
  rw [← hnf] at K3 ⊢
  obtain ⟨q0, q1, q2, q3, q4⟩ := dbox_cells K3.out.d
  clear hd hc hwd hld hr hnd hnf
  go_enter Try.func20, Try.ntmps20
  go_wp2_with (go_at_call 19; apply Aside0.out)
  refine ⟨?_⟩
  refine (KG.out _ K3.out.below).mono ?_
  rintro e w1 ⟨rfl, hb⟩
  have K31 := Aside0.mk (K3.out.keep hb)
  clear hb q0 q1 q2 q3 q4
  go_wp2_with ((with_reducible refine gate_store (t := 27) (p := 4) rfl ?_); apply Aside0.out)
  refine ⟨?_⟩
  refine store_del rfl (.tmp 4) (.tmp 17) rfl (w.heap.size + 1 + 1) _ _ rfl rfl K31.out.z rfl rfl (by simp [Value.oneCell']) ?_
  intro w7 hg hB hE hS
  have KB7 := Aside0.mk (hB _ _ (by omega) K31.out.below)
  have KZ7 := Aside0.mk hg
  clear hg hB hE hS
  go_wp2
  refine bodyPost_ret (results_list (rs := [.cell 4 27, .tmp 5]) rfl (by simp) (.cell (w.heap.size + 1 + 1) 27 _ _ _ rfl KZ7.out Try.underlying27 rfl szDel (.tmp .nil))) rfl ?_
  exact ⟨none, 0, rfl, Kd.C_nil _ _, Nat.le_refl _, KB7.out⟩
include hf hcb hwf hlf
set_option maxHeartbeats 4000000 in
set_option maxRecDepth 100000 in
theorem join_f (hr : rightD d = true) (hr2 : rightD f = false) : Calls Try.prog 20 #[dv d A c, dv f B cb] w fun e w' => JR w (zeroD, 1) e w' := by
  have KG := Aside0.mk (fun w1 (h : Below w.heap.size w w1) => check_any d A c w1 (Kd.C_below hd h) hc hwd hld)
  have KH := Aside0.mk (fun w1 (h : Below w.heap.size w w1) => check_any f B cb w1 (Kd.C_below hf h) hcb hwf hlf)
  rw [hr, if_pos rfl] at KG
  rw [hr2, if_neg (by decide)] at KH
  have K3 := Aside0.mk (B3.new w d f A c B cb d.l.length f.l.length)
  simp only [dv] at KG KH ⊢
  obtain ⟨nd, hnd⟩ : ∃ nd, nd = d.l.length := ⟨_, rfl⟩
  obtain ⟨nf, hnf⟩ : ∃ nf, nf = f.l.length := ⟨_, rfl⟩
  rw [← hnd] at KG K3 ⊢
  rw [← hnf] at K3 KH ⊢
  obtain ⟨q0, q1, q2, q3, q4⟩ := dbox_cells K3.out.d
  obtain ⟨p0, p1, p2, p3, p4⟩ := dbox_cells K3.out.f
  clear hd hc hwd hld hr hnd hnf hf hcb hwf hlf hr2
  go_enter Try.func20, Try.ntmps20
  go_wp2_with (go_at_call 19; apply Aside0.out)
  refine ⟨?_⟩
  refine (KG.out _ K3.out.below).mono ?_
  rintro e w1 ⟨rfl, hb⟩
  have K31 := Aside0.mk (K3.out.keep hb)
  have hs1 := hb.size
  simp only [World.size_alloc] at hs1
  clear hb q0 q1 q2 q3 q4 p0 p1 p2 p3 p4
  obtain ⟨p0, p1, p2, p3, p4⟩ := dbox_cells K31.out.f
  go_wp2_with (go_at_call 19; apply Aside0.out)
  refine ⟨?_⟩
  refine (KH.out _ K31.out.below).mono ?_
  rintro e w2 ⟨rfl, hb⟩
  have K32 := Aside0.mk (K31.out.keep hb)
  have hs2 := hb.size
  clear hb p0 p1 p2 p3 p4
  go_wp2_with ((with_reducible refine gate_store (t := 27) (p := 4) rfl ?_); apply Aside0.out)
  refine ⟨?_⟩
  refine store_del rfl (.tmp 4) (.tmp 17) rfl (w.heap.size + 1 + 1) _ _ rfl rfl K32.out.z rfl rfl (by simp [Value.oneCell']) ?_
  intro w7 hg hB hE hS
  have KB7 := Aside0.mk (hB _ _ (by omega) K32.out.below)
  have KZ7 := Aside0.mk hg
  clear hg hB hE hS
  go_wp2
  refine bodyPost_ret (results_list (rs := [.cell 4 27, .tmp 5]) rfl (by simp) (.cell (w.heap.size + 1 + 1) 27 _ _ _ rfl KZ7.out Try.underlying27 rfl szDel (.tmp .nil))) rfl ?_
  exact ⟨none, 0, rfl, Kd.C_nil _ _, Nat.le_refl _, KB7.out⟩
set_option maxHeartbeats 4000000 in
set_option maxRecDepth 100000 in
theorem join_kind (hr : rightD d = true) (hr2 : rightD f = true) (hk : ¬ (d.b = f.a ∧ d.d = f.c)) : Calls Try.prog 20 #[dv d A c, dv f B cb] w fun e w' => JR w (zeroD, 8) e w' := by
  have KG := Aside0.mk (fun w1 (h : Below w.heap.size w w1) => check_any d A c w1 (Kd.C_below hd h) hc hwd hld)
  have KH := Aside0.mk (fun w1 (h : Below w.heap.size w w1) => check_any f B cb w1 (Kd.C_below hf h) hcb hwf hlf)
  rw [hr, if_pos rfl] at KG
  rw [hr2, if_pos rfl] at KH
  have K3 := Aside0.mk (B3.new w d f A c B cb d.l.length f.l.length)
  simp only [dv] at KG KH ⊢
  obtain ⟨nd, hnd⟩ : ∃ nd, nd = d.l.length := ⟨_, rfl⟩
  obtain ⟨nf, hnf⟩ : ∃ nf, nf = f.l.length := ⟨_, rfl⟩
  rw [← hnd] at KG K3 ⊢
  rw [← hnf] at K3 KH ⊢
  obtain ⟨q0, q1, q2, q3, q4⟩ := dbox_cells K3.out.d
  obtain ⟨p0, p1, p2, p3, p4⟩ := dbox_cells K3.out.f
  have hk1 : (d.b = f.a) ∨ (d.b ≠ f.a) := Classical.em _
  clear hd hc hwd hld hr hnd hnf hf hcb hwf hlf hr2
  go_enter Try.func20, Try.ntmps20
  go_wp2_with (go_at_call 19; apply Aside0.out)
  refine ⟨?_⟩
  refine (KG.out _ K3.out.below).mono ?_
  rintro e w1 ⟨rfl, hb⟩
  have K31 := Aside0.mk (K3.out.keep hb)
  have hs1 := hb.size
  simp only [World.size_alloc] at hs1
  clear hb q0 q1 q2 q3 q4 p0 p1 p2 p3 p4
  obtain ⟨p0, p1, p2, p3, p4⟩ := dbox_cells K31.out.f
  go_wp2_with (go_at_call 19; apply Aside0.out)
  refine ⟨?_⟩
  refine (KH.out _ K31.out.below).mono ?_
  rintro e w2 ⟨rfl, hb⟩
  have K32 := Aside0.mk (K31.out.keep hb)
  have hs2 := hb.size
  clear hb p0 p1 p2 p3 p4
  obtain ⟨q0, q1, q2, q3, q4⟩ := dbox_cells K32.out.d
  obtain ⟨p0, p1, p2, p3, p4⟩ := dbox_cells K32.out.f
  rcases hk1 with hk1 | hk1
  · have h1 : (d.b != f.a) = false := by simp [hk1]
    have h2 : (d.d != f.c) = true := by simpa using fun e => hk ⟨hk1, e⟩
    clear hk hk1
    go_wp2_with ((with_reducible refine gate_store (t := 27) (p := 4) rfl ?_); apply Aside0.out)
    refine ⟨?_⟩
    refine store_del rfl (.tmp 4) (.tmp 31) rfl (w.heap.size + 1 + 1) _ _ rfl rfl K32.out.z rfl rfl (by simp [Value.oneCell']) ?_
    intro w7 hg hB hE hS
    have KB7 := Aside0.mk (hB _ _ (by omega) K32.out.below)
    have KZ7 := Aside0.mk hg
    clear hg hB hE hS
    go_wp2
    refine bodyPost_ret (results_list (rs := [.cell 4 27, .tmp 5]) rfl (by simp) (.cell (w.heap.size + 1 + 1) 27 _ _ _ rfl KZ7.out Try.underlying27 rfl szDel (.tmp .nil))) rfl ?_
    exact ⟨none, 0, rfl, Kd.C_nil _ _, Nat.le_refl _, KB7.out⟩
  · have h1 : (d.b != f.a) = true := by simpa using hk1
    clear hk hk1
    go_wp2_with ((with_reducible refine gate_store (t := 27) (p := 4) rfl ?_); apply Aside0.out)
    refine ⟨?_⟩
    refine store_del rfl (.tmp 4) (.tmp 31) rfl (w.heap.size + 1 + 1) _ _ rfl rfl K32.out.z rfl rfl (by simp [Value.oneCell']) ?_
    intro w7 hg hB hE hS
    have KB7 := Aside0.mk (hB _ _ (by omega) K32.out.below)
    have KZ7 := Aside0.mk hg
    clear hg hB hE hS
    go_wp2
    refine bodyPost_ret (results_list (rs := [.cell 4 27, .tmp 5]) rfl (by simp) (.cell (w.heap.size + 1 + 1) 27 _ _ _ rfl KZ7.out Try.underlying27 rfl szDel (.tmp .nil))) rfl ?_
    exact ⟨none, 0, rfl, Kd.C_nil _ _, Nat.le_refl _, KB7.out⟩
end
end Go.Proofs.Ytogplkochcalpaa.De
