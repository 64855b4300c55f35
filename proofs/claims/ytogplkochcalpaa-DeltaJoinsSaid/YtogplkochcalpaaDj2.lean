/- Deltas joined by the document: the failing cases: walks. -/
import Derived.Test.YtogplkochcalpaaDj1
set_option linter.unusedVariables false
set_option linter.unusedSimpArgs false
namespace Go.Proofs.Ytogplkochcalpaa.De
open Go.RowKit Go.Proofs.Ytogplkochcalpaa.PD Go.Proofs.Ytogplkochcalpaa.Fd Go.Proofs.Ytogplkochcalpaa.Bg Go.Proofs.YtogplkochcalpaaW.PrintWords Go.Proofs.YtogplkochcalpaaW.PrintLast Go.Proofs.YtogplkochcalpaaW.PrintMore
/-- What Join answers. -/
def JR (w : World) (r : Dl × Int) (e : Ending) (w' : World) : Prop := ∃ B cb, e = .returned (.tuple #[.agg #[.int .i64 r.1.a, .int .i64 r.1.b, .int .u64 r.1.c, .int .u64 r.1.d, .slice B r.1.l.length cb], .int .i64 r.2]) ∧ Kd.C k37 w' B r.1.l.length r.1.l ∧ r.1.l.length ≤ cb ∧ Below w.heap.size w w'
/-- Three boxes: two deltas, the result. -/
structure B3 (w : World) (d f : Dl) (A : Option Addr) (c : Nat) (B : Option Addr) (cb : Nat) (nd nf : Nat) (wr : World) : Prop where
  d : wr.heap[w.heap.size]? = some (.cells #[.int .i64 d.a, .int .i64 d.b, .int .u64 d.c, .int .u64 d.d, .slice A nd c] 27 (0, 0))
  f : wr.heap[w.heap.size + 1]? = some (.cells #[.int .i64 f.a, .int .i64 f.b, .int .u64 f.c, .int .u64 f.d, .slice B nf cb] 27 (0, 0))
  z : wr.heap[w.heap.size + 1 + 1]? = some (.cells #[.int .i64 0, .int .i64 0, .int .u64 0, .int .u64 0, .slice none 0 0] 27 (0, 0))
  below : Below w.heap.size w wr
theorem B3.new (w : World) (d f : Dl) (A : Option Addr) (c : Nat) (B : Option Addr) (cb nd nf : Nat) : B3 w d f A c B cb nd nf (((w.alloc (.cells #[.int .i64 d.a, .int .i64 d.b, .int .u64 d.c, .int .u64 d.d, .slice A nd c] 27)).alloc (.cells #[.int .i64 f.a, .int .i64 f.b, .int .u64 f.c, .int .u64 f.d, .slice B nf cb] 27)).alloc (.cells #[.int .i64 0, .int .i64 0, .int .u64 0, .int .u64 0, .slice none 0 0] 27)) := by
  have s1 : (w.alloc (.cells #[.int .i64 d.a, .int .i64 d.b, .int .u64 d.c, .int .u64 d.d, .slice A nd c] 27)).heap.size = w.heap.size + 1 := World.size_alloc _ _
  have h1 := heap_alloc_new w (.cells #[.int .i64 d.a, .int .i64 d.b, .int .u64 d.c, .int .u64 d.d, .slice A nd c] 27)
  have h2 := heap_alloc_new (w.alloc (.cells #[.int .i64 d.a, .int .i64 d.b, .int .u64 d.c, .int .u64 d.d, .slice A nd c] 27)) (.cells #[.int .i64 f.a, .int .i64 f.b, .int .u64 f.c, .int .u64 f.d, .slice B nf cb] 27)
  have h3 := heap_alloc_new ((w.alloc (.cells #[.int .i64 d.a, .int .i64 d.b, .int .u64 d.c, .int .u64 d.d, .slice A nd c] 27)).alloc (.cells #[.int .i64 f.a, .int .i64 f.b, .int .u64 f.c, .int .u64 f.d, .slice B nf cb] 27)) (.cells #[.int .i64 0, .int .i64 0, .int .u64 0, .int .u64 0, .slice none 0 0] 27)
  rw [World.size_alloc, s1] at h3
  have h2' := h2
  rw [s1] at h2
  exact ⟨blk_alloc (blk_alloc h1 _) _, blk_alloc h2 _, h3, below_alloc (below_alloc (below_alloc (Below.refl _ _) _) _) _⟩
theorem B3.keep {w wr w1 : World} {d f : Dl} {A B : Option Addr} {c cb nd nf : Nat} (H : B3 w d f A c B cb nd nf wr) (hb : Below wr.heap.size wr w1) : B3 w d f A c B cb nd nf w1 := ⟨blk_below H.d hb, blk_below H.f hb, blk_below H.z hb, below_then H.below H.below.size hb⟩
theorem B3.else_ {w wr w1 : World} {d f : Dl} {A B : Option Addr} {c cb nd nf : Nat} {xb : Nat} (H : B3 w d f A c B cb nd nf wr) (hb : Below w.heap.size w w1) (hE : Else xb wr w1) (hx : w.heap.size + 1 + 1 < xb) : B3 w d f A c B cb nd nf w1 :=
  ⟨hE.2 _ _ H.d (by omega) (fun _ e => by injection e with _ h _; exact absurd h (by decide)), hE.2 _ _ H.f (by omega) (fun _ e => by injection e with _ h _; exact absurd h (by decide)), hE.2 _ _ H.z (by omega) (fun _ e => by injection e with _ h _; exact absurd h (by decide)), hb⟩
section
variable (w : World) (d f : Dl) (A : Option Addr) (c : Nat) (B : Option Addr) (cb : Nat) (hd : Kd.C k37 w A d.l.length d.l) (hc : d.l.length ≤ c) (hf : Kd.C k37 w B f.l.length f.l) (hcb : f.l.length ≤ cb) (hwd : ∀ o ∈ d.l, WfO o) (hwf : ∀ o ∈ f.l, WfO o) (hld : d.l.length ≤ 8388608) (hlf : f.l.length ≤ 8388608)
include hd hc hwd hld
set_option maxHeartbeats 4000000 in
set_option maxRecDepth 100000 in
theorem rjoin_d (hr : rightD d = false) : Calls Try.prog 21 #[dv d A c, dv f B cb] w fun e w' => JR w (zeroD, 1) e w' := by
  have KG := Aside0.mk (fun w1 (h : Below w.heap.size w w1) => rright_any d A c w1 (Kd.C_below hd h) hc hwd hld)
  rw [hr] at KG
  have K3 := Aside0.mk (B3.new w d f A c B cb d.l.length f.l.length)
  simp only [dv] at KG ⊢
  obtain ⟨nd, hnd⟩ : ∃ nd, nd = d.l.length := ⟨_, rfl⟩
  obtain ⟨nf, hnf⟩ : ∃ nf, nf = f.l.length := ⟨_, rfl⟩
  rw [← hnd] at KG K3 ⊢
  rw [← hnf] at K3 ⊢
  obtain ⟨q0, q1, q2, q3, q4⟩ := dbox_cells K3.out.d
  clear hd hc hwd hld hr hnd hnf
  go_enter Try.func21, Try.ntmps21
  go_wp2_with (go_at_call 18; apply Aside0.out)
  refine ⟨?_⟩
  refine (KG.out _ K3.out.below).mono ?_
  rintro e w1 ⟨rfl, hb⟩
  have K31 := Aside0.mk (K3.out.keep hb)
  clear hb q0 q1 q2 q3 q4
  go_wp2_with ((with_reducible refine gate_store (t := 27) (p := 4) rfl ?_); apply Aside0.out)
  refine ⟨?_⟩
  refine store_del rfl (.tmp 4) (.tmp 23) rfl (w.heap.size + 1 + 1) _ _ rfl rfl K31.out.z rfl rfl (by simp [Value.oneCell']) ?_
  intro w7 hg hB hE hS
  have KB7 := Aside0.mk (hB _ _ (by omega) K31.out.below)
  have KZ7 := Aside0.mk hg
  clear hg hB hE hS
  go_wp2
  refine bodyPost_ret (results_list (rs := [.cell 4 27, .tmp 5]) rfl (by simp) (.cell (w.heap.size + 1 + 1) 27 _ _ _ rfl KZ7.out Try.underlying27 rfl szDel (.tmp .nil))) rfl ?_
  exact ⟨none, 0, rfl, Kd.C_nil _ _, Nat.le_refl _, KB7.out⟩
include hf hcb hwf hlf
set_option maxHeartbeats 4000000 in
set_option maxRecDepth 100000 in
theorem rjoin_f (hr : rightD d = true) (hr2 : rightD f = false) : Calls Try.prog 21 #[dv d A c, dv f B cb] w fun e w' => JR w (zeroD, 1) e w' := by
  have KG := Aside0.mk (fun w1 (h : Below w.heap.size w w1) => rright_any d A c w1 (Kd.C_below hd h) hc hwd hld)
  have KH := Aside0.mk (fun w1 (h : Below w.heap.size w w1) => rright_any f B cb w1 (Kd.C_below hf h) hcb hwf hlf)
  rw [hr] at KG
  rw [hr2] at KH
  have K3 := Aside0.mk (B3.new w d f A c B cb d.l.length f.l.length)
  simp only [dv] at KG KH ⊢
  obtain ⟨nd, hnd⟩ : ∃ nd, nd = d.l.length := ⟨_, rfl⟩
  obtain ⟨nf, hnf⟩ : ∃ nf, nf = f.l.length := ⟨_, rfl⟩
  rw [← hnd] at KG K3 ⊢
  rw [← hnf] at K3 KH ⊢
  obtain ⟨q0, q1, q2, q3, q4⟩ := dbox_cells K3.out.d
  obtain ⟨p0, p1, p2, p3, p4⟩ := dbox_cells K3.out.f
  clear hd hc hwd hld hr hnd hnf hf hcb hwf hlf hr2
  go_enter Try.func21, Try.ntmps21
  go_wp2_with (go_at_call 18; apply Aside0.out)
  refine ⟨?_⟩
  refine (KG.out _ K3.out.below).mono ?_
  rintro e w1 ⟨rfl, hb⟩
  have K31 := Aside0.mk (K3.out.keep hb)
  have hs1 := hb.size
  simp only [World.size_alloc] at hs1
  clear hb q0 q1 q2 q3 q4 p0 p1 p2 p3 p4
  obtain ⟨p0, p1, p2, p3, p4⟩ := dbox_cells K31.out.f
  go_wp2_with (go_at_call 18; apply Aside0.out)
  refine ⟨?_⟩
  refine (KH.out _ K31.out.below).mono ?_
  rintro e w2 ⟨rfl, hb⟩
  have K32 := Aside0.mk (K31.out.keep hb)
  have hs2 := hb.size
  clear hb p0 p1 p2 p3 p4
  go_wp2_with ((with_reducible refine gate_store (t := 27) (p := 4) rfl ?_); apply Aside0.out)
  refine ⟨?_⟩
  refine store_del rfl (.tmp 4) (.tmp 23) rfl (w.heap.size + 1 + 1) _ _ rfl rfl K32.out.z rfl rfl (by simp [Value.oneCell']) ?_
  intro w7 hg hB hE hS
  have KB7 := Aside0.mk (hB _ _ (by omega) K32.out.below)
  have KZ7 := Aside0.mk hg
  clear hg hB hE hS
  go_wp2
  refine bodyPost_ret (results_list (rs := [.cell 4 27, .tmp 5]) rfl (by simp) (.cell (w.heap.size + 1 + 1) 27 _ _ _ rfl KZ7.out Try.underlying27 rfl szDel (.tmp .nil))) rfl ?_
  exact ⟨none, 0, rfl, Kd.C_nil _ _, Nat.le_refl _, KB7.out⟩
set_option maxHeartbeats 4000000 in
set_option maxRecDepth 100000 in
theorem rjoin_kind (hr : rightD d = true) (hr2 : rightD f = true) (hk : ¬ (d.b = f.a ∧ d.d = f.c)) : Calls Try.prog 21 #[dv d A c, dv f B cb] w fun e w' => JR w (zeroD, 8) e w' := by
  have KG := Aside0.mk (fun w1 (h : Below w.heap.size w w1) => rright_any d A c w1 (Kd.C_below hd h) hc hwd hld)
  have KH := Aside0.mk (fun w1 (h : Below w.heap.size w w1) => rright_any f B cb w1 (Kd.C_below hf h) hcb hwf hlf)
  rw [hr] at KG
  rw [hr2] at KH
  have K3 := Aside0.mk (B3.new w d f A c B cb d.l.length f.l.length)
  simp only [dv] at KG KH ⊢
  obtain ⟨nd, hnd⟩ : ∃ nd, nd = d.l.length := ⟨_, rfl⟩
  obtain ⟨nf, hnf⟩ : ∃ nf, nf = f.l.length := ⟨_, rfl⟩
  rw [← hnd] at KG K3 ⊢
  rw [← hnf] at K3 KH ⊢
  obtain ⟨q0, q1, q2, q3, q4⟩ := dbox_cells K3.out.d
  obtain ⟨p0, p1, p2, p3, p4⟩ := dbox_cells K3.out.f
  have hk1 : (d.b = f.a) ∨ (d.b ≠ f.a) := Classical.em _
  clear hd hc hwd hld hr hnd hnf hf hcb hwf hlf hr2
  go_enter Try.func21, Try.ntmps21
  go_wp2_with (go_at_call 18; apply Aside0.out)
  refine ⟨?_⟩
  refine (KG.out _ K3.out.below).mono ?_
  rintro e w1 ⟨rfl, hb⟩
  have K31 := Aside0.mk (K3.out.keep hb)
  have hs1 := hb.size
  simp only [World.size_alloc] at hs1
  clear hb q0 q1 q2 q3 q4 p0 p1 p2 p3 p4
  obtain ⟨p0, p1, p2, p3, p4⟩ := dbox_cells K31.out.f
  go_wp2_with (go_at_call 18; apply Aside0.out)
  refine ⟨?_⟩
  refine (KH.out _ K31.out.below).mono ?_
  rintro e w2 ⟨rfl, hb⟩
  have K32 := Aside0.mk (K31.out.keep hb)
  have hs2 := hb.size
  clear hb p0 p1 p2 p3 p4
  obtain ⟨q0, q1, q2, q3, q4⟩ := dbox_cells K32.out.d
  obtain ⟨p0, p1, p2, p3, p4⟩ := dbox_cells K32.out.f
  rcases hk1 with hk1 | hk1
  · have h1 : (d.b != f.a) = false := by simp [hk1]
    have h2 : (d.d != f.c) = true := by simpa using fun e => hk ⟨hk1, e⟩
    clear hk hk1
    go_wp2_with ((with_reducible refine gate_store (t := 27) (p := 4) rfl ?_); apply Aside0.out)
    refine ⟨?_⟩
    refine store_del rfl (.tmp 4) (.tmp 36) rfl (w.heap.size + 1 + 1) _ _ rfl rfl K32.out.z rfl rfl (by simp [Value.oneCell']) ?_
    intro w7 hg hB hE hS
    have KB7 := Aside0.mk (hB _ _ (by omega) K32.out.below)
    have KZ7 := Aside0.mk hg
    clear hg hB hE hS
    go_wp2
    refine bodyPost_ret (results_list (rs := [.cell 4 27, .tmp 5]) rfl (by simp) (.cell (w.heap.size + 1 + 1) 27 _ _ _ rfl KZ7.out Try.underlying27 rfl szDel (.tmp .nil))) rfl ?_
    exact ⟨none, 0, rfl, Kd.C_nil _ _, Nat.le_refl _, KB7.out⟩
  · have h1 : (d.b != f.a) = true := by simpa using hk1
    clear hk hk1
    go_wp2_with ((with_reducible refine gate_store (t := 27) (p := 4) rfl ?_); apply Aside0.out)
    refine ⟨?_⟩
    refine store_del rfl (.tmp 4) (.tmp 36) rfl (w.heap.size + 1 + 1) _ _ rfl rfl K32.out.z rfl rfl (by simp [Value.oneCell']) ?_
    intro w7 hg hB hE hS
    have KB7 := Aside0.mk (hB _ _ (by omega) K32.out.below)
    have KZ7 := Aside0.mk hg
    clear hg hB hE hS
    go_wp2
    refine bodyPost_ret (results_list (rs := [.cell 4 27, .tmp 5]) rfl (by simp) (.cell (w.heap.size + 1 + 1) 27 _ _ _ rfl KZ7.out Try.underlying27 rfl szDel (.tmp .nil))) rfl ?_
    exact ⟨none, 0, rfl, Kd.C_nil _ _, Nat.le_refl _, KB7.out⟩
end
end Go.Proofs.Ytogplkochcalpaa.De
