/- Two deltas joined: the statement's walk. -/
import Derived.Test.YtogplkochcalpaaDB
import Derived.Test.YtogplkochcalpaaDC
import Derived.Test.YtogplkochcalpaaDp3
import Derived.Test.YtogplkochcalpaaDj7
set_option linter.unusedVariables false
set_option linter.unusedSimpArgs false
namespace Go.Proofs.Ytogplkochcalpaa
open Go.RowKit Go.Proofs.Ytogplkochcalpaa.De Go.Proofs.Ytogplkochcalpaa.PD Go.Proofs.Ytogplkochcalpaa.Fd Go.Proofs.Ytogplkochcalpaa.Bg Go.Proofs.YtogplkochcalpaaW.PrintWords Go.Proofs.YtogplkochcalpaaW.PrintLast Go.Proofs.YtogplkochcalpaaW.PrintMore
namespace DeltaJoins
/-- The two boxes. -/
structure B2 (w : World) (d f : Dl) (A : Option Addr) (c : Nat) (B : Option Addr) (cb : Nat) (nd nf : Nat) (wr : World) : Prop where
  d : wr.heap[w.heap.size]? = some (.cells #[.int .i64 d.a, .int .i64 d.b, .int .u64 d.c, .int .u64 d.d, .slice A nd c] 27 (0, 0))
  f : wr.heap[w.heap.size + 1]? = some (.cells #[.int .i64 f.a, .int .i64 f.b, .int .u64 f.c, .int .u64 f.d, .slice B nf cb] 27 (0, 0))
  below : Below w.heap.size w wr
theorem B2.new (w : World) (d f : Dl) (A : Option Addr) (c : Nat) (B : Option Addr) (cb nd nf : Nat) : B2 w d f A c B cb nd nf ((w.alloc (.cells #[.int .i64 d.a, .int .i64 d.b, .int .u64 d.c, .int .u64 d.d, .slice A nd c] 27)).alloc (.cells #[.int .i64 f.a, .int .i64 f.b, .int .u64 f.c, .int .u64 f.d, .slice B nf cb] 27)) := by
  have h1 := heap_alloc_new w (.cells #[.int .i64 d.a, .int .i64 d.b, .int .u64 d.c, .int .u64 d.d, .slice A nd c] 27)
  have h2 := heap_alloc_new (w.alloc (.cells #[.int .i64 d.a, .int .i64 d.b, .int .u64 d.c, .int .u64 d.d, .slice A nd c] 27)) (.cells #[.int .i64 f.a, .int .i64 f.b, .int .u64 f.c, .int .u64 f.d, .slice B nf cb] 27)
  rw [World.size_alloc] at h2
  exact ⟨blk_alloc h1 _, h2, below_alloc (below_alloc (Below.refl _ _) _) _⟩
theorem B2.keep {w wr w1 : World} {d f : Dl} {A B : Option Addr} {c cb nd nf : Nat} (H : B2 w d f A c B cb nd nf wr) (hb : Below wr.heap.size wr w1) : B2 w d f A c B cb nd nf w1 := ⟨blk_below H.d hb, blk_below H.f hb, below_then H.below H.below.size hb⟩
section
variable (w : World) (d f : Dl) (A : Option Addr) (c : Nat) (B : Option Addr) (cb : Nat) (hd : Kd.C k37 w A d.l.length d.l) (hc : d.l.length ≤ c) (hf : Kd.C k37 w B f.l.length f.l) (hcb : f.l.length ≤ cb)
include hd hc
set_option maxHeartbeats 4000000 in
set_option maxRecDepth 100000 in
theorem much1_ (hm : muchB d = true) : Calls Try.prog 5 #[dv d A c, dv f B cb] w fun e w' => e = .returned (.bool true) ∧ Below w.heap.size w w' := by
  have KB0 := Aside0.mk (B2.new w d f A c B cb d.l.length f.l.length)
  have KM := Aside0.mk (fun w1 (h : Below w.heap.size w w1) => much_any d A c w1 (Kd.C_below hd h) hc)
  rw [hm] at KM
  simp only [dv] at KM ⊢
  obtain ⟨q0, q1, q2, q3, q4⟩ := dbox_cells KB0.out.d
  obtain ⟨nd, hnd⟩ : ∃ nd, nd = d.l.length := ⟨_, rfl⟩
  obtain ⟨nf, hnf⟩ : ∃ nf, nf = f.l.length := ⟨_, rfl⟩
  rw [← hnd] at KM KB0 q0 q1 q2 q3 q4 ⊢
  rw [← hnf] at KB0 q0 q1 q2 q3 q4 ⊢
  clear hd hc hm hnd hnf
  go_enter Try.func5, Try.ntmps5
  go_wp2_with (go_at_call 16; apply Aside0.out)
  refine ⟨?_⟩
  refine (KM.out _ KB0.out.below).mono ?_
  rintro e w1 ⟨rfl, hb⟩
  have KB1 := Aside0.mk (KB0.out.keep hb)
  clear hb
  go_wp2_with (go_at_call 10; refine (live_any _).mono ?_; rintro e w' ⟨rfl, hbel⟩)
  go_ret
  exact ⟨rfl, below_then KB1.out.below KB1.out.below.size hbel⟩
include hf hcb
set_option maxHeartbeats 4000000 in
set_option maxRecDepth 100000 in
theorem much2_ (hm : muchB d = false) (hm2 : muchB f = true) : Calls Try.prog 5 #[dv d A c, dv f B cb] w fun e w' => e = .returned (.bool true) ∧ Below w.heap.size w w' := by
  have KB0 := Aside0.mk (B2.new w d f A c B cb d.l.length f.l.length)
  have KM := Aside0.mk (fun w1 (h : Below w.heap.size w w1) => much_any d A c w1 (Kd.C_below hd h) hc)
  have KN := Aside0.mk (fun w1 (h : Below w.heap.size w w1) => much_any f B cb w1 (Kd.C_below hf h) hcb)
  rw [hm] at KM
  rw [hm2] at KN
  simp only [dv] at KM KN ⊢
  obtain ⟨q0, q1, q2, q3, q4⟩ := dbox_cells KB0.out.d
  obtain ⟨nd, hnd⟩ : ∃ nd, nd = d.l.length := ⟨_, rfl⟩
  obtain ⟨nf, hnf⟩ : ∃ nf, nf = f.l.length := ⟨_, rfl⟩
  rw [← hnd] at KM KB0 q0 q1 q2 q3 q4 ⊢
  rw [← hnf] at KB0 KN q0 q1 q2 q3 q4 ⊢
  clear hd hc hm hnd hnf hf hcb hm2
  go_enter Try.func5, Try.ntmps5
  go_wp2_with (go_at_call 16; apply Aside0.out)
  refine ⟨?_⟩
  refine (KM.out _ KB0.out.below).mono ?_
  rintro e w1 ⟨rfl, hb⟩
  have KB1 := Aside0.mk (KB0.out.keep hb)
  clear hb q0 q1 q2 q3 q4
  obtain ⟨q0, q1, q2, q3, q4⟩ := dbox_cells KB1.out.f
  go_wp2_with (go_at_call 16; apply Aside0.out)
  refine ⟨?_⟩
  refine (KN.out _ KB1.out.below).mono ?_
  rintro e w2 ⟨rfl, hb⟩
  have KB2 := Aside0.mk (KB1.out.keep hb)
  clear hb q0 q1 q2 q3 q4
  go_wp2_with (go_at_call 10; refine (live_any _).mono ?_; rintro e w' ⟨rfl, hbel⟩)
  go_ret
  exact ⟨rfl, below_then KB2.out.below KB2.out.below.size hbel⟩
set_option maxHeartbeats 4000000 in
set_option maxRecDepth 100000 in
theorem main_ (hwd : ∀ o ∈ d.l, WfO o) (hwf : ∀ o ∈ f.l, WfO o) (hm : muchB d = false) (hm2 : muchB f = false) : Calls Try.prog 5 #[dv d A c, dv f B cb] w fun e w' => e = .returned (.bool true) ∧ Below w.heap.size w w' := by
  obtain ⟨hl1, -⟩ := much_no hm
  obtain ⟨hl2, -⟩ := much_no hm2
  have KB0 := Aside0.mk (B2.new w d f A c B cb d.l.length f.l.length)
  have KM := Aside0.mk (fun w1 (h : Below w.heap.size w w1) => much_any d A c w1 (Kd.C_below hd h) hc)
  have KN := Aside0.mk (fun w1 (h : Below w.heap.size w w1) => much_any f B cb w1 (Kd.C_below hf h) hcb)
  have KJ := Aside0.mk (fun w1 (h : Below w.heap.size w w1) => join_any w1 d f A c B cb (Kd.C_below hd h) hc (Kd.C_below hf h) hcb hwd hwf (by omega) (by omega))
  have KR := Aside0.mk (fun w1 (h : Below w.heap.size w w1) => rjoin_any w1 d f A c B cb (Kd.C_below hd h) hc (Kd.C_below hf h) hcb hwd hwf (by omega) (by omega))
  rw [hm] at KM
  rw [hm2] at KN
  have hgl := joinR_len d f
  obtain ⟨g, E, hg⟩ : ∃ g E, joinR d f = (g, E) := ⟨_, _, rfl⟩
  rw [hg] at KJ KR hgl
  have KQ : Aside0 (∀ (w1 : World) A1 c1 A2 c2, Kd.C k37 w1 A1 g.l.length g.l → g.l.length ≤ c1 → Kd.C k37 w1 A2 g.l.length g.l → g.l.length ≤ c2 → _) := ⟨fun w1 A1 c1 A2 c2 h1 h2 h3 h4 => same_any g A1 A2 c1 c2 w1 h1 h2 h3 h4 hgl⟩
  simp only [dv, JR] at KM KN KJ KR KQ ⊢
  obtain ⟨q0, q1, q2, q3, q4⟩ := dbox_cells KB0.out.d
  obtain ⟨nd, hnd⟩ : ∃ nd, nd = d.l.length := ⟨_, rfl⟩
  obtain ⟨nf, hnf⟩ : ∃ nf, nf = f.l.length := ⟨_, rfl⟩
  obtain ⟨k, hk⟩ : ∃ k, k = g.l.length := ⟨_, rfl⟩
  rw [← hnd] at KM KB0 KJ KR q0 q1 q2 q3 q4 ⊢
  rw [← hnf] at KB0 KN KJ KR q0 q1 q2 q3 q4 ⊢
  rw [← hk] at KJ KR KQ
  clear hd hc hm hnd hnf hf hcb hm2 hk hg hgl hl1 hl2 hwd hwf
  go_enter Try.func5, Try.ntmps5
  go_wp2_with (go_at_call 16; apply Aside0.out)
  refine ⟨?_⟩
  refine (KM.out _ KB0.out.below).mono ?_
  rintro e w1 ⟨rfl, hb⟩
  have KB1 := Aside0.mk (KB0.out.keep hb)
  clear hb q0 q1 q2 q3 q4
  obtain ⟨q0, q1, q2, q3, q4⟩ := dbox_cells KB1.out.f
  go_wp2_with (go_at_call 16; apply Aside0.out)
  refine ⟨?_⟩
  refine (KN.out _ KB1.out.below).mono ?_
  rintro e w2 ⟨rfl, hb⟩
  have KB2 := Aside0.mk (KB1.out.keep hb)
  clear hb q0 q1 q2 q3 q4
  obtain ⟨q0, q1, q2, q3, q4⟩ := dbox_cells KB2.out.f
  obtain ⟨p0, p1, p2, p3, p4⟩ := dbox_cells KB2.out.d
  go_wp2_with (go_at_call 20; apply Aside0.out)
  refine ⟨?_⟩
  refine (KJ.out _ KB2.out.below).mono ?_
  rintro e w3 ⟨A3, c3, rfl, hC3, hle3, hb⟩
  have hX := heap_alloc_new w3 (.cells #[.int .i64 g.a, .int .i64 g.b, .int .u64 g.c, .int .u64 g.d, .slice A3 k c3] 27)
  have hXb := below_alloc (Below.refl w3.heap.size w3) (.cells #[.int .i64 g.a, .int .i64 g.b, .int .u64 g.c, .int .u64 g.d, .slice A3 k c3] 27)
  have KB3 := Aside0.mk ((KB2.out.keep hb).keep hXb)
  have KX3 := Aside0.mk hX
  have KC3 := Aside0.mk (Kd.C_below hC3 hXb)
  clear hb q0 q1 q2 q3 q4 p0 p1 p2 p3 p4 hX hXb hC3
  obtain ⟨q0, q1, q2, q3, q4⟩ := dbox_cells KB3.out.f
  obtain ⟨p0, p1, p2, p3, p4⟩ := dbox_cells KB3.out.d
  go_wp2_with (go_at_call 21; apply Aside0.out)
  refine ⟨?_⟩
  refine (KR.out _ KB3.out.below).mono ?_
  rintro e w4 ⟨A4, c4, rfl, hC4, hle4, hb⟩
  have hX := heap_alloc_new w4 (.cells #[.int .i64 g.a, .int .i64 g.b, .int .u64 g.c, .int .u64 g.d, .slice A4 k c4] 27)
  have hXb := below_alloc (Below.refl w4.heap.size w4) (.cells #[.int .i64 g.a, .int .i64 g.b, .int .u64 g.c, .int .u64 g.d, .slice A4 k c4] 27)
  obtain ⟨z0, z1, z2, z3, z4⟩ := dbox_cells hX
  obtain ⟨y0, y1, y2, y3, y4⟩ := dbox_cells (blk_below (blk_below KX3.out hb) hXb)
  have KB5 := Aside0.mk ((KB3.out.keep hb).keep hXb)
  have KQ5 := Aside0.mk (KQ.out _ A3 c3 A4 c4 (Kd.C_below (Kd.C_below KC3.out hb) hXb) hle3 (Kd.C_below hC4 hXb) hle4)
  clear hC4 hb hX hXb q0 q1 q2 q3 q4 p0 p1 p2 p3 p4
  go_wp2_with (go_at_call 13; apply Aside0.out)
  refine ⟨?_⟩
  refine KQ5.out.mono ?_
  rintro e w6 ⟨rfl, hb6⟩
  have KB6 := Aside0.mk (KB5.out.keep hb6)
  clear hb6 z0 z1 z2 z3 z4 y0 y1 y2 y3 y4
  go_wp2_with (first | (go_at_call 12; refine (num_any _ _).mono ?_; rintro e w' ⟨rfl, rfl⟩) | (go_at_call 10; refine (live_any _).mono ?_; rintro e w' ⟨rfl, hbel⟩))
  go_ret
  exact ⟨rfl, below_then KB6.out.below KB6.out.below.size hbel⟩
end
theorem walk (w : World) (cs0 : Array Value) (x0 : Int × Int × Int × Int × (List (Int × Int × List Int))) (r0 : ∃ c00 c01, cs0.toList = c00 ++ c01 ∧ ((Kd.int .i64).K w x0.1 c00 ∧ (fun n : Int => (Lit.int .i64 n).wf = true) x0.1) ∧ (∃ c10 c11, c01 = c10 ++ c11 ∧ ((Kd.int .i64).K w x0.2.1 c10 ∧ (fun n : Int => (Lit.int .i64 n).wf = true) x0.2.1) ∧ (∃ c20 c21, c11 = c20 ++ c21 ∧ ((Kd.int .u64).K w x0.2.2.1 c20 ∧ (fun n : Int => (Lit.int .u64 n).wf = true) x0.2.2.1) ∧ (∃ c30 c31, c21 = c30 ++ c31 ∧ ((Kd.int .u64).K w x0.2.2.2.1 c30 ∧ (fun n : Int => (Lit.int .u64 n).wf = true) x0.2.2.2.1) ∧ ((Kd.slice 37 (Kd.pair (Kd.int .i64) (Kd.pair (Kd.int .i64) (Kd.slice 5 (Kd.int .u8))))).K w x0.2.2.2.2 c31 ∧ (fun xs => (∀ v ∈ xs, (fun x : Int × Int × List Int => (fun n : Int => (Lit.int .i64 n).wf = true) x.1 ∧ (fun x : Int × List Int => (fun n : Int => (Lit.int .i64 n).wf = true) x.1 ∧ (fun xs => (∀ v ∈ xs, (fun n : Int => (Lit.int .u8 n).wf = true) v) ∧ xs.length * 1 ≤ 140737488351232) x.2) x.2) v) ∧ xs.length * 40 ≤ 140737488351232) x0.2.2.2.2))))) (cs1 : Array Value) (x1 : Int × Int × Int × Int × (List (Int × Int × List Int))) (r1 : ∃ c00 c01, cs1.toList = c00 ++ c01 ∧ ((Kd.int .i64).K w x1.1 c00 ∧ (fun n : Int => (Lit.int .i64 n).wf = true) x1.1) ∧ (∃ c10 c11, c01 = c10 ++ c11 ∧ ((Kd.int .i64).K w x1.2.1 c10 ∧ (fun n : Int => (Lit.int .i64 n).wf = true) x1.2.1) ∧ (∃ c20 c21, c11 = c20 ++ c21 ∧ ((Kd.int .u64).K w x1.2.2.1 c20 ∧ (fun n : Int => (Lit.int .u64 n).wf = true) x1.2.2.1) ∧ (∃ c30 c31, c21 = c30 ++ c31 ∧ ((Kd.int .u64).K w x1.2.2.2.1 c30 ∧ (fun n : Int => (Lit.int .u64 n).wf = true) x1.2.2.2.1) ∧ ((Kd.slice 37 (Kd.pair (Kd.int .i64) (Kd.pair (Kd.int .i64) (Kd.slice 5 (Kd.int .u8))))).K w x1.2.2.2.2 c31 ∧ (fun xs => (∀ v ∈ xs, (fun x : Int × Int × List Int => (fun n : Int => (Lit.int .i64 n).wf = true) x.1 ∧ (fun x : Int × List Int => (fun n : Int => (Lit.int .i64 n).wf = true) x.1 ∧ (fun xs => (∀ v ∈ xs, (fun n : Int => (Lit.int .u8 n).wf = true) v) ∧ xs.length * 1 ≤ 140737488351232) x.2) x.2) v) ∧ xs.length * 40 ≤ 140737488351232) x1.2.2.2.2))))) :
    Calls Try.prog 5 #[.agg cs0, .agg cs1] w fun e w' => e = .returned (.bool true) ∧ Below w.heap.size w w' := by
  obtain ⟨d, A, c, rfl, hw, hC, hc⟩ := del_of r0
  obtain ⟨f, B, cb, rfl, hw2, hC2, hc2⟩ := del_of r1
  cases hm : muchB d with
  | true => exact much1_ w d f A c B cb hC hc hm
  | false =>
    cases hm2 : muchB f with
    | true => exact much2_ w d f A c B cb hC hc hC2 hc2 hm hm2
    | false => exact main_ w d f A c B cb hC hc hC2 hc2 hw.ops hw2.ops hm hm2
end DeltaJoins
end Go.Proofs.Ytogplkochcalpaa
