/- Deltas joined: delta.Join: the walk. -/
import Derived.Test.YtogplkochcalpaaDj5
set_option linter.unusedVariables false
set_option linter.unusedSimpArgs false
namespace Go.Proofs.Ytogplkochcalpaa.De
open Go.RowKit Go.Proofs.Ytogplkochcalpaa.PD Go.Proofs.Ytogplkochcalpaa.Fd Go.Proofs.Ytogplkochcalpaa.Bg Go.Proofs.YtogplkochcalpaaW.PrintWords Go.Proofs.YtogplkochcalpaaW.PrintLast Go.Proofs.YtogplkochcalpaaW.PrintMore
theorem FK_ownT {W : World} {b' : Nat} {A : Option Addr} {c : Nat} {o : S37} (hO : Row.OwnB W b' (.slice A o.f2.length c) o.f2) {ok : Nat → Prop} (hok : ∀ k, (Value.slice A o.f2.length c).ownBlock = some k → b' ≤ k → ok k) : Kd.FK k37 W ok o [.int .i64 o.f0, .int .i64 o.f1, .slice A o.f2.length c] :=
  k37_mkF _ _ o (Row.OwnB.reads hO).2.1 (Kd.F_mono (Kd.R_F (Kd.R_tight rfl hO)) fun k hk => hok k hk.symm (Kd.R_base hO k hk.symm))
/-- The bytes of an op that the call made. -/
theorem FK_made {w W : World} {sp : Nat → Prop} {xb : Nat} {h : Dl} {ov : Value} {acc : List S37} (H : XS w sp W xb h ov acc) {b' : Nat} {A : Option Addr} {c : Nat} {o : S37} (hO : Row.OwnB W b' (.slice A o.f2.length c) o.f2) (hb : ∀ k, sp k → k < b') : Kd.FK k37 W (fun k => (¬ sp k) ∧ some k ≠ ov.ownBlock) o [.int .i64 o.f0, .int .i64 o.f1, .slice A o.f2.length c] :=
  FK_ownT hO fun k hk hl => ⟨fun hs => by have := hb k hs; omega, fun e => by
    obtain ⟨c1, h1⟩ := own_typed (Kd.own_of_R hO) k hk
    obtain ⟨c2, h2⟩ := Kd.N_typed H.ops k e.symm
    rw [h1] at h2
    injection h2 with h2
    injection h2 with _ h2 _
    exact absurd h2 (by decide)⟩
theorem parts_any (A : Option Addr) (n c : Nat) (at_ m : Int) (w : World) : Calls Try.prog 37 #[.slice A n c, .int .i64 at_, .int .i64 m] w fun e w' => e = .returned (.func (.func 56) #[] #[.pointer (some ⟨w.heap.size, 0, none⟩), .pointer (some ⟨w.heap.size + 1, 0, none⟩), .pointer (some ⟨w.heap.size + 1 + 1, 0, none⟩)]) ∧ PB w.heap.size (w.heap.size + 1) (w.heap.size + 1 + 1) A n c at_ m w' ∧ Below w.heap.size w w' ∧ w'.heap.size = w.heap.size + 1 + 1 + 1 := by
  have h1 := heap_alloc_new w (.cells #[.slice A n c] 25)
  have h2 := heap_alloc_new (w.alloc (.cells #[.slice A n c] 25)) (.cells #[.int .i64 at_] 3)
  have h3 := heap_alloc_new ((w.alloc (.cells #[.slice A n c] 25)).alloc (.cells #[.int .i64 at_] 3)) (.cells #[.int .i64 m] 3)
  rw [World.size_alloc, World.size_alloc] at h3
  rw [World.size_alloc] at h2
  have K := Aside0.mk (And.intro (blk_alloc (blk_alloc h1 (.cells #[.int .i64 at_] 3)) (.cells #[.int .i64 m] 3)) (And.intro (blk_alloc h2 (.cells #[.int .i64 m] 3)) h3))
  clear h1 h2 h3
  go_enter Try.func37, Try.ntmps37
  go_wp2
  go_ret
  exact ⟨rfl, ⟨K.out.1, K.out.2.1, K.out.2.2, ⟨Nat.lt_succ_self _, Nat.lt_succ_self _⟩⟩, below_alloc (below_alloc (below_alloc (Below.refl _ _) _) _) _, by rw [World.size_alloc, World.size_alloc, World.size_alloc]⟩
theorem dataFK2 {w W : World} {sp : Nat → Prop} {xb : Nat} {h : Dl} {ov : Value} {acc : List S37} (H : XS w sp W xb h ov acc) {b' lo : Nat} {A : Option Addr} {c : Nat} {o el : S37} (hO : Row.OwnB W b' (.slice A lo c) o.f2) (hel : el = ⟨0, 0, o.f2⟩) (hlo : lo = o.f2.length) (hb : ∀ k, sp k → k < b') : Kd.FK k37 W (fun k => (¬ sp k) ∧ some k ≠ ov.ownBlock) el [.int .i64 0, .int .i64 0, .slice A lo c] := by
  subst hel
  subst hlo
  exact FK_made H (o := ⟨0, 0, o.f2⟩) hO hb
/-- The rounds' relation: 'sx' are blocks that came with the range. -/
def RI (w : World) (sq sx : Nat → Prop) (xb b1 : Nat) (h d f : Dl) (A : Option Addr) (c : Nat) (B : Option Addr) (cb nd nf : Nat) (acc P : List S37) (ds : List Deferred) (k : Nat) (W : World) : Prop :=
  ∃ ov, XS w sq W xb h ov (acc ++ P.take k) ∧ Kd.N k37 37 W w.heap.size (fun j => ¬ (sq j ∨ sx j)) ov (acc ++ P.take k) ∧ B3 w d f A c B cb nd nf W ∧ Marks w.heap.size b1 ds W
theorem XS.st {w W W1 : World} {sp own : Nat → Prop} {xb L : Nat} {h : Dl} {ov : Value} {acc : List S37} (H : XS w sp W xb h ov acc) (hs : Rg.St w.heap.size own L W W1) (hx : ¬ own xb ∧ xb ≠ L) (ho : ∀ j, own j ∨ j = L → sp j) : XS w sp W1 xb h ov acc :=
  ⟨hs.same xb _ H.box hx.2 hx.1, Kd.N_step H.ops (fun j hj hlt => by
    have e := Array.getElem?_eq_getElem hlt
    exact (hs.same j _ e (fun e => hj (ho j (Or.inr e))) (fun e => hj (ho j (Or.inl e)))).trans e.symm), H.below.trans hs.below, H.xg, H.xs, fun j hj => Nat.lt_of_lt_of_le (H.lt j hj) hs.below.size⟩
theorem XS.to {w W : World} {sp sp' : Nat → Prop} {xb : Nat} {h : Dl} {ov : Value} {acc : List S37} (H : XS w sp W xb h ov acc) (hs : ∀ j, sp' j → sp j) (hx : sp' xb) : XS w sp' W xb h ov acc := ⟨H.box, Kd.N_mono H.ops (fun j hj hk => hj (hs j hk)), H.below, H.xg, hx, fun j hj => H.lt j (hs j hj)⟩
theorem B3.st {w W W1 : World} {own : Nat → Prop} {L b1 : Nat} {d f : Dl} {A B : Option Addr} {c cb nd nf : Nat} (HB : B3 w d f A c B cb nd nf W) (hs : Rg.St w.heap.size own L W W1) (h3 : w.heap.size + 1 + 1 < b1) (hl : ∀ j, j < b1 → ¬ own j ∧ j ≠ L) : B3 w d f A c B cb nd nf W1 :=
  ⟨hs.same _ _ HB.d (hl _ (by omega)).2 (hl _ (by omega)).1, hs.same _ _ HB.f (hl _ (by omega)).2 (hl _ (by omega)).1, hs.same _ _ HB.z (hl _ h3).2 (hl _ h3).1, HB.below.trans hs.below⟩
theorem Marks.st {w W W1 : World} {own : Nat → Prop} {L b1 : Nat} {ds : List Deferred} (HM : Marks w.heap.size b1 ds W) (hs : Rg.St w.heap.size own L W W1) (hl : ∀ j, j < b1 → ¬ own j ∧ j ≠ L) : Marks w.heap.size b1 ds W1 := HM.keep fun j hj o _ hk => hs.same j o hk (hl j hj).2 (hl j hj).1
/-- The delta's box in a round. -/
theorem RI.xs {w W : World} {sq sx : Nat → Prop} {xb : Nat} {h : Dl} {ov : Value} {acc : List S37} (HX : XS w sq W xb h ov acc) (HN : Kd.N k37 37 W w.heap.size (fun j => ¬ (sq j ∨ sx j)) ov acc) (hl : ∀ j, sx j → j < W.heap.size) : XS w (fun j => sq j ∨ sx j) W xb h ov acc :=
  ⟨HX.box, HN, HX.below, HX.xg, Or.inl HX.xs, fun j hj => hj.elim (HX.lt j) (hl j)⟩
theorem RI.st {w W W1 : World} {sq sx own : Nat → Prop} {xb b1 L : Nat} {h d f : Dl} {A B : Option Addr} {c cb nd nf : Nat} {acc P : List S37} {ds : List Deferred} {k : Nat} (H : RI w sq sx xb b1 h d f A c B cb nd nf acc P ds k W) (hs : Rg.St w.heap.size own L W W1) (hx : xb < b1) (h3 : w.heap.size + 1 + 1 < b1) (hl : ∀ j, j < b1 → ¬ own j ∧ j ≠ L) (ho : ∀ j, own j ∨ j = L → sx j) : RI w sq sx xb b1 h d f A c B cb nd nf acc P ds k W1 := by
  obtain ⟨ov, HX, HN, HB, HM⟩ := H
  have hN : Kd.N k37 37 W1 w.heap.size (fun j => ¬ (sq j ∨ sx j)) ov (acc ++ P.take k) := Kd.N_step HN fun j hj hlt => by
    have e := Array.getElem?_eq_getElem hlt
    exact (hs.same j _ e (fun e => hj (Or.inr (ho j (Or.inr e)))) (fun e => hj (Or.inr (ho j (Or.inl e))))).trans e.symm
  exact ⟨ov, ⟨hs.same xb _ HX.box (hl xb hx).2 (hl xb hx).1, Kd.N_mono hN (fun j hj hk => hj (Or.inl hk)), HX.below.trans hs.below, HX.xg, HX.xs, fun j hj => Nat.lt_of_lt_of_le (HX.lt j hj) hs.below.size⟩, hN, HB.st hs h3 hl, HM.st hs hl⟩
theorem take_next {α : Type} {P : List α} {k : Nat} {x : α} (h : P[k]? = some x) : P.take (k + 1) = P.take k ++ [x] := by
  rw [List.take_add_one, h]; rfl
theorem FK_madeB {w W : World} {sr : Nat → Prop} {xb : Nat} {h : Dl} {ov : Value} {acc : List S37} (H : XS w sr W xb h ov acc) {b' b9 l1 : Nat} {A : Option Addr} {c : Nat} {o : S37} {cs : Array Value} (hO : Row.OwnB W b' (.slice A l1 c) o.f2) (hl : l1 = o.f2.length) (h9 : W.heap[b9]? = some (.cells cs 37 (0, 0))) (hb : ∀ k, sr k → k < b' ∨ k = b9) : Kd.FK k37 W (fun k => (¬ sr k) ∧ some k ≠ ov.ownBlock) o [.int .i64 o.f0, .int .i64 o.f1, .slice A l1 c] := by
  subst hl
  refine FK_ownT hO fun k hk hle => ⟨fun hs => ?_, fun e => ?_⟩
  · rcases hb k hs with h | rfl
    · omega
    · obtain ⟨c1, h1⟩ := own_typed (Kd.own_of_R hO) k hk
      rw [h9] at h1
      injection h1 with h1
      injection h1 with _ h1 _
      exact absurd h1 (by decide)
  · obtain ⟨c1, h1⟩ := own_typed (Kd.own_of_R hO) k hk
    obtain ⟨c2, h2⟩ := Kd.N_typed H.ops k e.symm
    rw [h1] at h2
    injection h2 with h2
    injection h2 with _ h2 _
    exact absurd h2 (by decide)
theorem round_ends {w W W1 : World} {sr own : Nat → Prop} {xb : Nat} {h : Dl} {ov : Value} {acc : List S37} (H : XS w sr W xb h ov acc) (hg : W.grownBy W1 ov.ownBlock) (ho : ∀ j, own j → sr j) (hx : ¬ own xb) (u : Value) : Rg.Rd w.heap.size own W (W1.setCell ⟨xb, 4, none⟩ u) ∧ KeepsOthers W (W1.setCell ⟨xb, 4, none⟩ u) := by
  have hb : Below w.heap.size W W1 := (Below.refl _ _).grown hg H.below.size (fun k e => Kd.N_base H.ops k e)
  refine ⟨⟨hb.setCell H.xg _, fun j hj => ?_⟩, (KeepsOthers.of_grownBy hg (fun j o e hj => ?_)).trans (KeepsOthers.setCell _ _ _)⟩
  · exact (Below.heap_setCell _ _ _ _ (fun e => hx (by have e2 : j = xb := e; rw [← e2]; exact hj))).trans (H.sp_block hg (ho j hj))
  · obtain ⟨cells, hc⟩ := Kd.N_typed H.ops j e
    rw [hc] at hj
    rw [← Option.some.inj hj]
    rfl
/-- Only the normal end. -/
def onlyN (Q : Exit → Act → World → Prop) : Exit → Act → World → Prop
  | .normal, a, w => Q .normal a w
  | _, _, _ => False
theorem only_ {P : Program} {c : Code} {Q : Exit → Act → World → Prop} {a : Act} {w : World} (h : c.wp P (onlyN Q) a w) : c.wp P Q a w :=
  Code.wp_mono (fun e a w h => by
    cases e with
    | normal => exact h
    | _ => exact (show False from h).elim) h
/-- The loop's relation. -/
def JI (w : World) (sp : Nat → Prop) (xb : Nat) (d f : Dl) (A : Option Addr) (c : Nat) (B : Option Addr) (cb nd nf : Nat) (T : List S37) (k : Nat) (ds : List Deferred) (W : World) : Prop :=
  ∃ ov acc, XS w (fun k => sp k ∨ Mk ds k) W xb ⟨d.a, f.b, d.c, f.d, []⟩ ov acc ∧ B3 w d f A c B cb nd nf W ∧ T = acc ++ joinP d.l (f.l.drop k) ∧ Marks w.heap.size W.heap.size ds W ∧ ds.Pairwise (fun a b => a.target ≠ b.target)
set_option maxHeartbeats 8000000 in
set_option maxRecDepth 100000 in
theorem join_main (w : World) (d f : Dl) (A : Option Addr) (c : Nat) (B : Option Addr) (cb : Nat) (hd : Kd.C k37 w A d.l.length d.l) (hc : d.l.length ≤ c) (hf : Kd.C k37 w B f.l.length f.l) (hcb : f.l.length ≤ cb) (hwd : ∀ o ∈ d.l, WfO o) (hwf : ∀ o ∈ f.l, WfO o) (hld : d.l.length ≤ 8388608) (hlf : f.l.length ≤ 8388608) (hr : rightD d = true) (hr2 : rightD f = true) (hk : d.b = f.a ∧ d.d = f.c) (hj : (joinP d.l f.l).length ≤ 8388608) : Calls Try.prog 20 #[dv d A c, dv f B cb] w fun e w' => JR w (⟨d.a, f.b, d.c, f.d, joinP d.l f.l⟩, 0) e w' := by
  have KG := Aside0.mk (fun w1 (h : Below w.heap.size w w1) => check_any d A c w1 (Kd.C_below hd h) hc hwd hld)
  have KH := Aside0.mk (fun w1 (h : Below w.heap.size w w1) => check_any f B cb w1 (Kd.C_below hf h) hcb hwf hlf)
  rw [hr, if_pos rfl] at KG
  rw [hr2, if_pos rfl] at KH
  have K3 := Aside0.mk (B3.new w d f A c B cb d.l.length f.l.length)
  simp only [dv] at KG KH ⊢
  obtain ⟨nd, hnd⟩ : ∃ nd, nd = d.l.length := ⟨_, rfl⟩
  obtain ⟨nf, hnf⟩ : ∃ nf, nf = f.l.length := ⟨_, rfl⟩
  rw [← hnd] at KG K3 ⊢
  rw [← hnf] at K3 KH ⊢
  obtain ⟨q0, q1, q2, q3, q4⟩ := dbox_cells K3.out.d
  obtain ⟨p0, p1, p2, p3, p4⟩ := dbox_cells K3.out.f
  have h1 : (d.b != f.a) = false := by simp [hk.1]
  have h2 : (d.d != f.c) = false := by simp [hk.2]
  have KC := Aside0.mk hd
  have KF := Aside0.mk hf
  have Kr := Aside0.mk (And.intro hr hr2)
  have Kka := Aside0.mk hk.1
  have Kwf := Aside0.mk (And.intro hwd hwf)
  obtain ⟨T, hT⟩ : ∃ T, T = joinP d.l f.l := ⟨_, rfl⟩
  rw [← hT] at hj ⊢
  have KT := Aside0.mk hT
  have Kj := Aside0.mk hj
  rw [← hnd] at KC hld
  rw [← hnf] at KF hlf
  have Knd := Aside0.mk hnd
  have Knf := Aside0.mk hnf
  have Kc := Aside0.mk hc
  clear hd hwd hr hnd hnf hf hcb hwf hr2 hk hT hj hc
  refine callsIn_wide (n := 0) |>.1 (callsIn_of_wp_marks Try.func20 rfl trivial (wpIn_wide.2 ?_) rfl)
  simp only [Try.ntmps20, List.size_toArray, List.length_cons, List.length_nil, Nat.reduceAdd, Nat.reduceSub, Array.replicate_succ, Array.replicate_zero, List.push_toArray, List.append_toArray, List.nil_append, List.cons_append]
  go_wp2_with (go_at_call 19; apply Aside0.out)
  refine ⟨?_⟩
  refine (KG.out _ K3.out.below).mono ?_
  rintro e w1 ⟨rfl, hb⟩
  have K31 := Aside0.mk (K3.out.keep hb)
  have hs1 := hb.size
  simp only [World.size_alloc] at hs1
  clear hb q0 q1 q2 q3 q4 p0 p1 p2 p3 p4
  obtain ⟨p0, p1, p2, p3, p4⟩ := dbox_cells K31.out.f
  go_wp2_with (go_at_call 19; apply Aside0.out)
  refine ⟨?_⟩
  refine (KH.out _ K31.out.below).mono ?_
  rintro e w2 ⟨rfl, hb⟩
  have K32 := Aside0.mk (K31.out.keep hb)
  have hs2 := hb.size
  clear hb p0 p1 p2 p3 p4
  obtain ⟨q0, q1, q2, q3, q4⟩ := dbox_cells K32.out.d
  obtain ⟨p0, p1, p2, p3, p4⟩ := dbox_cells K32.out.f
  have hX := heap_alloc_new w2 (.cells #[.int .i64 d.a, .int .i64 f.b, .int .u64 d.c, .int .u64 f.d, .slice none 0 0] 27)
  have hXb := below_alloc (Below.refl w2.heap.size w2) (.cells #[.int .i64 d.a, .int .i64 f.b, .int .u64 d.c, .int .u64 f.d, .slice none 0 0] 27)
  have K33 := Aside0.mk (K32.out.keep hXb)
  have hxz : w.heap.size + 1 + 1 < w2.heap.size := by have := blk_lt K32.out.z; omega
  obtain ⟨sp, hsp⟩ : ∃ sp : Nat → Prop, sp = fun k => k = w.heap.size ∨ k = w.heap.size + 1 ∨ k = w.heap.size + 1 + 1 ∨ k = w2.heap.size := ⟨_, rfl⟩
  have Ksp := Aside0.mk hsp
  have KX3 : Aside0 (XS w sp (w2.alloc (.cells #[.int .i64 d.a, .int .i64 f.b, .int .u64 d.c, .int .u64 f.d, .slice none 0 0] 27)) w2.heap.size ⟨d.a, f.b, d.c, f.d, []⟩ (.slice none 0 0) []) := ⟨⟨hX, Kd.N_nil _ _ _ _ _, K33.out.below, by omega, by rw [hsp]; exact Or.inr (Or.inr (Or.inr rfl)), fun k hk => by
    rw [hsp] at hk
    rw [World.size_alloc]
    rcases hk with rfl | rfl | rfl | rfl <;> omega⟩⟩
  have Kspw : Aside0 (∀ k, sp k → w.heap.size ≤ k ∧ k ≤ w2.heap.size) := ⟨fun k hk => by
    rw [hsp] at hk
    rcases hk with rfl | rfl | rfl | rfl <;> omega⟩
  have Kspx : Aside0 (sp w2.heap.size) := ⟨by rw [hsp]; exact Or.inr (Or.inr (Or.inr rfl))⟩
  obtain ⟨r0, r1, r2, r3, r4⟩ := dbox_cells K33.out.f
  clear hX hXb hsp
  go_wp2
  obtain ⟨xb, hxb⟩ : ∃ xb, xb = w2.heap.size := ⟨_, rfl⟩
  rw [← hxb] at KX3 hxz Kspx Kspw ⊢
  have KJ0 : Aside0 (JI w sp xb d f A c B cb nd nf T 0 [] (w2.alloc (.cells #[.int .i64 d.a, .int .i64 f.b, .int .u64 d.c, .int .u64 f.d, .slice none 0 0] 27))) := ⟨_, [], ⟨KX3.out.box, Kd.N_nil _ _ _ _ _, KX3.out.below, KX3.out.xg, Or.inl KX3.out.xs, fun k hk => hk.elim (KX3.out.lt k) (fun ⟨d, hd, _⟩ => absurd hd List.not_mem_nil)⟩, K33.out, by rw [KT.out]; simp, (fun d hd => absurd hd List.not_mem_nil), List.Pairwise.nil⟩
  clear hxb r0 r1 r2 r3 r4 hs1 hs2 q0 q1 q2 q3 q4 p0 p1 p2 p3 p4 h1 h2 K3 K31 K32 KG KH
  refine wp_loop (fun a' wr => ∃ u0 u1 u7 u8 u9 u10 u11 u12 u13 u14 u15 u16 u17 u18 u19 u20 u21 u22 u23 u24 u25 u26 u27 u28 u29 u30 u31 u32 u33 u34 u35 u36 u37 u38 u39 u40 u41 u44 u45 u46 u47 u48 u49 u50 u51 u52 u53 u54 u55 u56 u57 u58 u59 u60 u61 u62 u63 u64 u65 u66 u67 u68 u69 u70 u71 u72 u73 u74 u75 u76 u77 u78 u79 u80 : Value, ∃ ds : List Deferred, (∃ k : Nat, k ≤ nf ∧ u44 = .int .i64 (k : Int) ∧ Aside0 (JI w sp xb d f A c B cb nd nf T k ds wr)) ∧ a' = (⟨#[u0, u1, .pointer (some ⟨w.heap.size, 0, none⟩), .pointer (some ⟨w.heap.size + 1, 0, none⟩), .pointer (some ⟨w.heap.size + 1 + 1, 0, none⟩), .int .i64 0, .pointer (some ⟨xb, 0, none⟩), u7, u8, u9, u10, u11, u12, u13, u14, u15, u16, u17, u18, u19, u20, u21, u22, u23, u24, u25, u26, u27, u28, u29, u30, u31, u32, u33, u34, u35, u36, u37, u38, u39, u40, u41, .slice B nf cb, .int .i64 (nf : Int), u44, u45, u46, u47, u48, u49, u50, u51, u52, u53, u54, u55, u56, u57, u58, u59, u60, u61, u62, u63, u64, u65, u66, u67, u68, u69, u70, u71, u72, u73, u74, u75, u76, u77, u78, u79, u80], ds⟩ : Act)) (fun a' _ => nf - (intOf (a'.tmps.getD 44 undef)).toNat) ?atStart ?round
  case atStart =>
    (repeat apply Exists.intro)
    refine ⟨⟨0, Nat.zero_le _, rfl, ⟨KJ0.out⟩⟩, rfl⟩
  case round =>
    intro a0 wr hinv
    obtain ⟨u0, hinv⟩ := hinv
    obtain ⟨u1, hinv⟩ := hinv
    obtain ⟨u7, hinv⟩ := hinv
    obtain ⟨u8, hinv⟩ := hinv
    obtain ⟨u9, hinv⟩ := hinv
    obtain ⟨u10, hinv⟩ := hinv
    obtain ⟨u11, hinv⟩ := hinv
    obtain ⟨u12, hinv⟩ := hinv
    obtain ⟨u13, hinv⟩ := hinv
    obtain ⟨u14, hinv⟩ := hinv
    obtain ⟨u15, hinv⟩ := hinv
    obtain ⟨u16, hinv⟩ := hinv
    obtain ⟨u17, hinv⟩ := hinv
    obtain ⟨u18, hinv⟩ := hinv
    obtain ⟨u19, hinv⟩ := hinv
    obtain ⟨u20, hinv⟩ := hinv
    obtain ⟨u21, hinv⟩ := hinv
    obtain ⟨u22, hinv⟩ := hinv
    obtain ⟨u23, hinv⟩ := hinv
    obtain ⟨u24, hinv⟩ := hinv
    obtain ⟨u25, hinv⟩ := hinv
    obtain ⟨u26, hinv⟩ := hinv
    obtain ⟨u27, hinv⟩ := hinv
    obtain ⟨u28, hinv⟩ := hinv
    obtain ⟨u29, hinv⟩ := hinv
    obtain ⟨u30, hinv⟩ := hinv
    obtain ⟨u31, hinv⟩ := hinv
    obtain ⟨u32, hinv⟩ := hinv
    obtain ⟨u33, hinv⟩ := hinv
    obtain ⟨u34, hinv⟩ := hinv
    obtain ⟨u35, hinv⟩ := hinv
    obtain ⟨u36, hinv⟩ := hinv
    obtain ⟨u37, hinv⟩ := hinv
    obtain ⟨u38, hinv⟩ := hinv
    obtain ⟨u39, hinv⟩ := hinv
    obtain ⟨u40, hinv⟩ := hinv
    obtain ⟨u41, hinv⟩ := hinv
    obtain ⟨u44, hinv⟩ := hinv
    obtain ⟨u45, hinv⟩ := hinv
    obtain ⟨u46, hinv⟩ := hinv
    obtain ⟨u47, hinv⟩ := hinv
    obtain ⟨u48, hinv⟩ := hinv
    obtain ⟨u49, hinv⟩ := hinv
    obtain ⟨u50, hinv⟩ := hinv
    obtain ⟨u51, hinv⟩ := hinv
    obtain ⟨u52, hinv⟩ := hinv
    obtain ⟨u53, hinv⟩ := hinv
    obtain ⟨u54, hinv⟩ := hinv
    obtain ⟨u55, hinv⟩ := hinv
    obtain ⟨u56, hinv⟩ := hinv
    obtain ⟨u57, hinv⟩ := hinv
    obtain ⟨u58, hinv⟩ := hinv
    obtain ⟨u59, hinv⟩ := hinv
    obtain ⟨u60, hinv⟩ := hinv
    obtain ⟨u61, hinv⟩ := hinv
    obtain ⟨u62, hinv⟩ := hinv
    obtain ⟨u63, hinv⟩ := hinv
    obtain ⟨u64, hinv⟩ := hinv
    obtain ⟨u65, hinv⟩ := hinv
    obtain ⟨u66, hinv⟩ := hinv
    obtain ⟨u67, hinv⟩ := hinv
    obtain ⟨u68, hinv⟩ := hinv
    obtain ⟨u69, hinv⟩ := hinv
    obtain ⟨u70, hinv⟩ := hinv
    obtain ⟨u71, hinv⟩ := hinv
    obtain ⟨u72, hinv⟩ := hinv
    obtain ⟨u73, hinv⟩ := hinv
    obtain ⟨u74, hinv⟩ := hinv
    obtain ⟨u75, hinv⟩ := hinv
    obtain ⟨u76, hinv⟩ := hinv
    obtain ⟨u77, hinv⟩ := hinv
    obtain ⟨u78, hinv⟩ := hinv
    obtain ⟨u79, hinv⟩ := hinv
    obtain ⟨u80, hinv⟩ := hinv
    obtain ⟨ds, hrel, ha⟩ := hinv
    subst ha
    try dsimp only
    obtain ⟨k, hk, rfl, HR⟩ := hrel
    obtain ⟨ov, acc, HX, HB, HT, HM, HP⟩ := HR.out
    obtain ⟨sq, hsq⟩ : ∃ sq : Nat → Prop, sq = fun k => sp k ∨ Mk ds k := ⟨_, rfl⟩
    rw [← hsq] at HX
    have Kse := Aside0.mk hsq
    have Ksqw : Aside0 (∀ k, sq k → w.heap.size ≤ k) := ⟨fun k hk => by
      rw [hsq] at hk
      rcases hk with hk | hk
      · exact (Kspw.out k hk).1
      · exact (hk.lt HM).1⟩
    have Ksqx : Aside0 (sq xb) := ⟨by rw [hsq]; exact Or.inl Kspx.out⟩
    clear hsq
    have KX := Aside0.mk HX
    have KB := Aside0.mk HB
    have KTT := Aside0.mk HT
    have KM := Aside0.mk HM
    have KP := Aside0.mk HP
    obtain ⟨p0, p1, p2, p3, p4⟩ := dbox_cells HB.d
    obtain ⟨x0, x1, x2, x3, x4⟩ := HX.box.cells
    have hxl : xb < wr.heap.size := blk_lt HX.box
    clear HX HB HT HR HM HP
    by_cases hlt : k < nf
    · obtain ⟨o, e1, e2, e3⟩ := rd_drop (l := f.l) (i := k) (by rw [← Knf.out]; exact hlt)
      obtain ⟨ad, Bo, co, rfl, y0, y1, y2, hco, hCo⟩ := at_T37 KF.out (k : Int) (by omega) (by omega)
      rw [e1] at y0 y1 y2 hco hCo
      rw [Int.toNat_natCast] at y0 y1 y2
      replace y0 := pw_cell_below KX.out.below y0
      replace y1 := pw_cell_below KX.out.below y1
      replace y2 := pw_cell_below KX.out.below y2
      obtain ⟨fr1, fr2, fr3, fr4, fr5, fr6⟩ := right_parts Kr.out.2
      have hro := (right_mem fr6 e3).1
      have hrest : joinP d.l (f.l.drop k) = joinO d.l o ++ joinP d.l (f.l.drop (k + 1)) := by rw [e2]; simp [joinP]
      have KT2 : Aside0 (T = acc ++ joinO d.l o ++ joinP d.l (f.l.drop (k + 1))) := ⟨by rw [KTT.out, hrest, List.append_assoc]⟩
      have Kob := Aside0.mk (op_bounds Kr.out.2 e3)
      have Kco := Aside0.mk (And.intro hCo hco)
      have Kro := Aside0.mk hro
      have hal := below_alloc (Below.refl wr.heap.size wr) (.cells #[.int .i64 o.f0, .int .i64 o.f1, .slice Bo o.f2.length co] 37)
      have Kal := Aside0.mk hal
      have hO8 := heap_alloc_new wr (.cells #[.int .i64 o.f0, .int .i64 o.f1, .slice Bo o.f2.length co] 37)
      have KO8 := Aside0.mk hO8
      have hal2 : Aside0 ((acc ++ joinO d.l o).length ≤ 8388608) := ⟨by have := Kj.out; rw [KT2.out, List.length_append] at this; omega⟩
      obtain ⟨lo, hlo⟩ : ∃ lo, lo = o.f2.length := ⟨_, rfl⟩
      have Klo := Aside0.mk hlo
      rw [← hlo] at y2 KO8 Kal
      clear e1 e2 e3 hCo hco hro hrest fr1 fr2 fr3 fr4 fr5 fr6 hal hO8 hlo
      by_cases hz : o.f1 = 0
      · have hz1 : (o.f1 == 0) = true := by simp [hz]
        obtain ⟨el, hel⟩ : ∃ el : S37, el = ⟨0, 0, o.f2⟩ := ⟨_, rfl⟩
        have Ko : Aside0 (joinO d.l o = [el]) := ⟨by unfold joinO; rw [if_pos hz, hel]⟩
        have Kel := Aside0.mk hel
        have KXa := Aside0.mk (KX.out.more (Nat.le_refl _) Kal.out (by rw [World.size_alloc]; omega))
        have KBa := Aside0.mk (KB.out.keep Kal.out)
        have KMa := Aside0.mk (KM.out.below Kal.out)
        have KCl : Aside0 (∀ w', Below w.heap.size w w' → _) := ⟨fun w' hB => Eq_.clone_any w' Bo lo co o.f2 (by rw [Klo.out]; exact Kd.C_below Kco.out.1 hB) (by have := Kob.out.2.2.2.2; have := Klo.out; omega)⟩
        obtain ⟨v0, v1, v2, v3, v4⟩ := KXa.out.box.cells
        obtain ⟨z0, z1, z2⟩ := obox_cells KO8.out
        clear hel hz
        go_wp2
        obtain ⟨b8, hb8⟩ : ∃ b8, b8 = wr.heap.size := ⟨_, rfl⟩
        obtain ⟨wa, hwa⟩ : ∃ wa, wa = wr.alloc (.cells #[.int .i64 o.f0, .int .i64 o.f1, .slice Bo lo co] 37) := ⟨_, rfl⟩
        rw [← hwa, ← hb8] at KO8
        rw [← hwa] at KXa KBa KMa v4 z2
        rw [← hb8] at KXa z2
        rw [← hwa]
        rw [← hb8]
        have Kbw : Aside0 (∀ k, sq k ∨ k = b8 → k < wa.heap.size) := ⟨KXa.out.lt⟩
        have Kwsa : Aside0 (wr.heap.size ≤ wa.heap.size) := ⟨by rw [hwa, World.size_alloc]; omega⟩
        clear hwa hb8 v0 v1 v2 v3 z0 z1 y0 y1 y2 x0 x1 x2 x3 x4 p0 p1 p2 p3 p4
        refine only_ ?_
        refine start_ (n := 10) (S := fun w' => w'.cell? ⟨xb, 4, none⟩ = some ov ∧ w'.cell? ⟨b8, 2, none⟩ = some (.slice Bo lo co)) (ds := [7, 9]) #[false, false, false, false, false, false, false, false, false, false] (by kernel_rfl) rfl rfl ⟨(show wa.cell? _ = _ from v4), (show wa.cell? _ = _ from z2)⟩ (fun hHeld => ?_)
        refine pure_ (i := 0) (N := some 51) (v := ?_) (a' := ?_) #[true, false, false, false, false, false, false, false, false, false] rfl rfl (by kernel_rfl) (fun _ _ _ h => h) (Or.inl ⟨by rfl, ?_⟩) ?_ ?_
        rotate_left
        · intro w'
          go_simp
          with_reducible rfl
        rotate_left
        · simp only [Act.put, List.setIfInBounds_toArray, List.set_cons_zero, List.set_cons_succ, i64_w, i32_w]
          rfl
        refine pure_ (i := 2) (N := some 53) (v := ?_) (a' := ?_) #[true, false, true, false, false, false, false, false, false, false] rfl rfl (by kernel_rfl) (fun _ _ _ h => h) (Or.inl ⟨by rfl, ?_⟩) ?_ ?_
        rotate_left
        · intro w'
          go_simp
          with_reducible rfl
        rotate_left
        · simp only [Act.put, List.setIfInBounds_toArray, List.set_cons_zero, List.set_cons_succ, i64_w, i32_w]
          rfl
        refine take_ (i := 1) (N := some 52) (v := ?_) (a' := ?_) #[true, true, true, false, false, false, false, false, false, false] rfl rfl (by kernel_rfl) (fun _ _ _ h => h) (Or.inl ⟨by rfl, ?_⟩) hHeld ?_ ?_
        rotate_left
        · rintro w' ⟨s0, s1⟩
          go_simp
          with_reducible rfl
        rotate_left
        · simp only [Act.put, List.setIfInBounds_toArray, List.set_cons_zero, List.set_cons_succ, i64_w, i32_w]
          rfl
        refine take_ (i := 3) (N := some 54) (v := ?_) (a' := ?_) #[true, true, true, true, false, false, false, false, false, false] rfl rfl (by kernel_rfl) (fun _ _ _ h => h) (Or.inl ⟨by rfl, ?_⟩) hHeld ?_ ?_
        rotate_left
        · rintro w' ⟨s0, s1⟩
          go_simp
          with_reducible rfl
        rotate_left
        · simp only [Act.put, List.setIfInBounds_toArray, List.set_cons_zero, List.set_cons_succ, i64_w, i32_w]
          rfl
        refine one_ (i := 4) (N := some 55) #[true, true, true, true, true, false, false, false, false, false] rfl rfl (by kernel_rfl) (by decide) (fun K hK => ?_)
        refine goes_ Try.func36 (by kernel_rfl) rfl #[.slice Bo lo co] (by rfl) rfl rfl (by simp only [List.map_toArray, List.map_cons, List.map_nil]; rfl) ?_
        with_reducible refine (KCl.out _ (below_drew KXa.out.below)).mono ?_
        rintro e w5 ⟨v5, rfl, hO5, hb5⟩
        refine ⟨_, rfl, ?_⟩
        have KX5 := Aside0.mk ((KXa.out.keep (below_drew (Below.refl _ _))).keep hb5)
        have KB5 := Aside0.mk ((KBa.out.keep (below_drew (Below.refl _ _))).keep hb5)
        have KM5 := Aside0.mk ((KMa.out.below (below_drew (Below.refl _ _))).below hb5)
        have KO5 := Aside0.mk (blk_below (blk_below KO8.out (below_drew (Below.refl _ _))) hb5)
        obtain ⟨A5, c5, hv5, hc5, hC5⟩ := hO5.slice
        rw [← Klo.out] at hv5
        subst hv5
        have KFK := Aside0.mk (dataFK2 KX5.out hO5 Kel.out Klo.out Kbw.out)
        have Kws5 : Aside0 (wr.heap.size ≤ w5.heap.size) := ⟨Nat.le_trans Kwsa.out (show wa.heap.size ≤ w5.heap.size from hb5.size)⟩
        obtain ⟨d0, d1, d2, d3, d4⟩ := KX5.out.box.cells
        obtain ⟨g0, g1, g2⟩ := obox_cells KO5.out
        clear hO5 hb5 hC5 hc5 d0 d1 d2 d3 g0 g1
        refine hK.out _ _ ⟨d4, g2⟩ (fun hHeld => ?_)
        clear hK K
        refine norm_ (a' := ?_) ?_ ?_
        rotate_left
        · show Act.put _ (some 55) _ = _
          simp only [Act.put, List.setIfInBounds_toArray, List.set_cons_zero, List.set_cons_succ, i64_w, i32_w]
          rfl
        refine pure_ (i := 5) (N := some 56) (v := ?_) (a' := ?_) #[true, true, true, true, true, true, false, false, false, false] rfl rfl (by kernel_rfl) (fun _ _ _ h => h) (Or.inl ⟨by rfl, ?_⟩) ?_ ?_
        rotate_left
        · intro w'
          go_simp
          with_reducible rfl
        rotate_left
        · simp only [Act.put, List.setIfInBounds_toArray, List.set_cons_zero, List.set_cons_succ, i64_w, i32_w]
          rfl
        refine one_ (i := 6) (N := some 57) #[true, true, true, true, true, true, true, false, false, false] rfl rfl (by kernel_rfl) (by decide) (fun K hK => ?_)
        refine value_ (w1 := ?_) (v := ?_) (by rfl) rfl ?_ ?_
        rotate_left 2
        · go_simp
          constructor
          · rfl
          · rfl
        refine hK.out _ _ ⟨((cell_of_row _ _ _ _ _ _ (blk_alloc KX5.out.box _)).trans rfl), ((cell_of_row _ _ _ _ _ _ (blk_alloc KO5.out _)).trans rfl)⟩ (fun hHeld => ?_)
        clear hK K
        refine norm_ (a' := ?_) ?_ ?_
        rotate_left
        · show Act.put _ (some 57) _ = _
          simp only [Act.put, List.setIfInBounds_toArray, List.set_cons_zero, List.set_cons_succ, i64_w, i32_w]
          rfl
        refine last_ (i := 7) (N := some 58) #[true, true, true, true, true, true, true, true, false, false] rfl rfl (by kernel_rfl) (by decide) (fun K hK => ?_)
        refine Kd.N_append_step k37 (w0 := w) w.heap.size (by rfl) (.tmp 52) (.tmp 57) 25 37 (.agg #[(.int .i64 0), (.int .i64 0), (.slice none 0 0)]) 40 rfl Try.underlying25 info37 rfl (by decide) (by omega) ov acc el [.int .i64 0, .int .i64 0, .slice A5 lo c5] (fun k => ¬ (sq k ∨ k = b8)) (fun k => (¬ (sq k ∨ k = b8)) ∧ some k ≠ ov.ownBlock) rfl rfl KFK.out (fun _ hk => hk) (fun k hk hs => by have := KX5.out.lt k hs; have h9 : w5.heap.size ≤ k := hk; omega) KX5.out.ops KX5.out.below KX5.out.below.size (by have := hal2.out; rw [Ko.out] at this; simp at this; omega) ?_; intro v6 w6 hN6 hB6 hg6 hat6; obtain ⟨A6, C6, hv6⟩ := Kd.N_slice hN6; obtain ⟨l6, hl6⟩ : ∃ l6, l6 = (acc ++ [el]).length := ⟨_, rfl⟩; rw [← hl6] at hv6; subst hv6; have hX6 := KX5.out.grown hg6; have xf6 : w6.frozen? ⟨xb, 4, none⟩ = false := blk_frozen hX6 4; have x6 : w6.cell? ⟨xb, 4, none⟩ = some ov := hX6.cells.2.2.2.2; have g6 : w6.cell? ⟨b8, 2, none⟩ = some (.slice Bo lo co) := (World.cell?_of_block (KX5.out.sp_block hg6 (Or.inr rfl))).trans g2; have KX6 := Aside0.mk (KX5.out.push hg6 hB6 hN6); have KE6 := Aside0.mk ((KX5.out.else_ hg6).trans (else_set (j := 4) (u := .slice A6 l6 C6))); have KB6 := Aside0.mk (KB5.out.else_ KX6.out.below KE6.out hxz); have KM6 := Aside0.mk (KM5.out.else_ KE6.out KX5.out.box); have hws6 : Aside0 (wr.heap.size ≤ (w6.setCell ⟨xb, 4, none⟩ (.slice A6 l6 C6)).heap.size) := ⟨Nat.le_trans Kws5.out KE6.out.1⟩; clear hN6 hB6 hg6 hat6 hX6 hl6 d4 g2
        refine hK.out _ _ ?_
        clear hK K
        refine norm_ (a' := ?_) ?_ ?_
        rotate_left
        · show Act.put _ (some 58) _ = _
          simp only [Act.put, List.setIfInBounds_toArray, List.set_cons_zero, List.set_cons_succ, i64_w, i32_w]
          rfl
        refine pure_ (i := 8) (N := some 59) (v := ?_) (a' := ?_) #[true, true, true, true, true, true, true, true, true, false] rfl rfl (by kernel_rfl) (fun _ _ _ h => h) (Or.inl ⟨by rfl, ?_⟩) ?_ ?_
        rotate_left
        · intro w'
          go_simp
          with_reducible rfl
        rotate_left
        · simp only [Act.put, List.setIfInBounds_toArray, List.set_cons_zero, List.set_cons_succ, i64_w, i32_w]
          rfl
        refine last_ (i := 9) (N := none) #[true, true, true, true, true, true, true, true, true, true] rfl rfl (by kernel_rfl) (by decide) (fun K hK => ?_)
        refine skip_ (w1 := ?_) (by rfl) rfl ?_ ?_
        rotate_left
        · go_simp
          rfl
        refine hK.out _ _ ?_
        clear hK K
        refine done_ (by kernel_rfl) ?_
        try clear hHeld
        simp only [onlyN]
        go_wp2
        refine ⟨?rl, ?measure⟩
        case rl =>
          (repeat apply Exists.intro)
          refine ⟨?_, rfl⟩
          exact ⟨k + 1, hlt, by go_num, ⟨⟨_, acc ++ [el], by rw [← Kse.out]; exact KX6.out.less Ksqx.out, KB6.out, by rw [KT2.out, Ko.out], KM6.out.wider hws6.out, KP.out⟩⟩⟩
        case measure => simp [intOf]; omega
      · have hz1 : (o.f1 == 0) = false := by simp [hz]
        have ho1 : 0 < o.f1 := by have := Kob.out; omega
        have Ko : Aside0 (joinO d.l o = partsP d.l o.f0 o.f1) := ⟨by unfold joinO; rw [if_neg hz]⟩
        have KXa := Aside0.mk (KX.out.keep Kal.out)
        have KBa := Aside0.mk (KB.out.keep Kal.out)
        have KMa := Aside0.mk (KM.out.below Kal.out)
        have hob := Kob.out
        have hf0 : 0 ≤ o.f0 := hob.1
        have hf1 : o.f0 ≤ 8388608 := hob.2.1
        have hf2 : o.f1 ≤ 8388608 := hob.2.2.2.1
        obtain ⟨v0, v1, v2, v3, v4⟩ := dbox_cells KBa.out.d
        obtain ⟨z0, z1, z2⟩ := obox_cells KO8.out
        clear hz hob
        go_wp2_with (go_at_call 37; apply Aside0.out)
        refine ⟨?_⟩
        obtain ⟨wa, hwa⟩ : ∃ wa, wa = wr.alloc (.cells #[.int .i64 o.f0, .int .i64 o.f1, .slice Bo lo co] 37) := ⟨_, rfl⟩
        have hsa : wa.heap.size = wr.heap.size + 1 := by rw [hwa, World.size_alloc]
        rw [← hwa] at KO8 KXa KBa KMa Kal
        rw [← hwa]
        clear hwa v0 v1 v2 v3 v4 z0 z1 z2 y0 y1 y2 x0 x1 x2 x3 x4 p0 p1 p2 p3 p4
        have hpa := parts_any A nd c o.f0 o.f1 wa
        obtain ⟨ps, hps⟩ : ∃ ps, ps = wa.heap.size := ⟨_, rfl⟩
        obtain ⟨pt, hpt⟩ : ∃ pt, pt = ps + 1 := ⟨_, rfl⟩
        obtain ⟨pu, hpu⟩ : ∃ pu, pu = pt + 1 := ⟨_, rfl⟩
        rw [← hps, ← hpt, ← hpu] at hpa
        have hord : wr.heap.size < ps ∧ ps < pt ∧ pt < pu := by omega
        obtain ⟨hord1, hord2, hord3⟩ := hord
        have Kps := Aside0.mk hps
        have Ksa := Aside0.mk hsa
        refine hpa.mono ?_
        rintro e w3 ⟨rfl, hPB, hb3', hs3'⟩
        have hs3 : pu < w3.heap.size := by omega
        have hb3 : Below wa.heap.size wa w3 := by rw [← hps]; exact hb3'
        clear hs3' hb3' hpa hpu hpt hsa
        have KX3 := Aside0.mk (KXa.out.keep hb3)
        have KB3 := Aside0.mk (KBa.out.keep hb3)
        have KM3 := Aside0.mk (KMa.out.below hb3)
        have KPB := Aside0.mk hPB
        have hws3 : w.heap.size ≤ wr.heap.size := KX.out.below.size
        obtain ⟨P, hP⟩ : ∃ P, P = partsP d.l o.f0 o.f1 := ⟨_, rfl⟩
        have KPl := Aside0.mk hP
        obtain ⟨sx, hsx⟩ : ∃ sx : Nat → Prop, sx = fun j => wr.heap.size ≤ j ∧ j < w3.heap.size + 2 := ⟨_, rfl⟩
        have Ksx := Aside0.mk hsx
        have KI0 : Aside0 (RI w sq sx xb wr.heap.size ⟨d.a, f.b, d.c, f.d, []⟩ d f A c (some ad) cb nd nf acc P ds 0 w3) := ⟨by
          have hB13 : Below wr.heap.size wr w3 := Kal.out.trans (hb3.mono (by have := Ksa.out; omega))
          refine ⟨ov, by simpa using KX3.out, ?_, KB3.out, KM3.out⟩
          have h9 := Kd.N_mono (Kd.N_below (Kd.N_bound KX.out.ops) hB13) (ok' := fun j => ¬ (sq j ∨ sx j)) (fun j hj hk => hk.elim hj.1 (fun hk => by rw [hsx] at hk; have := hj.2; omega))
          simpa using h9⟩
        clear hPB hb3 hP hsx hps
        go_wp2
        refine Rg.range_ (gf := 56) (lb := #[.pointer (some ⟨ps, 0, none⟩), .pointer (some ⟨pt, 0, none⟩), .pointer (some ⟨pu, 0, none⟩)]) rfl (enters_ Try.func56 (by kernel_rfl) rfl) rfl (base := w.heap.size) (own := fun k => k = ps ∨ k = pt ∨ k = pu) (N := (partsP d.l o.f0 o.f1).length) (by omega) (fun k hk => by omega) (parts_iter w w3 w.heap.size ps pt pu d.l A c o.f0 o.f1 d.a d.b nd Knd.out (by omega) (fun W hB => Kd.C_below KC.out hB) (by rw [Knd.out]; exact Kc.out) hld (right_parts Kr.out.1).2.2.2.2.2 (right_parts Kr.out.1).2.1 (right_parts Kr.out.1).2.2.2.1 Kwf.out.1 hf0 (by omega) hf1 hf2 KPB.out (by omega) KX3.out.below) (fun k v A B h hs => PArg_st h hs (fun j hj => by omega) (by omega)) (fun k W => Aside0 (RI w sq sx xb wr.heap.size ⟨d.a, f.b, d.c, f.d, []⟩ d f A c (some ad) cb nd nf acc P ds k W)) ?hI KI0 ?hround ?hdone
        case hI =>
          intro k B C h hst
          exact ⟨h.out.st hst hxl (by omega) (fun j hj => ⟨by omega, by omega⟩) (fun j hj => by rw [Ksx.out]; omega)⟩
        case hround =>
          rintro l k1 v W hI hk1 hArg hLW
          obtain ⟨ov1, HX, HN, HB, HM⟩ := hI.out
          obtain ⟨o1, A1, c1, ho1, rfl, hO1⟩ := hArg
          have hxs : ∀ j, sx j → j < W.heap.size := fun j hj => by rw [Ksx.out] at hj; omega
          have hXr := RI.xs HX HN hxs
          have hal9 := below_alloc (Below.refl W.heap.size W) (.cells #[.int .i64 o1.f0, .int .i64 o1.f1, .slice A1 o1.f2.length c1] 37)
          have hX9 := hXr.more (Nat.le_refl _) hal9 (by rw [World.size_alloc]; omega)
          have hB9 := HB.keep hal9
          have hM9 := HM.below hal9
          have hO9 := hO1.below hal9
          have h99 := heap_alloc_new W (.cells #[.int .i64 o1.f0, .int .i64 o1.f1, .slice A1 o1.f2.length c1] 37)
          have hRd9 : Rg.Rd w.heap.size (fun k => k = ps ∨ k = pt ∨ k = pu) W (W.alloc (.cells #[.int .i64 o1.f0, .int .i64 o1.f1, .slice A1 o1.f2.length c1] 37)) := Rg.Rd.alloc HX.below.size (fun j hj => by omega) _
          have K9 := Aside0.mk (And.intro hX9 (And.intro hB9 (And.intro hM9 (And.intro hO9 (And.intro h99 hRd9)))))
          have hP1 : Aside0 (acc ++ P.take (k1 + 1) = acc ++ P.take k1 ++ [o1]) := ⟨by rw [List.append_assoc, take_next (by rw [KPl.out]; exact ho1)]⟩
          have hla : Aside0 ((acc ++ P.take k1).length ≤ 8388608) := ⟨by
            have h8 := hal2.out
            rw [Ko.out, ← KPl.out] at h8
            rw [List.length_append] at h8 ⊢
            have := List.length_take_le k1 P
            rw [List.length_take]
            omega⟩
          obtain ⟨l1, hl1⟩ : ∃ l1, l1 = o1.f2.length := ⟨_, rfl⟩
          rw [← hl1] at K9
          rw [← hl1]
          have Kl1 := Aside0.mk hl1
          clear hI HX HN HB HM ho1 hO1 hxs hXr hal9 hX9 hB9 hM9 hO9 h99 hRd9 hl1
          simp only [List.zip_toArray, List.zip_cons_cons, List.zip_nil_right, List.foldl_toArray, List.foldl_cons, List.foldl_nil, List.setIfInBounds_toArray, List.set_cons_zero, List.set_cons_succ]
          refine Rg.region_ (fun _ _ h => h) (by rfl) ?_
          go_wp2
          refine ⟨K9.out.2.2.2.2.2, KeepsOthers.alloc _ _, fun W2 hst2 hW2 => ?_⟩
          obtain ⟨b9, hb9⟩ : ∃ b9, b9 = W.heap.size := ⟨_, rfl⟩
          have hob9 : ∀ j, (j = ps ∨ j = pt ∨ j = pu) ∨ j = w3.heap.size + 1 → (sq j ∨ sx j) ∨ j = W.heap.size := fun j hj => Or.inl (Or.inr (by rw [Ksx.out]; omega))
          have KX2 := Aside0.mk (K9.out.1.st hst2 ⟨by omega, by omega⟩ hob9)
          have KB2 := Aside0.mk (K9.out.2.1.st hst2 (b1 := wr.heap.size) (by omega) (fun j hj => ⟨by omega, by omega⟩))
          have KM2 := Aside0.mk (K9.out.2.2.1.st hst2 (fun j hj => ⟨by omega, by omega⟩))
          have KO2 : Aside0 (Row.OwnB W2 (w3.heap.size + 2) (.slice A1 l1 c1) o1.f2) := ⟨OwnB_sg K9.out.2.2.2.1 hst2 (fun j hj => by omega) (by omega)⟩
          have h92 : W2.heap[W.heap.size]? = some (.cells #[.int .i64 o1.f0, .int .i64 o1.f1, .slice A1 l1 c1] 37 (0, 0)) := hst2.same _ _ K9.out.2.2.2.2.1 (by omega) (by omega)
          have KR2 : Aside0 (∀ j, (sq j ∨ sx j) ∨ j = W.heap.size → j < w3.heap.size + 2 ∨ j = W.heap.size) := ⟨fun j hj => by
            rcases hj with (hj | hj) | hj
            · exact Or.inl (by have := KX3.out.lt j hj; omega)
            · rw [Ksx.out] at hj; exact Or.inl (by omega)
            · exact Or.inr hj⟩
          have hlo9 : w3.heap.size + 1 < W.heap.size := hLW
          rw [← hb9] at KX2 h92 KR2 hlo9 ⊢
          obtain ⟨z0, z1, z2⟩ := obox_cells h92
          obtain ⟨x0, x1, x2, x3, x4⟩ := KX2.out.box.cells
          have K92 := Aside0.mk h92
          clear hst2 h92 hob9 hb9 hLW K9
          repeat (first | (refine Rg.region_ (fun _ _ h => h) (by rfl) ?_; go_wp2_with ((with_reducible refine gate_builtin (b := .append) (xs := #[.tmp 69, .tmp 71]) rfl ?_); apply Aside0.out)) | gi_step)
          refine ⟨?_⟩
          refine Kd.N_append k37 (w0 := w) w.heap.size rfl (.tmp 69) (.tmp 71) 25 37 (.agg #[(.int .i64 0), (.int .i64 0), (.slice none 0 0)]) 40 rfl Try.underlying25 info37 rfl (by decide) (by omega) ov1 (acc ++ P.take k1) o1 [.int .i64 o1.f0, .int .i64 o1.f1, .slice A1 l1 c1] (fun j => ¬ ((sq j ∨ sx j) ∨ j = b9)) (fun j => (¬ ((sq j ∨ sx j) ∨ j = b9)) ∧ some j ≠ ov1.ownBlock) rfl rfl ?aF (fun _ hk => hk) ?aO KX2.out.ops KX2.out.below KX2.out.below.size ?aL ?_
          case aF => exact FK_madeB KX2.out KO2.out Kl1.out K92.out KR2.out
          case aO => intro j hj hs; have := KX2.out.lt j hs; have h9 : W2.heap.size ≤ j := hj; omega
          case aL => have := hla.out; omega
          intro v5 w5 hN5 hB5 hg5 hat5
          obtain ⟨A5, C5, hv5⟩ := Kd.N_slice hN5
          obtain ⟨l5, hl5⟩ : ∃ l5, l5 = (acc ++ P.take k1 ++ [o1]).length := ⟨_, rfl⟩
          rw [← hl5] at hv5
          subst hv5
          have hX5 := KX2.out.grown hg5
          have xf5 : w5.frozen? ⟨xb, 4, none⟩ = false := blk_frozen hX5 4
          have x5 : w5.cell? ⟨xb, 4, none⟩ = some ov1 := hX5.cells.2.2.2.2
          have KX6 := Aside0.mk (KX2.out.push hg5 hB5 hN5)
          have KE6 := Aside0.mk ((KX2.out.else_ hg5).trans (else_set (j := 4) (u := .slice A5 l5 C5)))
          have KB6 := Aside0.mk (KB2.out.else_ KX6.out.below KE6.out hxz)
          have KM6 := Aside0.mk (KM2.out.else_ KE6.out KX2.out.box)
          have KR6 : Aside0 (Rg.Rd w.heap.size (fun k => k = ps ∨ k = pt ∨ k = pu) W2 (w5.setCell ⟨xb, 4, none⟩ (.slice A5 l5 C5)) ∧ KeepsOthers W2 (w5.setCell ⟨xb, 4, none⟩ (.slice A5 l5 C5))) := ⟨round_ends KX2.out hg5 (fun j hj => Or.inl (Or.inr (by rw [Ksx.out]; omega))) (fun hx => by omega) (.slice A5 l5 C5)⟩
          clear hN5 hB5 hg5 hat5 hX5 hl5 x0 x1 x2 x3 x4 z0 z1 z2
          go_wp2
          repeat gi_step
          refine ⟨⟨_, by rw [hP1.out]; exact KX6.out.to (fun j hj => Or.inl (Or.inl hj)) Ksqx.out, by rw [hP1.out]; exact Kd.N_mono KX6.out.ops (fun j hj hk => hj (Or.inl hk)), KB6.out, KM6.out⟩, KR6.out.1, KR6.out.2⟩
        case hdone =>
          rintro D W hI rfl hK
          obtain ⟨ov1, HX, HN, HB, HM⟩ := hI.out
          have hDl := (Array.getElem?_eq_some_iff.1 hK).1
          obtain ⟨HM2, HP2⟩ := HM.more (b2 := W.heap.size) (args := #[]) KP.out (by omega) (by omega) hDl hK
          have hT9 : P.take (partsP d.l o.f0 o.f1).length = P := by rw [KPl.out, List.take_length]
          rw [hT9] at HX HN
          have KJ9 : Aside0 (JI w sp xb d f A c (some ad) cb nd nf T (k + 1) ({ target := .collected w3.heap.size, args := #[] } :: ds) W) := ⟨_, acc ++ P, ⟨HX.box, Kd.N_mono HN (fun j hj hk => hj (by
              rcases hk with hk | hk
              · exact Or.inl (by rw [Kse.out]; exact Or.inl hk)
              · rcases hk.cons with hk | hk
                · exact Or.inr (by rw [Ksx.out]; omega)
                · exact Or.inl (by rw [Kse.out]; exact Or.inr hk))), HX.below, HX.xg, Or.inl Kspx.out, fun j hj => by
              rcases hj with hj | hj
              · exact HX.lt j (by rw [Kse.out]; exact Or.inl hj)
              · rcases hj.cons with hj | hj
                · omega
                · exact HX.lt j (by rw [Kse.out]; exact Or.inr hj)⟩, HB, by rw [KT2.out, Ko.out, ← KPl.out], HM2, HP2⟩
          clear hI HX HN HB HM HM2 HP2 hT9 hK
          go_wp2
          refine ⟨?rl, ?measure⟩
          case rl =>
            (repeat apply Exists.intro)
            refine ⟨?_, rfl⟩
            exact ⟨k + 1, hlt, by go_num, KJ9⟩
          case measure => simp [intOf]; omega
    · obtain rfl : k = nf := by omega
      have hTa : Aside0 (T = acc) := ⟨by rw [KTT.out, Knf.out, List.drop_length]; simp [joinP]⟩
      obtain ⟨A5, C5, hv5⟩ := Kd.N_slice KX.out.ops
      obtain ⟨la, hla⟩ : ∃ la, la = acc.length := ⟨_, rfl⟩
      rw [← hla] at hv5
      subst hv5
      have hlb : la ≤ 8388608 := by rw [hla, ← hTa.out]; exact Kj.out
      have Kla := Aside0.mk hla
      clear hla
      go_wp2_with ((with_reducible refine gate_store (t := 27) (p := 4) rfl ?_); apply Aside0.out)
      refine ⟨?_⟩
      refine store_del rfl (.tmp 4) (.tmp 80) rfl (w.heap.size + 1 + 1) _ _ rfl rfl KB.out.z rfl rfl (by simp [Value.oneCell']) ?_
      intro w7 hg hB hE hS
      have KB7 := Aside0.mk (hB _ _ (by omega) KB.out.below)
      have KZ7 := Aside0.mk hg
      have hN7 := Kd.N_step KX.out.ops (w1 := w7) (fun k hk _ => hE k (fun e => hk (by rw [Kse.out, Ksp.out]; exact Or.inl (Or.inr (Or.inr (Or.inl e))))))
      have KN7 := Aside0.mk hN7
      have KM7 : Aside0 (Marks w.heap.size wr.heap.size ds w7) := ⟨KM.out.keep fun k _ o ho hk => (hE k (fun e => by
        rw [e, KB.out.z] at hk
        rw [← Option.some.inj hk] at ho
        cases ho)).trans hk⟩
      clear hg hB hE hS x0 x1 x2 x3 x4 hN7 p0 p1 p2 p3 p4
      go_wp2
      refine leaves_marks w.heap.size wr.heap.size ds _ KM7.out KP.out fun w' hs => ?_
      have hN8 := Kd.N_step KN7.out (w1 := w') (fun k hk _ => hs.same k (fun hm => hk (by rw [Kse.out]; exact Or.inr hm)))
      obtain ⟨-, g2, g3⟩ := Kd.N_reads' hN8
      have hz8 : w'.heap[w.heap.size + 1 + 1]? = _ := (hs.same _ (fun hm => by
        have h9 := (hm.lt KM7.out).2.2
        rw [KZ7.out] at h9
        cases h9)).trans KZ7.out
      refine ⟨_, results_list (rs := [.cell 4 27, .tmp 5]) rfl (by simp) (.cell (w.heap.size + 1 + 1) 27 _ _ _ rfl hz8 Try.underlying27 rfl szDel (.tmp .nil)), A5, C5, by rw [hTa.out, ← Kla.out]; rfl, by rw [hTa.out]; exact g3, by rw [hTa.out, ← Kla.out]; exact g2, KB7.out.trans hs.below⟩
end Go.Proofs.Ytogplkochcalpaa.De
