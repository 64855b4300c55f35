/- Deltas joined: plain; a delta's box to which ops are appended. -/
import Derived.Test.YtogplkochcalpaaDC
set_option linter.unusedVariables false
set_option linter.unusedSimpArgs false
namespace Go.Proofs.Ytogplkochcalpaa.De
open Go.RowKit Go.Proofs.Ytogplkochcalpaa.PD Go.Proofs.Ytogplkochcalpaa.Fd Go.Proofs.Ytogplkochcalpaa.Bg Go.Proofs.YtogplkochcalpaaW.PrintWords Go.Proofs.YtogplkochcalpaaW.PrintLast Go.Proofs.YtogplkochcalpaaW.PrintMore
/-- A part of an op. -/
def cutO (p : S37) (a k : Int) : S37 := if p.f1 > 0 then ⟨p.f0 + a, k, []⟩ else ⟨0, 0, (p.f2.drop a.toNat).take k.toNat⟩
def partsP : List S37 → Int → Int → List S37
  | [], _, _ => []
  | o :: r, at_, n => if ol o ≤ at_ then partsP r (at_ - ol o) n else if n = 0 then [] else cutO o at_ (min n (ol o - at_)) :: partsP r 0 (n - min n (ol o - at_))
def joinO (l : List S37) (o : S37) : List S37 := if o.f1 = 0 then [⟨0, 0, o.f2⟩] else partsP l o.f0 o.f1
def joinP (l m : List S37) : List S37 := m.flatMap (joinO l)
def joinR (d f : Dl) : Dl × Int :=
  if rightD d = true ∧ rightD f = true then (if d.b = f.a ∧ d.d = f.c then (⟨d.a, f.b, d.c, f.d, joinP d.l f.l⟩, 0) else (zeroD, 8)) else (zeroD, 1)
/-- The document's way. -/
def aOf (fr A : Int) : Int := if A < fr then fr else A
def bOf (t B : Int) : Int := if B > t then t else B
def refO (p : S37) (fr A B : Int) : List S37 := if aOf fr A < bOf (fr + ol p) B then [cutO p (aOf fr A - fr) (bOf (fr + ol p) B - aOf fr A)] else []
def refP : List S37 → Int → Int → Int → List S37
  | [], _, _, _ => []
  | p :: r, fr, A, B => refO p fr A B ++ refP r (fr + ol p) A B
theorem parts_zero {a x : Int} : ∀ (l : List S37), rightL a x l = true → partsP l 0 0 = []
  | [], _ => rfl
  | o :: r, h => by
    have := ol_pos (rightL_cons h).1
    rw [partsP, if_neg (by omega), if_pos rfl]
theorem ref_parts {a : Int} : ∀ (l : List S37) (x fr A B : Int), rightL a x l = true → A ≤ B → refP l fr A B = partsP l (if A < fr then 0 else A - fr) (if A < fr then (if B < fr then 0 else B - fr) else B - A)
  | [], x, fr, A, B, h, hab => rfl
  | p :: r, x, fr, A, B, h, hab => by
    obtain ⟨h1, h2, h3⟩ := rightL_cons h
    have hp := ol_pos h1
    have ih := ref_parts r (x - ol p) (fr + ol p) A B h3 hab
    have hz := parts_zero r h3
    have iz : ∀ q : S37 , ∀ at_ n : Int, partsP (q :: r) at_ n = if ol q ≤ at_ then partsP r (at_ - ol q) n else if n = 0 then [] else cutO q at_ (min n (ol q - at_)) :: partsP r 0 (n - min n (ol q - at_)) := fun _ _ _ => rfl
    have rest0 : A < fr + ol p → B ≤ fr + ol p → refP r (fr + ol p) A B = [] := fun g1 g2 => by
      rw [ih, if_pos g1, if_pos g1]
      by_cases g3 : B < fr + ol p
      · rw [if_pos g3, hz]
      · rw [if_neg g3, show B - (fr + ol p) = 0 by omega, hz]
    have restB : A < fr + ol p → fr + ol p < B → refP r (fr + ol p) A B = partsP r 0 (B - (fr + ol p)) := fun g1 g2 => by
      rw [ih, if_pos g1, if_pos g1, if_neg (by omega)]
    have eb1 : B > fr + ol p → bOf (fr + ol p) B = fr + ol p := fun g => if_pos g
    have eb2 : ¬ B > fr + ol p → bOf (fr + ol p) B = B := fun g => if_neg g
    rw [refP, refO, iz]
    by_cases c1 : A < fr
    · have ea : aOf fr A = fr := if_pos c1
      rw [ea, if_pos c1, if_pos c1, if_neg (by omega : ¬ ol p ≤ 0)]
      by_cases c2 : B < fr
      · rw [eb2 (by omega), if_neg (by omega : ¬ fr < B), if_pos c2, if_pos rfl, rest0 (by omega) (by omega)]; rfl
      · rw [if_neg c2]
        by_cases c3 : B - fr = 0
        · rw [eb2 (by omega), if_neg (by omega : ¬ fr < B), if_pos c3, rest0 (by omega) (by omega)]; rfl
        · rw [if_neg c3]
          by_cases c4 : B > fr + ol p
          · rw [eb1 c4, if_pos (by omega), restB (by omega) c4, show min (B - fr) (ol p - 0) = ol p by omega, show fr - fr = 0 by omega, show fr + ol p - fr = ol p by omega, show B - (fr + ol p) = B - fr - ol p by omega]; rfl
          · rw [eb2 c4, if_pos (by omega), rest0 (by omega) (by omega), show min (B - fr) (ol p - 0) = B - fr by omega, show fr - fr = 0 by omega, show B - fr - (B - fr) = 0 by omega, hz]; rfl
    · have ea : aOf fr A = A := if_neg c1
      rw [ea, if_neg c1, if_neg c1]
      by_cases c2 : ol p ≤ A - fr
      · rw [if_pos c2, ih, if_neg (by omega : ¬ A < fr + ol p), if_neg (by omega : ¬ A < fr + ol p), show A - (fr + ol p) = A - fr - ol p by omega]
        by_cases c4 : B > fr + ol p
        · rw [eb1 c4, if_neg (by omega)]; rfl
        · rw [eb2 c4, if_neg (by omega)]; rfl
      · rw [if_neg c2]
        by_cases c3 : B - A = 0
        · rw [eb2 (by omega), if_neg (by omega : ¬ A < B), if_pos c3, rest0 (by omega) (by omega)]; rfl
        · rw [if_neg c3]
          by_cases c4 : B > fr + ol p
          · rw [eb1 c4, if_pos (by omega), restB (by omega) c4, show min (B - A) (ol p - (A - fr)) = fr + ol p - A by omega, show B - A - (fr + ol p - A) = B - (fr + ol p) by omega]; rfl
          · rw [eb2 c4, if_pos (by omega), rest0 (by omega) (by omega), show min (B - A) (ol p - (A - fr)) = B - A by omega, show B - A - (B - A) = 0 by omega, hz]; rfl
theorem ref_join {a x : Int} (l : List S37) (o : S37) (h : rightL a x l = true) (h0 : 0 ≤ o.f0) (h1 : 0 < o.f1) : refP l 0 o.f0 (o.f0 + o.f1) = joinO l o := by
  rw [ref_parts l x 0 o.f0 (o.f0 + o.f1) h (by omega), if_neg (by omega), if_neg (by omega), joinO, if_neg (by omega)]
  rw [show o.f0 - 0 = o.f0 by omega, show o.f0 + o.f1 - o.f0 = o.f1 by omega]
/-- A delta's box, its ops a row of the call's own; 'sp' are boxes that are none of it. -/
structure XS (w : World) (sp : Nat → Prop) (wr : World) (xb : Nat) (h : Dl) (ov : Value) (acc : List S37) : Prop where
  box : XB wr xb h ov
  ops : Kd.N k37 37 wr w.heap.size (fun k => ¬ sp k) ov acc
  below : Below w.heap.size w wr
  xg : w.heap.size ≤ xb
  xs : sp xb
  lt : ∀ k, sp k → k < wr.heap.size
section
variable {w wr w1 : World} {sp : Nat → Prop} {xb : Nat} {h : Dl} {ov ov1 : Value} {acc acc1 : List S37}
theorem XS.keep (H : XS w sp wr xb h ov acc) (hb : Below wr.heap.size wr w1) : XS w sp w1 xb h ov acc :=
  ⟨blk_below H.box hb, Kd.N_below H.ops hb, below_then H.below H.below.size hb, H.xg, H.xs, fun k hk => Nat.lt_of_lt_of_le (H.lt k hk) hb.size⟩
/-- One more box that is none of it. -/
theorem XS.more (H : XS w sp wr xb h ov acc) {b : Nat} (hb : wr.heap.size ≤ b) (h1 : Below wr.heap.size wr w1) (hl : b < w1.heap.size) : XS w (fun k => sp k ∨ k = b) w1 xb h ov acc :=
  ⟨blk_below H.box h1, Kd.N_mono (Kd.N_below (Kd.N_elderB H.ops b hb) h1) (fun k hk hs => hs.elim hk.1 hk.2), below_then H.below H.below.size h1, H.xg, Or.inl H.xs, fun k hk => hk.elim (fun h => Nat.lt_of_lt_of_le (H.lt k h) h1.size) (fun e => by omega)⟩
theorem XS.less {b : Nat} (H : XS w (fun k => sp k ∨ k = b) wr xb h ov acc) (hs : sp xb) : XS w sp wr xb h ov acc :=
  ⟨H.box, Kd.N_mono H.ops (fun k hk h => hk (Or.inl h)), H.below, H.xg, hs, fun k hk => H.lt k (Or.inl hk)⟩
theorem XS.grown (H : XS w sp wr xb h ov acc) (hg : wr.grownBy w1 ov.ownBlock) : XB w1 xb h ov := (hg.block xb (blk_lt H.box) (Kd.N_ne H.ops H.box (by decide))).trans H.box
theorem XS.push (H : XS w sp wr xb h ov acc) (hg : wr.grownBy w1 ov.ownBlock) (hb : Below w.heap.size w w1) (hN : Kd.N k37 37 w1 w.heap.size (fun k => ¬ sp k) ov1 acc1) : XS w sp (w1.setCell ⟨xb, 4, none⟩ ov1) xb h ov1 acc1 := by
  have hx := H.grown hg
  refine ⟨blk_set hx 4 _, Kd.N_far hN (p := ⟨xb, 4, none⟩) (fun k hk e => hk (by have e2 : k = xb := e; rw [e2]; exact H.xs)) _, hb.setCell H.xg _, H.xg, H.xs, fun k hk => ?_⟩
  rw [World.size_setCell]
  exact Nat.lt_of_lt_of_le (H.lt k hk) hg.size
theorem XS.else_ (H : XS w sp wr xb h ov acc) (hg : wr.grownBy w1 ov.ownBlock) : Else xb wr w1 := ⟨hg.size, fun k o hk hne ho => (hg.block k (blk_lt hk) (fun e => by
    obtain ⟨cells, hc⟩ := Kd.N_typed H.ops k e.symm
    rw [hk] at hc
    exact ho cells (Option.some.inj hc))).trans hk⟩
/-- A box that is none of it stands behind an append. -/
theorem XS.sp_block (H : XS w sp wr xb h ov acc) (hg : wr.grownBy w1 ov.ownBlock) {b : Nat} (hb : sp b) : w1.heap[b]? = wr.heap[b]? := hg.block b (H.lt b hb) (fun e => H.ops.1 b e.symm hb)
theorem XS.size (H : XS w sp wr xb h ov acc) : w.heap.size ≤ wr.heap.size := H.below.size
/-- The cells of an op whose data came in. -/
theorem FK_came (H : XS w sp wr xb h ov acc) {B : Option Addr} {cb : Nat} {o : S37} (hw : ∀ k, sp k → w.heap.size ≤ k) (hC : Kd.C (Kd.int .u8) w B o.f2.length o.f2) (hc : o.f2.length ≤ cb) : Kd.FK k37 wr (fun k => (¬ sp k) ∧ some k ≠ ov.ownBlock) o [.int .i64 o.f0, .int .i64 o.f1, .slice B o.f2.length cb] := by
  refine k37_mkF _ _ o hc (Kd.F_mono (Kd.F_old (Kd.C_F (Kd.heap_int _) hC) H.below) fun k hk => ⟨fun hs => ?_, fun e => ?_⟩)
  · have := hw k hs; have := hk.2; omega
  · have := Kd.N_base H.ops k e.symm; have := hk.2; omega
theorem FK_new {wA : World} (H : XS w sp wr xb h ov acc) {A : Option Addr} {cb : Nat} {o : S37} {b' : Nat} (hO : Row.OwnB wA b' (.slice A o.f2.length cb) o.f2) (hb : ∀ k, sp k → k < b') (hN : ∀ k, ov.ownBlock = some k → k < b') : Kd.FK k37 wA (fun k => (¬ sp k) ∧ some k ≠ ov.ownBlock) o [.int .i64 o.f0, .int .i64 o.f1, .slice A o.f2.length cb] :=
  FK_own hO (fun k hk => ⟨fun hs => by have := hb k hs; omega, fun e => by have := hN k e.symm; omega⟩)
end
end Go.Proofs.Ytogplkochcalpaa.De
