/- Printed functions: the document's Right. -/
import Derived.Test.YtogplkochcalpaaPDz
import Derived.Test.YtogplkochcalpaaPDa
namespace Go.Proofs.Ytogplkochcalpaa.PD
open Go.RowKit Go.Proofs.YtogplkochcalpaaW.PrintWords Go.Proofs.YtogplkochcalpaaW.PrintLast Go.Proofs.YtogplkochcalpaaW.PrintMore
attribute [local go_sem] max2_int min2_int max_two min_two max_three min_three max_four min_four   -- for this text's walks alone
set_option linter.unusedVariables false
set_option linter.unusedSimpArgs false
/-! ### portmanteauref30_Right: function 18 -/
mutual
def portmanteauref30_Right.j0 : Nat → Bool → Int → Int → Int → Int → List (S37) → Option (Bool)
  | 0, _, _, _, _, _, _ => none
  | k + 1, x29, x151000, x151001, x151002, x151003, x151004 => if x29 = true then (some false) else (portmanteauref30_Right.l0 k 0 0 x151000 x151001 x151002 x151003 x151004)
def portmanteauref30_Right.l0 : Nat → Int → Int → Int → Int → Int → Int → List (S37) → Option (Bool)
  | 0, _, _, _, _, _, _, _ => none
  | k + 1, x3, x4, x151000, x151001, x151002, x151003, x151004 => if x4 < (x151004.length : Int) then (if 0 ≤ x4 then (if ((rd_T37 x151004 x4).f1) < 0 then (portmanteauref30_Right.j2 k x3 x4 true x151000 x151001 x151002 x151003 x151004 ((rd_T37 x151004 x4).f0) ((rd_T37 x151004 x4).f1) ((rd_T37 x151004 x4).f2)) else (if ((rd_T37 x151004 x4).f0) < 0 then (portmanteauref30_Right.j2 k x3 x4 true x151000 x151001 x151002 x151003 x151004 ((rd_T37 x151004 x4).f0) ((rd_T37 x151004 x4).f1) ((rd_T37 x151004 x4).f2)) else (if ((rd_T37 x151004 x4).f1) > x151000 then (portmanteauref30_Right.j2 k x3 x4 true x151000 x151001 x151002 x151003 x151004 ((rd_T37 x151004 x4).f0) ((rd_T37 x151004 x4).f1) ((rd_T37 x151004 x4).f2)) else (portmanteauref30_Right.j2 k x3 x4 (decide (((rd_T37 x151004 x4).f0) > (wrap64 (x151000 - ((rd_T37 x151004 x4).f1))))) x151000 x151001 x151002 x151003 x151004 ((rd_T37 x151004 x4).f0) ((rd_T37 x151004 x4).f1) ((rd_T37 x151004 x4).f2))))) else (none)) else (some (x3 == x151001))
def portmanteauref30_Right.j2 : Nat → Int → Int → Bool → Int → Int → Int → Int → List (S37) → Int → Int → List Int → Option (Bool)
  | 0, _, _, _, _, _, _, _, _, _, _, _ => none
  | k + 1, x3, x4, x66, x151000, x151001, x151002, x151003, x151004, x153000, x153001, x153002 => if x66 = true then (some false) else (if x153001 = 0 then (if x153000 = 0 then (if (x153002.length : Int) = 0 then (portmanteauref30_Right.j3 k x3 x4 true x151000 x151001 x151002 x151003 x151004 x153000 x153001 x153002) else (if x153001 > 0 then (portmanteauref30_Right.j3 k x3 x4 (decide ((x153002.length : Int) > 0)) x151000 x151001 x151002 x151003 x151004 x153000 x153001 x153002) else (portmanteauref30_Right.j3 k x3 x4 false x151000 x151001 x151002 x151003 x151004 x153000 x153001 x153002))) else (portmanteauref30_Right.j3 k x3 x4 true x151000 x151001 x151002 x151003 x151004 x153000 x153001 x153002)) else (if x153001 > 0 then (portmanteauref30_Right.j3 k x3 x4 (decide ((x153002.length : Int) > 0)) x151000 x151001 x151002 x151003 x151004 x153000 x153001 x153002) else (portmanteauref30_Right.j3 k x3 x4 false x151000 x151001 x151002 x151003 x151004 x153000 x153001 x153002)))
def portmanteauref30_Right.j3 : Nat → Int → Int → Bool → Int → Int → Int → Int → List (S37) → Int → Int → List Int → Option (Bool)
  | 0, _, _, _, _, _, _, _, _, _, _, _ => none
  | k + 1, x3, x4, x91, x151000, x151001, x151002, x151003, x151004, x153000, x153001, x153002 => if x91 = true then (some false) else (if (wrap64 ((wrap64 (x3 + x153001)) + (x153002.length : Int))) > x151001 then (some false) else (portmanteauref30_Right.l0 k (wrap64 ((wrap64 (x3 + x153001)) + (x153002.length : Int))) (wrap64 (x4 + 1)) x151000 x151001 x151002 x151003 x151004))
end
def portmanteauref30_Right.f (k : Nat) (a0_0 : Int) (a0_1 : Int) (a0_2 : Int) (a0_3 : Int) (l0_4 : List (S37)) : Option (Bool) := if a0_0 < 0 then (portmanteauref30_Right.j0 k true a0_0 a0_1 a0_2 a0_3 l0_4) else (if a0_0 > 8388608 then (portmanteauref30_Right.j0 k true a0_0 a0_1 a0_2 a0_3 l0_4) else (if a0_1 < 0 then (portmanteauref30_Right.j0 k true a0_0 a0_1 a0_2 a0_3 l0_4) else (if a0_1 > 8388608 then (portmanteauref30_Right.j0 k true a0_0 a0_1 a0_2 a0_3 l0_4) else (portmanteauref30_Right.j0 k (decide ((l0_4.length : Int) > 8388608)) a0_0 a0_1 a0_2 a0_3 l0_4))))
theorem portmanteauref30_Right.mono_l : ∀ k, (∀ y0 y1 y2 y3 y4 y5, LeO (portmanteauref30_Right.j0 k y0 y1 y2 y3 y4 y5) (portmanteauref30_Right.j0 (k + 1) y0 y1 y2 y3 y4 y5)) ∧ (∀ y0 y1 y2 y3 y4 y5 y6, LeO (portmanteauref30_Right.l0 k y0 y1 y2 y3 y4 y5 y6) (portmanteauref30_Right.l0 (k + 1) y0 y1 y2 y3 y4 y5 y6)) ∧ (∀ y0 y1 y2 y3 y4 y5 y6 y7 y8 y9 y10, LeO (portmanteauref30_Right.j2 k y0 y1 y2 y3 y4 y5 y6 y7 y8 y9 y10) (portmanteauref30_Right.j2 (k + 1) y0 y1 y2 y3 y4 y5 y6 y7 y8 y9 y10)) ∧ (∀ y0 y1 y2 y3 y4 y5 y6 y7 y8 y9 y10, LeO (portmanteauref30_Right.j3 k y0 y1 y2 y3 y4 y5 y6 y7 y8 y9 y10) (portmanteauref30_Right.j3 (k + 1) y0 y1 y2 y3 y4 y5 y6 y7 y8 y9 y10))
  | 0 => ⟨fun _ _ _ _ _ _ r h => by simp [portmanteauref30_Right.j0] at h, fun _ _ _ _ _ _ _ r h => by simp [portmanteauref30_Right.l0] at h, fun _ _ _ _ _ _ _ _ _ _ _ r h => by simp [portmanteauref30_Right.j2] at h, fun _ _ _ _ _ _ _ _ _ _ _ r h => by simp [portmanteauref30_Right.j3] at h⟩
  | k + 1 => by
    obtain ⟨ih0, ih1, ih2, ih3⟩ := portmanteauref30_Right.mono_l k
    refine ⟨?_, ?_, ?_, ?_⟩
    · intro y0 y1 y2 y3 y4 y5
      unfold portmanteauref30_Right.j0
      repeat' first
      | (with_reducible exact ih0 _ _ _ _ _ _)
      | (with_reducible exact ih1 _ _ _ _ _ _ _)
      | (with_reducible exact ih2 _ _ _ _ _ _ _ _ _ _ _)
      | (with_reducible exact ih3 _ _ _ _ _ _ _ _ _ _ _)
      | (with_reducible exact LeO.refl _)
      | (with_reducible exact LeO.none _)
      | (with_reducible refine LeO.ite ?_ ?_)
      | (with_reducible refine LeO.bind ?_ (fun _ => ?_))
      | exact ih0 _ _ _ _ _ _
      | exact ih1 _ _ _ _ _ _ _
      | exact ih2 _ _ _ _ _ _ _ _ _ _ _
      | exact ih3 _ _ _ _ _ _ _ _ _ _ _
      | exact LeO.none _
      | refine LeO.ite ?_ ?_
      | refine LeO.bind ?_ (fun _ => ?_)
    · intro y0 y1 y2 y3 y4 y5 y6
      unfold portmanteauref30_Right.l0
      repeat' first
      | (with_reducible exact ih0 _ _ _ _ _ _)
      | (with_reducible exact ih1 _ _ _ _ _ _ _)
      | (with_reducible exact ih2 _ _ _ _ _ _ _ _ _ _ _)
      | (with_reducible exact ih3 _ _ _ _ _ _ _ _ _ _ _)
      | (with_reducible exact LeO.refl _)
      | (with_reducible exact LeO.none _)
      | (with_reducible refine LeO.ite ?_ ?_)
      | (with_reducible refine LeO.bind ?_ (fun _ => ?_))
      | exact ih0 _ _ _ _ _ _
      | exact ih1 _ _ _ _ _ _ _
      | exact ih2 _ _ _ _ _ _ _ _ _ _ _
      | exact ih3 _ _ _ _ _ _ _ _ _ _ _
      | exact LeO.none _
      | refine LeO.ite ?_ ?_
      | refine LeO.bind ?_ (fun _ => ?_)
    · intro y0 y1 y2 y3 y4 y5 y6 y7 y8 y9 y10
      unfold portmanteauref30_Right.j2
      repeat' first
      | (with_reducible exact ih0 _ _ _ _ _ _)
      | (with_reducible exact ih1 _ _ _ _ _ _ _)
      | (with_reducible exact ih2 _ _ _ _ _ _ _ _ _ _ _)
      | (with_reducible exact ih3 _ _ _ _ _ _ _ _ _ _ _)
      | (with_reducible exact LeO.refl _)
      | (with_reducible exact LeO.none _)
      | (with_reducible refine LeO.ite ?_ ?_)
      | (with_reducible refine LeO.bind ?_ (fun _ => ?_))
      | exact ih0 _ _ _ _ _ _
      | exact ih1 _ _ _ _ _ _ _
      | exact ih2 _ _ _ _ _ _ _ _ _ _ _
      | exact ih3 _ _ _ _ _ _ _ _ _ _ _
      | exact LeO.none _
      | refine LeO.ite ?_ ?_
      | refine LeO.bind ?_ (fun _ => ?_)
    · intro y0 y1 y2 y3 y4 y5 y6 y7 y8 y9 y10
      unfold portmanteauref30_Right.j3
      repeat' first
      | (with_reducible exact ih0 _ _ _ _ _ _)
      | (with_reducible exact ih1 _ _ _ _ _ _ _)
      | (with_reducible exact ih2 _ _ _ _ _ _ _ _ _ _ _)
      | (with_reducible exact ih3 _ _ _ _ _ _ _ _ _ _ _)
      | (with_reducible exact LeO.refl _)
      | (with_reducible exact LeO.none _)
      | (with_reducible refine LeO.ite ?_ ?_)
      | (with_reducible refine LeO.bind ?_ (fun _ => ?_))
      | exact ih0 _ _ _ _ _ _
      | exact ih1 _ _ _ _ _ _ _
      | exact ih2 _ _ _ _ _ _ _ _ _ _ _
      | exact ih3 _ _ _ _ _ _ _ _ _ _ _
      | exact LeO.none _
      | refine LeO.ite ?_ ?_
      | refine LeO.bind ?_ (fun _ => ?_)
theorem portmanteauref30_Right.mono : ∀ a0 a1 a2 a3 a4 k, LeO (portmanteauref30_Right.f k a0 a1 a2 a3 a4) (portmanteauref30_Right.f (k + 1) a0 a1 a2 a3 a4) := by
  intro a0 a1 a2 a3 a4 k
  obtain ⟨ih0, ih1, ih2, ih3⟩ := portmanteauref30_Right.mono_l k
  unfold portmanteauref30_Right.f
  repeat' first
      | (with_reducible exact ih0 _ _ _ _ _ _)
      | (with_reducible exact ih1 _ _ _ _ _ _ _)
      | (with_reducible exact ih2 _ _ _ _ _ _ _ _ _ _ _)
      | (with_reducible exact ih3 _ _ _ _ _ _ _ _ _ _ _)
      | (with_reducible exact LeO.refl _)
      | (with_reducible exact LeO.none _)
      | (with_reducible refine LeO.ite ?_ ?_)
      | (with_reducible refine LeO.bind ?_ (fun _ => ?_))
      | exact ih0 _ _ _ _ _ _
      | exact ih1 _ _ _ _ _ _ _
      | exact ih2 _ _ _ _ _ _ _ _ _ _ _
      | exact ih3 _ _ _ _ _ _ _ _ _ _ _
      | exact LeO.none _
      | refine LeO.ite ?_ ?_
      | refine LeO.bind ?_ (fun _ => ?_)
set_option maxHeartbeats 8000000 in
set_option maxRecDepth 100000 in
theorem portmanteauref30_Right.calls (k : Nat) (a0_0 : Int) (a0_1 : Int) (a0_2 : Int) (a0_3 : Int) (A0_4 : Option Addr) (c0_4 : Nat) (l0_4 : List (S37)) (r : Bool) (w : World) (hr0_4 : Kd.C k37 w A0_4 l0_4.length l0_4) (hc0_4 : l0_4.length ≤ c0_4) (h : portmanteauref30_Right.f k a0_0 a0_1 a0_2 a0_3 l0_4 = some r) :
    Calls Try.prog 18 #[.agg #[.int .i64 a0_0, .int .i64 a0_1, .int .u64 a0_2, .int .u64 a0_3, .slice A0_4 l0_4.length c0_4]] w fun e w' => e = .returned (.bool r) ∧ Below w.heap.size w w' := by
  have hu27 := Try.underlying27
  have hu37 := Try.underlying37
  have HR0_4 := Aside0.mk hr0_4
  have HC0_4 := Aside0.mk hc0_4
  clear hr0_4 hc0_4
  have HB := Aside0.mk (Below.refl w.heap.size w)
  have H : (if a0_0 < 0 then (portmanteauref30_Right.j0 k true a0_0 a0_1 a0_2 a0_3 l0_4) else (if a0_0 > 8388608 then (portmanteauref30_Right.j0 k true a0_0 a0_1 a0_2 a0_3 l0_4) else (if a0_1 < 0 then (portmanteauref30_Right.j0 k true a0_0 a0_1 a0_2 a0_3 l0_4) else (if a0_1 > 8388608 then (portmanteauref30_Right.j0 k true a0_0 a0_1 a0_2 a0_3 l0_4) else (portmanteauref30_Right.j0 k (decide ((l0_4.length : Int) > 8388608)) a0_0 a0_1 a0_2 a0_3 l0_4))))) = some r := h
  clear h
  have HC2 := Aside0.mk H
  clear H
  go_enter Try.func18, Try.ntmps18
  go_upto_region 1 with (first | ((with_reducible refine gate_dst (N := 1) rfl ?_); (try (refine gate_guard (by rfl) ?_; dsimp only)); refine box_event ?hg (N := 1) ?hd (cs := #[.int .i64 a0_0, .int .i64 a0_1, .int .u64 a0_2, .int .u64 a0_3, .slice A0_4 l0_4.length c0_4]) (t := 27) ?hr ?_; (case hd => rfl); (case hg => rfl); (case hr => first | (go_simp; done) | (go_simp; rfl)); intro gb150 hg w3 hbox hb; have n0_ := Aside0.mk (below_step (by repeat (first | (with_reducible first | exact HB.out | apply below_alloc | apply pw_below_drewN | apply below_drew1) | exact HB.out)) hb); have n1_ := Aside0.mk (hbox); have n2_ := Aside0.mk ((by rw [hg]; exact (below_size (by repeat (first | (with_reducible first | exact HB.out | apply below_alloc | apply pw_below_drewN | apply below_drew1) | exact HB.out))) : w.heap.size ≤ gb150)); have n3_ := Aside0.mk ((by rw [hg]; exact (below_size (by repeat (first | (with_reducible first | exact HB.out | apply below_alloc | apply pw_below_drewN | apply below_drew1) | exact HB.out))) : w.heap.size ≤ gb150)); clear HB; have HB := n0_; have BK150 := n1_; have GW150 := n2_; have GE150 := n3_; clear n0_ n1_ n2_ n3_; clear hb hbox hg))
  (try simp only [Act.put, List.setIfInBounds_toArray, List.set_cons_zero, List.set_cons_succ])
  go_cut [29] (fun v29 wc => ∃ (kq : Nat) (x29_1 : Bool), v29 = .bool x29_1 ∧ Aside0 (portmanteauref30_Right.j0 kq x29_1 a0_0 a0_1 a0_2 a0_3 l0_4 = some r) ∧ Aside0 (kq ≤ k) ∧ Aside0 (wc.heap[gb150]? = some (.cells #[.int .i64 a0_0, .int .i64 a0_1, .int .u64 a0_2, .int .u64 a0_3, (.slice A0_4 l0_4.length c0_4)] 27 (0, 0))) ∧ Aside0 (Below w.heap.size w wc))
  case first =>
    have H := HC2.out
    clear HC2
    by_cases c4 : a0_0 < 0
    · rw [if_pos c4] at H
      have c4b0 : decide (a0_0 < 0) = true := decide_eq_true c4
      clear c4
      (first | rw [c4b0] | (simp only [i64_w, i32_w]; rw [c4b0]) | skip)
      have H' := Aside0.mk H
      clear H
      have hcz5_0 : w3.cell? ⟨gb150, 0, none⟩ = some (.int .i64 a0_0) := (blk_cell BK150.out 0).trans rfl
      have hcz5_1 : w3.cell? ⟨gb150, 1, none⟩ = some (.int .i64 a0_1) := (blk_cell BK150.out 1).trans rfl
      have hcz5_2 : w3.cell? ⟨gb150, 2, none⟩ = some (.int .u64 a0_2) := (blk_cell BK150.out 2).trans rfl
      have hcz5_3 : w3.cell? ⟨gb150, 3, none⟩ = some (.int .u64 a0_3) := (blk_cell BK150.out 3).trans rfl
      have hcz5_4 : w3.cell? ⟨gb150, 4, none⟩ = some (.slice A0_4 l0_4.length c0_4) := (blk_cell BK150.out 4).trans rfl
      have hfz5_0 := blk_frozen BK150.out 0
      have hfz5_1 := blk_frozen BK150.out 1
      have hfz5_2 := blk_frozen BK150.out 2
      have hfz5_3 := blk_frozen BK150.out 3
      have hfz5_4 := blk_frozen BK150.out 4
      go_wp2
      go_meet
      case rel => exact ⟨_, (true), (by first | rfl | (simp; done) | (simp [*]; done)), H', ⟨by first | omega | exact Nat.le_refl _⟩, ⟨by (with_reducible repeat (first | refine blk_drewN ?_ _ | refine blk_drew ?_ | refine blk_alloc ?_ _)); exact BK150.out⟩, ⟨by repeat (first | (with_reducible first | exact HB.out | apply below_alloc | apply pw_below_drewN | apply below_drew1 | refine below_set ?_ GE150.out) | exact HB.out)⟩⟩
    · rw [if_neg c4] at H
      have c4b0 : decide (a0_0 < 0) = false := decide_eq_false c4
      clear c4
      (first | rw [c4b0] | (simp only [i64_w, i32_w]; rw [c4b0]) | skip)
      by_cases c6 : a0_0 > 8388608
      · rw [if_pos c6] at H
        have c6b0 : decide (8388608 < a0_0) = true := decide_eq_true c6
        clear c6
        have H' := Aside0.mk H
        clear H
        have hcz7_0 : w3.cell? ⟨gb150, 0, none⟩ = some (.int .i64 a0_0) := (blk_cell BK150.out 0).trans rfl
        have hcz7_1 : w3.cell? ⟨gb150, 1, none⟩ = some (.int .i64 a0_1) := (blk_cell BK150.out 1).trans rfl
        have hcz7_2 : w3.cell? ⟨gb150, 2, none⟩ = some (.int .u64 a0_2) := (blk_cell BK150.out 2).trans rfl
        have hcz7_3 : w3.cell? ⟨gb150, 3, none⟩ = some (.int .u64 a0_3) := (blk_cell BK150.out 3).trans rfl
        have hcz7_4 : w3.cell? ⟨gb150, 4, none⟩ = some (.slice A0_4 l0_4.length c0_4) := (blk_cell BK150.out 4).trans rfl
        have hfz7_0 := blk_frozen BK150.out 0
        have hfz7_1 := blk_frozen BK150.out 1
        have hfz7_2 := blk_frozen BK150.out 2
        have hfz7_3 := blk_frozen BK150.out 3
        have hfz7_4 := blk_frozen BK150.out 4
        go_wp2
        go_meet
        case rel => exact ⟨_, (true), (by first | rfl | (simp; done) | (simp [*]; done)), H', ⟨by first | omega | exact Nat.le_refl _⟩, ⟨by (with_reducible repeat (first | refine blk_drewN ?_ _ | refine blk_drew ?_ | refine blk_alloc ?_ _)); exact BK150.out⟩, ⟨by repeat (first | (with_reducible first | exact HB.out | apply below_alloc | apply pw_below_drewN | apply below_drew1 | refine below_set ?_ GE150.out) | exact HB.out)⟩⟩
      · rw [if_neg c6] at H
        have c6b0 : decide (8388608 < a0_0) = false := decide_eq_false c6
        clear c6
        by_cases c8 : a0_1 < 0
        · rw [if_pos c8] at H
          have c8b0 : decide (a0_1 < 0) = true := decide_eq_true c8
          clear c8
          have H' := Aside0.mk H
          clear H
          have hcz9_0 : w3.cell? ⟨gb150, 0, none⟩ = some (.int .i64 a0_0) := (blk_cell BK150.out 0).trans rfl
          have hcz9_1 : w3.cell? ⟨gb150, 1, none⟩ = some (.int .i64 a0_1) := (blk_cell BK150.out 1).trans rfl
          have hcz9_2 : w3.cell? ⟨gb150, 2, none⟩ = some (.int .u64 a0_2) := (blk_cell BK150.out 2).trans rfl
          have hcz9_3 : w3.cell? ⟨gb150, 3, none⟩ = some (.int .u64 a0_3) := (blk_cell BK150.out 3).trans rfl
          have hcz9_4 : w3.cell? ⟨gb150, 4, none⟩ = some (.slice A0_4 l0_4.length c0_4) := (blk_cell BK150.out 4).trans rfl
          have hfz9_0 := blk_frozen BK150.out 0
          have hfz9_1 := blk_frozen BK150.out 1
          have hfz9_2 := blk_frozen BK150.out 2
          have hfz9_3 := blk_frozen BK150.out 3
          have hfz9_4 := blk_frozen BK150.out 4
          go_wp2
          go_meet
          case rel => exact ⟨_, (true), (by first | rfl | (simp; done) | (simp [*]; done)), H', ⟨by first | omega | exact Nat.le_refl _⟩, ⟨by (with_reducible repeat (first | refine blk_drewN ?_ _ | refine blk_drew ?_ | refine blk_alloc ?_ _)); exact BK150.out⟩, ⟨by repeat (first | (with_reducible first | exact HB.out | apply below_alloc | apply pw_below_drewN | apply below_drew1 | refine below_set ?_ GE150.out) | exact HB.out)⟩⟩
        · rw [if_neg c8] at H
          have c8b0 : decide (a0_1 < 0) = false := decide_eq_false c8
          clear c8
          by_cases c10 : a0_1 > 8388608
          · rw [if_pos c10] at H
            have c10b0 : decide (8388608 < a0_1) = true := decide_eq_true c10
            clear c10
            have H' := Aside0.mk H
            clear H
            have hcz11_0 : w3.cell? ⟨gb150, 0, none⟩ = some (.int .i64 a0_0) := (blk_cell BK150.out 0).trans rfl
            have hcz11_1 : w3.cell? ⟨gb150, 1, none⟩ = some (.int .i64 a0_1) := (blk_cell BK150.out 1).trans rfl
            have hcz11_2 : w3.cell? ⟨gb150, 2, none⟩ = some (.int .u64 a0_2) := (blk_cell BK150.out 2).trans rfl
            have hcz11_3 : w3.cell? ⟨gb150, 3, none⟩ = some (.int .u64 a0_3) := (blk_cell BK150.out 3).trans rfl
            have hcz11_4 : w3.cell? ⟨gb150, 4, none⟩ = some (.slice A0_4 l0_4.length c0_4) := (blk_cell BK150.out 4).trans rfl
            have hfz11_0 := blk_frozen BK150.out 0
            have hfz11_1 := blk_frozen BK150.out 1
            have hfz11_2 := blk_frozen BK150.out 2
            have hfz11_3 := blk_frozen BK150.out 3
            have hfz11_4 := blk_frozen BK150.out 4
            go_wp2
            go_meet
            case rel => exact ⟨_, (true), (by first | rfl | (simp; done) | (simp [*]; done)), H', ⟨by first | omega | exact Nat.le_refl _⟩, ⟨by (with_reducible repeat (first | refine blk_drewN ?_ _ | refine blk_drew ?_ | refine blk_alloc ?_ _)); exact BK150.out⟩, ⟨by repeat (first | (with_reducible first | exact HB.out | apply below_alloc | apply pw_below_drewN | apply below_drew1 | refine below_set ?_ GE150.out) | exact HB.out)⟩⟩
          · rw [if_neg c10] at H
            have c10b0 : decide (8388608 < a0_1) = false := decide_eq_false c10
            clear c10
            have H' := Aside0.mk H
            clear H
            have hcz12_0 : w3.cell? ⟨gb150, 0, none⟩ = some (.int .i64 a0_0) := (blk_cell BK150.out 0).trans rfl
            have hcz12_1 : w3.cell? ⟨gb150, 1, none⟩ = some (.int .i64 a0_1) := (blk_cell BK150.out 1).trans rfl
            have hcz12_2 : w3.cell? ⟨gb150, 2, none⟩ = some (.int .u64 a0_2) := (blk_cell BK150.out 2).trans rfl
            have hcz12_3 : w3.cell? ⟨gb150, 3, none⟩ = some (.int .u64 a0_3) := (blk_cell BK150.out 3).trans rfl
            have hcz12_4 : w3.cell? ⟨gb150, 4, none⟩ = some (.slice A0_4 l0_4.length c0_4) := (blk_cell BK150.out 4).trans rfl
            have hfz12_0 := blk_frozen BK150.out 0
            have hfz12_1 := blk_frozen BK150.out 1
            have hfz12_2 := blk_frozen BK150.out 2
            have hfz12_3 := blk_frozen BK150.out 3
            have hfz12_4 := blk_frozen BK150.out 4
            go_wp2
            go_meet
            case rel => exact ⟨_, (decide ((l0_4.length : Int) > 8388608)), (by first | rfl | (simp; done) | (simp [*]; done)), H', ⟨by first | omega | exact Nat.le_refl _⟩, ⟨by (with_reducible repeat (first | refine blk_drewN ?_ _ | refine blk_drew ?_ | refine blk_alloc ?_ _)); exact BK150.out⟩, ⟨by repeat (first | (with_reducible first | exact HB.out | apply below_alloc | apply pw_below_drewN | apply below_drew1 | refine below_set ?_ GE150.out) | exact HB.out)⟩⟩
  case rest =>
    clear HC2
    try clear c1
    try clear p2
    try clear c4
    try clear c4b0
    try clear c6
    try clear c6b0
    try clear c8
    try clear c8b0
    try clear c10
    try clear c10b0
    try clear hcz11_0
    try clear hcz11_1
    try clear hcz11_2
    try clear hcz11_3
    try clear hcz11_4
    try clear hcz12_0
    try clear hcz12_1
    try clear hcz12_2
    try clear hcz12_3
    try clear hcz12_4
    try clear hcz5_0
    try clear hcz5_1
    try clear hcz5_2
    try clear hcz5_3
    try clear hcz5_4
    try clear hcz7_0
    try clear hcz7_1
    try clear hcz7_2
    try clear hcz7_3
    try clear hcz7_4
    try clear hcz9_0
    try clear hcz9_1
    try clear hcz9_2
    try clear hcz9_3
    try clear hcz9_4
    try clear hfz11_0
    try clear hfz11_1
    try clear hfz11_2
    try clear hfz11_3
    try clear hfz11_4
    try clear hfz12_0
    try clear hfz12_1
    try clear hfz12_2
    try clear hfz12_3
    try clear hfz12_4
    try clear hfz5_0
    try clear hfz5_1
    try clear hfz5_2
    try clear hfz5_3
    try clear hfz5_4
    try clear hfz7_0
    try clear hfz7_1
    try clear hfz7_2
    try clear hfz7_3
    try clear hfz7_4
    try clear hfz9_0
    try clear hfz9_1
    try clear hfz9_2
    try clear hfz9_3
    try clear hfz9_4
    obtain ⟨kq, x29_1, rfl, HA, HJ1, BK150, HB⟩ := hcut
    cases kq with
    | zero => exact absurd HA.out (by simp [portmanteauref30_Right.j0])
    | succ kj1 =>
      have H := HA.out
      clear HA
      simp only [portmanteauref30_Right.j0] at H
      by_cases c13 : x29_1 = true
      · subst c13
        have H1 : (some false) = some r := by rw [if_pos rfl] at H; exact H
        clear H
        have H := H1
        clear H1
        obtain rfl := Option.some.inj H
        go_wp2
        go_ret
        exact ⟨by first | rfl | (simp [errW_none, errW_some] <;> rfl) | (simp [*, errW_none, errW_some] <;> rfl), by repeat (first | (with_reducible first | exact HB.out | apply below_alloc | apply pw_below_drewN | apply below_drew1 | refine below_set ?_ GE150.out) | exact HB.out)⟩
      · replace c13 := Bool.eq_false_iff.mpr c13
        subst c13
        have H1 : (portmanteauref30_Right.l0 kj1 0 0 a0_0 a0_1 a0_2 a0_3 l0_4) = some r := by rw [if_neg (show ¬ (false = true) by decide)] at H; exact H
        clear H
        have H := H1
        clear H1
        have H' := Aside0.mk H
        clear H
        go_wp2
        go_loopg [3, 4] kj1 (fun kq v3 v4 w' => ∃ (x3_2 : Int) (x4_2 : Int), v3 = .int .i64 x3_2 ∧ v4 = .int .i64 x4_2 ∧ Aside0 (portmanteauref30_Right.l0 kq x3_2 x4_2 a0_0 a0_1 a0_2 a0_3 l0_4 = some r) ∧ Aside0 (kq ≤ kj1) ∧ Aside0 (w'.heap[gb150]? = some (.cells #[.int .i64 a0_0, .int .i64 a0_1, .int .u64 a0_2, .int .u64 a0_3, (.slice A0_4 l0_4.length c0_4)] 27 (0, 0))) ∧ Aside0 (Below w.heap.size w w'))
        case atStart => exact ⟨(0), (0), (by first | rfl | (simp; done) | (simp [*]; done)), (by first | rfl | (simp; done) | (simp [*]; done)), H', ⟨Nat.le_refl _⟩, ⟨by (with_reducible repeat (first | refine blk_drewN ?_ _ | refine blk_drew ?_ | refine blk_alloc ?_ _)); exact BK150.out⟩, ⟨by repeat (first | (with_reducible first | exact HB.out | apply below_alloc | apply pw_below_drewN | apply below_drew1 | refine below_set ?_ GE150.out) | exact HB.out)⟩⟩
        case round =>
          clear H'
          try clear c1
          try clear p2
          try clear c4
          try clear c4b0
          try clear c6
          try clear c6b0
          try clear c8
          try clear c8b0
          try clear c10
          try clear c10b0
          try clear c13
          try clear hcz11_0
          try clear hcz11_1
          try clear hcz11_2
          try clear hcz11_3
          try clear hcz11_4
          try clear hcz12_0
          try clear hcz12_1
          try clear hcz12_2
          try clear hcz12_3
          try clear hcz12_4
          try clear hcz5_0
          try clear hcz5_1
          try clear hcz5_2
          try clear hcz5_3
          try clear hcz5_4
          try clear hcz7_0
          try clear hcz7_1
          try clear hcz7_2
          try clear hcz7_3
          try clear hcz7_4
          try clear hcz9_0
          try clear hcz9_1
          try clear hcz9_2
          try clear hcz9_3
          try clear hcz9_4
          try clear hfz11_0
          try clear hfz11_1
          try clear hfz11_2
          try clear hfz11_3
          try clear hfz11_4
          try clear hfz12_0
          try clear hfz12_1
          try clear hfz12_2
          try clear hfz12_3
          try clear hfz12_4
          try clear hfz5_0
          try clear hfz5_1
          try clear hfz5_2
          try clear hfz5_3
          try clear hfz5_4
          try clear hfz7_0
          try clear hfz7_1
          try clear hfz7_2
          try clear hfz7_3
          try clear hfz7_4
          try clear hfz9_0
          try clear hfz9_1
          try clear hfz9_2
          try clear hfz9_3
          try clear hfz9_4
          try clear p2
          obtain ⟨x3_2, x4_2, rfl, rfl, HA, HK2, BK150, HB⟩ := hrel
          cases gk with
          | zero => exact absurd HA.out (by simp [portmanteauref30_Right.l0])
          | succ k2 =>
            have H := HA.out
            clear HA
            simp only [portmanteauref30_Right.l0] at H
            by_cases c14 : x4_2 < (l0_4.length : Int)
            · rw [if_pos c14] at H
              have c14b0 : decide (x4_2 < (l0_4.length : Int)) = true := decide_eq_true c14
              clear c14
              by_cases c15 : 0 ≤ x4_2
              · rw [if_pos c15] at H
                have c15b0 : decide (0 ≤ x4_2) = true := decide_eq_true c15
                clear c15
                have HC16 := Aside0.mk H
                clear H
                have hcz17_0 : wr.cell? ⟨gb150, 0, none⟩ = some (.int .i64 a0_0) := (blk_cell BK150.out 0).trans rfl
                have hcz17_1 : wr.cell? ⟨gb150, 1, none⟩ = some (.int .i64 a0_1) := (blk_cell BK150.out 1).trans rfl
                have hcz17_2 : wr.cell? ⟨gb150, 2, none⟩ = some (.int .u64 a0_2) := (blk_cell BK150.out 2).trans rfl
                have hcz17_3 : wr.cell? ⟨gb150, 3, none⟩ = some (.int .u64 a0_3) := (blk_cell BK150.out 3).trans rfl
                have hcz17_4 : wr.cell? ⟨gb150, 4, none⟩ = some (.slice A0_4 l0_4.length c0_4) := (blk_cell BK150.out 4).trans rfl
                have hfz17_0 := blk_frozen BK150.out 0
                have hfz17_1 := blk_frozen BK150.out 1
                have hfz17_2 := blk_frozen BK150.out 2
                have hfz17_3 := blk_frozen BK150.out 3
                have hfz17_4 := blk_frozen BK150.out 4
                have p151 : 0 ≤ (x4_2 : Int) := of_decide_eq_true (by first | (with_reducible assumption) | assumption)
                have q151 : x4_2 < (l0_4.length : Int) := of_decide_eq_true (by first | (with_reducible assumption) | assumption)
                obtain ⟨ad151, A151_2, c151_2, e151, hx151_0, hx151_1, hx151_2, hl151_2, hi151_2⟩ := at_T37 HR0_4.out x4_2 p151 q151
                cases e151
                replace hx151_0 := (HB.out.cell (World.block_lt_of_cell? w _ hx151_0)).trans hx151_0
                replace hx151_1 := (HB.out.cell (World.block_lt_of_cell? w _ hx151_1)).trans hx151_1
                replace hx151_2 := (HB.out.cell (World.block_lt_of_cell? w _ hx151_2)).trans hx151_2
                have HR151_2 := Aside0.mk hi151_2
                have HC151_2 := Aside0.mk hl151_2
                clear hi151_2 hl151_2
                replace p151 := eq_true p151
                replace q151 := eq_true q151
                go_upto_region 8 with (first | ((with_reducible refine gate_dst (N := 5) rfl ?_); (try (refine gate_guard (by rfl) ?_; dsimp only)); refine box_event ?hg (N := 5) ?hd (cs := #[.int .i64 0, .int .i64 0, .slice none 0 0]) (t := 37) ?hr ?_; (case hd => rfl); (case hg => rfl); (case hr => first | (go_simp; done) | (go_simp; rfl)); intro gb152 hg w18 hbox hb; have n0_ := Aside0.mk (blk_below (g := gb150) (o := .cells #[.int .i64 a0_0, .int .i64 a0_1, .int .u64 a0_2, .int .u64 a0_3, .slice (some ad151) l0_4.length c0_4] 27 (0, 0)) (by (with_reducible repeat (first | refine blk_drewN ?_ _ | refine blk_drew ?_ | refine blk_alloc ?_ _)); exact BK150.out) hb); have n1_ := Aside0.mk (below_step (by repeat (first | (with_reducible first | exact HB.out | apply below_alloc | apply pw_below_drewN | apply below_drew1 | refine below_set ?_ GE150.out) | exact HB.out)) hb); have n2_ := Aside0.mk (hbox); have n3_ := Aside0.mk ((by rw [hg]; exact (below_size (by repeat (first | (with_reducible first | exact HB.out | apply below_alloc | apply pw_below_drewN | apply below_drew1 | refine below_set ?_ GE150.out) | exact HB.out))) : w.heap.size ≤ gb152)); have n4_ := Aside0.mk ((by rw [hg]; exact (below_size (by repeat (first | (with_reducible first | exact HB.out | apply below_alloc | apply pw_below_drewN | apply below_drew1 | refine below_set ?_ GE150.out) | exact HB.out))) : w.heap.size ≤ gb152)); have n5_ := Aside0.mk ((by rw [hg]; exact Nat.ne_of_lt (blk_lt (g := gb150) (o := .cells #[.int .i64 a0_0, .int .i64 a0_1, .int .u64 a0_2, .int .u64 a0_3, .slice (some ad151) l0_4.length c0_4] 27 (0, 0)) (by (with_reducible repeat (first | refine blk_drewN ?_ _ | refine blk_drew ?_ | refine blk_alloc ?_ _)); exact BK150.out)) : gb150 ≠ gb152)); have n6_ := Aside0.mk ((by rw [hg]; exact Nat.ne_of_gt (blk_lt (g := gb150) (o := .cells #[.int .i64 a0_0, .int .i64 a0_1, .int .u64 a0_2, .int .u64 a0_3, .slice (some ad151) l0_4.length c0_4] 27 (0, 0)) (by (with_reducible repeat (first | refine blk_drewN ?_ _ | refine blk_drew ?_ | refine blk_alloc ?_ _)); exact BK150.out)) : gb152 ≠ gb150)); clear BK150; clear HB; have BK150 := n0_; have HB := n1_; have BK152 := n2_; have GW152 := n3_; have GE152 := n4_; have NB150_152 := n5_; have NB152_150 := n6_; clear n0_ n1_ n2_ n3_ n4_ n5_ n6_; clear hb hbox hg; have hnb19 := NB152_150.out; have hnc19 := NB150_152.out; have hcz20_0 : w18.cell? ⟨gb152, 0, none⟩ = some (.int .i64 0) := (blk_cell BK152.out 0).trans rfl; have hcz20_1 : w18.cell? ⟨gb152, 1, none⟩ = some (.int .i64 0) := (blk_cell BK152.out 1).trans rfl; have hcz20_2 : w18.cell? ⟨gb152, 2, none⟩ = some (.slice none 0 0) := (blk_cell BK152.out 2).trans rfl; have hfz20_0 := blk_frozen BK152.out 0; have hfz20_1 := blk_frozen BK152.out 1; have hfz20_2 := blk_frozen BK152.out 2))
                (try simp only [Act.put, List.setIfInBounds_toArray, List.set_cons_zero, List.set_cons_succ])
                go_cut [66] (fun v66 wc => ∃ (kq : Nat) (x66_15 : Bool), v66 = .bool x66_15 ∧ Aside0 (portmanteauref30_Right.j2 kq x3_2 x4_2 x66_15 a0_0 a0_1 a0_2 a0_3 l0_4 ((rd_T37 l0_4 x4_2).f0) ((rd_T37 l0_4 x4_2).f1) ((rd_T37 l0_4 x4_2).f2) = some r) ∧ Aside0 (kq ≤ k2) ∧ Aside0 (wc.heap[gb150]? = some (.cells #[.int .i64 a0_0, .int .i64 a0_1, .int .u64 a0_2, .int .u64 a0_3, (.slice (some ad151) l0_4.length c0_4)] 27 (0, 0))) ∧ Aside0 (wc.heap[gb152]? = some (.cells #[.int .i64 ((rd_T37 l0_4 x4_2).f0), .int .i64 ((rd_T37 l0_4 x4_2).f1), (.slice A151_2 ((rd_T37 l0_4 x4_2).f2).length c151_2)] 37 (0, 0))) ∧ Aside0 (Below w.heap.size w wc))
                case first =>
                  have H := HC16.out
                  clear HC16
                  by_cases c21 : ((rd_T37 l0_4 x4_2).f1) < 0
                  · rw [if_pos c21] at H
                    have c21b0 : decide (((rd_T37 l0_4 x4_2).f1) < 0) = true := decide_eq_true c21
                    clear c21
                    (first | rw [c21b0] | (simp only [i64_w, i32_w]; rw [c21b0]) | skip)
                    have H' := Aside0.mk H
                    clear H
                    have hnb22 := NB152_150.out
                    have hnc22 := NB150_152.out
                    have hcz23_0 : w18.cell? ⟨gb152, 0, none⟩ = some (.int .i64 0) := (blk_cell BK152.out 0).trans rfl
                    have hcz23_1 : w18.cell? ⟨gb152, 1, none⟩ = some (.int .i64 0) := (blk_cell BK152.out 1).trans rfl
                    have hcz23_2 : w18.cell? ⟨gb152, 2, none⟩ = some (.slice none 0 0) := (blk_cell BK152.out 2).trans rfl
                    have hfz23_0 := blk_frozen BK152.out 0
                    have hfz23_1 := blk_frozen BK152.out 1
                    have hfz23_2 := blk_frozen BK152.out 2
                    go_wp2
                    go_meet
                    case rel => exact ⟨_, (true), (by first | rfl | (simp; done) | (simp [*]; done)), H', ⟨by have := HJ1.out; have := HK2.out; first | omega | exact Nat.le_refl _⟩, ⟨by (with_reducible repeat (first | refine blk_drewN ?_ _ | refine blk_drew ?_ | refine blk_alloc ?_ _)); refine blk_far ?_ NB150_152.out _; (with_reducible repeat (first | refine blk_drewN ?_ _ | refine blk_drew ?_ | refine blk_alloc ?_ _)); refine blk_far ?_ NB150_152.out _; (with_reducible repeat (first | refine blk_drewN ?_ _ | refine blk_drew ?_ | refine blk_alloc ?_ _)); refine blk_far ?_ NB150_152.out _; (with_reducible repeat (first | refine blk_drewN ?_ _ | refine blk_drew ?_ | refine blk_alloc ?_ _)); exact BK150.out⟩, ⟨by (with_reducible repeat (first | refine blk_drewN ?_ _ | refine blk_drew ?_ | refine blk_alloc ?_ _)); refine blk_put (cs := #[.int .i64 ((rd_T37 l0_4 x4_2).f0), .int .i64 ((rd_T37 l0_4 x4_2).f1), .slice none 0 0]) ?_ 2 _ rfl; (with_reducible repeat (first | refine blk_drewN ?_ _ | refine blk_drew ?_ | refine blk_alloc ?_ _)); refine blk_put (cs := #[.int .i64 ((rd_T37 l0_4 x4_2).f0), .int .i64 0, .slice none 0 0]) ?_ 1 _ rfl; (with_reducible repeat (first | refine blk_drewN ?_ _ | refine blk_drew ?_ | refine blk_alloc ?_ _)); refine blk_put (cs := #[.int .i64 0, .int .i64 0, .slice none 0 0]) ?_ 0 _ rfl; (with_reducible repeat (first | refine blk_drewN ?_ _ | refine blk_drew ?_ | refine blk_alloc ?_ _)); exact BK152.out⟩, ⟨by repeat (first | (with_reducible first | exact HB.out | apply below_alloc | apply pw_below_drewN | apply below_drew1 | refine below_set ?_ GE150.out | refine below_set ?_ GE152.out) | exact HB.out)⟩⟩
                  · rw [if_neg c21] at H
                    have c21b0 : decide (((rd_T37 l0_4 x4_2).f1) < 0) = false := decide_eq_false c21
                    clear c21
                    (first | rw [c21b0] | (simp only [i64_w, i32_w]; rw [c21b0]) | skip)
                    by_cases c24 : ((rd_T37 l0_4 x4_2).f0) < 0
                    · rw [if_pos c24] at H
                      have c24b0 : decide (((rd_T37 l0_4 x4_2).f0) < 0) = true := decide_eq_true c24
                      clear c24
                      have H' := Aside0.mk H
                      clear H
                      have hnb25 := NB152_150.out
                      have hnc25 := NB150_152.out
                      have hcz26_0 : w18.cell? ⟨gb152, 0, none⟩ = some (.int .i64 0) := (blk_cell BK152.out 0).trans rfl
                      have hcz26_1 : w18.cell? ⟨gb152, 1, none⟩ = some (.int .i64 0) := (blk_cell BK152.out 1).trans rfl
                      have hcz26_2 : w18.cell? ⟨gb152, 2, none⟩ = some (.slice none 0 0) := (blk_cell BK152.out 2).trans rfl
                      have hfz26_0 := blk_frozen BK152.out 0
                      have hfz26_1 := blk_frozen BK152.out 1
                      have hfz26_2 := blk_frozen BK152.out 2
                      go_wp2
                      go_meet
                      case rel => exact ⟨_, (true), (by first | rfl | (simp; done) | (simp [*]; done)), H', ⟨by have := HJ1.out; have := HK2.out; first | omega | exact Nat.le_refl _⟩, ⟨by (with_reducible repeat (first | refine blk_drewN ?_ _ | refine blk_drew ?_ | refine blk_alloc ?_ _)); refine blk_far ?_ NB150_152.out _; (with_reducible repeat (first | refine blk_drewN ?_ _ | refine blk_drew ?_ | refine blk_alloc ?_ _)); refine blk_far ?_ NB150_152.out _; (with_reducible repeat (first | refine blk_drewN ?_ _ | refine blk_drew ?_ | refine blk_alloc ?_ _)); refine blk_far ?_ NB150_152.out _; (with_reducible repeat (first | refine blk_drewN ?_ _ | refine blk_drew ?_ | refine blk_alloc ?_ _)); exact BK150.out⟩, ⟨by (with_reducible repeat (first | refine blk_drewN ?_ _ | refine blk_drew ?_ | refine blk_alloc ?_ _)); refine blk_put (cs := #[.int .i64 ((rd_T37 l0_4 x4_2).f0), .int .i64 ((rd_T37 l0_4 x4_2).f1), .slice none 0 0]) ?_ 2 _ rfl; (with_reducible repeat (first | refine blk_drewN ?_ _ | refine blk_drew ?_ | refine blk_alloc ?_ _)); refine blk_put (cs := #[.int .i64 ((rd_T37 l0_4 x4_2).f0), .int .i64 0, .slice none 0 0]) ?_ 1 _ rfl; (with_reducible repeat (first | refine blk_drewN ?_ _ | refine blk_drew ?_ | refine blk_alloc ?_ _)); refine blk_put (cs := #[.int .i64 0, .int .i64 0, .slice none 0 0]) ?_ 0 _ rfl; (with_reducible repeat (first | refine blk_drewN ?_ _ | refine blk_drew ?_ | refine blk_alloc ?_ _)); exact BK152.out⟩, ⟨by repeat (first | (with_reducible first | exact HB.out | apply below_alloc | apply pw_below_drewN | apply below_drew1 | refine below_set ?_ GE150.out | refine below_set ?_ GE152.out) | exact HB.out)⟩⟩
                    · rw [if_neg c24] at H
                      have c24b0 : decide (((rd_T37 l0_4 x4_2).f0) < 0) = false := decide_eq_false c24
                      clear c24
                      by_cases c27 : ((rd_T37 l0_4 x4_2).f1) > a0_0
                      · rw [if_pos c27] at H
                        have c27b0 : decide (a0_0 < ((rd_T37 l0_4 x4_2).f1)) = true := decide_eq_true c27
                        clear c27
                        have H' := Aside0.mk H
                        clear H
                        have hnb28 := NB152_150.out
                        have hnc28 := NB150_152.out
                        have hcz29_0 : w18.cell? ⟨gb152, 0, none⟩ = some (.int .i64 0) := (blk_cell BK152.out 0).trans rfl
                        have hcz29_1 : w18.cell? ⟨gb152, 1, none⟩ = some (.int .i64 0) := (blk_cell BK152.out 1).trans rfl
                        have hcz29_2 : w18.cell? ⟨gb152, 2, none⟩ = some (.slice none 0 0) := (blk_cell BK152.out 2).trans rfl
                        have hfz29_0 := blk_frozen BK152.out 0
                        have hfz29_1 := blk_frozen BK152.out 1
                        have hfz29_2 := blk_frozen BK152.out 2
                        have hcz30_0 : w18.cell? ⟨gb150, 0, none⟩ = some (.int .i64 a0_0) := (blk_cell BK150.out 0).trans rfl
                        have hcz30_1 : w18.cell? ⟨gb150, 1, none⟩ = some (.int .i64 a0_1) := (blk_cell BK150.out 1).trans rfl
                        have hcz30_2 : w18.cell? ⟨gb150, 2, none⟩ = some (.int .u64 a0_2) := (blk_cell BK150.out 2).trans rfl
                        have hcz30_3 : w18.cell? ⟨gb150, 3, none⟩ = some (.int .u64 a0_3) := (blk_cell BK150.out 3).trans rfl
                        have hcz30_4 : w18.cell? ⟨gb150, 4, none⟩ = some (.slice (some ad151) l0_4.length c0_4) := (blk_cell BK150.out 4).trans rfl
                        have hfz30_0 := blk_frozen BK150.out 0
                        have hfz30_1 := blk_frozen BK150.out 1
                        have hfz30_2 := blk_frozen BK150.out 2
                        have hfz30_3 := blk_frozen BK150.out 3
                        have hfz30_4 := blk_frozen BK150.out 4
                        go_wp2
                        go_meet
                        case rel => exact ⟨_, (true), (by first | rfl | (simp; done) | (simp [*]; done)), H', ⟨by have := HJ1.out; have := HK2.out; first | omega | exact Nat.le_refl _⟩, ⟨by (with_reducible repeat (first | refine blk_drewN ?_ _ | refine blk_drew ?_ | refine blk_alloc ?_ _)); refine blk_far ?_ NB150_152.out _; (with_reducible repeat (first | refine blk_drewN ?_ _ | refine blk_drew ?_ | refine blk_alloc ?_ _)); refine blk_far ?_ NB150_152.out _; (with_reducible repeat (first | refine blk_drewN ?_ _ | refine blk_drew ?_ | refine blk_alloc ?_ _)); refine blk_far ?_ NB150_152.out _; (with_reducible repeat (first | refine blk_drewN ?_ _ | refine blk_drew ?_ | refine blk_alloc ?_ _)); exact BK150.out⟩, ⟨by (with_reducible repeat (first | refine blk_drewN ?_ _ | refine blk_drew ?_ | refine blk_alloc ?_ _)); refine blk_put (cs := #[.int .i64 ((rd_T37 l0_4 x4_2).f0), .int .i64 ((rd_T37 l0_4 x4_2).f1), .slice none 0 0]) ?_ 2 _ rfl; (with_reducible repeat (first | refine blk_drewN ?_ _ | refine blk_drew ?_ | refine blk_alloc ?_ _)); refine blk_put (cs := #[.int .i64 ((rd_T37 l0_4 x4_2).f0), .int .i64 0, .slice none 0 0]) ?_ 1 _ rfl; (with_reducible repeat (first | refine blk_drewN ?_ _ | refine blk_drew ?_ | refine blk_alloc ?_ _)); refine blk_put (cs := #[.int .i64 0, .int .i64 0, .slice none 0 0]) ?_ 0 _ rfl; (with_reducible repeat (first | refine blk_drewN ?_ _ | refine blk_drew ?_ | refine blk_alloc ?_ _)); exact BK152.out⟩, ⟨by repeat (first | (with_reducible first | exact HB.out | apply below_alloc | apply pw_below_drewN | apply below_drew1 | refine below_set ?_ GE150.out | refine below_set ?_ GE152.out) | exact HB.out)⟩⟩
                      · rw [if_neg c27] at H
                        have c27b0 : decide (a0_0 < ((rd_T37 l0_4 x4_2).f1)) = false := decide_eq_false c27
                        clear c27
                        have H' := Aside0.mk H
                        clear H
                        have hnb31 := NB152_150.out
                        have hnc31 := NB150_152.out
                        have hcz32_0 : w18.cell? ⟨gb152, 0, none⟩ = some (.int .i64 0) := (blk_cell BK152.out 0).trans rfl
                        have hcz32_1 : w18.cell? ⟨gb152, 1, none⟩ = some (.int .i64 0) := (blk_cell BK152.out 1).trans rfl
                        have hcz32_2 : w18.cell? ⟨gb152, 2, none⟩ = some (.slice none 0 0) := (blk_cell BK152.out 2).trans rfl
                        have hfz32_0 := blk_frozen BK152.out 0
                        have hfz32_1 := blk_frozen BK152.out 1
                        have hfz32_2 := blk_frozen BK152.out 2
                        have hcz33_0 : w18.cell? ⟨gb150, 0, none⟩ = some (.int .i64 a0_0) := (blk_cell BK150.out 0).trans rfl
                        have hcz33_1 : w18.cell? ⟨gb150, 1, none⟩ = some (.int .i64 a0_1) := (blk_cell BK150.out 1).trans rfl
                        have hcz33_2 : w18.cell? ⟨gb150, 2, none⟩ = some (.int .u64 a0_2) := (blk_cell BK150.out 2).trans rfl
                        have hcz33_3 : w18.cell? ⟨gb150, 3, none⟩ = some (.int .u64 a0_3) := (blk_cell BK150.out 3).trans rfl
                        have hcz33_4 : w18.cell? ⟨gb150, 4, none⟩ = some (.slice (some ad151) l0_4.length c0_4) := (blk_cell BK150.out 4).trans rfl
                        have hfz33_0 := blk_frozen BK150.out 0
                        have hfz33_1 := blk_frozen BK150.out 1
                        have hfz33_2 := blk_frozen BK150.out 2
                        have hfz33_3 := blk_frozen BK150.out 3
                        have hfz33_4 := blk_frozen BK150.out 4
                        go_wp2
                        go_meet
                        case rel => exact ⟨_, (decide (((rd_T37 l0_4 x4_2).f0) > (wrap64 (a0_0 - ((rd_T37 l0_4 x4_2).f1))))), (by first | rfl | (simp; done) | (simp [*]; done)), H', ⟨by have := HJ1.out; have := HK2.out; first | omega | exact Nat.le_refl _⟩, ⟨by (with_reducible repeat (first | refine blk_drewN ?_ _ | refine blk_drew ?_ | refine blk_alloc ?_ _)); refine blk_far ?_ NB150_152.out _; (with_reducible repeat (first | refine blk_drewN ?_ _ | refine blk_drew ?_ | refine blk_alloc ?_ _)); refine blk_far ?_ NB150_152.out _; (with_reducible repeat (first | refine blk_drewN ?_ _ | refine blk_drew ?_ | refine blk_alloc ?_ _)); refine blk_far ?_ NB150_152.out _; (with_reducible repeat (first | refine blk_drewN ?_ _ | refine blk_drew ?_ | refine blk_alloc ?_ _)); exact BK150.out⟩, ⟨by (with_reducible repeat (first | refine blk_drewN ?_ _ | refine blk_drew ?_ | refine blk_alloc ?_ _)); refine blk_put (cs := #[.int .i64 ((rd_T37 l0_4 x4_2).f0), .int .i64 ((rd_T37 l0_4 x4_2).f1), .slice none 0 0]) ?_ 2 _ rfl; (with_reducible repeat (first | refine blk_drewN ?_ _ | refine blk_drew ?_ | refine blk_alloc ?_ _)); refine blk_put (cs := #[.int .i64 ((rd_T37 l0_4 x4_2).f0), .int .i64 0, .slice none 0 0]) ?_ 1 _ rfl; (with_reducible repeat (first | refine blk_drewN ?_ _ | refine blk_drew ?_ | refine blk_alloc ?_ _)); refine blk_put (cs := #[.int .i64 0, .int .i64 0, .slice none 0 0]) ?_ 0 _ rfl; (with_reducible repeat (first | refine blk_drewN ?_ _ | refine blk_drew ?_ | refine blk_alloc ?_ _)); exact BK152.out⟩, ⟨by repeat (first | (with_reducible first | exact HB.out | apply below_alloc | apply pw_below_drewN | apply below_drew1 | refine below_set ?_ GE150.out | refine below_set ?_ GE152.out) | exact HB.out)⟩⟩
                case rest =>
                  clear HC16
                  try clear c1
                  try clear p1
                  try clear q1
                  try clear hx1
                  try clear c2
                  try clear p2
                  try clear c3
                  try clear c4
                  try clear c4b0
                  try clear c6
                  try clear c6b0
                  try clear p6
                  try clear c8
                  try clear c8b0
                  try clear c10
                  try clear c10b0
                  try clear c13
                  try clear c14
                  try clear c14b0
                  try clear c15
                  try clear c15b0
                  try clear p15
                  try clear q15
                  try clear hx15
                  try clear c18
                  try clear c19
                  try clear c21
                  try clear c21b0
                  try clear c22
                  try clear c24
                  try clear c24b0
                  try clear c25
                  try clear c27
                  try clear c27b0
                  try clear c28
                  try clear c31
                  try clear hcz11_0
                  try clear hcz11_1
                  try clear hcz11_2
                  try clear hcz11_3
                  try clear hcz11_4
                  try clear hcz12_0
                  try clear hcz12_1
                  try clear hcz12_2
                  try clear hcz12_3
                  try clear hcz12_4
                  try clear hcz17_0
                  try clear hcz17_1
                  try clear hcz17_2
                  try clear hcz17_3
                  try clear hcz17_4
                  try clear hcz20_0
                  try clear hcz20_1
                  try clear hcz20_2
                  try clear hcz23_0
                  try clear hcz23_1
                  try clear hcz23_2
                  try clear hcz26_0
                  try clear hcz26_1
                  try clear hcz26_2
                  try clear hcz29_0
                  try clear hcz29_1
                  try clear hcz29_2
                  try clear hcz30_0
                  try clear hcz30_1
                  try clear hcz30_2
                  try clear hcz30_3
                  try clear hcz30_4
                  try clear hcz32_0
                  try clear hcz32_1
                  try clear hcz32_2
                  try clear hcz33_0
                  try clear hcz33_1
                  try clear hcz33_2
                  try clear hcz33_3
                  try clear hcz33_4
                  try clear hcz5_0
                  try clear hcz5_1
                  try clear hcz5_2
                  try clear hcz5_3
                  try clear hcz5_4
                  try clear hcz7_0
                  try clear hcz7_1
                  try clear hcz7_2
                  try clear hcz7_3
                  try clear hcz7_4
                  try clear hcz9_0
                  try clear hcz9_1
                  try clear hcz9_2
                  try clear hcz9_3
                  try clear hcz9_4
                  try clear hfz11_0
                  try clear hfz11_1
                  try clear hfz11_2
                  try clear hfz11_3
                  try clear hfz11_4
                  try clear hfz12_0
                  try clear hfz12_1
                  try clear hfz12_2
                  try clear hfz12_3
                  try clear hfz12_4
                  try clear hfz17_0
                  try clear hfz17_1
                  try clear hfz17_2
                  try clear hfz17_3
                  try clear hfz17_4
                  try clear hfz20_0
                  try clear hfz20_1
                  try clear hfz20_2
                  try clear hfz23_0
                  try clear hfz23_1
                  try clear hfz23_2
                  try clear hfz26_0
                  try clear hfz26_1
                  try clear hfz26_2
                  try clear hfz29_0
                  try clear hfz29_1
                  try clear hfz29_2
                  try clear hfz30_0
                  try clear hfz30_1
                  try clear hfz30_2
                  try clear hfz30_3
                  try clear hfz30_4
                  try clear hfz32_0
                  try clear hfz32_1
                  try clear hfz32_2
                  try clear hfz33_0
                  try clear hfz33_1
                  try clear hfz33_2
                  try clear hfz33_3
                  try clear hfz33_4
                  try clear hfz5_0
                  try clear hfz5_1
                  try clear hfz5_2
                  try clear hfz5_3
                  try clear hfz5_4
                  try clear hfz7_0
                  try clear hfz7_1
                  try clear hfz7_2
                  try clear hfz7_3
                  try clear hfz7_4
                  try clear hfz9_0
                  try clear hfz9_1
                  try clear hfz9_2
                  try clear hfz9_3
                  try clear hfz9_4
                  try clear hx151_0
                  try clear hx151_1
                  try clear hx151_2
                  try clear p151
                  try clear p2
                  try clear q151
                  obtain ⟨kq, x66_15, rfl, HA, HJ15, BK150, BK152, HB⟩ := hcut
                  cases kq with
                  | zero => exact absurd HA.out (by simp [portmanteauref30_Right.j2])
                  | succ kj15 =>
                    have H := HA.out
                    clear HA
                    simp only [portmanteauref30_Right.j2] at H
                    by_cases c34 : x66_15 = true
                    · subst c34
                      have H1 : (some false) = some r := by rw [if_pos rfl] at H; exact H
                      clear H
                      have H := H1
                      clear H1
                      obtain rfl := Option.some.inj H
                      go_wp2
                      go_ret
                      exact ⟨by first | rfl | (simp [errW_none, errW_some] <;> rfl) | (simp [*, errW_none, errW_some] <;> rfl), by repeat (first | (with_reducible first | exact HB.out | apply below_alloc | apply pw_below_drewN | apply below_drew1 | refine below_set ?_ GE150.out | refine below_set ?_ GE152.out) | exact HB.out)⟩
                    · replace c34 := Bool.eq_false_iff.mpr c34
                      subst c34
                      have H1 : (if ((rd_T37 l0_4 x4_2).f1) = 0 then (if ((rd_T37 l0_4 x4_2).f0) = 0 then (if (((rd_T37 l0_4 x4_2).f2).length : Int) = 0 then (portmanteauref30_Right.j3 kj15 x3_2 x4_2 true a0_0 a0_1 a0_2 a0_3 l0_4 ((rd_T37 l0_4 x4_2).f0) ((rd_T37 l0_4 x4_2).f1) ((rd_T37 l0_4 x4_2).f2)) else (if ((rd_T37 l0_4 x4_2).f1) > 0 then (portmanteauref30_Right.j3 kj15 x3_2 x4_2 (decide ((((rd_T37 l0_4 x4_2).f2).length : Int) > 0)) a0_0 a0_1 a0_2 a0_3 l0_4 ((rd_T37 l0_4 x4_2).f0) ((rd_T37 l0_4 x4_2).f1) ((rd_T37 l0_4 x4_2).f2)) else (portmanteauref30_Right.j3 kj15 x3_2 x4_2 false a0_0 a0_1 a0_2 a0_3 l0_4 ((rd_T37 l0_4 x4_2).f0) ((rd_T37 l0_4 x4_2).f1) ((rd_T37 l0_4 x4_2).f2)))) else (portmanteauref30_Right.j3 kj15 x3_2 x4_2 true a0_0 a0_1 a0_2 a0_3 l0_4 ((rd_T37 l0_4 x4_2).f0) ((rd_T37 l0_4 x4_2).f1) ((rd_T37 l0_4 x4_2).f2))) else (if ((rd_T37 l0_4 x4_2).f1) > 0 then (portmanteauref30_Right.j3 kj15 x3_2 x4_2 (decide ((((rd_T37 l0_4 x4_2).f2).length : Int) > 0)) a0_0 a0_1 a0_2 a0_3 l0_4 ((rd_T37 l0_4 x4_2).f0) ((rd_T37 l0_4 x4_2).f1) ((rd_T37 l0_4 x4_2).f2)) else (portmanteauref30_Right.j3 kj15 x3_2 x4_2 false a0_0 a0_1 a0_2 a0_3 l0_4 ((rd_T37 l0_4 x4_2).f0) ((rd_T37 l0_4 x4_2).f1) ((rd_T37 l0_4 x4_2).f2)))) = some r := by rw [if_neg (show ¬ (false = true) by decide)] at H; exact H
                      clear H
                      have H := H1
                      clear H1
                      have HC35 := Aside0.mk H
                      clear H
                      go_upto_region 10 with (fail)
                      go_cut [91] (fun v91 wc => ∃ (kq : Nat) (x91_34 : Bool), v91 = .bool x91_34 ∧ Aside0 (portmanteauref30_Right.j3 kq x3_2 x4_2 x91_34 a0_0 a0_1 a0_2 a0_3 l0_4 ((rd_T37 l0_4 x4_2).f0) ((rd_T37 l0_4 x4_2).f1) ((rd_T37 l0_4 x4_2).f2) = some r) ∧ Aside0 (kq ≤ kj15) ∧ Aside0 (wc.heap[gb150]? = some (.cells #[.int .i64 a0_0, .int .i64 a0_1, .int .u64 a0_2, .int .u64 a0_3, (.slice (some ad151) l0_4.length c0_4)] 27 (0, 0))) ∧ Aside0 (wc.heap[gb152]? = some (.cells #[.int .i64 ((rd_T37 l0_4 x4_2).f0), .int .i64 ((rd_T37 l0_4 x4_2).f1), (.slice A151_2 ((rd_T37 l0_4 x4_2).f2).length c151_2)] 37 (0, 0))) ∧ Aside0 (Below w.heap.size w wc))
                      case first =>
                        have H := HC35.out
                        clear HC35
                        by_cases c36 : ((rd_T37 l0_4 x4_2).f1) = 0
                        · rw [if_pos c36] at H
                          have c36b0 : (((rd_T37 l0_4 x4_2).f1) == 0) = true := beq_iff_eq.mpr c36
                          have c36b1 : (((rd_T37 l0_4 x4_2).f1) != 0) = false := bne_eq_false_iff_eq.mpr c36
                          clear c36
                          (first | rw [c36b0] | (simp only [i64_w, i32_w]; rw [c36b0]) | skip)
                          by_cases c37 : ((rd_T37 l0_4 x4_2).f0) = 0
                          · rw [if_pos c37] at H
                            have c37b0 : (((rd_T37 l0_4 x4_2).f0) == 0) = true := beq_iff_eq.mpr c37
                            have c37b1 : (((rd_T37 l0_4 x4_2).f0) != 0) = false := bne_eq_false_iff_eq.mpr c37
                            clear c37
                            by_cases c38 : (((rd_T37 l0_4 x4_2).f2).length : Int) = 0
                            · rw [if_pos c38] at H
                              have c38b0 : ((((rd_T37 l0_4 x4_2).f2).length : Int) == 0) = true := beq_iff_eq.mpr c38
                              have c38b1 : ((((rd_T37 l0_4 x4_2).f2).length : Int) != 0) = false := bne_eq_false_iff_eq.mpr c38
                              clear c38
                              have H' := Aside0.mk H
                              clear H
                              have hnb39 := NB152_150.out
                              have hnc39 := NB150_152.out
                              have hcz40_0 : wc.cell? ⟨gb152, 0, none⟩ = some (.int .i64 ((rd_T37 l0_4 x4_2).f0)) := (blk_cell BK152.out 0).trans rfl
                              have hcz40_1 : wc.cell? ⟨gb152, 1, none⟩ = some (.int .i64 ((rd_T37 l0_4 x4_2).f1)) := (blk_cell BK152.out 1).trans rfl
                              have hcz40_2 : wc.cell? ⟨gb152, 2, none⟩ = some (.slice A151_2 ((rd_T37 l0_4 x4_2).f2).length c151_2) := (blk_cell BK152.out 2).trans rfl
                              have hfz40_0 := blk_frozen BK152.out 0
                              have hfz40_1 := blk_frozen BK152.out 1
                              have hfz40_2 := blk_frozen BK152.out 2
                              go_wp2
                              go_meet
                              case rel => exact ⟨_, (true), (by first | rfl | (simp; done) | (simp [*]; done)), H', ⟨by have := HJ1.out; have := HK2.out; have := HJ15.out; first | omega | exact Nat.le_refl _⟩, ⟨by (with_reducible repeat (first | refine blk_drewN ?_ _ | refine blk_drew ?_ | refine blk_alloc ?_ _)); exact BK150.out⟩, ⟨by (with_reducible repeat (first | refine blk_drewN ?_ _ | refine blk_drew ?_ | refine blk_alloc ?_ _)); exact BK152.out⟩, ⟨by repeat (first | (with_reducible first | exact HB.out | apply below_alloc | apply pw_below_drewN | apply below_drew1 | refine below_set ?_ GE150.out | refine below_set ?_ GE152.out) | exact HB.out)⟩⟩
                            · rw [if_neg c38] at H
                              have c38b0 : ((((rd_T37 l0_4 x4_2).f2).length : Int) == 0) = false := beq_eq_false_iff_ne.mpr c38
                              have c38b1 : ((((rd_T37 l0_4 x4_2).f2).length : Int) != 0) = true := bne_iff_ne.mpr c38
                              have c38b2 : ¬ (((rd_T37 l0_4 x4_2).f2) = []) := fun h_ => c38 (by rw [h_]; rfl)
                              by_cases c41 : ((rd_T37 l0_4 x4_2).f1) > 0
                              · rw [if_pos c41] at H
                                have c41b0 : decide (0 < ((rd_T37 l0_4 x4_2).f1)) = true := decide_eq_true c41
                                clear c41
                                have H' := Aside0.mk H
                                clear H
                                have hnb42 := NB152_150.out
                                have hnc42 := NB150_152.out
                                have hcz43_0 : wc.cell? ⟨gb152, 0, none⟩ = some (.int .i64 ((rd_T37 l0_4 x4_2).f0)) := (blk_cell BK152.out 0).trans rfl
                                have hcz43_1 : wc.cell? ⟨gb152, 1, none⟩ = some (.int .i64 ((rd_T37 l0_4 x4_2).f1)) := (blk_cell BK152.out 1).trans rfl
                                have hcz43_2 : wc.cell? ⟨gb152, 2, none⟩ = some (.slice A151_2 ((rd_T37 l0_4 x4_2).f2).length c151_2) := (blk_cell BK152.out 2).trans rfl
                                have hfz43_0 := blk_frozen BK152.out 0
                                have hfz43_1 := blk_frozen BK152.out 1
                                have hfz43_2 := blk_frozen BK152.out 2
                                go_wp2
                                go_meet
                                case rel => exact ⟨_, (decide ((((rd_T37 l0_4 x4_2).f2).length : Int) > 0)), (by first | rfl | (simp; done) | (simp [*]; done)), H', ⟨by have := HJ1.out; have := HK2.out; have := HJ15.out; first | omega | exact Nat.le_refl _⟩, ⟨by (with_reducible repeat (first | refine blk_drewN ?_ _ | refine blk_drew ?_ | refine blk_alloc ?_ _)); exact BK150.out⟩, ⟨by (with_reducible repeat (first | refine blk_drewN ?_ _ | refine blk_drew ?_ | refine blk_alloc ?_ _)); exact BK152.out⟩, ⟨by repeat (first | (with_reducible first | exact HB.out | apply below_alloc | apply pw_below_drewN | apply below_drew1 | refine below_set ?_ GE150.out | refine below_set ?_ GE152.out) | exact HB.out)⟩⟩
                              · rw [if_neg c41] at H
                                have c41b0 : decide (0 < ((rd_T37 l0_4 x4_2).f1)) = false := decide_eq_false c41
                                clear c41
                                have H' := Aside0.mk H
                                clear H
                                have hnb44 := NB152_150.out
                                have hnc44 := NB150_152.out
                                have hcz45_0 : wc.cell? ⟨gb152, 0, none⟩ = some (.int .i64 ((rd_T37 l0_4 x4_2).f0)) := (blk_cell BK152.out 0).trans rfl
                                have hcz45_1 : wc.cell? ⟨gb152, 1, none⟩ = some (.int .i64 ((rd_T37 l0_4 x4_2).f1)) := (blk_cell BK152.out 1).trans rfl
                                have hcz45_2 : wc.cell? ⟨gb152, 2, none⟩ = some (.slice A151_2 ((rd_T37 l0_4 x4_2).f2).length c151_2) := (blk_cell BK152.out 2).trans rfl
                                have hfz45_0 := blk_frozen BK152.out 0
                                have hfz45_1 := blk_frozen BK152.out 1
                                have hfz45_2 := blk_frozen BK152.out 2
                                go_wp2
                                go_meet
                                case rel => exact ⟨_, (false), (by first | rfl | (simp; done) | (simp [*]; done)), H', ⟨by have := HJ1.out; have := HK2.out; have := HJ15.out; first | omega | exact Nat.le_refl _⟩, ⟨by (with_reducible repeat (first | refine blk_drewN ?_ _ | refine blk_drew ?_ | refine blk_alloc ?_ _)); exact BK150.out⟩, ⟨by (with_reducible repeat (first | refine blk_drewN ?_ _ | refine blk_drew ?_ | refine blk_alloc ?_ _)); exact BK152.out⟩, ⟨by repeat (first | (with_reducible first | exact HB.out | apply below_alloc | apply pw_below_drewN | apply below_drew1 | refine below_set ?_ GE150.out | refine below_set ?_ GE152.out) | exact HB.out)⟩⟩
                          · rw [if_neg c37] at H
                            have c37b0 : (((rd_T37 l0_4 x4_2).f0) == 0) = false := beq_eq_false_iff_ne.mpr c37
                            have c37b1 : (((rd_T37 l0_4 x4_2).f0) != 0) = true := bne_iff_ne.mpr c37
                            have H' := Aside0.mk H
                            clear H
                            have hnb46 := NB152_150.out
                            have hnc46 := NB150_152.out
                            have hcz47_0 : wc.cell? ⟨gb152, 0, none⟩ = some (.int .i64 ((rd_T37 l0_4 x4_2).f0)) := (blk_cell BK152.out 0).trans rfl
                            have hcz47_1 : wc.cell? ⟨gb152, 1, none⟩ = some (.int .i64 ((rd_T37 l0_4 x4_2).f1)) := (blk_cell BK152.out 1).trans rfl
                            have hcz47_2 : wc.cell? ⟨gb152, 2, none⟩ = some (.slice A151_2 ((rd_T37 l0_4 x4_2).f2).length c151_2) := (blk_cell BK152.out 2).trans rfl
                            have hfz47_0 := blk_frozen BK152.out 0
                            have hfz47_1 := blk_frozen BK152.out 1
                            have hfz47_2 := blk_frozen BK152.out 2
                            go_wp2
                            go_meet
                            case rel => exact ⟨_, (true), (by first | rfl | (simp; done) | (simp [*]; done)), H', ⟨by have := HJ1.out; have := HK2.out; have := HJ15.out; first | omega | exact Nat.le_refl _⟩, ⟨by (with_reducible repeat (first | refine blk_drewN ?_ _ | refine blk_drew ?_ | refine blk_alloc ?_ _)); exact BK150.out⟩, ⟨by (with_reducible repeat (first | refine blk_drewN ?_ _ | refine blk_drew ?_ | refine blk_alloc ?_ _)); exact BK152.out⟩, ⟨by repeat (first | (with_reducible first | exact HB.out | apply below_alloc | apply pw_below_drewN | apply below_drew1 | refine below_set ?_ GE150.out | refine below_set ?_ GE152.out) | exact HB.out)⟩⟩
                        · rw [if_neg c36] at H
                          have c36b0 : (((rd_T37 l0_4 x4_2).f1) == 0) = false := beq_eq_false_iff_ne.mpr c36
                          have c36b1 : (((rd_T37 l0_4 x4_2).f1) != 0) = true := bne_iff_ne.mpr c36
                          (first | rw [c36b0] | (simp only [i64_w, i32_w]; rw [c36b0]) | skip)
                          by_cases c48 : ((rd_T37 l0_4 x4_2).f1) > 0
                          · rw [if_pos c48] at H
                            have c48b0 : decide (0 < ((rd_T37 l0_4 x4_2).f1)) = true := decide_eq_true c48
                            clear c48
                            have H' := Aside0.mk H
                            clear H
                            have hnb49 := NB152_150.out
                            have hnc49 := NB150_152.out
                            have hcz50_0 : wc.cell? ⟨gb152, 0, none⟩ = some (.int .i64 ((rd_T37 l0_4 x4_2).f0)) := (blk_cell BK152.out 0).trans rfl
                            have hcz50_1 : wc.cell? ⟨gb152, 1, none⟩ = some (.int .i64 ((rd_T37 l0_4 x4_2).f1)) := (blk_cell BK152.out 1).trans rfl
                            have hcz50_2 : wc.cell? ⟨gb152, 2, none⟩ = some (.slice A151_2 ((rd_T37 l0_4 x4_2).f2).length c151_2) := (blk_cell BK152.out 2).trans rfl
                            have hfz50_0 := blk_frozen BK152.out 0
                            have hfz50_1 := blk_frozen BK152.out 1
                            have hfz50_2 := blk_frozen BK152.out 2
                            go_wp2
                            go_meet
                            case rel => exact ⟨_, (decide ((((rd_T37 l0_4 x4_2).f2).length : Int) > 0)), (by first | rfl | (simp; done) | (simp [*]; done)), H', ⟨by have := HJ1.out; have := HK2.out; have := HJ15.out; first | omega | exact Nat.le_refl _⟩, ⟨by (with_reducible repeat (first | refine blk_drewN ?_ _ | refine blk_drew ?_ | refine blk_alloc ?_ _)); exact BK150.out⟩, ⟨by (with_reducible repeat (first | refine blk_drewN ?_ _ | refine blk_drew ?_ | refine blk_alloc ?_ _)); exact BK152.out⟩, ⟨by repeat (first | (with_reducible first | exact HB.out | apply below_alloc | apply pw_below_drewN | apply below_drew1 | refine below_set ?_ GE150.out | refine below_set ?_ GE152.out) | exact HB.out)⟩⟩
                          · rw [if_neg c48] at H
                            have c48b0 : decide (0 < ((rd_T37 l0_4 x4_2).f1)) = false := decide_eq_false c48
                            clear c48
                            have H' := Aside0.mk H
                            clear H
                            have hnb51 := NB152_150.out
                            have hnc51 := NB150_152.out
                            have hcz52_0 : wc.cell? ⟨gb152, 0, none⟩ = some (.int .i64 ((rd_T37 l0_4 x4_2).f0)) := (blk_cell BK152.out 0).trans rfl
                            have hcz52_1 : wc.cell? ⟨gb152, 1, none⟩ = some (.int .i64 ((rd_T37 l0_4 x4_2).f1)) := (blk_cell BK152.out 1).trans rfl
                            have hcz52_2 : wc.cell? ⟨gb152, 2, none⟩ = some (.slice A151_2 ((rd_T37 l0_4 x4_2).f2).length c151_2) := (blk_cell BK152.out 2).trans rfl
                            have hfz52_0 := blk_frozen BK152.out 0
                            have hfz52_1 := blk_frozen BK152.out 1
                            have hfz52_2 := blk_frozen BK152.out 2
                            go_wp2
                            go_meet
                            case rel => exact ⟨_, (false), (by first | rfl | (simp; done) | (simp [*]; done)), H', ⟨by have := HJ1.out; have := HK2.out; have := HJ15.out; first | omega | exact Nat.le_refl _⟩, ⟨by (with_reducible repeat (first | refine blk_drewN ?_ _ | refine blk_drew ?_ | refine blk_alloc ?_ _)); exact BK150.out⟩, ⟨by (with_reducible repeat (first | refine blk_drewN ?_ _ | refine blk_drew ?_ | refine blk_alloc ?_ _)); exact BK152.out⟩, ⟨by repeat (first | (with_reducible first | exact HB.out | apply below_alloc | apply pw_below_drewN | apply below_drew1 | refine below_set ?_ GE150.out | refine below_set ?_ GE152.out) | exact HB.out)⟩⟩
                      case rest =>
                        clear HC35
                        try clear c1
                        try clear p1
                        try clear q1
                        try clear hx1
                        try clear c2
                        try clear p2
                        try clear c3
                        try clear c4
                        try clear c4b0
                        try clear c5
                        try clear c6
                        try clear c6b0
                        try clear p6
                        try clear c8
                        try clear c8b0
                        try clear c10
                        try clear c10b0
                        try clear c13
                        try clear c14
                        try clear c14b0
                        try clear c15
                        try clear c15b0
                        try clear p15
                        try clear q15
                        try clear hx15
                        try clear c18
                        try clear c19
                        try clear c21
                        try clear c21b0
                        try clear c22
                        try clear c24
                        try clear c24b0
                        try clear c25
                        try clear c27
                        try clear c27b0
                        try clear c28
                        try clear c31
                        try clear c34
                        try clear c36
                        try clear c36b0
                        try clear c36b1
                        try clear c37
                        try clear c37b0
                        try clear c37b1
                        try clear c38
                        try clear c38b0
                        try clear c38b1
                        try clear c38b2
                        try clear c39
                        try clear c41
                        try clear c41b0
                        try clear c42
                        try clear c44
                        try clear c46
                        try clear c48
                        try clear c48b0
                        try clear c49
                        try clear c51
                        try clear hcz11_0
                        try clear hcz11_1
                        try clear hcz11_2
                        try clear hcz11_3
                        try clear hcz11_4
                        try clear hcz12_0
                        try clear hcz12_1
                        try clear hcz12_2
                        try clear hcz12_3
                        try clear hcz12_4
                        try clear hcz17_0
                        try clear hcz17_1
                        try clear hcz17_2
                        try clear hcz17_3
                        try clear hcz17_4
                        try clear hcz20_0
                        try clear hcz20_1
                        try clear hcz20_2
                        try clear hcz23_0
                        try clear hcz23_1
                        try clear hcz23_2
                        try clear hcz26_0
                        try clear hcz26_1
                        try clear hcz26_2
                        try clear hcz29_0
                        try clear hcz29_1
                        try clear hcz29_2
                        try clear hcz30_0
                        try clear hcz30_1
                        try clear hcz30_2
                        try clear hcz30_3
                        try clear hcz30_4
                        try clear hcz32_0
                        try clear hcz32_1
                        try clear hcz32_2
                        try clear hcz33_0
                        try clear hcz33_1
                        try clear hcz33_2
                        try clear hcz33_3
                        try clear hcz33_4
                        try clear hcz40_0
                        try clear hcz40_1
                        try clear hcz40_2
                        try clear hcz43_0
                        try clear hcz43_1
                        try clear hcz43_2
                        try clear hcz45_0
                        try clear hcz45_1
                        try clear hcz45_2
                        try clear hcz47_0
                        try clear hcz47_1
                        try clear hcz47_2
                        try clear hcz50_0
                        try clear hcz50_1
                        try clear hcz50_2
                        try clear hcz52_0
                        try clear hcz52_1
                        try clear hcz52_2
                        try clear hcz5_0
                        try clear hcz5_1
                        try clear hcz5_2
                        try clear hcz5_3
                        try clear hcz5_4
                        try clear hcz7_0
                        try clear hcz7_1
                        try clear hcz7_2
                        try clear hcz7_3
                        try clear hcz7_4
                        try clear hcz9_0
                        try clear hcz9_1
                        try clear hcz9_2
                        try clear hcz9_3
                        try clear hcz9_4
                        try clear hfz11_0
                        try clear hfz11_1
                        try clear hfz11_2
                        try clear hfz11_3
                        try clear hfz11_4
                        try clear hfz12_0
                        try clear hfz12_1
                        try clear hfz12_2
                        try clear hfz12_3
                        try clear hfz12_4
                        try clear hfz17_0
                        try clear hfz17_1
                        try clear hfz17_2
                        try clear hfz17_3
                        try clear hfz17_4
                        try clear hfz20_0
                        try clear hfz20_1
                        try clear hfz20_2
                        try clear hfz23_0
                        try clear hfz23_1
                        try clear hfz23_2
                        try clear hfz26_0
                        try clear hfz26_1
                        try clear hfz26_2
                        try clear hfz29_0
                        try clear hfz29_1
                        try clear hfz29_2
                        try clear hfz30_0
                        try clear hfz30_1
                        try clear hfz30_2
                        try clear hfz30_3
                        try clear hfz30_4
                        try clear hfz32_0
                        try clear hfz32_1
                        try clear hfz32_2
                        try clear hfz33_0
                        try clear hfz33_1
                        try clear hfz33_2
                        try clear hfz33_3
                        try clear hfz33_4
                        try clear hfz40_0
                        try clear hfz40_1
                        try clear hfz40_2
                        try clear hfz43_0
                        try clear hfz43_1
                        try clear hfz43_2
                        try clear hfz45_0
                        try clear hfz45_1
                        try clear hfz45_2
                        try clear hfz47_0
                        try clear hfz47_1
                        try clear hfz47_2
                        try clear hfz50_0
                        try clear hfz50_1
                        try clear hfz50_2
                        try clear hfz52_0
                        try clear hfz52_1
                        try clear hfz52_2
                        try clear hfz5_0
                        try clear hfz5_1
                        try clear hfz5_2
                        try clear hfz5_3
                        try clear hfz5_4
                        try clear hfz7_0
                        try clear hfz7_1
                        try clear hfz7_2
                        try clear hfz7_3
                        try clear hfz7_4
                        try clear hfz9_0
                        try clear hfz9_1
                        try clear hfz9_2
                        try clear hfz9_3
                        try clear hfz9_4
                        try clear hx151_0
                        try clear hx151_1
                        try clear hx151_2
                        try clear p1
                        try clear p15
                        try clear p151
                        try clear p2
                        try clear p6
                        try clear q1
                        try clear q15
                        try clear q151
                        obtain ⟨kq, x91_34, rfl, HA, HJ34, BK150, BK152, HB⟩ := hcut
                        cases kq with
                        | zero => exact absurd HA.out (by simp [portmanteauref30_Right.j3])
                        | succ kj34 =>
                          have H := HA.out
                          clear HA
                          simp only [portmanteauref30_Right.j3] at H
                          by_cases c53 : x91_34 = true
                          · subst c53
                            have H1 : (some false) = some r := by rw [if_pos rfl] at H; exact H
                            clear H
                            have H := H1
                            clear H1
                            obtain rfl := Option.some.inj H
                            go_wp2
                            go_ret
                            exact ⟨by first | rfl | (simp [errW_none, errW_some] <;> rfl) | (simp [*, errW_none, errW_some] <;> rfl), by repeat (first | (with_reducible first | exact HB.out | apply below_alloc | apply pw_below_drewN | apply below_drew1 | refine below_set ?_ GE150.out | refine below_set ?_ GE152.out) | exact HB.out)⟩
                          · replace c53 := Bool.eq_false_iff.mpr c53
                            subst c53
                            have H1 : (if (wrap64 ((wrap64 (x3_2 + ((rd_T37 l0_4 x4_2).f1))) + (((rd_T37 l0_4 x4_2).f2).length : Int))) > a0_1 then (some false) else (portmanteauref30_Right.l0 kj34 (wrap64 ((wrap64 (x3_2 + ((rd_T37 l0_4 x4_2).f1))) + (((rd_T37 l0_4 x4_2).f2).length : Int))) (wrap64 (x4_2 + 1)) a0_0 a0_1 a0_2 a0_3 l0_4)) = some r := by rw [if_neg (show ¬ (false = true) by decide)] at H; exact H
                            clear H
                            have H := H1
                            clear H1
                            by_cases c54 : (wrap64 ((wrap64 (x3_2 + ((rd_T37 l0_4 x4_2).f1))) + (((rd_T37 l0_4 x4_2).f2).length : Int))) > a0_1
                            · rw [if_pos c54] at H
                              have c54b0 : decide (a0_1 < (wrap64 ((wrap64 (x3_2 + ((rd_T37 l0_4 x4_2).f1))) + (((rd_T37 l0_4 x4_2).f2).length : Int)))) = true := decide_eq_true c54
                              clear c54
                              obtain rfl := Option.some.inj H
                              have hnb55 := NB152_150.out
                              have hnc55 := NB150_152.out
                              have hcz56_0 : wc.cell? ⟨gb152, 0, none⟩ = some (.int .i64 ((rd_T37 l0_4 x4_2).f0)) := (blk_cell BK152.out 0).trans rfl
                              have hcz56_1 : wc.cell? ⟨gb152, 1, none⟩ = some (.int .i64 ((rd_T37 l0_4 x4_2).f1)) := (blk_cell BK152.out 1).trans rfl
                              have hcz56_2 : wc.cell? ⟨gb152, 2, none⟩ = some (.slice A151_2 ((rd_T37 l0_4 x4_2).f2).length c151_2) := (blk_cell BK152.out 2).trans rfl
                              have hfz56_0 := blk_frozen BK152.out 0
                              have hfz56_1 := blk_frozen BK152.out 1
                              have hfz56_2 := blk_frozen BK152.out 2
                              have hcz57_0 : wc.cell? ⟨gb150, 0, none⟩ = some (.int .i64 a0_0) := (blk_cell BK150.out 0).trans rfl
                              have hcz57_1 : wc.cell? ⟨gb150, 1, none⟩ = some (.int .i64 a0_1) := (blk_cell BK150.out 1).trans rfl
                              have hcz57_2 : wc.cell? ⟨gb150, 2, none⟩ = some (.int .u64 a0_2) := (blk_cell BK150.out 2).trans rfl
                              have hcz57_3 : wc.cell? ⟨gb150, 3, none⟩ = some (.int .u64 a0_3) := (blk_cell BK150.out 3).trans rfl
                              have hcz57_4 : wc.cell? ⟨gb150, 4, none⟩ = some (.slice (some ad151) l0_4.length c0_4) := (blk_cell BK150.out 4).trans rfl
                              have hfz57_0 := blk_frozen BK150.out 0
                              have hfz57_1 := blk_frozen BK150.out 1
                              have hfz57_2 := blk_frozen BK150.out 2
                              have hfz57_3 := blk_frozen BK150.out 3
                              have hfz57_4 := blk_frozen BK150.out 4
                              go_wp2
                              go_ret
                              exact ⟨by first | rfl | (simp [errW_none, errW_some] <;> rfl) | (simp [*, errW_none, errW_some] <;> rfl), by repeat (first | (with_reducible first | exact HB.out | apply below_alloc | apply pw_below_drewN | apply below_drew1 | refine below_set ?_ GE150.out | refine below_set ?_ GE152.out) | exact HB.out)⟩
                            · rw [if_neg c54] at H
                              have c54b0 : decide (a0_1 < (wrap64 ((wrap64 (x3_2 + ((rd_T37 l0_4 x4_2).f1))) + (((rd_T37 l0_4 x4_2).f2).length : Int)))) = false := decide_eq_false c54
                              clear c54
                              have H' := Aside0.mk H
                              clear H
                              have hnb58 := NB152_150.out
                              have hnc58 := NB150_152.out
                              have hcz59_0 : wc.cell? ⟨gb152, 0, none⟩ = some (.int .i64 ((rd_T37 l0_4 x4_2).f0)) := (blk_cell BK152.out 0).trans rfl
                              have hcz59_1 : wc.cell? ⟨gb152, 1, none⟩ = some (.int .i64 ((rd_T37 l0_4 x4_2).f1)) := (blk_cell BK152.out 1).trans rfl
                              have hcz59_2 : wc.cell? ⟨gb152, 2, none⟩ = some (.slice A151_2 ((rd_T37 l0_4 x4_2).f2).length c151_2) := (blk_cell BK152.out 2).trans rfl
                              have hfz59_0 := blk_frozen BK152.out 0
                              have hfz59_1 := blk_frozen BK152.out 1
                              have hfz59_2 := blk_frozen BK152.out 2
                              have hcz60_0 : wc.cell? ⟨gb150, 0, none⟩ = some (.int .i64 a0_0) := (blk_cell BK150.out 0).trans rfl
                              have hcz60_1 : wc.cell? ⟨gb150, 1, none⟩ = some (.int .i64 a0_1) := (blk_cell BK150.out 1).trans rfl
                              have hcz60_2 : wc.cell? ⟨gb150, 2, none⟩ = some (.int .u64 a0_2) := (blk_cell BK150.out 2).trans rfl
                              have hcz60_3 : wc.cell? ⟨gb150, 3, none⟩ = some (.int .u64 a0_3) := (blk_cell BK150.out 3).trans rfl
                              have hcz60_4 : wc.cell? ⟨gb150, 4, none⟩ = some (.slice (some ad151) l0_4.length c0_4) := (blk_cell BK150.out 4).trans rfl
                              have hfz60_0 := blk_frozen BK150.out 0
                              have hfz60_1 := blk_frozen BK150.out 1
                              have hfz60_2 := blk_frozen BK150.out 2
                              have hfz60_3 := blk_frozen BK150.out 3
                              have hfz60_4 := blk_frozen BK150.out 4
                              go_wp2
                              go_roundg kj34
                              case measure => have := HJ1.out; have := HK2.out; have := HJ15.out; have := HJ34.out; omega
                              case rel => exact ⟨(wrap64 ((wrap64 (x3_2 + ((rd_T37 l0_4 x4_2).f1))) + (((rd_T37 l0_4 x4_2).f2).length : Int))), (wrap64 (x4_2 + 1)), (by first | rfl | (simp; done) | (simp [*]; done)), (by first | rfl | (simp; done) | (simp [*]; done)), H', ⟨by have := HJ1.out; have := HK2.out; have := HJ15.out; have := HJ34.out; omega⟩, ⟨by (with_reducible repeat (first | refine blk_drewN ?_ _ | refine blk_drew ?_ | refine blk_alloc ?_ _)); exact BK150.out⟩, ⟨by repeat (first | (with_reducible first | exact HB.out | apply below_alloc | apply pw_below_drewN | apply below_drew1 | refine below_set ?_ GE150.out | refine below_set ?_ GE152.out) | exact HB.out)⟩⟩
              · rw [if_neg c15] at H
                exact absurd H (by simp)
            · rw [if_neg c14] at H
              have c14b0 : decide (x4_2 < (l0_4.length : Int)) = false := decide_eq_false c14
              clear c14
              obtain rfl := Option.some.inj H
              have hcz61_0 : wr.cell? ⟨gb150, 0, none⟩ = some (.int .i64 a0_0) := (blk_cell BK150.out 0).trans rfl
              have hcz61_1 : wr.cell? ⟨gb150, 1, none⟩ = some (.int .i64 a0_1) := (blk_cell BK150.out 1).trans rfl
              have hcz61_2 : wr.cell? ⟨gb150, 2, none⟩ = some (.int .u64 a0_2) := (blk_cell BK150.out 2).trans rfl
              have hcz61_3 : wr.cell? ⟨gb150, 3, none⟩ = some (.int .u64 a0_3) := (blk_cell BK150.out 3).trans rfl
              have hcz61_4 : wr.cell? ⟨gb150, 4, none⟩ = some (.slice A0_4 l0_4.length c0_4) := (blk_cell BK150.out 4).trans rfl
              have hfz61_0 := blk_frozen BK150.out 0
              have hfz61_1 := blk_frozen BK150.out 1
              have hfz61_2 := blk_frozen BK150.out 2
              have hfz61_3 := blk_frozen BK150.out 3
              have hfz61_4 := blk_frozen BK150.out 4
              go_wp2
              go_ret
              exact ⟨by first | rfl | (simp [errW_none, errW_some] <;> rfl) | (simp [*, errW_none, errW_some] <;> rfl), by repeat (first | (with_reducible first | exact HB.out | apply below_alloc | apply pw_below_drewN | apply below_drew1 | refine below_set ?_ GE150.out) | exact HB.out)⟩
end Go.Proofs.Ytogplkochcalpaa.PD
