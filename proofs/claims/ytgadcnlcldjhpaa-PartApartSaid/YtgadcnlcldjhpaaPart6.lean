/- Where what lies in a flash: the page's example, and the laws' walks. -/
import Derived.Test.YtgadcnlcldjhpaaPart5
set_option linter.unusedVariables false
set_option linter.unusedSimpArgs false
namespace Go.Proofs.Ytgadcnlcldjhpaa.Part
open Go.RowKit Go.Proofs.YtgadcnlcldjhpaaW.PrintWords Go.Proofs.YtgadcnlcldjhpaaW.PrintLast Go.Proofs.YtgadcnlcldjhpaaW.PrintMore PartFn
theorem num_any (x : Int) (w : World) : Calls Try.prog 29 #[.int .i64 x] w fun e w' => e = .returned (.int .i64 x) ∧ w = w' := by
  go_enter Try.func29, Try.ntmps29
  go_wp2
  go_ret
  exact ⟨rfl, rfl⟩
theorem ex_pck : pck 7 4 64 = 0 := by decide
theorem ex_cnt : cnt 7 4 64 = 2 := by decide
theorem ex_right : right 7 4 64 0 1 2 4 2 := by decide
theorem ex_size : size 7 4 64 0 1 2 4 2 = 512 := by decide
set_option maxHeartbeats 1000000 in
theorem live_any (w : World) : Calls Try.prog 32 #[] w fun e w' => e = .returned (.bool true) ∧ Below w.heap.size w w' := by
  have hm := make_ok 7 4 64 ex_pck
  rw [ex_cnt, show (2 : Int) + 2 = 4 from rfl] at hm
  have hp := page_ok 7 4 64 0 1 2 4 2 1 300 ex_right (.inr rfl) (by rw [ex_size]; omega)
  rw [show sl 1 2 4 * 4 + 300 / 64 = 20 from by decide, show (300 : Int) % 64 = 44 from by decide] at hp
  have hs := size_any 7 4 64 0 1 2 4 2
  rw [ex_size] at hs
  unfold geo pl at hm
  unfold pl at hp hs
  have HM := Aside0.mk hm
  have HP := Aside0.mk hp
  have HS := Aside0.mk hs
  clear hm hp hs
  go_enter Try.func32, Try.ntmps32
  go_wp2_with (first | (go_at_call 27; refine (HM.out _).mono ?_; rintro e w1 ⟨rfl, hb1⟩; have HB1 := Aside0.mk hb1; clear hb1) | (go_at_call 33; refine (HP.out _).mono ?_; rintro e w2 ⟨rfl, hb2⟩; obtain ⟨hc2, hf2⟩ := bcell hb2; have hz2 : w1.heap.size < w2.heap.size := (by have := hb2.size; simp at this; omega); have HB2 := Aside0.mk hb2; clear hb2 hf2) | (go_at_call 37; refine (HS.out _).mono ?_; rintro e w3 ⟨rfl, hb3⟩; have HB3 := Aside0.mk hb3; clear hb3) | (go_at_call 29; refine (num_any _ _).mono ?_; rintro e w' ⟨rfl, rfl⟩))
  go_ret
  have B1 : Below w.heap.size w (w1.alloc (.cells (pl 7 4 64 0 1 2 4 2) 48)) := below_alloc HB1.out _
  have B2 : Below w.heap.size w w2 := below_then B1 B1.size HB2.out
  exact ⟨rfl, below_then B2 B2.size HB3.out⟩
/-- A geometry that came in. -/
theorem geo_of {cs : Array Value} {w : World} {x : Int × Int × Int} (r : ∃ c00 c01, cs.toList = c00 ++ c01 ∧ ((Kd.int .i64).K w x.1 c00 ∧ (fun n : Int => (Lit.int .i64 n).wf = true) x.1) ∧ (∃ c10 c11, c01 = c10 ++ c11 ∧ ((Kd.int .i64).K w x.2.1 c10 ∧ (fun n : Int => (Lit.int .i64 n).wf = true) x.2.1) ∧ ((Kd.int .i64).K w x.2.2 c11 ∧ (fun n : Int => (Lit.int .i64 n).wf = true) x.2.2))) :
    ∃ S P B, cs = geo S P B := by
  obtain ⟨c0, c1, h, ⟨h0, _⟩, c2, c3, h1, ⟨h2, _⟩, ⟨h3, _⟩⟩ := r
  have e0 : c0 = [Value.int .i64 x.1] := h0
  have e2 : c2 = [Value.int .i64 x.2.1] := h2
  have e3 : c3 = [Value.int .i64 x.2.2] := h3
  subst e0 e2 e3 h1
  exact ⟨_, _, _, Array.toList_inj.1 h⟩
theorem two_of {xs : List Int} (h : xs.length = 2) : ∃ a b, xs = [a, b] := by
  match xs, h with
  | [a, b], _ => exact ⟨a, b, rfl⟩
/-- A plan that came in. -/
theorem pl_of {cs1 : Array Value} {w : World} {x1 : (Int × Int × Int) × (List Int) × (List Int) × Int} (r1 : ∃ c00 c01, cs1.toList = c00 ++ c01 ∧ (∃ c1000 c1001, c00 = c1000 ++ c1001 ∧ ((Kd.int .i64).K w x1.1.1 c1000 ∧ (fun n : Int => (Lit.int .i64 n).wf = true) x1.1.1) ∧ (∃ c1010 c1011, c1001 = c1010 ++ c1011 ∧ ((Kd.int .i64).K w x1.1.2.1 c1010 ∧ (fun n : Int => (Lit.int .i64 n).wf = true) x1.1.2.1) ∧ ((Kd.int .i64).K w x1.1.2.2 c1011 ∧ (fun n : Int => (Lit.int .i64 n).wf = true) x1.1.2.2))) ∧ (∃ c10 c11, c01 = c10 ++ c11 ∧ (c10 = nums .i64 x1.2.1 ∧ x1.2.1.length = 2 ∧ ∀ x ∈ x1.2.1, (Lit.int .i64 x).wf = true) ∧ (∃ c20 c21, c11 = c20 ++ c21 ∧ (c20 = nums .i64 x1.2.2.1 ∧ x1.2.2.1.length = 2 ∧ ∀ x ∈ x1.2.2.1, (Lit.int .i64 x).wf = true) ∧ ((Kd.int .i64).K w x1.2.2.2 c21 ∧ (fun n : Int => (Lit.int .i64 n).wf = true) x1.2.2.2)))) :
    ∃ S P B b0 b1 s0 s1 n, cs1 = pl S P B b0 b1 s0 s1 n := by
  obtain ⟨c0, c1, h, ⟨d0, d1, hd, ⟨h0, _⟩, d2, d3, hd2, ⟨h1, _⟩, ⟨h2, _⟩⟩, c2, c3, h3, ⟨h4, h5, _⟩, c4, c5, h6, ⟨h7, h8, _⟩, ⟨h9, _⟩⟩ := r1
  obtain ⟨a, b, hab⟩ := two_of h5
  obtain ⟨c, d, hcd⟩ := two_of h8
  have e0 : d0 = [Value.int .i64 x1.1.1] := h0
  have e1 : d2 = [Value.int .i64 x1.1.2.1] := h1
  have e2 : d3 = [Value.int .i64 x1.1.2.2] := h2
  have e9 : c5 = [Value.int .i64 x1.2.2.2] := h9
  subst e0 e1 e2 e9 hd2 hd h3 h4 h6 h7
  rw [hab, hcd] at h
  exact ⟨_, _, _, _, _, _, _, _, Array.toList_inj.1 h⟩
theorem below_via {A : Nat} {w w1 w2 : World} {o : Obj} (h : Below A w w1) (hA : A ≤ w1.heap.size) (k : Below (w1.alloc o).heap.size (w1.alloc o) w2) : Below A w w2 :=
  have b := h.alloc hA o
  below_then b (Nat.le_trans hA (below_alloc (Below.refl w1.heap.size w1) o).size) k
set_option maxHeartbeats 4000000 in
set_option maxRecDepth 100000 in
/-- The law's walk, over what the calls come to. -/
theorem makes_core (S P B S' P' B' b0 b1 s0 s1 n : Int) (S1 P1 B1 x0 x1 y0 y1 m : Int) (e cp cq : Int) (rq be : Bool) (he : (e == 0) = be) (hcp : (cp == 0) = be) (hq : cq = if rq = true then 0 else 1)
    (HM : ∀ w, Calls Try.prog 27 #[.agg (geo S P B)] w fun e' w' => e' = .returned (.tuple #[.agg (pl S1 P1 B1 x0 x1 y0 y1 m), .int .i64 e]) ∧ Below w.heap.size w w')
    (HR : ∀ w, Calls Try.prog 28 #[.agg (geo S P B)] w fun e' w' => e' = .returned (.tuple #[.agg (pl S1 P1 B1 x0 x1 y0 y1 m), .int .i64 e]) ∧ Below w.heap.size w w')
    (HQ : ∀ w, Calls Try.prog 30 #[.agg (pl S' P' B' b0 b1 s0 s1 n)] w fun e' w' => e' = .returned (.bool rq) ∧ Below w.heap.size w w')
    (HC : ∀ w, Calls Try.prog 31 #[.agg (pl S' P' B' b0 b1 s0 s1 n)] w fun e' w' => e' = .returned (.int .i64 cq) ∧ Below w.heap.size w w')
    (HP : ∀ w, Calls Try.prog 31 #[.agg (pl S1 P1 B1 x0 x1 y0 y1 m)] w fun e' w' => e' = .returned (.int .i64 cp) ∧ Below w.heap.size w w') (w : World) :
    Calls Try.prog 9 #[.agg (geo S P B), .agg (pl S' P' B' b0 b1 s0 s1 n)] w fun e w' => e = .returned (.bool true) ∧ Below w.heap.size w w' := by
  unfold geo at HM HR ⊢
  unfold pl at HM HR HQ HC HP ⊢
  have KM := Aside0.mk HM
  have KR := Aside0.mk HR
  have KQ := Aside0.mk HQ
  have KC := Aside0.mk HC
  have KP := Aside0.mk HP
  have hq2 := eq2
  clear HM HR HQ HC HP
  cases rq
  all_goals
    simp only [if_true, if_false, Bool.false_eq_true] at hq
    subst hq
    go_enter Try.func9, Try.ntmps9
    go_wp2_with (first | (go_at_call 27; refine (KM.out _).mono ?_; rintro e w1 ⟨rfl, hb1⟩; obtain ⟨hc1, hf1⟩ := bcell hb1; have hz1 : w.heap.size + 1 < w1.heap.size := (by have := hb1.size; simp at this; omega); have hz0 : w.heap.size < w1.heap.size := (by omega); have HB1 := Aside0.mk hb1; clear hb1 hf1) | (go_at_call 28; refine (KR.out _).mono ?_; rintro e w2 ⟨rfl, hb2⟩; obtain ⟨hc2, hf2⟩ := bcell hb2; have hz2 : w1.heap.size < w2.heap.size := (by have := hb2.size; simp at this; omega); have hz3 : w.heap.size + 1 < w2.heap.size := (by omega); have hy1 : w.heap.size < w2.heap.size := (by omega); have hy2 : w1.heap.size ≤ w2.heap.size := (by omega); have HB2 := Aside0.mk hb2; clear hb2 hf2) | (go_at_call 30; refine (KQ.out _).mono ?_; rintro e w3 ⟨rfl, hb3⟩; obtain ⟨hc3, hf3⟩ := bcell hb3; have hz4 : w2.heap.size < w3.heap.size := (by have := hb3.size; simp at this; omega); have hy3 : w1.heap.size < w3.heap.size := (by omega); have hy4 : w.heap.size < w3.heap.size := (by omega); have hy5 : w.heap.size + 1 < w3.heap.size := (by omega); have HB3 := Aside0.mk hb3; clear hb3 hf3) | (go_at_call 31; first | ((with_reducible refine (KC.out _).mono ?_); rintro e w4 ⟨rfl, hb4⟩; obtain ⟨hc4, hf4⟩ := bcell hb4; have hz5 : w3.heap.size ≤ w4.heap.size := hb4.size; have hy6 : w1.heap.size < w4.heap.size := (by omega); have hy7 : w2.heap.size < w4.heap.size := (by omega); have HB4 := Aside0.mk hb4; clear hb4 hf4) | ((with_reducible refine (KP.out _).mono ?_); rintro e w5 ⟨rfl, hb5⟩; have HB5 := Aside0.mk hb5; clear hb5)) | (go_at_call 29; refine (num_any _ _).mono ?_; rintro e w' ⟨rfl, rfl⟩) | (go_at_call 32; refine (live_any _).mono ?_; rintro e w6 ⟨rfl, hb6⟩; have HB6 := Aside0.mk hb6; clear hb6))
    go_ret
    refine ⟨rfl, ?_⟩
    have B1 := below2 HB1.out
    have B2 := below_via B1 B1.size HB2.out
    have B3 := below_via B2 B2.size HB3.out
    have B4 := below_then B3 B3.size HB4.out
    have B5 := below_then B4 B4.size HB5.out
    exact below_then B5 B5.size HB6.out
theorem makes_any (S P B S' P' B' b0 b1 s0 s1 n : Int) (w : World) :
    Calls Try.prog 9 #[.agg (geo S P B), .agg (pl S' P' B' b0 b1 s0 s1 n)] w fun e w' => e = .returned (.bool true) ∧ Below w.heap.size w w' := by
  have hcq : chk S' P' B' b0 b1 s0 s1 n = if rb S' P' B' b0 b1 s0 s1 n = true then 0 else 1 := by
    by_cases h : right S' P' B' b0 b1 s0 s1 n
    · rw [rb_true h]; simp [chk, h]
    · rw [rb_false h]; simp [chk, h]
  by_cases h : pck S P B = 0
  · refine makes_core S P B S' P' B' b0 b1 s0 s1 n _ _ _ _ _ _ _ _ 0 0 _ _ true rfl rfl hcq (make_ok S P B h) (refmake_ok S P B h) (refright_any S' P' B' b0 b1 s0 s1 n) (check_any S' P' B' b0 b1 s0 s1 n) ?_ w
    have hr : right S P B 0 1 2 (2 + cnt S P B) (cnt S P B) := by simp [right, h]
    have := check_any S P B 0 1 2 (2 + cnt S P B) (cnt S P B)
    rw [show chk S P B 0 1 2 (2 + cnt S P B) (cnt S P B) = 0 from by simp [chk, hr]] at this
    exact this
  · refine makes_core S P B S' P' B' b0 b1 s0 s1 n _ _ _ _ _ _ _ _ (pck S P B) 1 _ _ false (by simp [h]) rfl hcq (make_err S P B h) (refmake_err S P B h) (refright_any S' P' B' b0 b1 s0 s1 n) (check_any S' P' B' b0 b1 s0 s1 n) ?_ w
    exact check_any 0 0 0 0 0 0 0 0
end Go.Proofs.Ytgadcnlcldjhpaa.Part
