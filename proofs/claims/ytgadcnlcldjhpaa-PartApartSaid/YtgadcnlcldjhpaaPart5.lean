/- Where what lies in a flash: the walks of the document's answer (Right, Size, Page), and of the page's example. -/
import Derived.Test.YtgadcnlcldjhpaaPart4
set_option linter.unusedVariables false
set_option linter.unusedSimpArgs false
namespace Go.Proofs.Ytgadcnlcldjhpaa.Part
open Go.RowKit Go.Proofs.YtgadcnlcldjhpaaW.PrintWords Go.Proofs.YtgadcnlcldjhpaaW.PrintLast Go.Proofs.YtgadcnlcldjhpaaW.PrintMore PartFn
def rb (S P B b0 b1 s0 s1 n : Int) : Bool := decide (right S P B b0 b1 s0 s1 n)
theorem rb_true {S P B b0 b1 s0 s1 n : Int} (h : right S P B b0 b1 s0 s1 n) : rb S P B b0 b1 s0 s1 n = true := decide_eq_true h
theorem rb_false {S P B b0 b1 s0 s1 n : Int} (h : ¬ right S P B b0 b1 s0 s1 n) : rb S P B b0 b1 s0 s1 n = false := decide_eq_false h
theorem ret_b {a b : Bool} (h : a = b) : Ending.returned (.bool a) = .returned (.bool b) := by rw [h]
set_option maxHeartbeats 1000000 in
theorem refright_any (S P B b0 b1 s0 s1 n : Int) (w : World) : Calls Try.prog 30 #[.agg (pl S P B b0 b1 s0 s1 n)] w fun e w' => e = .returned (.bool (rb S P B b0 b1 s0 s1 n)) ∧ Below w.heap.size w w' := by
  by_cases h : pck S P B = 0
  · have hfn := refmake_ok S P B h
    have HR2 : Aside0 (right S P B b0 b1 s0 s1 n ↔ b0 = 0 ∧ b1 = 1 ∧ s0 = 2 ∧ s1 = 2 + cnt S P B ∧ n = cnt S P B) := ⟨by unfold right; simp [h]⟩
    unfold geo at hfn
    unfold pl at hfn ⊢
    have HF := Aside0.mk hfn
    clear hfn h
    obtain ⟨c, hc⟩ : ∃ c, cnt S P B = c := ⟨_, rfl⟩
    rw [hc] at HF HR2
    clear hc
    obtain ⟨d, hd⟩ : ∃ d, 2 + c = d := ⟨_, rfl⟩
    rw [hd] at HF HR2
    clear hd
    have hcase : (b0 ≠ 0) ∨ (b0 = 0 ∧ b1 ≠ 1) ∨ (b0 = 0 ∧ b1 = 1 ∧ s0 ≠ 2) ∨ (b0 = 0 ∧ b1 = 1 ∧ s0 = 2 ∧ s1 ≠ d) ∨ (b0 = 0 ∧ b1 = 1 ∧ s0 = 2 ∧ s1 = d ∧ n ≠ c) ∨ (b0 = 0 ∧ b1 = 1 ∧ s0 = 2 ∧ s1 = d ∧ n = c) := by omega
    rcases hcase with h | ⟨rfl, h⟩ | ⟨rfl, rfl, h⟩ | ⟨rfl, rfl, rfl, h⟩ | ⟨rfl, rfl, rfl, rfl, h⟩ | ⟨rfl, rfl, rfl, rfl, rfl⟩
    case inr.inr.inr.inr.inr =>
      have HV := Aside0.mk (rb_true (HR2.out.2 ⟨rfl, rfl, rfl, rfl, rfl⟩))
      go_enter Try.func30, Try.ntmps30
      go_wp2_with (first | (go_at_call 28; refine (HF.out _).mono ?_; rintro e w1 ⟨rfl, hb1⟩; obtain ⟨hc1, hf1⟩ := bcell hb1; have hz1 : w.heap.size < w1.heap.size := (by have := hb1.size; simp at this; omega); have HB1 := Aside0.mk hb1; clear hb1 hf1))
      go_ret
      exact ⟨ret_b HV.out.symm, below_alloc (below1 HB1.out) _⟩
    all_goals
      have HV := Aside0.mk (rb_false (fun hr => h (by have := HR2.out.1 hr; omega)))
      have hq := beq_eq_false_iff_ne.2 h
      clear h
      go_enter Try.func30, Try.ntmps30
      go_wp2_with (first | (go_at_call 28; refine (HF.out _).mono ?_; rintro e w1 ⟨rfl, hb1⟩; obtain ⟨hc1, hf1⟩ := bcell hb1; have hz1 : w.heap.size < w1.heap.size := (by have := hb1.size; simp at this; omega); have HB1 := Aside0.mk hb1; clear hb1 hf1))
      go_ret
      exact ⟨ret_b HV.out.symm, below_alloc (below1 HB1.out) _⟩
  · have hfn := refmake_err S P B h
    have hpb : (pck S P B == 0) = false := by simp [h]
    have HV := Aside0.mk (rb_false (b0 := b0) (b1 := b1) (s0 := s0) (s1 := s1) (n := n) (fun hr => h hr.1))
    unfold geo at hfn
    unfold pl at hfn ⊢
    have HF := Aside0.mk hfn
    clear hfn h
    go_enter Try.func30, Try.ntmps30
    go_wp2_with (first | (go_at_call 28; refine (HF.out _).mono ?_; rintro e w1 ⟨rfl, hb1⟩; obtain ⟨hc1, hf1⟩ := bcell hb1; have hz1 : w.heap.size < w1.heap.size := (by have := hb1.size; simp at this; omega); have HB1 := Aside0.mk hb1; clear hb1 hf1))
    go_ret
    exact ⟨ret_b HV.out.symm, below_alloc (below1 HB1.out) _⟩
theorem refsize_any (S P B b0 b1 s0 s1 n : Int) (h : right S P B b0 b1 s0 s1 n) (w : World) : Calls Try.prog 38 #[.agg (pl S P B b0 b1 s0 s1 n)] w fun e w' => e = .returned (.int .i64 (size S P B b0 b1 s0 s1 n)) ∧ Below w.heap.size w w' := by
  have hs : size S P B b0 b1 s0 s1 n = n * P * B := if_pos h
  obtain ⟨p1, p2, p3, p4⟩ := size_bounds h
  have HS := Aside0.mk hs
  unfold pl
  clear hs h
  go_enter Try.func38, Try.ntmps38
  go_wp2
  go_ret
  exact ⟨ret_i HS.out.symm, below_alloc (Below.refl _ _) _⟩
theorem refpage_err (S P B b0 b1 s0 s1 n slot i : Int) (h : wrong S P B b0 b1 s0 s1 n slot i (size S P B b0 b1 s0 s1 n) ≠ 0) (w : World) : Calls Try.prog 34 #[.agg (pl S P B b0 b1 s0 s1 n), .int .i64 slot, .int .i64 i] w fun e w' => e = .returned (.tuple #[.int .i64 0, .int .i64 0, .int .i64 (wrong S P B b0 b1 s0 s1 n slot i (size S P B b0 b1 s0 s1 n))]) ∧ Below w.heap.size w w' := by
  have hfn := refright_any S P B b0 b1 s0 s1 n
  by_cases hr : right S P B b0 b1 s0 s1 n
  · have hsz := refsize_any S P B b0 b1 s0 s1 n hr
    have HW : Aside0 (wrong S P B b0 b1 s0 s1 n slot i (size S P B b0 b1 s0 s1 n) = if slot ≠ 0 ∧ slot ≠ 1 then 1 else if i < 0 ∨ size S P B b0 b1 s0 s1 n ≤ i then 9 else 0) := ⟨by unfold wrong; simp [hr]⟩
    rw [rb_true hr] at hfn
    unfold pl at hfn hsz ⊢
    have HF := Aside0.mk hfn
    have HS := Aside0.mk hsz
    have H := Aside0.mk h
    clear hfn hsz hr h
    obtain ⟨m, hm⟩ : ∃ m, size S P B b0 b1 s0 s1 n = m := ⟨_, rfl⟩
    rw [hm] at HW HS H ⊢
    clear hm
    by_cases g : slot ≠ 0 ∧ slot ≠ 1
    · have HV : Aside0 (wrong S P B b0 b1 s0 s1 n slot i m = 1) := ⟨by rw [HW.out, if_pos g]⟩
      have g2 : slot < 0 ∨ (0 ≤ slot ∧ 1 < slot) := by omega
      clear HW g
      rcases g2 with g2 | ⟨g1, g2⟩
      all_goals
        go_enter Try.func34, Try.ntmps34
        go_wp2_with (first | (go_at_call 30; refine (HF.out _).mono ?_; rintro e w1 ⟨rfl, hb1⟩; obtain ⟨hc1, hf1⟩ := bcell hb1; have HB1 := Aside0.mk hb1; clear hb1 hf1))
        go_ret3
        exact ⟨by rw [HV.out]; rfl, below1 HB1.out⟩
    · have HW2 : Aside0 (wrong S P B b0 b1 s0 s1 n slot i m = if i < 0 ∨ m ≤ i then 9 else 0) := ⟨by rw [HW.out, if_neg g]⟩
      have g0 : 0 ≤ slot := by omega
      have g1 : slot ≤ 1 := by omega
      clear HW g
      by_cases a0 : i < 0
      · have HV : Aside0 (wrong S P B b0 b1 s0 s1 n slot i m = 9) := ⟨by rw [HW2.out, if_pos (.inl a0)]⟩
        clear HW2
        go_enter Try.func34, Try.ntmps34
        go_wp2_with (first | (go_at_call 30; refine (HF.out _).mono ?_; rintro e w1 ⟨rfl, hb1⟩; obtain ⟨hc1, hf1⟩ := bcell hb1; have HB1 := Aside0.mk hb1; clear hb1 hf1))
        go_ret3
        exact ⟨by rw [HV.out]; rfl, below1 HB1.out⟩
      · by_cases a1 : m ≤ i
        · have HV : Aside0 (wrong S P B b0 b1 s0 s1 n slot i m = 9) := ⟨by rw [HW2.out, if_pos (.inr a1)]⟩
          clear HW2
          go_enter Try.func34, Try.ntmps34
          go_wp2_with (first | (go_at_call 30; refine (HF.out _).mono ?_; rintro e w1 ⟨rfl, hb1⟩; obtain ⟨hc1, hf1⟩ := bcell hb1; have HB1 := Aside0.mk hb1; clear hb1 hf1) | (go_at_call 38; refine (HS.out _).mono ?_; rintro e w2 ⟨rfl, hb2⟩; have HB2 := Aside0.mk hb2; clear hb2))
          go_ret3
          exact ⟨by rw [HV.out]; rfl, below_then (below1 HB1.out) (below1 HB1.out).size HB2.out⟩
        · exact absurd (by rw [HW2.out, if_neg (by omega)]) H.out
  · have HV : Aside0 (wrong S P B b0 b1 s0 s1 n slot i (size S P B b0 b1 s0 s1 n) = 1) := ⟨by unfold wrong; simp [hr]⟩
    rw [rb_false hr] at hfn
    unfold pl at hfn ⊢
    have HF := Aside0.mk hfn
    clear hfn hr h
    go_enter Try.func34, Try.ntmps34
    go_wp2_with (first | (go_at_call 30; refine (HF.out _).mono ?_; rintro e w1 ⟨rfl, hb1⟩; obtain ⟨hc1, hf1⟩ := bcell hb1; have HB1 := Aside0.mk hb1; clear hb1 hf1))
    go_ret3
    exact ⟨by rw [HV.out]; rfl, below1 HB1.out⟩
set_option maxHeartbeats 1000000 in
theorem refpage_ok (S P B b0 b1 s0 s1 n slot i : Int) (h : right S P B b0 b1 s0 s1 n) (hs : slot = 0 ∨ slot = 1) (hi : 0 ≤ i ∧ i < size S P B b0 b1 s0 s1 n) (w : World) : Calls Try.prog 34 #[.agg (pl S P B b0 b1 s0 s1 n), .int .i64 slot, .int .i64 i] w fun e w' => e = .returned (.tuple #[.int .i64 (sl slot s0 s1 * P + i / B), .int .i64 (i % B), .int .i64 0]) ∧ Below w.heap.size w w' := by
  have hfn := refright_any S P B b0 b1 s0 s1 n
  have hszf := refsize_any S P B b0 b1 s0 s1 n h
  rw [rb_true h] at hfn
  have hsb : sl slot s0 s1 = s0 ∨ sl slot s0 s1 = s1 := by unfold sl; by_cases e : slot = 0 <;> simp [e]
  have hsz : size S P B b0 b1 s0 s1 n ≤ 274877906944 := by
    have hq := size_bounds h
    have e : size S P B b0 b1 s0 s1 n = n * P * B := if_pos h
    omega
  have hb := slot_bounds h hsb
  obtain ⟨v, hv⟩ : ∃ v, sl slot s0 s1 = v := ⟨_, rfl⟩
  rw [hv] at hb ⊢
  obtain ⟨_, _, p1, p2, _, _, p3, p4, p5, _⟩ := hb
  obtain ⟨i0, i1⟩ := hi
  have hi2 : i ≤ 274877906944 := by omega
  have q1 : 0 ≤ i / B := Int.ediv_nonneg i0 (by omega)
  have q2 : i / B ≤ i := Int.ediv_le_self _ i0
  have q3 : 0 ≤ i % B := Int.emod_nonneg _ (by omega)
  have q4 : i % B < B := Int.emod_lt_of_pos _ (by omega)
  have hcase : (slot = 0 ∧ s0 = v) ∨ (slot = 1 ∧ s1 = v) := by
    unfold sl at hv
    rcases hs with rfl | rfl
    · exact .inl ⟨rfl, by simpa using hv⟩
    · exact .inr ⟨rfl, by simpa using hv⟩
  unfold pl at hfn hszf ⊢
  have HF := Aside0.mk hfn
  have HS := Aside0.mk hszf
  clear hsb hv h hs hfn hszf
  obtain ⟨m, hm⟩ : ∃ m, size S P B b0 b1 s0 s1 n = m := ⟨_, rfl⟩
  rw [hm] at HS hsz i1
  clear hm
  rcases hcase with ⟨rfl, rfl⟩ | ⟨rfl, rfl⟩
  all_goals
    go_enter Try.func34, Try.ntmps34
    go_wp2_with (first | (go_at_call 30; refine (HF.out _).mono ?_; rintro e w1 ⟨rfl, hb1⟩; obtain ⟨hc1, hf1⟩ := bcell hb1; have hz1 : w.heap.size < w1.heap.size := (by have := hb1.size; simp at this; omega); have HB1 := Aside0.mk hb1; clear hb1 hf1) | (go_at_call 38; refine (HS.out _).mono ?_; rintro e w2 ⟨rfl, hb2⟩; obtain ⟨hc2, hf2⟩ := bcell hb2; have HB2 := Aside0.mk hb2; clear hb2 hf2))
    go_quiet (fail)
    go_wp2
    go_quiet (fail)
    go_wp2
    go_ret3
    exact ⟨rfl, by first | exact pw_below_drewN (below_then (below1 HB1.out) (below1 HB1.out).size HB2.out) _ | exact pw_below_drewN (pw_below_drewN (below_then (below1 HB1.out) (below1 HB1.out).size HB2.out) _) _⟩
end Go.Proofs.Ytgadcnlcldjhpaa.Part
