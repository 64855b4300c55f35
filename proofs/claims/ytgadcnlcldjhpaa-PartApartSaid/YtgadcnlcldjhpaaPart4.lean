/- Where what lies in a flash: the walks of the document's answer (portmanteauref07, its check of geometries). -/
import Derived.Test.YtgadcnlcldjhpaaPart3
set_option linter.unusedVariables false
set_option linter.unusedSimpArgs false
namespace Go.Proofs.Ytgadcnlcldjhpaa.Part
open Go.RowKit Go.Proofs.YtgadcnlcldjhpaaW.PrintWords Go.Proofs.YtgadcnlcldjhpaaW.PrintLast Go.Proofs.YtgadcnlcldjhpaaW.PrintMore PartFn
set_option maxHeartbeats 2000000 in
theorem refcheck_any (S P B : Int) (w : World) : Calls Try.prog 54 #[.agg (geo S P B)] w fun e w' => e = .returned (.int .i64 (fck S P B)) ∧ Below w.heap.size w w' := by
  unfold geo
  by_cases hg : good S P B
  · have hp := prods hg
    have hq : fck S P B = if S * P * B > 16777216 then 2 else 0 := by unfold fck; rw [if_pos hg]
    obtain ⟨h1, h2, h3, h4, h5, h6⟩ := hg
    obtain ⟨p1, p2, p3, p4, _, _⟩ := hp
    have HQ := Aside0.mk hq
    clear hq
    by_cases hm : S * P * B > 16777216
    · have HE : Aside0 (fck S P B = 2) := ⟨by rw [HQ.out, if_pos hm]⟩
      go_enter Try.func54, Try.ntmps54
      go_wp2
      go_ret
      exact ⟨ret_i HE.out.symm, below_alloc (Below.refl _ _) _⟩
    · have HE : Aside0 (fck S P B = 0) := ⟨by rw [HQ.out, if_neg hm]⟩
      go_enter Try.func54, Try.ntmps54
      go_wp2
      go_ret
      exact ⟨ret_i HE.out.symm, below_alloc (Below.refl _ _) _⟩
  · have HQ := Aside0.mk (fck_no hg)
    have hd : S < 1 ∨ (1 ≤ S ∧ 4096 < S) ∨ (1 ≤ S ∧ S ≤ 4096 ∧ P < 1) ∨ (1 ≤ S ∧ S ≤ 4096 ∧ 1 ≤ P ∧ 1024 < P) ∨ (1 ≤ S ∧ S ≤ 4096 ∧ 1 ≤ P ∧ P ≤ 1024 ∧ B < 16) ∨ (1 ≤ S ∧ S ≤ 4096 ∧ 1 ≤ P ∧ P ≤ 1024 ∧ 16 ≤ B ∧ 65536 < B) := by unfold good at hg; omega
    clear hg
    rcases hd with h | ⟨h, h2⟩ | ⟨h, h2, h3⟩ | ⟨h, h2, h3, h4⟩ | ⟨h, h2, h3, h4, h5⟩ | ⟨h, h2, h3, h4, h5, h6⟩
    all_goals
      go_enter Try.func54, Try.ntmps54
      go_wp2
      go_ret
      exact ⟨ret_i HQ.out.symm, below_alloc (Below.refl _ _) _⟩
set_option maxHeartbeats 1000000 in
theorem refmake_err (S P B : Int) (h : pck S P B ≠ 0) (w : World) : Calls Try.prog 28 #[.agg (geo S P B)] w fun e w' => e = .returned (.tuple #[.agg (pl 0 0 0 0 0 0 0 0), .int .i64 (pck S P B)]) ∧ Below w.heap.size w w' := by
  have hfn := refcheck_any S P B
  unfold geo at hfn ⊢
  have hz : ∀ w, (zeroValue 48).run Try.prog w = .ok (.agg (pl 0 0 0 0 0 0 0 0)) w := fun w => by kernel_rfl
  have hbd : ∀ w, (Instr.build 48 #[]).run Try.prog w = .ok (.agg (pl 0 0 0 0 0 0 0 0)) w := fun w => by kernel_rfl
  by_cases hf : fck S P B = 0
  · have hp : pck S P B = if S < 4 ∨ B < 64 then 1 else 0 := by unfold pck; rw [if_neg (by simp [hf])]
    by_cases hs : S < 4 ∨ B < 64
    · rw [if_pos hs] at hp
      rw [hf] at hfn
      have HP := Aside0.mk hp
      have HF := Aside0.mk hfn
      clear hp h hf hfn
      have hs' : S < 4 ∨ (4 ≤ S ∧ B < 64) := by omega
      clear hs
      rcases hs' with hs | ⟨hs, hs2⟩
      all_goals
        go_enter Try.func28, Try.ntmps28
        go_wp2_with (first | (go_at_call 54; refine (HF.out _).mono ?_; rintro e w1 ⟨rfl, hb1⟩; obtain ⟨hc1, hf1⟩ := bcell hb1; have HG1 := Aside0.mk ((hb1.block (w.heap.size + 1) (by simp)).trans (pl_at_new w _ 0 0 0 0 0 0 0 0)); have HB1 := Aside0.mk hb1; clear hb1 hf1) | (refine wpList_store_row rfl 48 (Operand.tmp 2) (Operand.tmp 21) rfl (w.heap.size + 1) (pl 0 0 0 0 0 0 0 0) rfl rfl _ _ HG1.out (plSize _ _ _ _ _ _ _ _) rfl (plOne _ _ _ _ _ _ _ _) ?_))
        have hg : (w1.setRow (w.heap.size + 1) (pl 0 0 0 0 0 0 0 0)).heap[w.heap.size + 1]? = some (.cells (pl 0 0 0 0 0 0 0 0) 48 (0, 0)) := setRow_heap _ _ _ _ _ _ HG1.out
        refine bodyPost_ret (results_list (rs := [.cell 2 48, .tmp 3]) rfl (by simp) (.cell (w.heap.size + 1) 48 _ _ _ rfl hg Try.underlying48 rfl (plSize _ _ _ _ _ _ _ _) (.tmp .nil))) rfl ⟨?_, ?_⟩
        · rw [HP.out]; rfl
        · exact below_setRow (below2 HB1.out) (by omega) _
    · rw [if_neg hs] at hp
      exact absurd hp h
  · have hp : pck S P B = fck S P B := by unfold pck; rw [if_pos hf]
    have hf0 : (fck S P B != 0) = true := by simp [hf]
    have HP := Aside0.mk hp
    have HF := Aside0.mk hfn
    clear hp h hf hfn
    go_enter Try.func28, Try.ntmps28
    go_wp2_with (first | (go_at_call 54; refine (HF.out _).mono ?_; rintro e w1 ⟨rfl, hb1⟩; obtain ⟨hc1, hf1⟩ := bcell hb1; have HG1 := Aside0.mk ((hb1.block (w.heap.size + 1) (by simp)).trans (pl_at_new w _ 0 0 0 0 0 0 0 0)); have HB1 := Aside0.mk hb1; clear hb1 hf1) | (refine wpList_store_row rfl 48 (Operand.tmp 2) (Operand.tmp 11) rfl (w.heap.size + 1) (pl 0 0 0 0 0 0 0 0) rfl rfl _ _ HG1.out (plSize _ _ _ _ _ _ _ _) rfl (plOne _ _ _ _ _ _ _ _) ?_))
    have hg : (w1.setRow (w.heap.size + 1) (pl 0 0 0 0 0 0 0 0)).heap[w.heap.size + 1]? = some (.cells (pl 0 0 0 0 0 0 0 0) 48 (0, 0)) := setRow_heap _ _ _ _ _ _ HG1.out
    refine bodyPost_ret (results_list (rs := [.cell 2 48, .tmp 3]) rfl (by simp) (.cell (w.heap.size + 1) 48 _ _ _ rfl hg Try.underlying48 rfl (plSize _ _ _ _ _ _ _ _) (.tmp .nil))) rfl ⟨?_, ?_⟩
    · rw [HP.out]; rfl
    · exact below_setRow (below2 HB1.out) (by omega) _
/-- What the loop of the reference multiplies is no great number. -/
theorem step_bounds {S P B n : Int} (h : pck S P B = 0) (hn : 1 ≤ n) (hc : n ≤ cnt S P B) : 0 ≤ (n + 1) * P ∧ (n + 1) * P ≤ 8388608 ∧ 0 ≤ (n + 1) * P * B ∧ (n + 1) * P * B ≤ 549755813888 := by
  have hcb := cnt_bounds h
  obtain ⟨⟨g1, g2, g3, g4, g5, g6⟩, _, _, _⟩ := pck_zero.1 h
  have a1 : 1 * 1 ≤ (n + 1) * P := Int.mul_le_mul (by omega) g3 (by omega) (by omega)
  have a2 : (n + 1) * P ≤ 8192 * 1024 := Int.mul_le_mul (by omega) g4 (by omega) (by omega)
  have a3 : 1 * 16 ≤ (n + 1) * P * B := Int.mul_le_mul (by omega) g5 (by omega) (by omega)
  have a4 : (n + 1) * P * B ≤ (8192 * 1024) * 65536 := Int.mul_le_mul a2 g6 (by omega) (by omega)
  omega
set_option maxHeartbeats 1000000 in
theorem refmake_ok (S P B : Int) (h : pck S P B = 0) (w : World) : Calls Try.prog 28 #[.agg (geo S P B)] w fun e w' => e = .returned (.tuple #[.agg (pl S P B 0 1 2 (2 + cnt S P B) (cnt S P B)), .int .i64 0]) ∧ Below w.heap.size w w' := by
  have hfn := refcheck_any S P B
  unfold geo at hfn ⊢
  have hz : ∀ w, (zeroValue 48).run Try.prog w = .ok (.agg #[.int .i64 0, .int .i64 0, .int .i64 0, .int .i64 0, .int .i64 0, .int .i64 0, .int .i64 0, .int .i64 0]) w := fun w => by kernel_rfl
  obtain ⟨g1, g2, g3, g4⟩ := pck_zero.1 h
  have hf : fck S P B = 0 := by unfold fck; rw [if_pos g1, if_neg (by omega)]
  have hcb := cnt_bounds h
  obtain ⟨_, h2, h3, h4, h5, h6⟩ := g1
  obtain ⟨c1, c2, _⟩ := hcb
  rw [hf] at hfn
  have HF := Aside0.mk hfn
  have H := Aside0.mk h
  clear h hfn hf
  go_enter Try.func28, Try.ntmps28
  go_wp2_with (first | (go_at_call 54; refine (HF.out _).mono ?_; rintro e w1 ⟨rfl, hb1⟩; obtain ⟨hc1, hf1⟩ := bcell hb1; have hz0 : w.heap.size < w1.heap.size := (by have := hb1.size; simp at this; omega); have hz1 : w.heap.size + 1 < w1.heap.size := (by have := hb1.size; simp at this; omega); have HG1 := Aside0.mk ((hb1.block (w.heap.size + 1) (by simp)).trans (pl_at_new w _ 0 0 0 0 0 0 0 0)); have HB1 := Aside0.mk hb1; clear hb1 hf1))
  go_loop [5] (fun v => ∃ m : Int, 1 ≤ m ∧ m ≤ cnt S P B ∧ v = .int .i64 m) (fun v => (cnt S P B - intOf v).toNat)
  case atStart => exact ⟨1, by omega, c1, rfl⟩
  case round =>
    obtain ⟨m, hm1, hm2, rfl⟩ := hrel
    obtain ⟨b1, b2, b3, b4⟩ := step_bounds H.out hm1 hm2
    have hst := cnt_step H.out hm1
    by_cases hlt : m < cnt S P B
    · obtain ⟨t1, t2⟩ := hst.2 hlt
      clear hst
      go_wp2
      go_round
      case rel => exact ⟨m + 1, by omega, by omega, by go_num⟩
      case measure => simp [intOf]; omega
    · have hme : m = cnt S P B := by omega
      have HME := Aside0.mk hme
      have hno : ¬ (2 + 2 * (m + 1) ≤ S ∧ (m + 1) * P * B ≤ 8388608) := fun hh => hlt (hst.1 hh)
      clear hst hme hlt
      by_cases t1 : 2 + 2 * (m + 1) ≤ S
      · have t2 : ¬ (m + 1) * P * B ≤ 8388608 := fun hh => hno ⟨t1, hh⟩
        clear hno
        go_wp2_with (first | (refine wpList_store_row rfl 48 (Operand.tmp 2) (Operand.tmp 54) rfl (w.heap.size + 1) _ rfl rfl _ _ ((Go.heap_alloc_old _ _ hz1).trans HG1.out) (plSize _ _ _ _ _ _ _ _) rfl (plOne _ _ _ _ _ _ _ _) ?_))
        refine bodyPost_ret (results_list (rs := [.cell 2 48, .tmp 3]) rfl (by simp) (.cell (w.heap.size + 1) 48 _ _ _ rfl (setRow_heap _ _ _ _ _ _ ((Go.heap_alloc_old _ _ hz1).trans HG1.out)) Try.underlying48 rfl (plSize _ _ _ _ _ _ _ _) (.tmp .nil))) rfl ⟨?_, below_setRow (below_alloc (below2 HB1.out) _) (by omega) _⟩
        rw [← HME.out]
        rfl
      · clear hno
        go_wp2_with (first | (refine wpList_store_row rfl 48 (Operand.tmp 2) (Operand.tmp 54) rfl (w.heap.size + 1) _ rfl rfl _ _ ((Go.heap_alloc_old _ _ hz1).trans HG1.out) (plSize _ _ _ _ _ _ _ _) rfl (plOne _ _ _ _ _ _ _ _) ?_))
        refine bodyPost_ret (results_list (rs := [.cell 2 48, .tmp 3]) rfl (by simp) (.cell (w.heap.size + 1) 48 _ _ _ rfl (setRow_heap _ _ _ _ _ _ ((Go.heap_alloc_old _ _ hz1).trans HG1.out)) Try.underlying48 rfl (plSize _ _ _ _ _ _ _ _) (.tmp .nil))) rfl ⟨?_, below_setRow (below_alloc (below2 HB1.out) _) (by omega) _⟩
        rw [← HME.out]
        rfl
end Go.Proofs.Ytgadcnlcldjhpaa.Part
