/- Blocks: the page's example; whole numbers appended: walks. -/
import Derived.Test.YtpdggoapjbjmhaaBk3
import Derived.Lib.Bytes
set_option linter.unusedVariables false
set_option linter.unusedSimpArgs false
namespace Go.Proofs.Ytpdggoapjbjmhaa.Bk
open Go.RowKit Go.Proofs.Ytpdggoapjbjmhaa.Fd Go.Proofs.Ytpdggoapjbjmhaa.Bg Go.Proofs.Ytpdggoapjbjmhaa.Lz Go.Proofs.Ytpdggoapjbjmhaa.Ma Go.Proofs.YtpdggoapjbjmhaaW.PrintWords Go.Proofs.YtpdggoapjbjmhaaW.PrintLast Go.Proofs.YtpdggoapjbjmhaaW.PrintMore
theorem sto_live : sto [1, 2, 3] 0 = (2147483651, [1, 2, 3, 29, 128, 188, 85]) := by kernel_rfl
theorem live_store (w : World) : Calls Try.prog 27 #[.slice (some ⟨w.heap.size, 0, none⟩) 3 3, .float .f64 0] (w.alloc (.cells #[.int .u8 1, .int .u8 2, .int .u8 3] 5)) fun e w' => ∃ A c, e = .returned (.tuple #[.int .i64 2147483651, .slice A 7 c, .int .i64 0]) ∧ Kd.C (Kd.int .u8) w' A 7 [1, 2, 3, 29, 128, 188, 85] ∧ Below w.heap.size w w' := by
  have h := bstore_any (w.alloc (.cells #[.int .u8 1, .int .u8 2, .int .u8 3] 5)) [1, 2, 3] (some ⟨w.heap.size, 0, none⟩) 3 0 (lit_cells _ _ _ _ (heap_alloc_new _ _) [1, 2, 3] rfl (by decide)) (by decide) (by unfold isB; decide) (by decide)
  rw [sto_live] at h
  refine h.mono ?_
  rintro e w' ⟨v, rfl, hO, hB⟩
  obtain ⟨A, c, rfl, -, hC⟩ := hO.slice
  exact ⟨A, c, rfl, hC, below_then (below_alloc (Below.refl w.heap.size w) _) (by simp) hB⟩
set_option maxRecDepth 100000 in
theorem live_any (w : World) : Calls Try.prog 19 #[] w fun e w' => e = .returned (.bool true) ∧ Below w.heap.size w w' := by
  have hstr : (strOfNums [1, 2, 3, 29, 128, 188, 85]).toList = [1, 2, 3, 29, 128, 188, 85] := by rw [Go.Lib.strOfNums_toList]; rfl
  go_enter Try.func19, Try.ntmps19
  go_wp2_with (first | (go_at_call 17; refine (num_any _ _).mono ?_; rintro e w' ⟨rfl, rfl⟩) | (go_at_call 27; refine (live_store w).mono ?_; rintro e w1 ⟨A1, c1, rfl, hC1, hb1⟩; have hs := Kd.C_string (P := Try.prog) (c := c1) Try.underlying37 Try.underlying5 Try.underlying9 hC1; have Kb1 := Aside0.mk hb1; clear hC1 hb1))
  go_ret
  exact ⟨rfl, Kb1.out⟩
end Go.Proofs.Ytpdggoapjbjmhaa.Bk
