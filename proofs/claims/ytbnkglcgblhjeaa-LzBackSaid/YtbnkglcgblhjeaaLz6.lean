/- Blocks are unpacked: the page's examples. -/
import Derived.Test.YtbnkglcgblhjeaaLz5
import Derived.Lib.SlBytesConst
import Derived.Lib.Bytes
set_option linter.unusedVariables false
set_option linter.unusedSimpArgs false
namespace Go.Proofs.Ytbnkglcgblhjeaa.Lz
open Go.RowKit Go.Proofs.YtbnkglcgblhjeaaW.PrintWords Go.Proofs.YtbnkglcgblhjeaaW.PrintLast Go.Proofs.YtbnkglcgblhjeaaW.PrintMore
theorem num_any (n : Int) (w : World) : Calls Try.prog 16 #[.int .i64 n] w fun e w' => e = .returned (.int .i64 n) ∧ w = w' := by
  go_enter Try.func16, Try.ntmps16
  go_wp2
  go_ret
  exact ⟨rfl, rfl⟩
theorem dec_ex1 : dec [32, 97, 98, 2, 0, 16, 99] 100 = ([97, 98, 97, 98, 97, 98, 99], 0, 7) := by decide +kernel
theorem dec_ex2 : dec [16, 97, 0, 0] 100 = ([], 9, 2) := by decide +kernel
theorem lit_C {w : World} {inner : Array Value} (xs : List Int) (h : inner.toList = nums .u8 xs) (hm : xs.length ≤ 140737488355328) : ∀ w', Below (w.alloc (.cells inner 5)).heap.size (w.alloc (.cells inner 5)) w' → Kd.C (Kd.int .u8) w' (some ⟨w.heap.size, 0, none⟩) xs.length xs :=
  fun w' hb => Kd.C_below (Row.OwnB.lit w w.heap.size inner xs h (Nat.le_refl _) hm).reads.2.2 hb
theorem ex1_any (w : World) : Calls Try.prog 15 #[.slice (some ⟨w.heap.size, 0, none⟩) 7 7, .int .i64 100] (w.alloc (.cells #[.int .u8 32, .int .u8 97, .int .u8 98, .int .u8 2, .int .u8 0, .int .u8 16, .int .u8 99] 5)) fun e w' => ∃ A c, e = .returned (.tuple #[.slice A 7 c, .int .i64 0, .int .i64 7]) ∧ Kd.C (Kd.int .u8) w' A 7 [97, 98, 97, 98, 97, 98, 99] ∧ Below w.heap.size w w' := by
  have h1 := decode_any (w.alloc (.cells #[.int .u8 32, .int .u8 97, .int .u8 98, .int .u8 2, .int .u8 0, .int .u8 16, .int .u8 99] 5)) [32, 97, 98, 2, 0, 16, 99] (some ⟨w.heap.size, 0, none⟩) 7 100 (lit_C [32, 97, 98, 2, 0, 16, 99] rfl (by decide)) (by unfold isB; decide) (by decide) (by decide)
  rw [dec_ex1] at h1
  refine h1.mono fun e w' ⟨v, he, ho, hb⟩ => ?_
  obtain ⟨A, c, rfl, hle, hC⟩ := Row.OwnB.slice ho
  exact ⟨A, c, he, hC, below_then (below_alloc (Below.refl w.heap.size w) _) (by simp) hb⟩
theorem ex2_any (w : World) : Calls Try.prog 15 #[.slice (some ⟨w.heap.size, 0, none⟩) 4 4, .int .i64 100] (w.alloc (.cells #[.int .u8 16, .int .u8 97, .int .u8 0, .int .u8 0] 5)) fun e w' => ∃ A c, e = .returned (.tuple #[.slice A 0 c, .int .i64 9, .int .i64 2]) ∧ Below w.heap.size w w' := by
  have h1 := decode_any (w.alloc (.cells #[.int .u8 16, .int .u8 97, .int .u8 0, .int .u8 0] 5)) [16, 97, 0, 0] (some ⟨w.heap.size, 0, none⟩) 4 100 (lit_C [16, 97, 0, 0] rfl (by decide)) (by unfold isB; decide) (by decide) (by decide)
  rw [dec_ex2] at h1
  refine h1.mono fun e w' ⟨v, he, ho, hb⟩ => ?_
  obtain ⟨A, c, rfl, hle, hC⟩ := Row.OwnB.slice ho
  exact ⟨A, c, he, below_then (below_alloc (Below.refl w.heap.size w) _) (by simp) hb⟩
set_option maxRecDepth 100000 in
theorem live_any (w : World) : Calls Try.prog 14 #[] w fun e w' => e = .returned (.bool true) ∧ Below w.heap.size w w' := by
  have tokA : True := trivial
  have hstr : (strOfNums [97, 98, 97, 98, 97, 98, 99]).toList = [97, 98, 97, 98, 97, 98, 99] := by rw [Go.Lib.strOfNums_toList]; rfl
  go_enter Try.func14, Try.ntmps14
  go_wp2_with (first | (go_at_call 16; refine (num_any _ _).mono ?_; rintro e w' ⟨rfl, rfl⟩) | (go_at_call 15; have _t := tokA; refine (ex1_any w).mono ?_; rintro e w1 ⟨A1, c1, rfl, hC1, hb1⟩; have KC1 := Aside0.mk hC1; have Kb1 := Aside0.mk hb1; clear hC1 hb1 tokA) | (go_at_call 15; refine (ex2_any w1).mono ?_; rintro e w2 ⟨A2, c2, rfl, hb2⟩; have hs := Kd.C_string (P := Try.prog) (c := c1) Try.underlying22 Try.underlying5 Try.underlying9 (Kd.C_below KC1.out hb2); have Kb2 := Aside0.mk hb2; clear hb2))
  go_ret
  exact ⟨rfl, below_then Kb1.out Kb1.out.size Kb2.out⟩
end Go.Proofs.Ytbnkglcgblhjeaa.Lz
