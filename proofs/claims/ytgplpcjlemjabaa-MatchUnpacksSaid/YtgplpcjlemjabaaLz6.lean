/- Blocks are unpacked: the page's examples. -/
import Derived.Test.YtgplpcjlemjabaaLz5
import Derived.Lib.SlBytesConst
import Derived.Lib.Bytes
set_option linter.unusedVariables false
set_option linter.unusedSimpArgs false
namespace Go.Proofs.Ytgplpcjlemjabaa.Lz
open Go.RowKit Go.Proofs.YtgplpcjlemjabaaW.PrintWords Go.Proofs.YtgplpcjlemjabaaW.PrintLast Go.Proofs.YtgplpcjlemjabaaW.PrintMore
theorem dec_ex1 : dec [32, 97, 98, 2, 0, 16, 99] 100 = ([97, 98, 97, 98, 97, 98, 99], 0, 7) := by decide +kernel
theorem dec_ex2 : dec [16, 97, 0, 0] 100 = ([], 9, 2) := by decide +kernel
theorem lit_C {w : World} {inner : Array Value} (xs : List Int) (h : inner.toList = nums .u8 xs) (hm : xs.length ≤ 140737488355328) : ∀ w', Below (w.alloc (.cells inner 5)).heap.size (w.alloc (.cells inner 5)) w' → Kd.C (Kd.int .u8) w' (some ⟨w.heap.size, 0, none⟩) xs.length xs :=
  fun w' hb => Kd.C_below (Row.OwnB.lit w w.heap.size inner xs h (Nat.le_refl _) hm).reads.2.2 hb
theorem ex1_any (w : World) : Calls Try.prog 37 #[.slice (some ⟨w.heap.size, 0, none⟩) 7 7, .int .i64 100] (w.alloc (.cells #[.int .u8 32, .int .u8 97, .int .u8 98, .int .u8 2, .int .u8 0, .int .u8 16, .int .u8 99] 5)) fun e w' => ∃ A c, e = .returned (.tuple #[.slice A 7 c, .int .i64 0, .int .i64 7]) ∧ Kd.C (Kd.int .u8) w' A 7 [97, 98, 97, 98, 97, 98, 99] ∧ Below w.heap.size w w' := by
  have h1 := decode_any (w.alloc (.cells #[.int .u8 32, .int .u8 97, .int .u8 98, .int .u8 2, .int .u8 0, .int .u8 16, .int .u8 99] 5)) [32, 97, 98, 2, 0, 16, 99] (some ⟨w.heap.size, 0, none⟩) 7 100 (lit_C [32, 97, 98, 2, 0, 16, 99] rfl (by decide)) (by unfold isB; decide) (by decide) (by decide)
  rw [dec_ex1] at h1
  refine h1.mono fun e w' ⟨v, he, ho, hb⟩ => ?_
  obtain ⟨A, c, rfl, hle, hC⟩ := Row.OwnB.slice ho
  exact ⟨A, c, he, hC, below_then (below_alloc (Below.refl w.heap.size w) _) (by simp) hb⟩
theorem ex2_any (w : World) : Calls Try.prog 37 #[.slice (some ⟨w.heap.size, 0, none⟩) 4 4, .int .i64 100] (w.alloc (.cells #[.int .u8 16, .int .u8 97, .int .u8 0, .int .u8 0] 5)) fun e w' => ∃ A c, e = .returned (.tuple #[.slice A 0 c, .int .i64 9, .int .i64 2]) ∧ Below w.heap.size w w' := by
  have h1 := decode_any (w.alloc (.cells #[.int .u8 16, .int .u8 97, .int .u8 0, .int .u8 0] 5)) [16, 97, 0, 0] (some ⟨w.heap.size, 0, none⟩) 4 100 (lit_C [16, 97, 0, 0] rfl (by decide)) (by unfold isB; decide) (by decide) (by decide)
  rw [dec_ex2] at h1
  refine h1.mono fun e w' ⟨v, he, ho, hb⟩ => ?_
  obtain ⟨A, c, rfl, hle, hC⟩ := Row.OwnB.slice ho
  exact ⟨A, c, he, below_then (below_alloc (Below.refl w.heap.size w) _) (by simp) hb⟩
end Go.Proofs.Ytgplpcjlemjabaa.Lz
