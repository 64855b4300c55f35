/- The page's examples of the sums: walks. -/
import Derived.Test.YtgadcnlcldjhpaaSum3
import Derived.Lib.SlBytesConst
namespace Go.Proofs.Ytgadcnlcldjhpaa.Sum
open Go.RowKit Go.Proofs.YtgadcnlcldjhpaaW.PrintWords Go.Proofs.YtgadcnlcldjhpaaW.PrintLast Go.Proofs.YtgadcnlcldjhpaaW.PrintMore
set_option linter.unusedVariables false
set_option linter.unusedSimpArgs false
theorem crc_nine (A : Option Addr) (w : World) (hr : Kd.C (Kd.int .u8) w A 9 [49, 50, 51, 52, 53, 54, 55, 56, 57]) : Calls Try.prog 22 #[.pointer none, .slice A 9 9] w fun e w' => e = .returned (.int .u32 3421780262) ∧ w = w' := by
  refine (crc_nil A 9 [49, 50, 51, 52, 53, 54, 55, 56, 57] w hr (by decide) (by decide)).mono fun e w' h => ?_
  have hv : crc 0 [49, 50, 51, 52, 53, 54, 55, 56, 57] = 3421780262 := by decide +kernel
  rw [hv] at h
  exact h
theorem dig_none (w : World) : Calls Try.prog 20 #[.slice none 0 0] w fun e w' => e = .returned (.int .u64 14695981039346656037) ∧ w = w' :=
  digest_any none 0 [] w (Kd.C_of_reads (d := (0 : Int)) (h1 := fun _ => rfl) ⟨rfl, by decide, fun h => by simp at h⟩) (by decide) (by simp)
theorem nine_cells (w : World) (g : Nat) (c : Array Value) (fr : Nat × Nat) (hg : w.heap[g]? = some (.cells c 5 fr)) (l : List Int) (hc : c.toList = nums .u8 l) (hl : l.length ≤ 9223372036854775807) : Kd.C (Kd.int .u8) w (some ⟨g, 0, none⟩) l.length l := by
  refine Kd.C_of_reads (d := (0 : Int)) (h1 := fun _ => rfl) ⟨rfl, hl, fun _ => ⟨_, rfl, fun j hj => ?_⟩⟩
  rw [add_plain, cell_of_row _ _ _ _ _ _ hg, ← Array.getElem?_toList, hc]
  simp [nums, hj]
theorem live_any (w : World) : Calls Try.prog 15 #[] w fun e w' => e = .returned (.bool true) ∧ Below w.heap.size w w' := by
  have kc := fun (w : World) (C : Array Value) (n c : Nat) => Lib.run_convert_bytes_const (P := Try.prog) w 25 5 C n c Try.underlying25 Try.underlying5
  have h9 := nine_cells (w.alloc (.cells #[.int .u8 49, .int .u8 50, .int .u8 51, .int .u8 52, .int .u8 53, .int .u8 54, .int .u8 55, .int .u8 56, .int .u8 57] 5 (9, 10))) w.heap.size _ _ (heap_alloc_new w _) [49, 50, 51, 52, 53, 54, 55, 56, 57] rfl (by decide)
  have H9 := Aside0.mk h9
  clear h9
  go_enter Try.func15, Try.ntmps15
  go_wp2_with (first | (go_at_call 22; refine (crc_nine _ _ H9.out).mono ?_; rintro e w' ⟨rfl, rfl⟩) | (go_at_call 20; refine (dig_none _).mono ?_; rintro e w' ⟨rfl, rfl⟩))
  go_ret
  exact ⟨rfl, below_alloc (Below.refl _ _) _⟩
end Go.Proofs.Ytgadcnlcldjhpaa.Sum
