/- Nothing in common: the walk. -/
import Derived.Test.YtgadcnlcldjhpaaPart7
set_option linter.unusedVariables false
set_option linter.unusedSimpArgs false
namespace Go.Proofs.Ytgadcnlcldjhpaa.Part
open Go.RowKit Go.Proofs.YtgadcnlcldjhpaaW.PrintWords Go.Proofs.YtgadcnlcldjhpaaW.PrintLast Go.Proofs.YtgadcnlcldjhpaaW.PrintMore PartFn
theorem bnextA {w1 w2 : World} {o : Obj} {k : Nat} (hk : k < w1.heap.size) (hb : Below (w1.alloc o).heap.size (w1.alloc o) w2) : k < w2.heap.size := Nat.lt_trans hk (bnext0 hb)
set_option maxHeartbeats 4000000 in
set_option maxRecDepth 100000 in
theorem apart_err (S P B c a i : Int) (hc : (c == 0) = false)
    (HM : ∀ w, Calls Try.prog 27 #[.agg (geo S P B)] w fun e' w' => e' = .returned (.tuple #[.agg (pl 0 0 0 0 0 0 0 0), .int .i64 c]) ∧ Below w.heap.size w w') (w : World) :
    Calls Try.prog 11 #[.agg (geo S P B), .int .u8 a, .int .i64 i] w fun e w' => e = .returned (.bool true) ∧ Below w.heap.size w w' := by
  have hc2 : (c != 0) = true := by rw [bne, hc]; rfl
  unfold geo at HM ⊢
  unfold pl at HM
  have KM := Aside0.mk HM
  clear HM
  go_enter Try.func11, Try.ntmps11
  go_wp2_with (first | (go_at_call 27; refine (KM.out _).mono ?_; rintro e w1 ⟨rfl, hb⟩; obtain ⟨hc1, hf1⟩ := bcell hb; have hz1 : w.heap.size < w1.heap.size := bnext0 hb; have hz1' : w.heap.size ≤ w1.heap.size := Nat.le_of_lt hz1; have HB1 : Aside0 (Below w.heap.size w w1) := ⟨below1 hb⟩; clear hb hf1) | (go_at_call 32; refine (live_any _).mono ?_; rintro e w5 ⟨rfl, hb⟩; have HB5 : Aside0 (Below w.heap.size w w5) := (by first | exact ⟨below_via HB1.out HB1.out.size hb⟩ | (refine bstep ?_ hb; assumption)); clear hb) | (go_at_call 29; refine (num_any _ _).mono ?_; rintro e w' ⟨rfl, rfl⟩))
  go_ret
  exact ⟨rfl, (show Aside0 (Below w.heap.size w _) by assumption).out⟩
end Go.Proofs.Ytgadcnlcldjhpaa.Part
