/- The law of the places. -/
import Derived.Test.YtgadcnlcldjhpaaPart7
set_option linter.unusedVariables false
namespace Go.Proofs.Ytgadcnlcldjhpaa
open Go.RowKit Go.Proofs.YtgadcnlcldjhpaaW.PrintWords Go.Proofs.YtgadcnlcldjhpaaW.PrintLast Go.Proofs.YtgadcnlcldjhpaaW.PrintMore
namespace PartPlaces
theorem walk (w : World) (cs0 : Array Value) (x0 : (Int × Int × Int) × (List Int) × (List Int) × Int) (r0 : ∃ c00 c01, cs0.toList = c00 ++ c01 ∧ (∃ c1000 c1001, c00 = c1000 ++ c1001 ∧ ((Kd.int .i64).K w x0.1.1 c1000 ∧ (fun n : Int => (Lit.int .i64 n).wf = true) x0.1.1) ∧ (∃ c1010 c1011, c1001 = c1010 ++ c1011 ∧ ((Kd.int .i64).K w x0.1.2.1 c1010 ∧ (fun n : Int => (Lit.int .i64 n).wf = true) x0.1.2.1) ∧ ((Kd.int .i64).K w x0.1.2.2 c1011 ∧ (fun n : Int => (Lit.int .i64 n).wf = true) x0.1.2.2))) ∧ (∃ c10 c11, c01 = c10 ++ c11 ∧ (c10 = nums .i64 x0.2.1 ∧ x0.2.1.length = 2 ∧ ∀ x ∈ x0.2.1, (Lit.int .i64 x).wf = true) ∧ (∃ c20 c21, c11 = c20 ++ c21 ∧ (c20 = nums .i64 x0.2.2.1 ∧ x0.2.2.1.length = 2 ∧ ∀ x ∈ x0.2.2.1, (Lit.int .i64 x).wf = true) ∧ ((Kd.int .i64).K w x0.2.2.2 c21 ∧ (fun n : Int => (Lit.int .i64 n).wf = true) x0.2.2.2)))) (a1 : Int) (w1 : (Lit.int .i64 a1).wf = true) (a2 : Int) (w2 : (Lit.int .i64 a2).wf = true) :
    Calls Try.prog 10 #[.agg cs0, .int .i64 a1, .int .i64 a2] w fun e w' => e = .returned (.bool true) ∧ Below w.heap.size w w' := by
  obtain ⟨S, P, B, b0, b1, s0, s1, n, rfl⟩ := Part.pl_of r0
  exact Part.places_any S P B b0 b1 s0 s1 n a1 a2 w
end PartPlaces
end Go.Proofs.Ytgadcnlcldjhpaa
