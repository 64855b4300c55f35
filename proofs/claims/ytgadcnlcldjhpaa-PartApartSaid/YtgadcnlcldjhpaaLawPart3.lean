/- The law of what is apart. -/
import Derived.Test.YtgadcnlcldjhpaaPart9
set_option linter.unusedVariables false
namespace Go.Proofs.Ytgadcnlcldjhpaa
open Go.RowKit Go.Proofs.YtgadcnlcldjhpaaW.PrintWords Go.Proofs.YtgadcnlcldjhpaaW.PrintLast Go.Proofs.YtgadcnlcldjhpaaW.PrintMore
namespace PartApart
theorem walk (w : World) (cs0 : Array Value) (x0 : Int × Int × Int) (r0 : ∃ c00 c01, cs0.toList = c00 ++ c01 ∧ ((Kd.int .i64).K w x0.1 c00 ∧ (fun n : Int => (Lit.int .i64 n).wf = true) x0.1) ∧ (∃ c10 c11, c01 = c10 ++ c11 ∧ ((Kd.int .i64).K w x0.2.1 c10 ∧ (fun n : Int => (Lit.int .i64 n).wf = true) x0.2.1) ∧ ((Kd.int .i64).K w x0.2.2 c11 ∧ (fun n : Int => (Lit.int .i64 n).wf = true) x0.2.2))) (a1 : Int) (w1 : (Lit.int .u8 a1).wf = true) (a2 : Int) (w2 : (Lit.int .i64 a2).wf = true) :
    Calls Try.prog 11 #[.agg cs0, .int .u8 a1, .int .i64 a2] w fun e w' => e = .returned (.bool true) ∧ Below w.heap.size w w' := by
  obtain ⟨S, P, B, rfl⟩ := Part.geo_of r0
  exact Part.apart_any S P B a1 a2 w1 w2 w
end PartApart
end Go.Proofs.Ytgadcnlcldjhpaa
