/- The law DeltaJoins of the program: for every input the call returns true, and every argument reads afterwards as it read before. The walk through the code is proved in YtogplkochcalpaaLawDe5. -/
import Derived.Test.YtogplkochcalpaaRows
import Derived.Test.YtogplkochcalpaaLawDe5
import Derived.Test.YtogplkochcalpaaOpen2
import Derived.WalkKit
import Derived.ProofKit
import Derived.OpenShut
import Derived.ShutString
import Derived.ChangeOld
import Derived.Below
import Derived.SizedLaws
set_option linter.unusedVariables false
set_option linter.unusedSimpArgs false
namespace Go.Proofs.Ytogplkochcalpaa.deltaJoins
open Go.ChangeShapes Go.WideShapes Go.ChangeAt Go.RowKit Go.Proofs.YtogplkochcalpaaW.PrintWords
open Go.ChangeMaps (open_string shut_string)
theorem own : ownKnob Try.prog.godebug = none := by kernel_rfl
theorem laidOut : laidOutB Try.prog = true := by kernel_rfl
set_option maxRecDepth 100000 in
theorem lifted (os : Os) (started : os.Started) (H : Type) (enc : TypeId × Value → H) :
    ReturnsInHanded {} Try.checked os 5 .any (Rows.deltaJoinsSpec.pre6 enc Try.prog Try.f5 Rows.deltaJoinsRow.domain false) (Rows.deltaJoinsSpec.post enc Try.prog Try.f5 false true false false) := by
  refine returnsInHanded_of_change_sized (C := Try.checked) own started (by kernel_rfl) Try.func5
    (ChangeSpec.witness6 (enc := enc) (C := Try.checked) false ⟨#[], #[.agg #[.int .i64 0, .int .i64 0, .int .u64 0, .int .u64 0, .slice none 0 0], .agg #[.int .i64 0, .int .i64 0, .int .u64 0, .int .u64 0, .slice none 0 0]], []⟩ 8 (by kernel_rfl) (by kernel_rfl) (by kernel_rfl) (by kernel_rfl)) ?_
  intro W base args ds gs before hval0 hW hcnd hsz0 _
  have hsz : (DataW.weightsEach Try.prog (Try.f5.params.toList ++ Rows.deltaJoinsSpec.plain.varTypes Try.prog) (ds ++ gs)).all (· ≤ reachBytes) = true := hsz0
  have hval : ∀ (j : Nat) t v, Try.f5.params[j]? = some t → args[j]? = some v → Value.okWide Try.prog W .any base t v := hval0
  have hW' := hW
  obtain ⟨p, q, hA0, hV, rfl, hfz, hnd⟩ := hW
  have hA : DataW.TrodAll enc Try.prog W 0 (fun _ => true) true Try.f5.params.toList args.toList ds p := hA0
  rw [Try.params5] at hA hval hsz
  obtain ⟨v0, vs0, d0, ds0, p0, q0, hargs, rfl, rfl, h0, r0⟩ := trodAll_cons hA
  obtain ⟨v1, vs1, d1, ds1, p1, q1, rfl, rfl, rfl, h1, r1⟩ := trodAll_cons r0
  obtain ⟨rfl, rfl, rfl⟩ := trodAll_nil r1
  obtain rfl : args = #[v0, v1] := by cases args; simp_all
  obtain ⟨rfl, rfl⟩ := trodVars_none hV
  have k0 := h0
  have lt0 : ∀ x ∈ p0, x.block < W.heap.size := by obtain ⟨m, hm⟩ := k0; exact DataW.trod_lt m _ _ _ hm
  obtain ⟨x0, rx0⟩ := Open.opened (Open.opens_struct Try.underlying27 (by kernel_rfl) (Open.opens_more (off := 0) (sz := 1) (sz' := 4) rfl (by kernel_rfl) (Open.opens_int (k := .i64) Try.underlying3) (Open.opens_more (off := 1) (sz := 1) (sz' := 3) rfl (by kernel_rfl) (Open.opens_int (k := .i64) Try.underlying3) (Open.opens_more (off := 2) (sz := 1) (sz' := 2) rfl (by kernel_rfl) (Open.opens_int (k := .u64) Try.underlying24) (Open.opens_more (off := 3) (sz := 1) (sz' := 1) rfl (by kernel_rfl) (Open.opens_int (k := .u64) Try.underlying24) (Open.opens_last (off := 4) (sz := 1) rfl (by kernel_rfl) (Open.opens_slice (d := (Kd.pair (Kd.int .i64) (Kd.pair (Kd.int .i64) (Kd.slice 5 (Kd.int .u8))))) (good := (fun x : Int × Int × List Int => (fun n : Int => (Lit.int .i64 n).wf = true) x.1 ∧ (fun x : Int × List Int => (fun n : Int => (Lit.int .i64 n).wf = true) x.1 ∧ (fun xs => (∀ v ∈ xs, (fun n : Int => (Lit.int .u8 n).wf = true) v) ∧ xs.length * 1 ≤ 140737488351232) x.2) x.2)) (B := 40) Try.underlying25 (by kernel_rfl) (by kernel_rfl) (by decide) (Open.opens_struct (R := fun w v cs => (Kd.pair (Kd.int .i64) (Kd.pair (Kd.int .i64) (Kd.slice 5 (Kd.int .u8)))).K w v cs ∧ (fun x : Int × Int × List Int => (fun n : Int => (Lit.int .i64 n).wf = true) x.1 ∧ (fun x : Int × List Int => (fun n : Int => (Lit.int .i64 n).wf = true) x.1 ∧ (fun xs => (∀ v ∈ xs, (fun n : Int => (Lit.int .u8 n).wf = true) v) ∧ xs.length * 1 ≤ 140737488351232) x.2) x.2) v) Try.underlying37 (by kernel_rfl) (Open.opens_two (a := (Kd.int .i64)) (b := (Kd.pair (Kd.int .i64) (Kd.slice 5 (Kd.int .u8)))) (ga := (fun n : Int => (Lit.int .i64 n).wf = true)) (gb := (fun x : Int × List Int => (fun n : Int => (Lit.int .i64 n).wf = true) x.1 ∧ (fun xs => (∀ v ∈ xs, (fun n : Int => (Lit.int .u8 n).wf = true) v) ∧ xs.length * 1 ≤ 140737488351232) x.2)) (off := 0) (sz := 1) (sz' := 2) rfl (by kernel_rfl) (Open.opens_int (k := .i64) Try.underlying3) (Open.opens_two (a := (Kd.int .i64)) (b := (Kd.slice 5 (Kd.int .u8))) (ga := (fun n : Int => (Lit.int .i64 n).wf = true)) (gb := (fun xs => (∀ v ∈ xs, (fun n : Int => (Lit.int .u8 n).wf = true) v) ∧ xs.length * 1 ≤ 140737488351232)) (off := 1) (sz := 1) (sz' := 1) rfl (by kernel_rfl) (Open.opens_int (k := .i64) Try.underlying3) (Open.opens_last (R := fun w v cs => (Kd.slice 5 (Kd.int .u8)).K w v cs ∧ (fun xs => (∀ v ∈ xs, (fun n : Int => (Lit.int .u8 n).wf = true) v) ∧ xs.length * 1 ≤ 140737488351232) v) (off := 2) (sz := 1) rfl (by kernel_rfl) (Open.opens_slice (d := (Kd.int .u8)) (good := (fun n : Int => (Lit.int .u8 n).wf = true)) (B := 1) Try.underlying22 (by kernel_rfl) (by kernel_rfl) (by decide) (Open.opens_int (k := .u8) Try.underlying5))))))))))))) hsz (j := 0) rfl rfl h0
  obtain ⟨cs0, rfl, _⟩ := okWide_struct Try.underlying27 (hval 0 27 v0 rfl rfl)
  have k1 := h1
  have lt1 : ∀ x ∈ p1, x.block < W.heap.size := by obtain ⟨m, hm⟩ := k1; exact DataW.trod_lt m _ _ _ hm
  obtain ⟨x1, rx1⟩ := Open.opened (Open.opens_struct Try.underlying27 (by kernel_rfl) (Open.opens_more (off := 0) (sz := 1) (sz' := 4) rfl (by kernel_rfl) (Open.opens_int (k := .i64) Try.underlying3) (Open.opens_more (off := 1) (sz := 1) (sz' := 3) rfl (by kernel_rfl) (Open.opens_int (k := .i64) Try.underlying3) (Open.opens_more (off := 2) (sz := 1) (sz' := 2) rfl (by kernel_rfl) (Open.opens_int (k := .u64) Try.underlying24) (Open.opens_more (off := 3) (sz := 1) (sz' := 1) rfl (by kernel_rfl) (Open.opens_int (k := .u64) Try.underlying24) (Open.opens_last (off := 4) (sz := 1) rfl (by kernel_rfl) (Open.opens_slice (d := (Kd.pair (Kd.int .i64) (Kd.pair (Kd.int .i64) (Kd.slice 5 (Kd.int .u8))))) (good := (fun x : Int × Int × List Int => (fun n : Int => (Lit.int .i64 n).wf = true) x.1 ∧ (fun x : Int × List Int => (fun n : Int => (Lit.int .i64 n).wf = true) x.1 ∧ (fun xs => (∀ v ∈ xs, (fun n : Int => (Lit.int .u8 n).wf = true) v) ∧ xs.length * 1 ≤ 140737488351232) x.2) x.2)) (B := 40) Try.underlying25 (by kernel_rfl) (by kernel_rfl) (by decide) (Open.opens_struct (R := fun w v cs => (Kd.pair (Kd.int .i64) (Kd.pair (Kd.int .i64) (Kd.slice 5 (Kd.int .u8)))).K w v cs ∧ (fun x : Int × Int × List Int => (fun n : Int => (Lit.int .i64 n).wf = true) x.1 ∧ (fun x : Int × List Int => (fun n : Int => (Lit.int .i64 n).wf = true) x.1 ∧ (fun xs => (∀ v ∈ xs, (fun n : Int => (Lit.int .u8 n).wf = true) v) ∧ xs.length * 1 ≤ 140737488351232) x.2) x.2) v) Try.underlying37 (by kernel_rfl) (Open.opens_two (a := (Kd.int .i64)) (b := (Kd.pair (Kd.int .i64) (Kd.slice 5 (Kd.int .u8)))) (ga := (fun n : Int => (Lit.int .i64 n).wf = true)) (gb := (fun x : Int × List Int => (fun n : Int => (Lit.int .i64 n).wf = true) x.1 ∧ (fun xs => (∀ v ∈ xs, (fun n : Int => (Lit.int .u8 n).wf = true) v) ∧ xs.length * 1 ≤ 140737488351232) x.2)) (off := 0) (sz := 1) (sz' := 2) rfl (by kernel_rfl) (Open.opens_int (k := .i64) Try.underlying3) (Open.opens_two (a := (Kd.int .i64)) (b := (Kd.slice 5 (Kd.int .u8))) (ga := (fun n : Int => (Lit.int .i64 n).wf = true)) (gb := (fun xs => (∀ v ∈ xs, (fun n : Int => (Lit.int .u8 n).wf = true) v) ∧ xs.length * 1 ≤ 140737488351232)) (off := 1) (sz := 1) (sz' := 1) rfl (by kernel_rfl) (Open.opens_int (k := .i64) Try.underlying3) (Open.opens_last (R := fun w v cs => (Kd.slice 5 (Kd.int .u8)).K w v cs ∧ (fun xs => (∀ v ∈ xs, (fun n : Int => (Lit.int .u8 n).wf = true) v) ∧ xs.length * 1 ≤ 140737488351232) v) (off := 2) (sz := 1) rfl (by kernel_rfl) (Open.opens_slice (d := (Kd.int .u8)) (good := (fun n : Int => (Lit.int .u8 n).wf = true)) (B := 1) Try.underlying22 (by kernel_rfl) (by kernel_rfl) (by decide) (Open.opens_int (k := .u8) Try.underlying5))))))))))))) hsz (j := 1) rfl rfl h1
  obtain ⟨cs1, rfl, _⟩ := okWide_struct Try.underlying27 (hval 1 27 v1 rfl rfl)
  clear hA0 hval0 hsz0 hsz
  refine (DeltaJoins.walk W cs0 x0 rx0 cs1 x1 rx1).mono fun e W' ⟨he, bel⟩ => ?_
  subst he
  exact ⟨_, rfl, _, _, _, [], _, [], hW', trodAll_mk1 (shut_bool Try.underlying4 _), (trodAll_cons_mk (Below.trod laidOut (by kernel_rfl) (of_decide_eq_true (by kernel_rfl)) k0 bel lt0) (trodAll_cons_mk (Below.trod laidOut (by kernel_rfl) (of_decide_eq_true (by kernel_rfl)) k1 bel lt1) trodAll_mk0)), rfl, bel.frame _, fun h => by cases h⟩
theorem over : Rows.deltaJoinsRow.holds Try.pinned (OpenSpec.ofChange Rows.deltaJoinsSpec) :=
  OpenClaim.holds_of_wide 5 Try.f5 rfl rfl rfl rfl rfl rfl rfl ⟨rfl, rfl, rfl, rfl, rfl⟩ rfl rfl rfl rfl rfl (by kernel_rfl) Try.func5 (by kernel_rfl)
    (of_decide_eq_true (by kernel_rfl)) (by unfold Func.isWrapper; first | (rw [if_pos (by decide +kernel)]; kernel_rfl) | (rw [if_neg (by decide +kernel)]; exact ⟨rfl, rfl⟩))
    (fun os started H enc _ => lifted os started H enc)
theorem proved : Rows.DeltaJoinsSaid := over
#print axioms proved
end Go.Proofs.Ytogplkochcalpaa.deltaJoins
namespace Go.Proofs.Ytogplkochcalpaa
/-- The row. -/
theorem deltaJoins_holds : Rows.DeltaJoinsSaid := deltaJoins.proved
end Go.Proofs.Ytogplkochcalpaa
