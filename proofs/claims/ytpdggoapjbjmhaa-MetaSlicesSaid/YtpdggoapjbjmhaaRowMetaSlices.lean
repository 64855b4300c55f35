/- The law MetaSlices of the program: for every input the call returns true, and every argument reads afterwards as it read before. The walk through the code is proved in YtpdggoapjbjmhaaLawMe5. -/
import Derived.Test.YtpdggoapjbjmhaaRows
import Derived.Test.YtpdggoapjbjmhaaLawMe5
import Derived.Test.YtpdggoapjbjmhaaOpen2
import Derived.WalkKit
import Derived.ProofKit
import Derived.OpenShut
import Derived.ShutString
import Derived.ChangeOld
import Derived.Below
import Derived.SizedLaws
set_option linter.unusedVariables false
set_option linter.unusedSimpArgs false
namespace Go.Proofs.Ytpdggoapjbjmhaa.metaSlices
open Go.ChangeShapes Go.WideShapes Go.ChangeAt Go.RowKit Go.Proofs.YtpdggoapjbjmhaaW.PrintWords
open Go.ChangeMaps (open_string shut_string)
theorem own : ownKnob Try.prog.godebug = none := by kernel_rfl
theorem laidOut : laidOutB Try.prog = true := by kernel_rfl
set_option maxRecDepth 100000 in
theorem lifted (os : Os) (started : os.Started) (H : Type) (enc : TypeId × Value → H) :
    ReturnsInHanded {} Try.checked os 10 .any (Rows.metaSlicesSpec.pre6 enc Try.prog Try.f10 Rows.metaSlicesRow.domain false) (Rows.metaSlicesSpec.post enc Try.prog Try.f10 false true false false) := by
  refine returnsInHanded_of_change_sized (C := Try.checked) own started (by kernel_rfl) Try.func10
    (ChangeSpec.witness6 (enc := enc) (C := Try.checked) false ⟨#[], #[.slice none 0 0, .slice none 0 0, .int .i64 0, .int .i64 0], []⟩ 8 (by kernel_rfl) (by kernel_rfl) (by kernel_rfl) (by kernel_rfl)) ?_
  intro W base args ds gs before hval0 hW hcnd hsz0 _
  have hsz : (DataW.weightsEach Try.prog (Try.f10.params.toList ++ Rows.metaSlicesSpec.plain.varTypes Try.prog) (ds ++ gs)).all (· ≤ reachBytes) = true := hsz0
  have hval : ∀ (j : Nat) t v, Try.f10.params[j]? = some t → args[j]? = some v → Value.okWide Try.prog W .any base t v := hval0
  have hW' := hW
  obtain ⟨p, q, hA0, hV, rfl, hfz, hnd⟩ := hW
  have hA : DataW.TrodAll enc Try.prog W 0 (fun _ => true) true Try.f10.params.toList args.toList ds p := hA0
  rw [Try.params10] at hA hval hsz
  obtain ⟨v0, vs0, d0, ds0, p0, q0, hargs, rfl, rfl, h0, r0⟩ := trodAll_cons hA
  obtain ⟨v1, vs1, d1, ds1, p1, q1, rfl, rfl, rfl, h1, r1⟩ := trodAll_cons r0
  obtain ⟨v2, vs2, d2, ds2, p2, q2, rfl, rfl, rfl, h2, r2⟩ := trodAll_cons r1
  obtain ⟨v3, vs3, d3, ds3, p3, q3, rfl, rfl, rfl, h3, r3⟩ := trodAll_cons r2
  obtain ⟨rfl, rfl, rfl⟩ := trodAll_nil r3
  obtain rfl : args = #[v0, v1, v2, v3] := by cases args; simp_all
  obtain ⟨rfl, rfl⟩ := trodVars_none hV
  have k0 := h0
  have lt0 : ∀ x ∈ p0, x.block < W.heap.size := by obtain ⟨m, hm⟩ := k0; exact DataW.trod_lt m _ _ _ hm
  obtain ⟨x0, rx0⟩ := Open.opened (Open.opens_slice (d := (Kd.int .u8)) (good := (fun n : Int => (Lit.int .u8 n).wf = true)) (B := 1) Try.underlying37 (by kernel_rfl) (by kernel_rfl) (by decide) (Open.opens_int (k := .u8) Try.underlying5)) hsz (j := 0) rfl rfl h0
  obtain ⟨A0, n0, c0, rfl⟩ := okWide_slice Try.underlying37 (hval 0 37 v0 rfl rfl)
  obtain ⟨⟨A'0, c'0, e0, hk0, hr0⟩, hg0, hm0⟩ := rx0
  have z0 : [Value.slice A0 n0 c0] = [Value.slice A'0 x0.length c'0] := e0
  injection z0 with z0 _; injection z0 with za0 zb0 zc0; subst za0 zb0 zc0
  have k1 := h1
  have lt1 : ∀ x ∈ p1, x.block < W.heap.size := by obtain ⟨m, hm⟩ := k1; exact DataW.trod_lt m _ _ _ hm
  obtain ⟨x1, rx1⟩ := Open.opened (Open.opens_slice (d := (Kd.pair (Kd.int .i64) (Kd.pair (Kd.int .i64) (Kd.pair (Kd.int .i64) (Kd.pair Kd.bool (Kd.int .u32)))))) (good := (fun x : Int × Int × Int × Bool × Int => (fun n : Int => (Lit.int .i64 n).wf = true) x.1 ∧ (fun x : Int × Int × Bool × Int => (fun n : Int => (Lit.int .i64 n).wf = true) x.1 ∧ (fun x : Int × Bool × Int => (fun n : Int => (Lit.int .i64 n).wf = true) x.1 ∧ (fun x : Bool × Int => (fun _ : Bool => True) x.1 ∧ (fun n : Int => (Lit.int .u32 n).wf = true) x.2) x.2) x.2) x.2)) (B := 32) Try.underlying57 (by kernel_rfl) (by kernel_rfl) (by decide) (Open.opens_struct (R := fun w v cs => (Kd.pair (Kd.int .i64) (Kd.pair (Kd.int .i64) (Kd.pair (Kd.int .i64) (Kd.pair Kd.bool (Kd.int .u32))))).K w v cs ∧ (fun x : Int × Int × Int × Bool × Int => (fun n : Int => (Lit.int .i64 n).wf = true) x.1 ∧ (fun x : Int × Int × Bool × Int => (fun n : Int => (Lit.int .i64 n).wf = true) x.1 ∧ (fun x : Int × Bool × Int => (fun n : Int => (Lit.int .i64 n).wf = true) x.1 ∧ (fun x : Bool × Int => (fun _ : Bool => True) x.1 ∧ (fun n : Int => (Lit.int .u32 n).wf = true) x.2) x.2) x.2) x.2) v) Try.underlying62 (by kernel_rfl) (Open.opens_two (a := (Kd.int .i64)) (b := (Kd.pair (Kd.int .i64) (Kd.pair (Kd.int .i64) (Kd.pair Kd.bool (Kd.int .u32))))) (ga := (fun n : Int => (Lit.int .i64 n).wf = true)) (gb := (fun x : Int × Int × Bool × Int => (fun n : Int => (Lit.int .i64 n).wf = true) x.1 ∧ (fun x : Int × Bool × Int => (fun n : Int => (Lit.int .i64 n).wf = true) x.1 ∧ (fun x : Bool × Int => (fun _ : Bool => True) x.1 ∧ (fun n : Int => (Lit.int .u32 n).wf = true) x.2) x.2) x.2)) (off := 0) (sz := 1) (sz' := 4) rfl (by kernel_rfl) (Open.opens_int (k := .i64) Try.underlying3) (Open.opens_two (a := (Kd.int .i64)) (b := (Kd.pair (Kd.int .i64) (Kd.pair Kd.bool (Kd.int .u32)))) (ga := (fun n : Int => (Lit.int .i64 n).wf = true)) (gb := (fun x : Int × Bool × Int => (fun n : Int => (Lit.int .i64 n).wf = true) x.1 ∧ (fun x : Bool × Int => (fun _ : Bool => True) x.1 ∧ (fun n : Int => (Lit.int .u32 n).wf = true) x.2) x.2)) (off := 1) (sz := 1) (sz' := 3) rfl (by kernel_rfl) (Open.opens_int (k := .i64) Try.underlying3) (Open.opens_two (a := (Kd.int .i64)) (b := (Kd.pair Kd.bool (Kd.int .u32))) (ga := (fun n : Int => (Lit.int .i64 n).wf = true)) (gb := (fun x : Bool × Int => (fun _ : Bool => True) x.1 ∧ (fun n : Int => (Lit.int .u32 n).wf = true) x.2)) (off := 2) (sz := 1) (sz' := 2) rfl (by kernel_rfl) (Open.opens_int (k := .i64) Try.underlying3) (Open.opens_two (a := Kd.bool) (b := (Kd.int .u32)) (ga := (fun _ : Bool => True)) (gb := (fun n : Int => (Lit.int .u32 n).wf = true)) (off := 3) (sz := 1) (sz' := 1) rfl (by kernel_rfl) (Open.opens_bool Try.underlying4) (Open.opens_last (R := fun w v cs => (Kd.int .u32).K w v cs ∧ (fun n : Int => (Lit.int .u32 n).wf = true) v) (off := 4) (sz := 1) rfl (by kernel_rfl) (Open.opens_int (k := .u32) Try.underlying54)))))))) hsz (j := 1) rfl rfl h1
  obtain ⟨A1, n1, c1, rfl⟩ := okWide_slice Try.underlying57 (hval 1 57 v1 rfl rfl)
  obtain ⟨⟨A'1, c'1, e1, hk1, hr1⟩, hg1, hm1⟩ := rx1
  have z1 : [Value.slice A1 n1 c1] = [Value.slice A'1 x1.length c'1] := e1
  injection z1 with z1 _; injection z1 with za1 zb1 zc1; subst za1 zb1 zc1
  obtain ⟨a2, rfl, rfl, rfl, w2⟩ := open_int Try.underlying3 (hval 2 3 v2 rfl rfl) h2
  obtain ⟨a3, rfl, rfl, rfl, w3⟩ := open_int Try.underlying3 (hval 3 3 v3 rfl rfl) h3
  clear hA0 hval0 hsz0 hsz
  refine (MetaSlices.walk W A0 c0 x0 hr0 hk0 hg0 hm0 A1 c1 x1 hr1 hk1 hg1 hm1 a2 w2 a3 w3).mono fun e W' ⟨he, bel⟩ => ?_
  subst he
  exact ⟨_, rfl, _, _, _, [], _, [], hW', trodAll_mk1 (shut_bool Try.underlying4 _), (trodAll_cons_mk (Below.trod laidOut (by kernel_rfl) (of_decide_eq_true (by kernel_rfl)) k0 bel lt0) (trodAll_cons_mk (Below.trod laidOut (by kernel_rfl) (of_decide_eq_true (by kernel_rfl)) k1 bel lt1) (trodAll_cons_mk (shut_int Try.underlying3 w2) (trodAll_cons_mk (shut_int Try.underlying3 w3) trodAll_mk0)))), rfl, bel.frame _, fun h => by cases h⟩
theorem over : Rows.metaSlicesRow.holds Try.pinned (OpenSpec.ofChange Rows.metaSlicesSpec) :=
  OpenClaim.holds_of_wide 10 Try.f10 rfl rfl rfl rfl rfl rfl rfl ⟨rfl, rfl, rfl, rfl, rfl⟩ rfl rfl rfl rfl rfl (by kernel_rfl) Try.func10 (by kernel_rfl)
    (of_decide_eq_true (by kernel_rfl)) (by unfold Func.isWrapper; first | (rw [if_pos (by decide +kernel)]; kernel_rfl) | (rw [if_neg (by decide +kernel)]; exact ⟨rfl, rfl⟩))
    (fun os started H enc _ => lifted os started H enc)
theorem proved : Rows.MetaSlicesSaid := over
#print axioms proved
end Go.Proofs.Ytpdggoapjbjmhaa.metaSlices
namespace Go.Proofs.Ytpdggoapjbjmhaa
/-- The row. -/
theorem metaSlices_holds : Rows.MetaSlicesSaid := metaSlices.proved
end Go.Proofs.Ytpdggoapjbjmhaa
