/- The walks of the laws on digests and on sums by any table: SumDigests, SumCrcs, SumTables. -/
import Derived.Test.YtgadcnlcldjhpaaSumLive
import Derived.OpenShut
namespace Go.Proofs.Ytgadcnlcldjhpaa
open Go.RowKit Go.Proofs.YtgadcnlcldjhpaaW.PrintWords Go.Proofs.YtgadcnlcldjhpaaW.PrintLast Go.Proofs.YtgadcnlcldjhpaaW.PrintMore
set_option linter.unusedVariables false
set_option linter.unusedSimpArgs false
theorem u8s {l : List Int} (g : ∀ v ∈ l, (fun n : Int => (Lit.int .u8 n).wf = true) v) : ∀ x ∈ l, 0 ≤ x ∧ x < 256 := fun x hx => by
  have := Go.bounds_u8 (g x hx)
  omega
namespace SumDigests
set_option maxHeartbeats 1000000 in
theorem walk (w : World) (a0 : Int) (w0 : (Lit.int .u64 a0).wf = true) (A1 : Option Addr) (c1 : Nat) (l1 : List Int) (r1 : Kd.C (Kd.int .u8) w A1 l1.length l1) (k1 : l1.length ≤ c1) (g1 : ∀ v ∈ l1, (fun n : Int => (Lit.int .u8 n).wf = true) v) (m1 : l1.length * 1 ≤ 140737488351232) :
    Calls Try.prog 4 #[.int .u64 a0, .slice A1 l1.length c1] w fun e w' => e = .returned (.bool true) ∧ Below w.heap.size w w' := by
  have HL := Aside0.mk (u8s g1)
  have HR := Aside0.mk r1
  have hb := Go.bounds_u64 w0
  obtain ⟨d, rfl⟩ := Int.eq_ofNat_of_zero_le hb.1
  have HD : Aside0 (d < 18446744073709551616) := ⟨by omega⟩
  have hm : l1.length ≤ 140737488351232 := by omega
  clear g1 r1 hb w0 m1
  go_enter Try.func4, Try.ntmps4
  by_cases hlen : 5000 < l1.length
  · go_wp2_with (go_at_call 15; refine (Sum.live_any _).mono ?_; rintro e w' ⟨rfl, hbel⟩)
    go_ret
    exact ⟨rfl, hbel⟩
  · go_wp2_with (first | (go_at_call 15; refine (Sum.live_any _).mono ?_; rintro e w' ⟨rfl, hbel⟩) | (go_at_call 18; refine (Sum.on_any d HD A1 c1 l1 _ HR.out hm HL.out).mono ?_; rintro e w' ⟨rfl, rfl⟩) | (go_at_call 19; refine (Sum.refOn_any d HD A1 c1 l1 _ HR.out hm HL.out).mono ?_; rintro e w' ⟨rfl, rfl⟩) | (go_at_call 20; refine (Sum.digest_any A1 c1 l1 _ HR.out hm HL.out).mono ?_; rintro e w' ⟨rfl, rfl⟩) | (go_at_call 21; refine (Sum.refDigest_any A1 c1 l1 _ HR.out hm HL.out).mono ?_; rintro e w' ⟨rfl, rfl⟩))
    go_ret
    exact ⟨rfl, hbel⟩
end SumDigests
end Go.Proofs.Ytgadcnlcldjhpaa
