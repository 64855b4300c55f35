/- Any bytes as a boot record: the statement's walk. -/
import Derived.Test.YtgplpcjlemjabaaBo8
set_option linter.unusedVariables false
set_option linter.unusedSimpArgs false
namespace Go.Proofs.Ytgplpcjlemjabaa
open Go.RowKit Go.Proofs.Ytgplpcjlemjabaa.Fd Go.Proofs.Ytgplpcjlemjabaa.Bg Go.Proofs.Ytgplpcjlemjabaa.Bo Go.Proofs.YtgplpcjlemjabaaW.PrintWords Go.Proofs.YtgplpcjlemjabaaW.PrintLast Go.Proofs.YtgplpcjlemjabaaW.PrintMore
namespace BootDecodes
theorem big_ (w : World) (A0 : Option Addr) (c0 n : Nat) (hn : 300 < n) : Calls Try.prog 9 #[.slice A0 n c0] w fun e w' => e = .returned (.bool true) ∧ Below w.heap.size w w' := by
  go_enter Try.func9, Try.ntmps9
  go_wp2_with (go_at_call 23; refine (live_any _).mono ?_; rintro e w' ⟨rfl, hbel⟩)
  go_ret
  exact ⟨rfl, hbel⟩
set_option maxHeartbeats 4000000 in
theorem small_ (w : World) (A0 : Option Addr) (c0 n : Nat) (hn : n ≤ 300) (r : Rec) (z : Int) (k0 : DecK w A0 n c0 (r, z)) (k1 : RecK w A0 n c0 (r, z)) : Calls Try.prog 9 #[.slice A0 n c0] w fun e w' => e = .returned (.bool true) ∧ Below w.heap.size w w' := by
  have K0 := Aside0.mk (k0 w (Below.refl _ _))
  have K1 := Aside0.mk k1
  have heq := Bo.eq_self r
  clear k0 k1
  go_enter Try.func9, Try.ntmps9
  go_wp2_with (go_at_call 28; apply Aside0.out)
  refine ⟨?_⟩
  refine K0.out.mono ?_
  rintro e w1 ⟨hB1, rfl⟩
  have KB1 := Aside0.mk (below_alloc hB1 (.cells #[.int .u64 r.seq, .int .i64 r.slot, .int .i64 r.len, .int .u64 r.sum] 45))
  have KR1 := Aside0.mk (heap_alloc_new w1 (.cells #[.int .u64 r.seq, .int .i64 r.slot, .int .i64 r.len, .int .u64 r.sum] 45))
  clear hB1
  go_wp2_with (go_at_call 29; apply Aside0.out)
  refine ⟨?_⟩
  refine (K1.out _ KB1.out).mono ?_
  rintro e w2 ⟨hB2, rfl⟩
  have KB2 := Aside0.mk (below_then KB1.out KB1.out.size hB2)
  have KR2 := Aside0.mk (blk_below KR1.out hB2)
  have hsz : w1.heap.size < w2.heap.size := blk_lt KR2.out
  obtain ⟨z0, z1, z2, z3⟩ := box_cells KR2.out
  clear hB2
  go_wp2_with (first | (go_at_call 26; refine (num_any _ _).mono ?_; rintro e w' ⟨rfl, rfl⟩) | (go_at_call 23; apply Aside0.out))
  refine ⟨?_⟩
  refine (live_any _).mono ?_
  rintro e w9 ⟨rfl, hb9⟩
  go_wp2
  go_ret
  have hBX := below_alloc KB2.out (.cells #[.int .u64 r.seq, .int .i64 r.slot, .int .i64 r.len, .int .u64 r.sum] 45)
  exact ⟨rfl, below_then hBX hBX.size hb9⟩
theorem walk (w : World) (A0 : Option Addr) (c0 : Nat) (l0 : List Int) (r0 : Kd.C (Kd.int .u8) w A0 l0.length l0) (k0 : l0.length ≤ c0) (g0 : ∀ v ∈ l0, (fun n : Int => (Lit.int .u8 n).wf = true) v) (m0 : l0.length * 1 ≤ 140737488351232) :
    Calls Try.prog 9 #[.slice A0 l0.length c0] w fun e w' => e = .returned (.bool true) ∧ Below w.heap.size w w' := by
  have hb := isB_of g0
  by_cases hn : 300 < l0.length
  · exact big_ w A0 c0 l0.length hn
  · exact small_ w A0 c0 l0.length (by omega) (dec l0).1 (dec l0).2 (decK w l0 A0 c0 r0 hb (by omega) k0) (recK w l0 A0 c0 r0 hb (by omega) k0)
end BootDecodes
end Go.Proofs.Ytgplpcjlemjabaa
