/- Blocks are unpacked: sizes and sequences. -/
import Derived.Test.YtbnkglcgblhjeaaLawLz3
import Derived.Test.YtbnkglcgblhjeaaSame
set_option linter.unusedVariables false
set_option linter.unusedSimpArgs false
namespace Go.Proofs.Ytbnkglcgblhjeaa
open Go.RowKit Go.Proofs.YtbnkglcgblhjeaaW.PrintWords Go.Proofs.YtbnkglcgblhjeaaW.PrintLast Go.Proofs.YtbnkglcgblhjeaaW.PrintMore
namespace LzCuts
set_option maxHeartbeats 1000000 in
set_option maxRecDepth 100000 in
theorem walk (w : World) (A0 : Option Addr) (c0 : Nat) (l0 : List Int) (r0 : Kd.C (Kd.int .u8) w A0 l0.length l0) (k0 : l0.length ≤ c0) (g0 : ∀ v ∈ l0, (fun n : Int => (Lit.int .u8 n).wf = true) v) (m0 : l0.length * 1 ≤ 140737488351232) :
    Calls Try.prog 6 #[.slice A0 l0.length c0] w fun e w' => e = .returned (.bool true) ∧ Below w.heap.size w w' := by
  have hb := Aside0.mk (Lz.u8B g0)
  clear g0
  by_cases hbig : 3000 < l0.length
  · go_enter Try.func6, Try.ntmps6
    go_wp2_with (go_at_call 14; refine (Lz.live_any _).mono ?_; rintro e w' ⟨rfl, hbel⟩)
    go_ret
    exact ⟨rfl, hbel⟩
  have h1 : l0.length ≤ 3000 := by omega
  clear hbig
  have KC := Aside0.mk r0
  have K1 := Aside0.mk (Lz.size_any w l0 A0 c0 (fun w' hB => Kd.C_below KC.out hB) hb.out (by omega) k0)
  have K2 : Aside0 (∀ w', Below w.heap.size w w' → _) := ⟨fun w' hB => Lz.cut_any w' l0 A0 c0 (fun w'' hB2 => Kd.C_below (Kd.C_below KC.out hB) hB2) hb.out (by omega) k0⟩
  have K3 : Aside0 (∀ w', Below w.heap.size w w' → _) := ⟨fun w' hB => Lz.refdec_dec w' l0 A0 c0 1048576 (Kd.C_below KC.out hB) hb.out (by omega) k0 (by decide) (by decide)⟩
  obtain ⟨L, Y, T, E, P, hs, hc, hd, hl, rfl⟩ := Lz.all3 l0 hb.out
  have hLl : L.length ≤ 4000 := by
    rw [← hl]
    split
    · have := Lz.cuts_length l0 l0.length 1048576 (l0.length + 1) 0 l0; omega
    · simp
  rw [hl] at K3
  rw [hs] at K1
  rw [hc] at K2
  rw [hd] at K3
  simp only at K1 K2 K3
  clear hs hc hd hl r0
  obtain ⟨nL, hnL⟩ : ∃ nL, nL = L.length := ⟨_, rfl⟩
  have KnL := Aside0.mk hnL
  rw [← hnL] at hLl
  clear hnL
  go_enter Try.func6, Try.ntmps6
  go_wp2_with (first | (go_at_call 16; refine (Lz.num_any _ _).mono ?_; rintro e w' ⟨rfl, rfl⟩) | (go_at_call 14; refine (Lz.live_any _).mono ?_; rintro e w' ⟨rfl, hbel⟩) | (go_at_call 18; refine K1.out.mono ?_; rintro e w1 ⟨rfl, hb1⟩; have Kb1 := Aside0.mk hb1; clear hb1) | (go_at_call 19; refine (K2.out w1 Kb1.out).mono ?_; rintro e w2 ⟨v2, rfl, h2, hb2⟩; obtain ⟨A2, c2, rfl, hc2, hC2⟩ := Kd.R_reads h2; rw [← KnL.out] at hc2 hC2 ⊢; have KC2 := Aside0.mk hC2; have Kc2 := Aside0.mk hc2; have Kb2 := Aside0.mk (below_then Kb1.out Kb1.out.size hb2); clear h2 hb2 hC2 hc2) | (go_at_call 17; refine (K3.out w2 Kb2.out).mono ?_; rintro e w3 ⟨v8, v9, rfl, hb3, h8, h9⟩; obtain ⟨A3, c3, rfl, hc3, hC3⟩ := Lz.RowL_C h9 hb3; obtain ⟨A8, c8, rfl, hc8, hC8⟩ := Row.OwnB.slice h8; rw [← KnL.out] at hc3 hC3 ⊢; have KC3 := Aside0.mk hC3; have KC2' := Aside0.mk (Kd.C_below KC2.out hb3); have Kc3 := Aside0.mk hc3; have Kb3 := Aside0.mk (below_then Kb2.out Kb2.out.size hb3); clear h8 h9 hb3 hC3 hc3 hC8) | (go_at_call 20; have hsame := Lz.same_true (l := L) (A0 := A2) (A1 := A3) (c0 := c2) (c1 := c3) (w := w3) (by rw [← KnL.out]; exact KC2'.out) (by rw [← KnL.out]; exact Kc2.out) (by rw [← KnL.out]; exact KC3.out) (by rw [← KnL.out]; exact Kc3.out) (by rw [← KnL.out]; omega); rw [← KnL.out] at hsame; refine hsame.mono ?_; clear hsame; rintro e w4 ⟨rfl, hdr⟩; obtain ⟨nd, rfl⟩ := hdr.out))
  go_ret
  exact ⟨rfl, below_then (pw_below_drewN Kb3.out _) Kb3.out.size hbel⟩
end LzCuts
end Go.Proofs.Ytbnkglcgblhjeaa
