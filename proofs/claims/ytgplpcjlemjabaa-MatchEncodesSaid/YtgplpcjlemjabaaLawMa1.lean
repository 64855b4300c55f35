/- Blocks are packed: texts as blocks. -/
import Derived.Test.YtgplpcjlemjabaaMaB
set_option linter.unusedVariables false
set_option linter.unusedSimpArgs false
namespace Go.Proofs.Ytgplpcjlemjabaa
open Go.RowKit Go.Proofs.YtgplpcjlemjabaaW.PrintWords Go.Proofs.YtgplpcjlemjabaaW.PrintLast Go.Proofs.YtgplpcjlemjabaaW.PrintMore
namespace MatchEncodes
set_option maxHeartbeats 4000000 in
set_option maxRecDepth 100000 in
theorem walk (w : World) (A0 : Option Addr) (c0 : Nat) (l0 : List Int) (r0 : Kd.C (Kd.int .u8) w A0 l0.length l0) (k0 : l0.length ≤ c0) (g0 : ∀ v ∈ l0, (fun n : Int => (Lit.int .u8 n).wf = true) v) (m0 : l0.length * 1 ≤ 140737488351232) :
    Calls Try.prog 3 #[.slice A0 l0.length c0] w fun e w' => e = .returned (.bool true) ∧ Below w.heap.size w w' := by
  have hb := Aside0.mk (Lz.u8B g0)
  clear g0
  by_cases hbig : 5000 < l0.length
  · go_enter Try.func3, Try.ntmps3
    go_wp2_with (go_at_call 12; refine (Ma.live_any _).mono ?_; rintro e w' ⟨rfl, hbel⟩)
    go_ret
    exact ⟨rfl, hbel⟩
  have h1 : l0.length ≤ 5000 := by omega
  clear hbig
  have KC : Aside0 (∀ w', Below w.heap.size w w' → Kd.C (Kd.int .u8) w' A0 l0.length l0) := ⟨fun w' hB => Kd.C_below r0 hB⟩
  have KO := Aside0.mk (Lz.own_none (w := w) (Nat.le_refl _))
  have hal : Below w.heap.size w (w.alloc (.cells #[] 5)) := below_alloc (Below.refl _ _) _
  have Kal := Aside0.mk hal
  clear hal r0
  have KE : Aside0 (∀ (w' : World) (A : Option Addr) (c : Nat), Kd.C (Kd.int .u8) w' A l0.length l0 → l0.length ≤ c → Calls Try.prog 13 #[.slice A l0.length c] w' fun e w'' => ∃ v, e = .returned (.tuple #[v, .int .i64 0]) ∧ Row.OwnB w'' w'.heap.size v (Ma.enc l0) ∧ Below w'.heap.size w' w'') := ⟨fun w' A c hC hc => Ma.encode_any w' l0 A c hC hc hb.out (by omega)⟩
  have KR : Aside0 (∀ (w' : World) (A B : Option Addr) (c d : Nat), Kd.C (Kd.int .u8) w' A l0.length l0 → Kd.C (Kd.int .u8) w' B (Ma.enc l0).length (Ma.enc l0) → l0.length ≤ c → (Ma.enc l0).length ≤ d → Calls Try.prog 15 #[.slice A l0.length c, .slice B (Ma.enc l0).length d] w' fun e w'' => e = .returned (.bool true) ∧ Below w'.heap.size w' w'') := ⟨fun w' A B c d hA hB hc hd => Ma.rright_any w' l0 A B c d hA hB hc hd hb.out (by omega)⟩
  go_enter Try.func3, Try.ntmps3
  go_wp2_with ((with_reducible refine gate_builtin (b := .append) (xs := #[.tmp 12, .tmp 13]) rfl ?_); apply Aside0.out)
  refine ⟨?_⟩
  refine Row.app_rows (w0 := w) w.heap.size rfl (.tmp 12) (.tmp 13) rfl _ [] l0 A0 l0.length c0 rfl rfl KO.out (KC.out _ Kal.out) Kal.out (Kal.out).size (by simp; omega) ?_
  intro zs A1 c1 w1 e1 e2 e3 h4 h5 e4 hb1 e5 e6 e7
  obtain rfl : zs = l0 := by rw [e1.out]; rfl
  have KE1 := Aside0.mk (KE.out w1 A1 c1 e4.out h5)
  have Kc := Aside0.mk e4.out
  have KB1 := Aside0.mk hb1.out
  clear e1 e2 e3 h4 e4 e5 e6 e7 hb1
  go_wp2_with (go_at_call 13; apply Aside0.out)
  refine ⟨?_⟩
  refine KE1.out.mono ?_
  rintro e w2 ⟨v2, rfl, hO2, hB2⟩
  obtain ⟨A2, c2, rfl, hle2, hC2⟩ := hO2.slice
  have Kc2 := Aside0.mk (Kd.C_below Kc.out hB2)
  have KB2 := Aside0.mk (below_then KB1.out KB1.out.size hB2)
  have KC2 := Aside0.mk hC2
  have KE2 := Aside0.mk (KE.out w2 A0 c0 (KC.out w2 KB2.out) k0)
  clear KE1 hO2 hB2 hC2 Kc KB1
  go_wp2_with (go_at_call 13; apply Aside0.out)
  refine ⟨?_⟩
  refine KE2.out.mono ?_
  rintro e w3 ⟨v3, rfl, hO3, hB3⟩
  obtain ⟨A3, c3, rfl, hle3, hC3⟩ := hO3.slice
  have KB3 := Aside0.mk (below_then KB2.out KB2.out.size hB3)
  have KC2 := Aside0.mk (Kd.C_below KC2.out hB3)
  have hs1 := Kd.C_string (P := Try.prog) (c := c1) Try.underlying22 Try.underlying5 Try.underlying9 (Kd.C_below Kc2.out hB3)
  have hs2 := Kd.C_string (P := Try.prog) (c := c0) Try.underlying22 Try.underlying5 Try.underlying9 (KC.out w3 KB3.out)
  have hs3 := Kd.C_string (P := Try.prog) (c := c2) Try.underlying22 Try.underlying5 Try.underlying9 KC2.out
  have hs4 := Kd.C_string (P := Try.prog) (c := c3) Try.underlying22 Try.underlying5 Try.underlying9 hC3
  have KR := Aside0.mk (KR.out w3 A0 A2 c0 c2 (KC.out w3 KB3.out) KC2.out k0 hle2)
  clear KE2 KE hO3 hB3 hC3 KB2 Kc2 KC2
  go_wp2_with (first | (go_at_call 14; refine (Ma.num_any _ _).mono ?_; rintro e w' ⟨rfl, rfl⟩) | (go_at_call 12; refine (Ma.live_any _).mono ?_; rintro e w' ⟨rfl, hbel⟩) | (go_at_call 15; refine KR.out.mono ?_; rintro e w4 ⟨rfl, hB4⟩; have KB4 := Aside0.mk (below_then KB3.out KB3.out.size hB4); clear hB4))
  go_ret
  exact ⟨rfl, below_then KB4.out KB4.out.size hbel⟩
end MatchEncodes
end Go.Proofs.Ytgplpcjlemjabaa
