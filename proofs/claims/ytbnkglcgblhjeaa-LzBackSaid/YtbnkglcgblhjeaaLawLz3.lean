/- Blocks are unpacked: what bytes unpack to. -/
import Derived.Test.YtbnkglcgblhjeaaLz8
set_option linter.unusedVariables false
set_option linter.unusedSimpArgs false
namespace Go.Proofs.Ytbnkglcgblhjeaa
open Go.RowKit Go.Proofs.YtbnkglcgblhjeaaW.PrintWords Go.Proofs.YtbnkglcgblhjeaaW.PrintLast Go.Proofs.YtbnkglcgblhjeaaW.PrintMore
namespace Lz
/-- The document's Decode, in the words of the program's. -/
theorem refdec_dec (w : World) (b : List Int) (A : Option Addr) (c : Nat) (most : Int) (hC : Kd.C (Kd.int .u8) w A b.length b) (hb : isB b) (hN : b.length ≤ 1000000) (hcap : b.length ≤ c) (hm0 : 0 ≤ most) (hm1 : most ≤ 1048576) :
    Calls Try.prog 17 #[.slice A b.length c, .int .i64 most] w fun e w' => ∃ v8 v9, e = .returned (.tuple #[v8, v9, .int .i64 (dec b most).2.1, .int .i64 (dec b most).2.2]) ∧ Below w.heap.size w w' ∧ Row.OwnB w' w.heap.size v8 (dec b most).1 ∧ RowL w w.heap.size w' v9 (if (dec b most).2.1 = 0 then (run b.length most (b.length + 1) 0 b).1 else []) := by
  refine (refdec_any w b A c most hC hb hN hcap hm0 hm1).mono fun e w' ⟨v8, v9, he, hB, h8, h9⟩ => ⟨v8, v9, ?_⟩
  unfold dec
  rw [if_neg (by omega)]
  by_cases h : (run b.length most (b.length + 1) 0 b).2.1 = 0
  · rw [if_pos h] at h8 h9 ⊢
    rw [if_pos h, h] at he
    exact ⟨he, hB, h8, by simpa using h9⟩
  · rw [if_neg h] at h8 h9 ⊢
    rw [if_neg h] at he
    refine ⟨he, hB, h8, ?_⟩
    rw [if_neg h]
    exact h9
theorem own_none {w : World} {base : Nat} (hb : base ≤ w.heap.size) : Row.OwnB (w.alloc (.cells #[] 5)) base (.slice (some ⟨w.heap.size, 0, none⟩) 0 0) [] := Row.OwnB.lit w base #[] [] rfl hb (by simp)
end Lz
namespace LzDecodes
set_option maxHeartbeats 1000000 in
set_option maxRecDepth 100000 in
theorem walk (w : World) (A0 : Option Addr) (c0 : Nat) (l0 : List Int) (r0 : Kd.C (Kd.int .u8) w A0 l0.length l0) (k0 : l0.length ≤ c0) (g0 : ∀ v ∈ l0, (fun n : Int => (Lit.int .u8 n).wf = true) v) (m0 : l0.length * 1 ≤ 140737488351232) (a1 : Int) (w1 : (Lit.int .i64 a1).wf = true) :
    Calls Try.prog 3 #[.slice A0 l0.length c0, .int .i64 a1] w fun e w' => e = .returned (.bool true) ∧ Below w.heap.size w w' := by
  have hb := Aside0.mk (Lz.u8B g0)
  clear g0 w1
  by_cases hbig : 3000 < l0.length
  · go_enter Try.func3, Try.ntmps3
    go_wp2_with (go_at_call 14; refine (Lz.live_any _).mono ?_; rintro e w' ⟨rfl, hbel⟩)
    go_ret
    exact ⟨rfl, hbel⟩
  have h1 : l0.length ≤ 3000 := by omega
  clear hbig
  have KC := Aside0.mk r0
  have KO := Aside0.mk (Lz.own_none (w := w) (Nat.le_refl _))
  have hal : Below w.heap.size w (w.alloc (.cells #[] 5)) := below_alloc (Below.refl _ _) _
  have Kal := Aside0.mk hal
  clear hal r0
  have Kd1 : Aside0 (∀ (w' : World) (A : Option Addr) (c : Nat), Kd.C (Kd.int .u8) w' A l0.length l0 → l0.length ≤ c → Calls Try.prog 15 #[.slice A l0.length c, .int .i64 a1] w' fun e w'' => ∃ v, e = .returned (.tuple #[v, .int .i64 (Lz.dec l0 a1).2.1, .int .i64 (Lz.dec l0 a1).2.2]) ∧ Row.OwnB w'' w'.heap.size v (Lz.dec l0 a1).1 ∧ Below w'.heap.size w' w'') := ⟨fun w' A c hC hc => Lz.decode_any w' l0 A c a1 (fun w'' hB => Kd.C_below hC hB) hb.out (by omega) hc⟩
  by_cases hm : a1 < 0 ∨ 1048576 < a1
  · rw [show Lz.dec l0 a1 = ([], 1, 0) by unfold Lz.dec; rw [if_pos hm]] at Kd1
    simp only at Kd1
    rcases hm with hm | hm
    all_goals
      go_enter Try.func3, Try.ntmps3
      go_wp2_with ((with_reducible refine gate_builtin (b := .append) (xs := #[.tmp 17, .tmp 18]) rfl ?_); apply Aside0.out)
      refine ⟨?_⟩
      refine Row.app_rows (w0 := w) w.heap.size rfl (.tmp 17) (.tmp 18) rfl _ [] l0 A0 l0.length c0 rfl rfl KO.out (Kd.C_below KC.out Kal.out) Kal.out (Kal.out).size (by simp; omega) ?_
      intro zs A1 c1 w1 e1 e2 e3 h4 h5 e4 hb1 e5 e6 e7
      obtain rfl : zs = l0 := by rw [e1.out]; rfl
      have Kd2 := Aside0.mk (Kd1.out w1 A1 c1 e4.out h5)
      clear e1 e2 e3 h4 e4 e5 e6 e7 Kd1
      go_wp2_with (first | (go_at_call 16; refine (Lz.num_any _ _).mono ?_; rintro e w' ⟨rfl, rfl⟩) | (go_at_call 14; refine (Lz.live_any _).mono ?_; rintro e w' ⟨rfl, hbel⟩) | (go_at_call 15; refine Kd2.out.mono ?_; rintro e w2 ⟨v2, rfl, ho2, hb2⟩; obtain ⟨A2, c2, rfl, hle2, hC2⟩ := Row.OwnB.slice ho2; have Kb2 := Aside0.mk (below_then hb1.out hb1.out.size hb2); clear hC2 hb2 ho2 Kd2))
      go_ret
      exact ⟨rfl, below_then Kb2.out Kb2.out.size hbel⟩
  · obtain ⟨hm0, hm1⟩ : 0 ≤ a1 ∧ a1 ≤ 1048576 := by omega
    clear hm
    have Kr : Aside0 (∀ w' : World, Below w.heap.size w w' → Calls Try.prog 17 #[.slice A0 l0.length c0, .int .i64 a1] w' fun e w'' => ∃ v8 v9, e = .returned (.tuple #[v8, v9, .int .i64 (Lz.dec l0 a1).2.1, .int .i64 (Lz.dec l0 a1).2.2]) ∧ Below w'.heap.size w' w'' ∧ Row.OwnB w'' w'.heap.size v8 (Lz.dec l0 a1).1 ∧ Lz.RowL w' w'.heap.size w'' v9 (if (Lz.dec l0 a1).2.1 = 0 then (Lz.run l0.length a1 (l0.length + 1) 0 l0).1 else [])) := ⟨fun w' hB => Lz.refdec_dec w' l0 A0 c0 a1 (Kd.C_below KC.out hB) hb.out (by omega) k0 hm0 hm1⟩
    obtain ⟨x, E, P, hx⟩ : ∃ x E P, Lz.dec l0 a1 = (x, E, P) := ⟨_, _, _, rfl⟩
    rw [hx] at Kd1 Kr
    simp only at Kd1 Kr
    clear hx
    go_enter Try.func3, Try.ntmps3
    go_wp2_with ((with_reducible refine gate_builtin (b := .append) (xs := #[.tmp 17, .tmp 18]) rfl ?_); apply Aside0.out)
    refine ⟨?_⟩
    refine Row.app_rows (w0 := w) w.heap.size rfl (.tmp 17) (.tmp 18) rfl _ [] l0 A0 l0.length c0 rfl rfl KO.out (Kd.C_below KC.out Kal.out) Kal.out (Kal.out).size (by simp; omega) ?_
    intro zs A1 c1 w1 e1 e2 e3 h4 h5 e4 hb1 e5 e6 e7
    obtain rfl : zs = l0 := by rw [e1.out]; rfl
    have Kd2 := Aside0.mk (Kd1.out w1 A1 c1 e4.out h5)
    have Kc := Aside0.mk e4.out
    clear e1 e2 e3 h4 e4 e5 e6 e7 Kd1
    go_wp2_with (first | (go_at_call 16; refine (Lz.num_any _ _).mono ?_; rintro e w' ⟨rfl, rfl⟩) | (go_at_call 14; refine (Lz.live_any _).mono ?_; rintro e w' ⟨rfl, hbel⟩) | (go_at_call 15; refine Kd2.out.mono ?_; rintro e w2 ⟨v2, rfl, ho2, hb2⟩; obtain ⟨A2, c2, rfl, hle2, hC2⟩ := Row.OwnB.slice ho2; have Kb2 := Aside0.mk (below_then hb1.out hb1.out.size hb2); have KC2 := Aside0.mk hC2; have Kc2 := Aside0.mk (Kd.C_below Kc.out hb2); clear hC2 hb2 ho2 Kd2) | (go_at_call 17; refine (Kr.out w2 Kb2.out).mono ?_; rintro e w3 ⟨v8, v9, rfl, hb3, ho8, -⟩; obtain ⟨A8, c8, rfl, hle8, hC8⟩ := Row.OwnB.slice ho8; have Kb3 := Aside0.mk (below_then Kb2.out Kb2.out.size hb3); have hs1 := Kd.C_string (P := Try.prog) (c := c2) Try.underlying22 Try.underlying5 Try.underlying9 (Kd.C_below KC2.out hb3); have hs2 := Kd.C_string (P := Try.prog) (c := c8) Try.underlying22 Try.underlying5 Try.underlying9 hC8; have hs3 := Kd.C_string (P := Try.prog) (c := c1) Try.underlying22 Try.underlying5 Try.underlying9 (Kd.C_below Kc2.out hb3); have hs4 := Kd.C_string (P := Try.prog) (c := c0) Try.underlying22 Try.underlying5 Try.underlying9 (Kd.C_below KC.out Kb3.out); clear hC8 hb3 ho8 Kr))
    go_ret
    exact ⟨rfl, below_then Kb3.out Kb3.out.size hbel⟩
end LzDecodes
end Go.Proofs.Ytbnkglcgblhjeaa
