/- Blocks are packed: unpacked, or not. -/
import Derived.Test.YtpdggoapjbjmhaaKN
set_option linter.unusedVariables false
set_option linter.unusedSimpArgs false
namespace Go.Proofs.Ytpdggoapjbjmhaa
open Go.RowKit Go.Proofs.YtpdggoapjbjmhaaW.PrintWords Go.Proofs.YtpdggoapjbjmhaaW.PrintLast Go.Proofs.YtpdggoapjbjmhaaW.PrintMore
namespace Ma
open Go.Proofs.Ytpdggoapjbjmhaa.Lz
theorem runpack_any (w : World) (b : List Int) (A : Option Addr) (cap : Nat) (packed : Bool) (most : Int) (hC : Kd.C (Kd.int .u8) w A b.length b) (hcap : b.length ≤ cap) (hb : isB b) (hN : b.length ≤ 1000000) :
    Calls Try.prog 43 #[.slice A b.length cap, .bool packed, .int .i64 most] w fun e w' => ∃ A1 c1, e = .returned (.tuple #[.slice A1 (unp b packed most).1.length c1, .int .i64 (unp b packed most).2]) ∧ Kd.C (Kd.int .u8) w' A1 (unp b packed most).1.length (unp b packed most).1 ∧ Below w.heap.size w w' := by
  have KC := Aside0.mk hC
  by_cases hm : most < 0 ∨ 1048576 < most
  · have he : unp b packed most = ([], 1) := by
      unfold unp
      cases packed with
      | true => rw [if_pos rfl]; unfold dec; rw [if_pos hm]
      | false => rw [if_neg (by decide), if_pos hm]
    rw [he]
    have hm2 : most < 0 ∨ (0 ≤ most ∧ 1048576 < most) := by omega
    clear hm he hC hb
    rcases hm2 with hm | ⟨hm, hm1⟩
    all_goals
      go_enter Try.func43, Try.ntmps43
      go_wp2
      go_ret2
      exact ⟨none, 0, rfl, Kd.C_nil _ _, Below.refl _ _⟩
  · have h0 : 0 ≤ most := by omega
    have h1 : most ≤ 1048576 := by omega
    have KD := Aside0.mk (refdec_dec w b A cap most hC hb hN hcap h0 h1)
    unfold unp
    rw [if_neg hm]
    clear hm
    cases packed with
    | true =>
      rw [if_pos rfl]
      obtain ⟨x, E, P, hx⟩ : ∃ x E P, dec b most = (x, E, P) := ⟨_, _, _, rfl⟩
      rw [hx] at KD ⊢
      simp only at KD ⊢
      clear hC hb hx
      go_enter Try.func43, Try.ntmps43
      go_wp2_with (go_at_call 58; apply Aside0.out)
      refine ⟨?_⟩
      refine KD.out.mono ?_
      rintro e w1 ⟨v8, v9, rfl, hB, h8, h9⟩
      obtain ⟨A8, c8, rfl, -, hC8⟩ := h8.slice
      have KB := Aside0.mk hB
      have KC8 := Aside0.mk hC8
      clear hB h8 h9 hC8
      go_wp2
      go_ret2
      exact ⟨A8, c8, rfl, KC8.out, KB.out⟩
    | false =>
      rw [if_neg (by decide)]
      clear KD hC hb
      by_cases hl : most < b.length
      · rw [if_pos hl]
        go_enter Try.func43, Try.ntmps43
        go_wp2
        go_ret2
        exact ⟨none, 0, rfl, Kd.C_nil _ _, Below.refl _ _⟩
      · rw [if_neg hl]
        have hl2 : (b.length : Int) ≤ most := by omega
        clear hl
        go_enter Try.func43, Try.ntmps43
        go_wp2
        go_ret2
        exact ⟨A, cap, rfl, KC.out, Below.refl _ _⟩
theorem unp_len (b : List Int) (packed : Bool) (most : Int) (hb : isB b) (hN : b.length ≤ 1000000) : (unp b packed most).1.length ≤ 1048576 := by
  unfold unp
  cases packed with
  | true =>
    rw [if_pos rfl]
    unfold dec
    by_cases hm : most < 0 ∨ 1048576 < most
    · rw [if_pos hm]; simp
    · rw [if_neg hm]
      have ht := run_tot (N := b.length) (most := most) (b.length + 1) 0 b hb (by omega) (by omega)
      have ho := outs_length (run b.length most (b.length + 1) 0 b).1 [] ht.2.1
      by_cases h0 : (run b.length most (b.length + 1) 0 b).2.1 = 0
      · have h3 := ht.2.2.1 h0
        simp only [if_pos h0]
        simp at ho
        omega
      · simp only [if_neg h0]
        simp
  | false =>
    rw [if_neg (by decide)]
    split
    · simp
    · split
      · simp
      · simp only; omega
end Ma
namespace MatchUnpacks
end MatchUnpacks
end Go.Proofs.Ytpdggoapjbjmhaa
