/- Blocks are packed: how long blocks may be. -/
import Derived.Test.YtgplpcjlemjabaaMaB
import Derived.Test.YtgplpcjlemjabaaMaR
set_option linter.unusedVariables false
set_option linter.unusedSimpArgs false
namespace Go.Proofs.Ytgplpcjlemjabaa
open Go.RowKit Go.Proofs.YtgplpcjlemjabaaW.PrintWords Go.Proofs.YtgplpcjlemjabaaW.PrintLast Go.Proofs.YtgplpcjlemjabaaW.PrintMore
namespace Ma
open Go.Proofs.Ytgplpcjlemjabaa.Lz
theorem zeros_rep (n : Nat) : Rep (List.replicate n 0) 1 := by
  intro i hi
  rw [List.getD_eq_getElem?_getD, List.getD_eq_getElem?_getD, List.getElem?_replicate, List.getElem?_replicate]
  split <;> split <;> rfl
theorem zeros_isB (n : Nat) : isB (List.replicate n (0 : Int)) := fun x hx => by rw [(List.mem_replicate.1 hx).2]; decide
theorem zeros_short (n : Nat) (hN : n ≤ 1048576) : (enc (List.replicate n 0)).length ≤ 256 + n / 255 := by
  have h := rep_short (zeros_rep n) (Nat.le_refl _) (by decide) (by rw [List.length_replicate]; exact hN)
  rwa [List.length_replicate] at h
end Ma
namespace MatchBounds
set_option maxHeartbeats 8000000 in
set_option maxRecDepth 100000 in
theorem walk (w : World) (a0 : Int) (w0 : (Lit.int .i64 a0).wf = true) :
    Calls Try.prog 4 #[.int .i64 a0] w fun e w' => e = .returned (.bool true) ∧ Below w.heap.size w w' := by
  have hw : a0 ≤ 9223372036854775807 := by
    have e1 : IntKind.i64.min = -9223372036854775808 := by decide
    have e2 : IntKind.i64.max = 9223372036854775807 := by decide
    simp only [Lit.wf, e1, e2, Bool.and_eq_true, decide_eq_true_eq] at w0
    exact w0.2
  clear w0
  have KB := Aside0.mk (fun w' => Ma.bound_any a0 hw w')
  have KR := Aside0.mk (fun w' => Ma.rbound_any a0 hw w')
  obtain ⟨m, hm⟩ : ∃ m, m = Ma.bound a0 := ⟨_, rfl⟩
  rw [← hm] at KB KR
  clear hm hw
  by_cases hbig : a0 < 1048574 ∨ 1048578 < a0
  · have h4 : a0 < 1048574 ∨ (1048574 ≤ a0 ∧ 1048578 < a0) := by omega
    clear hbig
    rcases h4 with h | ⟨h, h2⟩
    all_goals
      go_enter Try.func4, Try.ntmps4
      go_wp2_with (first | (go_at_call 16; refine (KB.out _).mono ?_; rintro e w' ⟨rfl, rfl⟩) | (go_at_call 17; refine (KR.out _).mono ?_; rintro e w1 ⟨rfl, hB1⟩; have KB1 := Aside0.mk hB1; clear hB1) | (go_at_call 12; refine (Ma.live_any _).mono ?_; rintro e w' ⟨rfl, hbel⟩))
      go_ret
      exact ⟨rfl, below_then KB1.out KB1.out.size hbel⟩
  obtain ⟨n, rfl⟩ : ∃ n : Nat, a0 = n := ⟨a0.toNat, by omega⟩
  have h1 : 1048574 ≤ n := by omega
  have h2 : n ≤ 1048578 := by omega
  clear hbig
  have d1 : decide ((n : Int) < 1048574) = false := decide_eq_false (by omega)
  have d2 : decide (1048578 < (n : Int)) = false := decide_eq_false (by omega)
  have K1 := Aside0.mk h1
  have K2 := Aside0.mk h2
  clear h1 h2
  go_enter Try.func4, Try.ntmps4
  go_wp2_with (first | (go_at_call 16; refine (KB.out _).mono ?_; rintro e w' ⟨rfl, rfl⟩) | (go_at_call 17; refine (KR.out _).mono ?_; rintro e w1 ⟨rfl, hB1⟩; have KB1 := Aside0.mk hB1; clear hB1) | ((with_reducible refine gate_dst (N := 19) rfl ?_); apply Aside0.out))
  refine ⟨?_⟩
  refine Kd.R_make (Kd.int .u8) _ 5 rfl (N := 19) rfl 22 _ _ rfl (n : Int) rfl rfl Try.underlying22 (.int .u8 0) 1 Row.info8 rfl (by decide) (by omega) 0 (ok := fun _ => True) (okp := fun _ => True) rfl (fun _ hk => hk) trivial (by omega) (by have := K2.out; simp; omega) (Below.refl _ _) (Nat.le_refl _) ?_
  intro v w2 ho hB2 hg hnew
  obtain ⟨A1, c1, rfl, hle1, hC⟩ := Kd.R_reads ho
  rw [List.length_replicate] at hle1 hC ⊢
  rw [Int.toNat_natCast] at hle1 hC ⊢
  have KB2 := Aside0.mk (below_then KB1.out KB1.out.size hB2)
  by_cases hbig : 1048576 < n
  · have KE := Aside0.mk (fun w' => Ma.encode_long w' A1 n c1 hbig (by have := K2.out; omega))
    have d3 : decide (1048576 < (n : Int)) = true := decide_eq_true (by omega)
    clear hbig
    clear ho hB2 hg hnew hC KB KR
    go_wp2_with (first | (go_at_call 13; refine (KE.out _).mono ?_; rintro e w' ⟨rfl, rfl⟩) | (go_at_call 14; refine (Ma.num_any _ _).mono ?_; rintro e w' ⟨rfl, rfl⟩) | (go_at_call 12; refine (Ma.live_any _).mono ?_; rintro e w' ⟨rfl, hbel⟩))
    go_ret
    exact ⟨rfl, below_then KB2.out KB2.out.size hbel⟩
  · have h3 : n ≤ 1048576 := by omega
    have hlen := Ma.zeros_short n h3
    have KE : Aside0 (Calls Try.prog 13 #[.slice A1 n c1] w2 fun e w' => ∃ v, e = .returned (.tuple #[v, .int .i64 0]) ∧ Row.OwnB w' w2.heap.size v (Ma.enc (List.replicate n 0)) ∧ Below w2.heap.size w2 w') := ⟨by
      have h := Ma.encode_any w2 (List.replicate n 0) A1 c1 (by rw [List.length_replicate]; exact hC) (by rw [List.length_replicate]; exact hle1) (Ma.zeros_isB n) (by rw [List.length_replicate]; exact h3)
      rwa [List.length_replicate] at h⟩
    clear ho hB2 hg hnew hC KB KR hbig
    have d3 : decide (1048576 < (n : Int)) = false := decide_eq_false (by omega)
    have hdiv : (n : Int).tdiv 255 = ((n / 255 : Nat) : Int) := rfl
    obtain ⟨x, hx⟩ : ∃ x, x = (Ma.enc (List.replicate n 0)).length := ⟨_, rfl⟩
    rw [← hx] at hlen
    have Kx := Aside0.mk hx
    obtain ⟨y, hy⟩ : ∃ y, y = n / 255 := ⟨_, rfl⟩
    rw [← hy] at hlen hdiv
    have hy2 : y ≤ 20000 := by omega
    have Klen := Aside0.mk hlen
    have Ky2 := Aside0.mk hy2
    clear hx hy h3
    go_wp2_with (go_at_call 13; apply Aside0.out)
    refine ⟨?_⟩
    refine KE.out.mono ?_
    rintro e w3 ⟨v3, rfl, hO3, hB3⟩
    obtain ⟨A3, c3, rfl, hle3, -⟩ := hO3.slice
    have KB3 := Aside0.mk (below_then KB2.out KB2.out.size hB3)
    rw [← Kx.out] at hle3 ⊢
    clear hO3 hB3 KE
    have Kdiv := Aside0.mk hdiv
    clear hdiv hlen hy2
    go_wp2_with (go_at_call 14; apply Aside0.out)
    refine ⟨?_⟩
    refine (Ma.num_any _ _).mono ?_
    rintro e w' ⟨rfl, rfl⟩
    have hdiv := Kdiv.out
    have d4 : decide ((x : Int) ≤ 256 + (y : Int)) = true := decide_eq_true (by have := Klen.out; omega)
    have hy2 := Ky2.out
    clear d1 d2 d3
    go_wp2_with (go_at_call 12; refine (Ma.live_any _).mono ?_; rintro e w' ⟨rfl, hbel⟩)
    go_ret
    exact ⟨rfl, below_then KB3.out KB3.out.size hbel⟩
end MatchBounds
end Go.Proofs.Ytgplpcjlemjabaa
