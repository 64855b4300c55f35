/- Blocks are packed: sequences as blocks. -/
import Derived.Test.YtbnkglcgblhjeaaLawLz3
import Derived.Test.YtbnkglcgblhjeaaJoinR
set_option linter.unusedVariables false
set_option linter.unusedSimpArgs false
namespace Go.Proofs.Ytbnkglcgblhjeaa
open Go.RowKit Go.Proofs.YtbnkglcgblhjeaaW.PrintWords Go.Proofs.YtbnkglcgblhjeaaW.PrintLast Go.Proofs.YtbnkglcgblhjeaaW.PrintMore
namespace Lz
/-- More than is asked? -/
def bigB (l : List Sq) : Bool := decide (300 < l.length) || l.any (fun s => decide (3000 < s.1.length))
theorem big_no {l : List Sq} (h : bigB l = false) : l.length ≤ 300 ∧ ∀ s ∈ l, s.1.length ≤ 3000 := by
  unfold bigB at h
  simp only [Bool.or_eq_false_iff, decide_eq_false_iff_not, List.any_eq_false, decide_eq_true_eq] at h
  exact ⟨by omega, fun s hs => by have := h.2 s hs; omega⟩
set_option maxHeartbeats 1000000 in
set_option maxRecDepth 100000 in
theorem big_any (w : World) (l : List Sq) (A : Option Addr) (c : Nat) (hC : Kd.C kS w A l.length l) (hl : l.length ≤ 140737488351232) :
    Calls Try.prog 21 #[.slice A l.length c] w fun e w' => e = .returned (.bool (bigB l)) ∧ Below w.heap.size w w' := by
  by_cases h0 : 300 < l.length
  · have hb : bigB l = true := by unfold bigB; rw [decide_eq_true h0]; rfl
    rw [hb]
    clear hC hb
    go_enter Try.func21, Try.ntmps21
    go_wp2
    go_ret
    exact ⟨rfl, Below.refl _ _⟩
  have hb : bigB l = l.any (fun s => decide (3000 < s.1.length)) := by unfold bigB; rw [decide_eq_false h0]; rfl
  have Kb := Aside0.mk hb
  have KC := Aside0.mk hC
  obtain ⟨n, hn⟩ : ∃ n, n = l.length := ⟨_, rfl⟩
  rw [← hn] at KC h0 ⊢
  have Kn := Aside0.mk hn
  clear hb hC hn hl
  go_enter Try.func21, Try.ntmps21
  go_wp2
  go_loopw [3] (fun i wr => ∃ k m : Nat, k ≤ n ∧ i = .int .i64 k ∧ wr = w.drewN m ∧ Aside0 (∀ s ∈ l.take k, s.1.length ≤ 3000)) (fun i _ => n - (intOf i).toNat)
  case atStart => exact ⟨0, 0, Nat.zero_le _, rfl, rfl, ⟨by simp⟩⟩
  case round =>
    obtain ⟨k, m, hk, rfl, rfl, HA⟩ := hrel
    by_cases hlt : k < n
    · obtain ⟨ad, B, d, s, hs, rfl, x0, x1, x2, y0, y1⟩ := at_kS KC.out k hlt
      obtain ⟨lit, off, len⟩ := s
      simp only at x0 x1 x2 y0
      have Ks := Aside0.mk hs
      clear x1 x2 y1 hs
      by_cases hbig : 3000 < lit.length
      · go_wp2
        go_ret
        refine ⟨?_, pw_below_drewN (Below.refl _ _) _⟩
        rw [Kb.out, show l.any (fun s => decide (3000 < s.1.length)) = true from List.any_eq_true.2 ⟨_, List.mem_of_getElem? Ks.out, by simpa using hbig⟩]
        rfl
      · go_wp2
        refine ⟨⟨k + 1, m, hlt, by go_num, rfl, ⟨fun s hs => ?_⟩⟩, by simp [intOf]; omega⟩
        rw [List.take_add_one, Ks.out] at hs
        rcases List.mem_append.1 hs with h | h
        · exact HA.out s h
        · simp at h
          subst h
          simpa using hbig
    · obtain rfl : k = n := by omega
      go_wp2
      go_ret
      refine ⟨?_, pw_below_drewN (Below.refl _ _) _⟩
      have hf : l.any (fun s => decide (3000 < s.1.length)) = false := by
        rw [List.any_eq_false]
        intro s hs
        have := HA.out s (by rw [Kn.out, List.take_length]; exact hs)
        simp
        omega
      rw [Kb.out, hf]
      rfl
theorem i64B {n : Int} (h : (Lit.int .i64 n).wf = true) : -9223372036854775808 ≤ n ∧ n ≤ 9223372036854775807 := by
  have e1 : IntKind.i64.min = -9223372036854775808 := by decide
  have e2 : IntKind.i64.max = 9223372036854775807 := by decide
  simp only [Lit.wf, e1, e2, Bool.and_eq_true, decide_eq_true_eq] at h
  exact h
theorem fine_of {l : List Sq} (g0 : ∀ v ∈ l, (fun x : (List Int) × Int × Int => (fun xs => (∀ v ∈ xs, (fun n : Int => (Lit.int .u8 n).wf = true) v) ∧ xs.length * 1 ≤ 140737488351232) x.1 ∧ (fun x : Int × Int => (fun n : Int => (Lit.int .i64 n).wf = true) x.1 ∧ (fun n : Int => (Lit.int .i64 n).wf = true) x.2) x.2) v) (hb : ∀ s ∈ l, s.1.length ≤ 3000) : Fine l :=
  fun s hs => ⟨by have := hb s hs; omega, u8B (g0 s hs).1.1, i64B (g0 s hs).2.1, i64B (g0 s hs).2.2⟩
end Lz
namespace LzJoins
set_option maxHeartbeats 1000000 in
set_option maxRecDepth 100000 in
theorem walk (w : World) (A0 : Option Addr) (c0 : Nat) (l0 : List ((List Int) × Int × Int)) (r0 : Kd.C (Kd.pair (Kd.slice 5 (Kd.int .u8)) (Kd.pair (Kd.int .i64) (Kd.int .i64))) w A0 l0.length l0) (k0 : l0.length ≤ c0) (g0 : ∀ v ∈ l0, (fun x : (List Int) × Int × Int => (fun xs => (∀ v ∈ xs, (fun n : Int => (Lit.int .u8 n).wf = true) v) ∧ xs.length * 1 ≤ 140737488351232) x.1 ∧ (fun x : Int × Int => (fun n : Int => (Lit.int .i64 n).wf = true) x.1 ∧ (fun n : Int => (Lit.int .i64 n).wf = true) x.2) x.2) v) (m0 : l0.length * 40 ≤ 140737488351232) :
    Calls Try.prog 7 #[.slice A0 l0.length c0] w fun e w' => e = .returned (.bool true) ∧ Below w.heap.size w w' := by
  have hC : Kd.C Lz.kS w A0 l0.length l0 := r0
  have KB := Aside0.mk (Lz.big_any w l0 A0 c0 hC (by omega))
  have KC := Aside0.mk hC
  have Kg := Aside0.mk g0
  clear r0 hC g0
  cases hbig : Lz.bigB l0 with
  | true =>
    rw [hbig] at KB
    clear hbig KC
    go_enter Try.func7, Try.ntmps7
    go_wp2_with (first | (go_at_call 21; refine KB.out.mono ?_; rintro e w1 ⟨rfl, hb1⟩; have Kb1 := Aside0.mk hb1; clear hb1) | (go_at_call 14; refine (Lz.live_any _).mono ?_; rintro e w' ⟨rfl, hbel⟩))
    go_ret
    exact ⟨rfl, below_then Kb1.out Kb1.out.size hbel⟩
  | false =>
    rw [hbig] at KB
    obtain ⟨hb1, hb2⟩ := Lz.big_no hbig
    have hF := Lz.fine_of Kg.out hb2
    have KJ : Aside0 (∀ w' : World, Below w.heap.size w w' → _) := ⟨fun w' hB => Lz.join_any w' l0 A0 c0 (Kd.C_below KC.out hB) k0 hF (by omega)⟩
    have KR : Aside0 (∀ w' : World, Below w.heap.size w w' → _) := ⟨fun w' hB => Lz.rjoin_any w' l0 A0 c0 (Kd.C_below KC.out hB) k0 hF (by omega)⟩
    obtain ⟨X, E, hx⟩ : ∃ X E, Lz.joinA l0 = (X, E) := ⟨_, _, rfl⟩
    rw [hx] at KJ KR
    simp only at KJ KR
    clear hbig hx hF hb2
    go_enter Try.func7, Try.ntmps7
    go_wp2_with (first | (go_at_call 21; refine KB.out.mono ?_; rintro e w1 ⟨rfl, hb1⟩; have Kb1 := Aside0.mk hb1; clear hb1) | (go_at_call 16; refine (Lz.num_any _ _).mono ?_; rintro e w' ⟨rfl, rfl⟩) | (go_at_call 14; refine (Lz.live_any _).mono ?_; rintro e w' ⟨rfl, hbel⟩) | (go_at_call 22; refine (KJ.out _ Kb1.out).mono ?_; rintro e w2 ⟨v2, rfl, ho2, hb2⟩; obtain ⟨A2, c2, rfl, hle2, hC2⟩ := Row.OwnB.slice ho2; have KC2 := Aside0.mk hC2; have Kb2 := Aside0.mk (below_then Kb1.out Kb1.out.size hb2); clear hC2 hb2 ho2) | (go_at_call 23; refine (KR.out w2 Kb2.out).mono ?_; rintro e w3 ⟨v3, rfl, ho3, hb3⟩; obtain ⟨A3, c3, rfl, hle3, hC3⟩ := Row.OwnB.slice ho3; have Kb3 := Aside0.mk (below_then Kb2.out Kb2.out.size hb3); have hs1 := Kd.C_string (P := Try.prog) (c := c2) Try.underlying22 Try.underlying5 Try.underlying9 (Kd.C_below KC2.out hb3); have hs2 := Kd.C_string (P := Try.prog) (c := c3) Try.underlying22 Try.underlying5 Try.underlying9 hC3; clear hC3 hb3 ho3))
    go_ret
    exact ⟨rfl, below_then Kb3.out Kb3.out.size hbel⟩
end LzJoins
end Go.Proofs.Ytbnkglcgblhjeaa
