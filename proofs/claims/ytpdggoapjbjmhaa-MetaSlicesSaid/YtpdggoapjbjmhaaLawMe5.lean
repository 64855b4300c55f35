/- A part of what chunks tell: the statement's walk. -/
import Derived.Test.YtpdggoapjbjmhaaMeA
set_option linter.unusedVariables false
set_option linter.unusedSimpArgs false
namespace Go.Proofs.Ytpdggoapjbjmhaa
open Go.RowKit Go.Proofs.Ytpdggoapjbjmhaa.Fd Go.Proofs.Ytpdggoapjbjmhaa.Bg Go.Proofs.Ytpdggoapjbjmhaa.Lz Go.Proofs.Ytpdggoapjbjmhaa.Ma Go.Proofs.Ytpdggoapjbjmhaa.Bk Go.Proofs.Ytpdggoapjbjmhaa.Me Go.Proofs.YtpdggoapjbjmhaaW.PrintWords Go.Proofs.YtpdggoapjbjmhaaW.PrintLast Go.Proofs.YtpdggoapjbjmhaaW.PrintMore
namespace MetaSlices
/-- The chunk that five values are. -/
def mk (x : Int × Int × Int × Bool × Int) : Ck := ⟨x.1, x.2.1, x.2.2.1, x.2.2.2.1, x.2.2.2.2⟩
theorem to_C {w : World} {A : Option Addr} {n : Nat} {l : List (Int × Int × Int × Bool × Int)} (h : Kd.C (Kd.pair (Kd.int .i64) (Kd.pair (Kd.int .i64) (Kd.pair (Kd.int .i64) (Kd.pair Kd.bool (Kd.int .u32))))) w A n l) : Kd.C kC w A n (l.map mk) := by
  obtain ⟨h1, h2, h3⟩ := h
  refine ⟨by rw [List.length_map]; exact h1, h2, fun h0 => ?_⟩
  obtain ⟨ad, e, hj⟩ := h3 h0
  refine ⟨ad, e, fun j p hp => ?_⟩
  rw [List.getElem?_map] at hp
  cases hx : l[j]? with
  | none => rw [hx] at hp; cases hp
  | some x =>
    rw [hx] at hp
    injection hp with hp
    subst hp
    exact hj j x hx
theorem big_ (w : World) (A0 A1 : Option Addr) (n0 c0 n1 c1 : Nat) (a2 a3 : Int) (h : n0 > 40000 ∨ n1 > 30) : Calls Try.prog 10 #[.slice A0 n0 c0, .slice A1 n1 c1, .int .i64 a2, .int .i64 a3] w fun e w' => e = .returned (.bool true) ∧ Below w.heap.size w w' := by
  by_cases b1 : n0 > 40000
  · clear h
    go_enter Try.func10, Try.ntmps10
    go_wp2_with (go_at_call 28; refine (Me.live_any _).mono ?_; rintro e w' ⟨rfl, hbel⟩)
    go_ret
    exact ⟨rfl, hbel⟩
  · have b2 : n1 > 30 := by omega
    clear h
    go_enter Try.func10, Try.ntmps10
    go_wp2_with (go_at_call 28; refine (Me.live_any _).mono ?_; rintro e w' ⟨rfl, hbel⟩)
    go_ret
    exact ⟨rfl, hbel⟩
set_option maxHeartbeats 2000000 in
set_option maxRecDepth 100000 in
theorem main_ (w : World) (A0 : Option Addr) (c0 : Nat) (l0 : List Int) (r0 : Kd.C (Kd.int .u8) w A0 l0.length l0) (k0 : l0.length ≤ c0) (hl0 : isB l0) (A1 : Option Addr) (c1 : Nat) (l : List Ck) (r1 : Kd.C kC w A1 l.length l) (hb0 : ∀ c ∈ l, c.f0 ≤ 9223372036854775807) (a2 a3 : Int) (hi : -9223372036854775808 ≤ a2 ∧ a2 ≤ 9223372036854775807 ∧ -9223372036854775808 ≤ a3 ∧ a3 ≤ 9223372036854775807) (hn : l0.length ≤ 40000) (hn1 : l.length ≤ 30) : Calls Try.prog 10 #[.slice A0 l0.length c0, .slice A1 l.length c1, .int .i64 a2, .int .i64 a3] w fun e w' => e = .returned (.bool true) ∧ Below w.heap.size w w' := by
  have KCl : Aside0 (∀ w', Below w.heap.size w w' → Kd.C kC w' A1 l.length l) := ⟨fun w' hb => Kd.C_below r1 hb⟩
  have KL := Aside0.mk (fun (w1 : World) (hb : Below w.heap.size w w1) (hp : ∀ c ∈ l, c.f1 ≤ 16777216) => slice_go w1 l0 A0 A1 c0 c1 l a2 a3 (Kd.C_below r0 hb) k0 hl0 (by omega) (Kd.C_below r1 hb) (fun c hc => ⟨hp c hc, hb0 c hc⟩) hn1 _ rfl hi)
  have KR := Aside0.mk (fun (w1 : World) (hb : Below w.heap.size w w1) (hp : ∀ c ∈ l, c.f1 ≤ 16777216) => rslice_go w1 l0 A0 A1 c0 c1 l a2 a3 (Kd.C_below r0 hb) k0 hl0 (by omega) (Kd.C_below r1 hb) (fun c hc => ⟨hp c hc, hb0 c hc⟩) hn1 hi)
  obtain ⟨⟨U, ue⟩, hU⟩ : ∃ t, t = slice l0 l a2 a3 := ⟨_, rfl⟩
  rw [← hU] at KL KR
  simp only at KL KR
  obtain ⟨m, hm⟩ : ∃ m, m = U.length := ⟨_, rfl⟩
  obtain ⟨n0, hn0⟩ : ∃ n, n = l0.length := ⟨_, rfl⟩
  obtain ⟨nl, hnl⟩ : ∃ n, n = l.length := ⟨_, rfl⟩
  rw [← hn0] at KL KR hn ⊢
  rw [← hnl] at KL KR KCl hn1 ⊢
  have Km := Aside0.mk hm
  have Knl := Aside0.mk hnl
  have b1 : ¬ n0 > 40000 := by omega
  have b2 : ¬ nl > 30 := by omega
  clear hU r0 r1 hl0 hn0 hnl hm k0 hb0 hi
  go_enter Try.func10, Try.ntmps10
  go_wp2
  go_loopw [9] (fun i wr => ∃ (k : Nat), k ≤ nl ∧ i = .int .i64 k ∧ Aside0 (∀ c ∈ l.take k, c.f1 ≤ 16777216) ∧ Aside0 (Below w.heap.size w wr)) (fun i _ => nl - (intOf i).toNat)
  case atStart => exact ⟨0, Nat.zero_le _, rfl, ⟨fun c hc => by rw [List.take_zero] at hc; cases hc⟩, ⟨Below.refl _ _⟩⟩
  case round =>
    obtain ⟨k, hk, rfl, KA, KB⟩ := hrel
    by_cases hlt : k < nl
    · obtain ⟨ad, c, r, hd1, hd2, hmem, rfl, x0, x1, x2, x3, x4⟩ := at_C (KCl.out wr KB.out) k hlt
      by_cases hbig : c.f1 > 16777216
      · have f1 : decide (c.f1 > 16777216) = true := decide_eq_true hbig
        clear hd1 hd2 hmem hbig x0 x2 x3 x4
        go_wp2_with (go_at_call 28; refine (Me.live_any _).mono ?_; rintro e w' ⟨rfl, hbel⟩)
        go_ret
        exact ⟨rfl, below_then KB.out KB.out.size hbel⟩
      · have f1 : decide (c.f1 > 16777216) = false := decide_eq_false hbig
        have KA2 : Aside0 (∀ c ∈ l.take (k + 1), c.f1 ≤ 16777216) := ⟨fun c' hc' => by
          rw [List.take_add_one, List.mem_append] at hc'
          rcases hc' with hc' | hc'
          · exact KA.out c' hc'
          · have e : l[k]? = some c := by
              have h := List.getElem?_drop (xs := l) (i := k) (j := 0)
              rw [hd1] at h
              simpa using h.symm
            rw [e] at hc'
            have : c' = c := by simpa using hc'
            subst this
            omega⟩
        clear hd1 hd2 hmem hbig x0 x2 x3 x4
        go_wp2
        go_roundw
        case rel => exact ⟨k + 1, by omega, by go_num, KA2, KB⟩
        case measure => simp [intOf]; omega
    · have hkn : k = nl := by omega
      have hall : ∀ c ∈ l, c.f1 ≤ 16777216 := fun c hc => KA.out c (by rw [List.take_of_length_le (by rw [hkn, Knl.out]; exact Nat.le_refl _)]; exact hc)
      have KL1 := Aside0.mk (KL.out wr KB.out hall)
      have KR1 : Aside0 (∀ w1, Below w.heap.size w w1 → _) := ⟨fun w1 hb => KR.out w1 hb hall⟩
      clear hkn hall
      go_wp2_with (go_at_call 33; apply Aside0.out)
      refine ⟨?_⟩
      refine KL1.out.mono ?_
      rintro e w3 ⟨v3, rfl, hO3, hB3⟩
      obtain ⟨A3, c3, rfl, -, hC3⟩ := hO3.slice
      rw [← Km.out] at hC3 ⊢
      have KB3 := Aside0.mk (below_then KB.out KB.out.size hB3)
      have KC3 := Aside0.mk hC3
      clear hO3 hB3 hC3
      go_wp2_with (go_at_call 34; apply Aside0.out)
      refine ⟨?_⟩
      refine (KR1.out w3 KB3.out).mono ?_
      rintro e w4 ⟨v4, rfl, hO4, hB4⟩
      obtain ⟨A4, c4, rfl, -, hC4⟩ := hO4.slice
      rw [← Km.out] at hC4 ⊢
      have KB4 := Aside0.mk (below_then KB3.out KB3.out.size hB4)
      have hsx := Kd.C_string (P := Try.prog) (c := c3) Try.underlying37 Try.underlying5 Try.underlying9 (Kd.C_below KC3.out hB4)
      have hsy := Kd.C_string (P := Try.prog) (c := c4) Try.underlying37 Try.underlying5 Try.underlying9 hC4
      clear hO4 hB4 hC4
      go_wp2_with (first
        | (go_at_call 32; refine (Me.num_any _ _).mono ?_; rintro e w' ⟨rfl, rfl⟩)
        | (go_at_call 28; refine (Me.live_any _).mono ?_; rintro e w' ⟨rfl, hbel⟩))
      go_ret
      exact ⟨rfl, below_then KB4.out KB4.out.size hbel⟩
theorem walk (w : World) (A0 : Option Addr) (c0 : Nat) (l0 : List Int) (r0 : Kd.C (Kd.int .u8) w A0 l0.length l0) (k0 : l0.length ≤ c0) (g0 : ∀ v ∈ l0, (fun n : Int => (Lit.int .u8 n).wf = true) v) (m0 : l0.length * 1 ≤ 140737488351232) (A1 : Option Addr) (c1 : Nat) (l1 : List (Int × Int × Int × Bool × Int)) (r1 : Kd.C (Kd.pair (Kd.int .i64) (Kd.pair (Kd.int .i64) (Kd.pair (Kd.int .i64) (Kd.pair Kd.bool (Kd.int .u32))))) w A1 l1.length l1) (k1 : l1.length ≤ c1) (g1 : ∀ v ∈ l1, (fun x : Int × Int × Int × Bool × Int => (fun n : Int => (Lit.int .i64 n).wf = true) x.1 ∧ (fun x : Int × Int × Bool × Int => (fun n : Int => (Lit.int .i64 n).wf = true) x.1 ∧ (fun x : Int × Bool × Int => (fun n : Int => (Lit.int .i64 n).wf = true) x.1 ∧ (fun x : Bool × Int => (fun _ : Bool => True) x.1 ∧ (fun n : Int => (Lit.int .u32 n).wf = true) x.2) x.2) x.2) x.2) v) (m1 : l1.length * 32 ≤ 140737488351232) (a2 : Int) (w2 : (Lit.int .i64 a2).wf = true) (a3 : Int) (w3 : (Lit.int .i64 a3).wf = true) :
    Calls Try.prog 10 #[.slice A0 l0.length c0, .slice A1 l1.length c1, .int .i64 a2, .int .i64 a3] w fun e w' => e = .returned (.bool true) ∧ Below w.heap.size w w' := by
  have hb : isB l0 := fun x hx => by
    have := g0 x hx
    have e1 : IntKind.u8.min = 0 := by decide
    have e2 : IntKind.u8.max = 255 := by decide
    simp only [Lit.wf, e1, e2, Bool.and_eq_true, decide_eq_true_eq] at this
    omega
  have i2 := Go.bounds_i64 w2
  have i3 := Go.bounds_i64 w3
  by_cases h : l0.length > 40000 ∨ l1.length > 30
  · exact big_ w A0 A1 l0.length c0 l1.length c1 a2 a3 h
  · have hC := to_C r1
    have hb0 : ∀ c ∈ l1.map mk, c.f0 ≤ 9223372036854775807 := fun c hc => by
      obtain ⟨x, hx, rfl⟩ := List.mem_map.1 hc
      have := Go.bounds_i64 (g1 x hx).1
      show x.1 ≤ 9223372036854775807
      omega
    have hlen : (l1.map mk).length = l1.length := List.length_map ..
    rw [← hlen] at hC ⊢
    exact main_ w A0 c0 l0 r0 k0 hb A1 c1 (l1.map mk) hC hb0 a2 a3 (by omega) (by omega) (by omega)
end MetaSlices
end Go.Proofs.Ytpdggoapjbjmhaa
