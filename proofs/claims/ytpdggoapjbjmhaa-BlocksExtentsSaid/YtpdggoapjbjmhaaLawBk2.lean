/- How much words have stored: the statement's walk. -/
import Derived.Test.YtpdggoapjbjmhaaBk4
import Derived.Test.YtpdggoapjbjmhaaBk5
import Derived.Test.YtpdggoapjbjmhaaBk6
import Derived.OpenShut
set_option linter.unusedVariables false
set_option linter.unusedSimpArgs false
namespace Go.Proofs.Ytpdggoapjbjmhaa
open Go.RowKit Go.Proofs.Ytpdggoapjbjmhaa.Bk Go.Proofs.YtpdggoapjbjmhaaW.PrintWords Go.Proofs.YtpdggoapjbjmhaaW.PrintLast Go.Proofs.YtpdggoapjbjmhaaW.PrintMore
namespace BlocksExtents
theorem big_ (w : World) (A0 : Option Addr) (n c0 : Nat) (a1 : Int) (hn : 1000 < n) : Calls Try.prog 4 #[.slice A0 n c0, .int .i64 a1] w fun e w' => e = .returned (.bool true) ∧ Below w.heap.size w w' := by
  have hd : decide ((n : Int) > 1000) = true := decide_eq_true (by omega)
  go_enter Try.func4, Try.ntmps4
  go_wp2_with (go_at_call 19; refine (live_any _).mono ?_; rintro e w' ⟨rfl, hbel⟩)
  go_ret
  exact ⟨rfl, hbel⟩
def isI (l : List Int) : Prop := ∀ x ∈ l, -9223372036854775808 ≤ x ∧ x ≤ 9223372036854775807
set_option maxHeartbeats 4000000 in
theorem small_ (w : World) (A0 : Option Addr) (c0 : Nat) (l0 : List Int) (r0 : Kd.C (Kd.int .i64) w A0 l0.length l0) (k0 : l0.length ≤ c0) (g0 : isI l0) (a1 : Int) (hn : l0.length ≤ 1000) : Calls Try.prog 4 #[.slice A0 l0.length c0, .int .i64 a1] w fun e w' => e = .returned (.bool true) ∧ Below w.heap.size w w' := by
  have KC : Aside0 (∀ w', Below w.heap.size w w' → Kd.C (Kd.int .i64) w' A0 l0.length l0) := ⟨fun w' hB => Kd.C_below r0 hB⟩
  have K0 := Aside0.mk g0
  have hd : decide ((l0.length : Int) > 1000) = false := decide_eq_false (by omega)
  clear r0 g0
  go_enter Try.func4, Try.ntmps4
  go_wp2_with ((with_reducible refine gate_builtin (b := .append) (xs := #[.tmp 15, .tmp 16]) rfl ?_); apply Aside0.out)
  refine ⟨?_⟩
  have hb0 := below_alloc (Below.refl w.heap.size w) (.cells #[] 3)
  refine app_ints (w0 := w) w.heap.size rfl (.tmp 15) (.tmp 16) rfl _ [] l0 A0 l0.length c0 rfl rfl (OwnI.lit w w.heap.size #[] [] rfl (Nat.le_refl _) (by simp)) (KC.out _ hb0) hb0 (by simp) (by simp; omega) ?_
  intro zs A1 c1 w1 e1 e2 e3 h4 h5 e4
  have hz := e1.out
  rw [List.nil_append] at hz
  have KO1 := e2
  have KB1 := e4
  have Kz1 : Aside0 (isI zs) := ⟨by rw [hz]; exact K0.out⟩
  have hl1 : zs.length ≤ 1000 := by rw [hz]; omega
  obtain ⟨n1, hn1⟩ : ∃ n, n = zs.length := ⟨_, rfl⟩
  rw [← hn1] at KO1 h5 hl1 ⊢
  have Kn1 := Aside0.mk hn1
  clear hz e1 e2 e3 h4 e4 hb0 hn1
  go_wp2
  go_loopw [5, 6] (fun v i wr => ∃ (k : Nat) (zs : List Int) (n : Nat) (A9 : Option Addr) (c9 : Nat), i = .int .i64 k ∧ v = .slice A9 n c9 ∧ k ≤ 70000 ∧ n ≤ 70000 ∧ n ≤ c9 ∧ Aside0 (n = zs.length) ∧ Aside0 (OwnI wr w.heap.size (.slice A9 n c9) zs) ∧ Aside0 (isI zs) ∧ Aside0 (Below w.heap.size w wr)) (fun _ i _ => 70000 - (intOf i).toNat)
  case atStart => exact ⟨0, zs, n1, A1, c1, rfl, rfl, by omega, by omega, h5, Kn1, KO1, Kz1, KB1⟩
  case round =>
    obtain ⟨k, zs, n, A9, c9, rfl, rfl, hk, hn70, hc9', Kn, KO, Kz, KB⟩ := hrel
    have hsz := KB.out.size
    have KC9 : Aside0 (Kd.C (Kd.int .i64) wr A9 zs.length zs) := ⟨by obtain ⟨A, c, he, -, hC⟩ := KO.out.slice; injection he with h1 h2 h3; subst h1; exact hC⟩
    have hc9 : zs.length ≤ c9 := by rw [← Kn.out]; exact hc9'
    have hzl : zs.length ≤ 70000 := by rw [← Kn.out]; exact hn70
    have KCr := Aside0.mk (KC.out wr KB.out)
    by_cases c1 : (k : Int) < a1
    · have d1 : decide ((k : Int) < a1) = true := decide_eq_true c1
      by_cases c2 : a1 ≤ 70000
      · have d2 : decide (a1 ≤ 70000) = true := decide_eq_true c2
        by_cases c3 : 0 < l0.length
        · have d3 : decide ((l0.length : Int) > 0) = true := decide_eq_true (by omega)
          by_cases c4 : (n : Int) < a1
          · have d4 : decide ((n : Int) < a1) = true := decide_eq_true c4
            obtain ⟨ad, rfl, hcel⟩ := Kd.at_int KCr.out 0 (by omega) (by omega)
            obtain ⟨x, hx⟩ : ∃ x, x = rd l0 0 := ⟨_, rfl⟩
            rw [← hx] at hcel
            have hcel : wr.cell? ad = some (.int .i64 x) := by simpa [Addr.add] using hcel
            have hxb : Aside0 (-9223372036854775808 ≤ x ∧ x ≤ 9223372036854775807) := ⟨by
              rw [hx]; unfold rd
              rw [List.getD_eq_getElem?_getD, List.getElem?_eq_getElem (by simpa using c3)]
              exact K0.out _ (List.getElem_mem _)⟩
            clear hx
            have q0 : (0 < l0.length) = True := eq_true c3
            have q1 : ((0 : Int) < (l0.length : Int)) = True := eq_true (by omega)
            go_wp2_with ((with_reducible refine gate_builtin (b := .append) (xs := #[.tmp 38, .tmp 42]) rfl ?_); apply Aside0.out)
            refine ⟨?_⟩
            have hb1 := below_alloc (Below.refl wr.heap.size wr) (.cells #[.int .i64 x] 3)
            have hlit := OwnI.lit wr wr.heap.size #[.int .i64 x] [x] rfl (Nat.le_refl _) (by simp)
            obtain ⟨A7, c7, he7, -, hC7⟩ := hlit.slice
            injection he7 with h71 h72 h73
            subst h71
            have hKO := KO.out.below hb1
            rw [Kn.out] at hKO
            refine app_ints (w0 := w) w.heap.size rfl (.tmp 38) (.tmp 42) rfl (.slice A9 n c9) zs [x] _ 1 1 rfl rfl (by rw [Kn.out]; exact hKO) hC7 (below_then KB.out KB.out.size hb1) (by simp; omega) (by simp; omega) ?_
            intro ys A2 c2 w2 e1 e2 e3 h4 h5 e4
            have hyl : ys.length = n + 1 := by rw [e3.out, ← Kn.out]
            have KO2 := e2
            have Ky : Aside0 (isI ys) := ⟨by rw [e1.out]; intro y hy; rcases List.mem_append.1 hy with hy | hy; exact Kz.out y hy; rw [List.mem_singleton] at hy; rw [hy]; exact hxb.out⟩
            have KB2 := e4
            rw [hyl] at KO2 h5 ⊢
            clear e1 e2 e3 h4 e4 hlit hC7 hKO hb1
            go_wp2
            go_roundw
            case rel => exact ⟨k + 1, ys, n + 1, A2, c2, by go_num, rfl, by omega, by omega, h5, ⟨hyl.symm⟩, KO2, Ky, KB2⟩
            case measure => simp [intOf]; omega
          · have d4 : decide ((n : Int) < a1) = false := decide_eq_false c4
            have KE1 := Aside0.mk (fun (w2 : World) (hb : Below wr.heap.size wr w2) => extent_any w2 zs A9 c9 (Kd.C_below KC9.out hb) hc9 Kz.out (by omega))
            have KE2 := Aside0.mk (fun (w2 : World) (hb : Below wr.heap.size wr w2) => rextent_any w2 zs A9 c9 (Kd.C_below KC9.out hb) hc9 Kz.out (by omega))
            rw [← Kn.out] at KE1 KE2
            obtain ⟨⟨x, y⟩, hxy⟩ : ∃ t, t = extent zs := ⟨_, rfl⟩
            rw [← hxy] at KE1 KE2
            clear hxy
            go_wp2_with (go_at_call 20; apply Aside0.out)
            refine ⟨?_⟩
            refine (KE1.out _ (Below.refl _ _)).mono ?_
            rintro e w2 ⟨rfl, hB2⟩
            have KB2 := Aside0.mk hB2
            clear hB2
            go_wp2_with (go_at_call 21; apply Aside0.out)
            refine ⟨?_⟩
            refine (KE2.out _ KB2.out).mono ?_
            rintro e w3 ⟨rfl, hB3⟩
            have KB3 := Aside0.mk (below_then (below_then KB.out KB.out.size KB2.out) (below_then KB.out KB.out.size KB2.out).size hB3)
            clear hB3
            go_wp2_with (first | (go_at_call 17; refine (num_any _ _).mono ?_; rintro e w' ⟨rfl, rfl⟩) | (go_at_call 19; refine (live_any _).mono ?_; rintro e w' ⟨rfl, hbel⟩))
            go_ret
            exact ⟨rfl, below_then KB3.out KB3.out.size hbel⟩
        · have d3 : decide ((l0.length : Int) > 0) = false := decide_eq_false (by omega)
          have KE1 := Aside0.mk (fun (w2 : World) (hb : Below wr.heap.size wr w2) => extent_any w2 zs A9 c9 (Kd.C_below KC9.out hb) hc9 Kz.out (by omega))
          have KE2 := Aside0.mk (fun (w2 : World) (hb : Below wr.heap.size wr w2) => rextent_any w2 zs A9 c9 (Kd.C_below KC9.out hb) hc9 Kz.out (by omega))
          rw [← Kn.out] at KE1 KE2
          obtain ⟨⟨x, y⟩, hxy⟩ : ∃ t, t = extent zs := ⟨_, rfl⟩
          rw [← hxy] at KE1 KE2
          clear hxy
          go_wp2_with (go_at_call 20; apply Aside0.out)
          refine ⟨?_⟩
          refine (KE1.out _ (Below.refl _ _)).mono ?_
          rintro e w2 ⟨rfl, hB2⟩
          have KB2 := Aside0.mk hB2
          clear hB2
          go_wp2_with (go_at_call 21; apply Aside0.out)
          refine ⟨?_⟩
          refine (KE2.out _ KB2.out).mono ?_
          rintro e w3 ⟨rfl, hB3⟩
          have KB3 := Aside0.mk (below_then (below_then KB.out KB.out.size KB2.out) (below_then KB.out KB.out.size KB2.out).size hB3)
          clear hB3
          go_wp2_with (first | (go_at_call 17; refine (num_any _ _).mono ?_; rintro e w' ⟨rfl, rfl⟩) | (go_at_call 19; refine (live_any _).mono ?_; rintro e w' ⟨rfl, hbel⟩))
          go_ret
          exact ⟨rfl, below_then KB3.out KB3.out.size hbel⟩
      · have d2 : decide (a1 ≤ 70000) = false := decide_eq_false c2
        have KE1 := Aside0.mk (fun (w2 : World) (hb : Below wr.heap.size wr w2) => extent_any w2 zs A9 c9 (Kd.C_below KC9.out hb) hc9 Kz.out (by omega))
        have KE2 := Aside0.mk (fun (w2 : World) (hb : Below wr.heap.size wr w2) => rextent_any w2 zs A9 c9 (Kd.C_below KC9.out hb) hc9 Kz.out (by omega))
        rw [← Kn.out] at KE1 KE2
        obtain ⟨⟨x, y⟩, hxy⟩ : ∃ t, t = extent zs := ⟨_, rfl⟩
        rw [← hxy] at KE1 KE2
        clear hxy
        go_wp2_with (go_at_call 20; apply Aside0.out)
        refine ⟨?_⟩
        refine (KE1.out _ (Below.refl _ _)).mono ?_
        rintro e w2 ⟨rfl, hB2⟩
        have KB2 := Aside0.mk hB2
        clear hB2
        go_wp2_with (go_at_call 21; apply Aside0.out)
        refine ⟨?_⟩
        refine (KE2.out _ KB2.out).mono ?_
        rintro e w3 ⟨rfl, hB3⟩
        have KB3 := Aside0.mk (below_then (below_then KB.out KB.out.size KB2.out) (below_then KB.out KB.out.size KB2.out).size hB3)
        clear hB3
        go_wp2_with (first | (go_at_call 17; refine (num_any _ _).mono ?_; rintro e w' ⟨rfl, rfl⟩) | (go_at_call 19; refine (live_any _).mono ?_; rintro e w' ⟨rfl, hbel⟩))
        go_ret
        exact ⟨rfl, below_then KB3.out KB3.out.size hbel⟩
    · have d1 : decide ((k : Int) < a1) = false := decide_eq_false c1
      have KE1 := Aside0.mk (fun (w2 : World) (hb : Below wr.heap.size wr w2) => extent_any w2 zs A9 c9 (Kd.C_below KC9.out hb) hc9 Kz.out (by omega))
      have KE2 := Aside0.mk (fun (w2 : World) (hb : Below wr.heap.size wr w2) => rextent_any w2 zs A9 c9 (Kd.C_below KC9.out hb) hc9 Kz.out (by omega))
      rw [← Kn.out] at KE1 KE2
      obtain ⟨⟨x, y⟩, hxy⟩ : ∃ t, t = extent zs := ⟨_, rfl⟩
      rw [← hxy] at KE1 KE2
      clear hxy
      go_wp2_with (go_at_call 20; apply Aside0.out)
      refine ⟨?_⟩
      refine (KE1.out _ (Below.refl _ _)).mono ?_
      rintro e w2 ⟨rfl, hB2⟩
      have KB2 := Aside0.mk hB2
      clear hB2
      go_wp2_with (go_at_call 21; apply Aside0.out)
      refine ⟨?_⟩
      refine (KE2.out _ KB2.out).mono ?_
      rintro e w3 ⟨rfl, hB3⟩
      have KB3 := Aside0.mk (below_then (below_then KB.out KB.out.size KB2.out) (below_then KB.out KB.out.size KB2.out).size hB3)
      clear hB3
      go_wp2_with (first | (go_at_call 17; refine (num_any _ _).mono ?_; rintro e w' ⟨rfl, rfl⟩) | (go_at_call 19; refine (live_any _).mono ?_; rintro e w' ⟨rfl, hbel⟩))
      go_ret
      exact ⟨rfl, below_then KB3.out KB3.out.size hbel⟩
theorem walk (w : World) (A0 : Option Addr) (c0 : Nat) (l0 : List Int) (r0 : Kd.C (Kd.int .i64) w A0 l0.length l0) (k0 : l0.length ≤ c0) (g0 : ∀ v ∈ l0, (fun n : Int => (Lit.int .i64 n).wf = true) v) (m0 : l0.length * 8 ≤ 140737488351232) (a1 : Int) (w1 : (Lit.int .i64 a1).wf = true) :
    Calls Try.prog 4 #[.slice A0 l0.length c0, .int .i64 a1] w fun e w' => e = .returned (.bool true) ∧ Below w.heap.size w w' := by
  have hb : isI l0 := fun x hx => by
    have := Go.bounds_i64 (g0 x hx)
    omega
  by_cases hn : 1000 < l0.length
  · exact big_ w A0 l0.length c0 a1 hn
  · exact small_ w A0 c0 l0 r0 k0 hb a1 (by omega)
end BlocksExtents
end Go.Proofs.Ytpdggoapjbjmhaa
