/- Blocks are packed and unpacked: there and back; runs. -/
import Derived.Test.YtbnkglcgblhjeaaLawLz4
import Derived.Test.YtbnkglcgblhjeaaLawLz5
import Derived.Test.YtbnkglcgblhjeaaBackP
set_option linter.unusedVariables false
set_option linter.unusedSimpArgs false
namespace Go.Proofs.Ytbnkglcgblhjeaa
open Go.RowKit Go.Proofs.YtbnkglcgblhjeaaW.PrintWords Go.Proofs.YtbnkglcgblhjeaaW.PrintLast Go.Proofs.YtbnkglcgblhjeaaW.PrintMore
namespace Lz
theorem segs_ge : ∀ (l : List Sq), l.length ≤ (segs l).length
  | [] => Nat.le_refl _
  | s :: r => by
    have := segs_ge r
    simp only [segs, List.length_append, List.length_cons, seg, List.length_nil]
    omega
/-- What Join makes, Cut and Decode tell. -/
theorem segs_told {l : List Sq} (h0 : l ≠ []) (hr : RightL 0 l) : cuts (segs l) = (l, 0, ((segs l).length : Int)) ∧ dec (segs l) 1048576 = (outs [] l, 0, ((segs l).length : Int)) := by
  have hrun := run_segs (segs l).length l 0 ((segs l).length + 1) h0 hr (by decide) (by have := segs_ge l; omega)
  unfold cuts dec
  rw [if_neg (by decide : ¬ ((1048576 : Int) < 0 ∨ (1048576 : Int) < 1048576)), hrun]
  exact ⟨rfl, rfl⟩
theorem cuts_again {b : List Int} {L : List Sq} {P : Int} (hb : isB b) (h : cuts b = (L, 0, P)) : L ≠ [] ∧ RightL 0 L ∧ (segs L).length ≤ b.length ∧ (∀ s ∈ L, isB s.1 ∧ s.1.length ≤ b.length ∧ (0 ≤ s.2.1 ∧ s.2.1 ≤ 65535) ∧ (0 ≤ s.2.2 ∧ s.2.2 ≤ 1048576)) ∧ dec b 1048576 = (outs [] L, 0, P) := by
  unfold cuts at h
  unfold dec
  rw [if_neg (by decide : ¬ ((1048576 : Int) < 0 ∨ (1048576 : Int) < 1048576))]
  by_cases her : (run b.length 1048576 (b.length + 1) 0 b).2.1 = 0
  · rw [if_pos her] at h ⊢
    simp only [Prod.mk.injEq, true_and] at h
    obtain ⟨rfl, rfl⟩ := h
    obtain ⟨h1, h2, h3, h4⟩ := run_right b.length (b.length + 1) 0 b hb (by decide) (by decide) her
    exact ⟨h1, h2, h3, h4, rfl⟩
  · rw [if_neg her] at h
    exfalso
    simp only [Prod.mk.injEq] at h
    exact her (by rw [h.2])
theorem cuts_err {b : List Int} {L : List Sq} {F P : Int} (h : cuts b = (L, F, P)) (hF : F ≠ 0) : L = [] := by
  unfold cuts at h
  by_cases her : (run b.length 1048576 (b.length + 1) 0 b).2.1 = 0
  · rw [if_pos her] at h
    simp only [Prod.mk.injEq] at h
    exact absurd h.2.1.symm hF
  · rw [if_neg her] at h
    simp only [Prod.mk.injEq] at h
    exact h.1.symm
end Lz
namespace LzBack
set_option maxHeartbeats 2000000 in
set_option maxRecDepth 100000 in
theorem walk (w : World) (A0 : Option Addr) (c0 : Nat) (l0 : List ((List Int) × Int × Int)) (r0 : Kd.C (Kd.pair (Kd.slice 5 (Kd.int .u8)) (Kd.pair (Kd.int .i64) (Kd.int .i64))) w A0 l0.length l0) (k0 : l0.length ≤ c0) (g0 : ∀ v ∈ l0, (fun x : (List Int) × Int × Int => (fun xs => (∀ v ∈ xs, (fun n : Int => (Lit.int .u8 n).wf = true) v) ∧ xs.length * 1 ≤ 140737488351232) x.1 ∧ (fun x : Int × Int => (fun n : Int => (Lit.int .i64 n).wf = true) x.1 ∧ (fun n : Int => (Lit.int .i64 n).wf = true) x.2) x.2) v) (m0 : l0.length * 40 ≤ 140737488351232) (A1 : Option Addr) (c1 : Nat) (l1 : List Int) (r1 : Kd.C (Kd.int .u8) w A1 l1.length l1) (k1 : l1.length ≤ c1) (g1 : ∀ v ∈ l1, (fun n : Int => (Lit.int .u8 n).wf = true) v) (m1 : l1.length * 1 ≤ 140737488351232) :
    Calls Try.prog 9 #[.slice A0 l0.length c0, .slice A1 l1.length c1] w fun e w' => e = .returned (.bool true) ∧ Below w.heap.size w w' := by
  have hC : Kd.C Lz.kS w A0 l0.length l0 := r0
  have KB := Aside0.mk (Lz.big_any w l0 A0 c0 hC (by omega))
  have KC := Aside0.mk hC
  have KC1 := Aside0.mk r1
  have Kg := Aside0.mk g0
  have hb := Aside0.mk (Lz.u8B g1)
  clear r0 r1 hC g0 g1
  cases hbig : Lz.bigB l0 with
  | true =>
    rw [hbig] at KB
    clear hbig KC KC1
    go_enter Try.func9, Try.ntmps9
    go_wp2_with (first | (go_at_call 21; refine KB.out.mono ?_; rintro e w1 ⟨rfl, hb1⟩; have Kb1 := Aside0.mk hb1; clear hb1) | (go_at_call 14; refine (Lz.live_any _).mono ?_; rintro e w' ⟨rfl, hbel⟩))
    go_ret
    exact ⟨rfl, below_then Kb1.out Kb1.out.size hbel⟩
  | false =>
    rw [hbig] at KB
    obtain ⟨hb1, hb2⟩ := Lz.big_no hbig
    by_cases hlen : 3000 < l1.length
    · clear hbig KC KC1 hb2
      go_enter Try.func9, Try.ntmps9
      go_wp2_with (first | (go_at_call 21; refine KB.out.mono ?_; rintro e w1 ⟨rfl, hb1⟩; have Kb1 := Aside0.mk hb1; clear hb1) | (go_at_call 14; refine (Lz.live_any _).mono ?_; rintro e w' ⟨rfl, hbel⟩))
      go_ret
      exact ⟨rfl, below_then Kb1.out Kb1.out.size hbel⟩
    have hF := Lz.fine_of Kg.out hb2
    have KJ : Aside0 (∀ w' : World, Below w.heap.size w w' → _) := ⟨fun w' hB => Lz.join_any w' l0 A0 c0 (Kd.C_below KC.out hB) k0 hF (by omega)⟩
    obtain ⟨X, E, hx⟩ : ∃ X E, Lz.joinA l0 = (X, E) := ⟨_, _, rfl⟩
    have hJoin : E = 0 → l0 ≠ [] ∧ Lz.RightL 0 l0 ∧ X = Lz.segs l0 := by
      intro h
      obtain ⟨q1, q2, q3⟩ := Lz.joinA_ok (l := l0) (by rw [hx]; exact h)
      rw [hx] at q3
      simp only [Prod.mk.injEq] at q3
      exact ⟨q1, q2, q3.1⟩
    rw [hx] at KJ
    simp only at KJ
    obtain ⟨L, F, P, hc⟩ : ∃ L F P, Lz.cuts l1 = (L, F, P) := ⟨_, _, _, rfl⟩
    have KU : Aside0 (∀ w' : World, Below w.heap.size w w' → _) := ⟨fun w' hB => Lz.cut_any w' l1 A1 c1 (fun w'' hB2 => Kd.C_below (Kd.C_below KC1.out hB) hB2) hb.out (by omega) k1⟩
    rw [hc] at KU
    simp only at KU
    have Ks := Aside0.mk (fun s hs => (hF s hs).2.1)
    have Kb2 := Aside0.mk hb2
    have KE : Aside0 (E = 0 → ∀ (w' : World) (A : Option Addr) (c : Nat), Kd.C (Kd.int .u8) w' A X.length X → X.length ≤ c → Calls Try.prog 19 #[.slice A X.length c] w' fun e w'' => ∃ v, e = .returned (.tuple #[v, .int .i64 0, .int .i64 X.length]) ∧ Kd.R Lz.kS 44 w'' w'.heap.size (fun _ => True) v l0 ∧ Below w'.heap.size w' w'') := ⟨fun hE w' A c hC hc => by
      obtain ⟨q1, q2, q3⟩ := hJoin hE
      have hlen := Lz.segs_len l0 0 q2 (by decide) (by decide) Kb2.out
      have := Lz.cut_any w' X A c (fun w'' hB2 => Kd.C_below hC hB2) (by rw [q3]; exact Lz.segs_isB l0 0 Ks.out q2 (by decide)) (by rw [q3]; omega) hc
      rw [show Lz.cuts X = (l0, 0, (X.length : Int)) by rw [q3]; exact (Lz.segs_told q1 q2).1] at this
      exact this⟩
    have KF : Aside0 (F = 0 → ∃ Y Z : List Int, (Z.length ≤ l1.length) ∧ (∀ w' : World, Below w.heap.size w w' → Calls Try.prog 15 #[.slice A1 l1.length c1, .int .i64 1048576] w' fun e w'' => ∃ v, e = .returned (.tuple #[v, .int .i64 0, .int .i64 P]) ∧ Row.OwnB w'' w'.heap.size v Y ∧ Below w'.heap.size w' w'') ∧ (∀ (w' : World) (A : Option Addr) (c : Nat), Kd.C Lz.kS w' A L.length L → L.length ≤ c → Calls Try.prog 22 #[.slice A L.length c] w' fun e w'' => ∃ v, e = .returned (.tuple #[v, .int .i64 0]) ∧ Row.OwnB w'' w'.heap.size v Z ∧ Below w'.heap.size w' w'') ∧ (∀ (w' : World) (A : Option Addr) (c : Nat), Kd.C (Kd.int .u8) w' A Z.length Z → Z.length ≤ c → Calls Try.prog 15 #[.slice A Z.length c, .int .i64 1048576] w' fun e w'' => ∃ v, e = .returned (.tuple #[v, .int .i64 0, .int .i64 Z.length]) ∧ Row.OwnB w'' w'.heap.size v Y ∧ Below w'.heap.size w' w'')) := ⟨fun hF0 => by
      subst hF0
      obtain ⟨q1, q2, q3, q4, q5⟩ := Lz.cuts_again hb.out hc
      have hLl : L.length ≤ 4000 := by have := Lz.segs_ge L; omega
      refine ⟨Lz.outs [] L, Lz.segs L, q3, fun w' hB => ?_, fun w' A c hC hc => ?_, fun w' A c hC hc => ?_⟩
      · have := Lz.decode_any w' l1 A1 c1 1048576 (fun w'' hB2 => Kd.C_below (Kd.C_below KC1.out hB) hB2) hb.out (by omega) k1
        rw [q5] at this
        exact this
      · have := Lz.join_any w' L A c hC hc (fun s hs => by obtain ⟨p1, p2, p3, p4⟩ := q4 s hs; exact ⟨by omega, p1, by omega, by omega⟩) (by omega)
        rw [Lz.joinA_right q1 q2] at this
        exact this
      · have := Lz.decode_any w' (Lz.segs L) A c 1048576 (fun w'' hB2 => Kd.C_below hC hB2) (Lz.segs_isB L 0 (fun s hs => (q4 s hs).1) q2 (by decide)) (by omega) hc
        rw [(Lz.segs_told q1 q2).2] at this
        exact this⟩
    have KZ : Aside0 (F ≠ 0 → L = []) := ⟨fun h => Lz.cuts_err hc h⟩
    have hl1 : l1.length ≤ 3000 := by omega
    clear hbig hx hF hb2 hJoin hc Ks hlen Kg
    by_cases hE : E = 0
    · subst hE
      have KE' := Aside0.mk (KE.out rfl)
      clear KE
      by_cases hF : F = 0
      · subst hF
        obtain ⟨Y, Z, hZ, q1, q2, q3⟩ := KF.out rfl
        have KQ1 := Aside0.mk q1
        have KQ2 := Aside0.mk q2
        have KQ3 := Aside0.mk q3
        have tokA : True := trivial
        have tokJ : True := trivial
        have tokD : True := trivial
        clear KF KZ q1 q2 q3
        go_enter Try.func9, Try.ntmps9
        go_wp2_with (first | (go_at_call 21; refine KB.out.mono ?_; rintro e w1 ⟨rfl, hb1⟩; have Kb1 := Aside0.mk hb1; clear hb1) | (go_at_call 16; refine (Lz.num_any _ _).mono ?_; rintro e w' ⟨rfl, rfl⟩) | (go_at_call 14; refine (Lz.live_any _).mono ?_; rintro e w' ⟨rfl, hbel⟩) | (go_at_call 22; have _t := tokJ; refine (KJ.out _ Kb1.out).mono ?_; rintro e w2 ⟨v2, rfl, ho2, hb2⟩; obtain ⟨A2, c2, rfl, hle2, hC2⟩ := Row.OwnB.slice ho2; have KC2 := Aside0.mk hC2; have Kl2 := Aside0.mk hle2; have Kb2 := Aside0.mk (below_then Kb1.out Kb1.out.size hb2); clear hC2 hb2 ho2 hle2 tokJ) | (go_at_call 19; have _t := tokA; refine (KE'.out w2 A2 c2 KC2.out Kl2.out).mono ?_; rintro e w3 ⟨v3, rfl, h3, hb3⟩; obtain ⟨A3, c3, rfl, hc3, hC3⟩ := Kd.R_reads h3; have KC3 := Aside0.mk hC3; have Kc3 := Aside0.mk hc3; have Kb5 := Aside0.mk (below_then Kb2.out Kb2.out.size hb3); clear h3 hb3 hC3 hc3 tokA) | (go_at_call 20; refine (Lz.same_true (l := l0) KC3.out Kc3.out (Kd.C_below KC.out Kb5.out) k0 (by omega)).mono ?_; rintro e w4 ⟨rfl, hdr⟩; obtain ⟨nd, rfl⟩ := hdr.out; have Kb5 := Aside0.mk (pw_below_drewN Kb5.out nd)) | (go_at_call 19; refine (KU.out _ Kb5.out).mono ?_; rintro e w6 ⟨v6, rfl, h6, hb6⟩; obtain ⟨A6, c6, rfl, hc6, hC6⟩ := Kd.R_reads h6; have KC6 := Aside0.mk hC6; have Kc6 := Aside0.mk hc6; have Kb6 := Aside0.mk (below_then Kb5.out Kb5.out.size hb6); clear h6 hb6 hC6 hc6) | (go_at_call 15; have _t := tokD; refine (KQ1.out _ Kb6.out).mono ?_; rintro e w7 ⟨v7, rfl, ho7, hb7⟩; obtain ⟨A7, c7, rfl, hle7, hC7⟩ := Row.OwnB.slice ho7; have KC7 := Aside0.mk hC7; have KC67 := Aside0.mk (Kd.C_below KC6.out hb7); have Kb7 := Aside0.mk (below_then Kb6.out Kb6.out.size hb7); clear hC7 hb7 ho7 hle7 tokD) | (go_at_call 22; refine (KQ2.out w7 A6 c6 KC67.out Kc6.out).mono ?_; rintro e w8 ⟨v8, rfl, ho8, hb8⟩; obtain ⟨A8, c8, rfl, hle8, hC8⟩ := Row.OwnB.slice ho8; have KC8 := Aside0.mk hC8; have Kl8 := Aside0.mk hle8; have KC78 := Aside0.mk (Kd.C_below KC7.out hb8); have Kb8 := Aside0.mk (below_then Kb7.out Kb7.out.size hb8); clear hC8 hb8 ho8 hle8) | (go_at_call 15; refine (KQ3.out w8 A8 c8 KC8.out Kl8.out).mono ?_; rintro e w9 ⟨v9, rfl, ho9, hb9⟩; obtain ⟨A9, c9, rfl, hle9, hC9⟩ := Row.OwnB.slice ho9; have hs1 := Kd.C_string (P := Try.prog) (c := c7) Try.underlying22 Try.underlying5 Try.underlying9 (Kd.C_below KC78.out hb9); have hs2 := Kd.C_string (P := Try.prog) (c := c9) Try.underlying22 Try.underlying5 Try.underlying9 hC9; have Kb9 := Aside0.mk (below_then Kb8.out Kb8.out.size hb9); clear hC9 hb9 ho9 hle9))
        go_ret
        exact ⟨rfl, below_then Kb9.out Kb9.out.size hbel⟩
      · obtain rfl := KZ.out hF
        have hF2 : (F != 0) = true := by simpa using hF
        have tokA : True := trivial
        have tokJ : True := trivial
        clear KF KZ
        go_enter Try.func9, Try.ntmps9
        go_wp2_with (first | (go_at_call 21; refine KB.out.mono ?_; rintro e w1 ⟨rfl, hb1⟩; have Kb1 := Aside0.mk hb1; clear hb1) | (go_at_call 16; refine (Lz.num_any _ _).mono ?_; rintro e w' ⟨rfl, rfl⟩) | (go_at_call 14; refine (Lz.live_any _).mono ?_; rintro e w' ⟨rfl, hbel⟩) | (go_at_call 22; have _t := tokJ; refine (KJ.out _ Kb1.out).mono ?_; rintro e w2 ⟨v2, rfl, ho2, hb2⟩; obtain ⟨A2, c2, rfl, hle2, hC2⟩ := Row.OwnB.slice ho2; have KC2 := Aside0.mk hC2; have Kl2 := Aside0.mk hle2; have Kb2 := Aside0.mk (below_then Kb1.out Kb1.out.size hb2); clear hC2 hb2 ho2 hle2 tokJ) | (go_at_call 19; have _t := tokA; refine (KE'.out w2 A2 c2 KC2.out Kl2.out).mono ?_; rintro e w3 ⟨v3, rfl, h3, hb3⟩; obtain ⟨A3, c3, rfl, hc3, hC3⟩ := Kd.R_reads h3; have KC3 := Aside0.mk hC3; have Kc3 := Aside0.mk hc3; have Kb5 := Aside0.mk (below_then Kb2.out Kb2.out.size hb3); clear h3 hb3 hC3 hc3 tokA) | (go_at_call 20; refine (Lz.same_true (l := l0) KC3.out Kc3.out (Kd.C_below KC.out Kb5.out) k0 (by omega)).mono ?_; rintro e w4 ⟨rfl, hdr⟩; obtain ⟨nd, rfl⟩ := hdr.out; have Kb5 := Aside0.mk (pw_below_drewN Kb5.out nd)) | (go_at_call 19; refine (KU.out _ Kb5.out).mono ?_; rintro e w6 ⟨v6, rfl, h6, hb6⟩; obtain ⟨A6, c6, rfl, hc6, hC6⟩ := Kd.R_reads h6; have KC6 := Aside0.mk hC6; have Kc6 := Aside0.mk hc6; have Kb6 := Aside0.mk (below_then Kb5.out Kb5.out.size hb6); clear h6 hb6 hC6 hc6))
        go_ret
        exact ⟨rfl, below_then Kb6.out Kb6.out.size hbel⟩
    · have hE2 : (E == 0) = false := by simpa using hE
      clear KE
      by_cases hF : F = 0
      · subst hF
        obtain ⟨Y, Z, hZ, q1, q2, q3⟩ := KF.out rfl
        have KQ1 := Aside0.mk q1
        have KQ2 := Aside0.mk q2
        have KQ3 := Aside0.mk q3
        have tokJ : True := trivial
        have tokD : True := trivial
        clear KF KZ q1 q2 q3
        go_enter Try.func9, Try.ntmps9
        go_wp2_with (first | (go_at_call 21; refine KB.out.mono ?_; rintro e w1 ⟨rfl, hb1⟩; have Kb1 := Aside0.mk hb1; clear hb1) | (go_at_call 16; refine (Lz.num_any _ _).mono ?_; rintro e w' ⟨rfl, rfl⟩) | (go_at_call 14; refine (Lz.live_any _).mono ?_; rintro e w' ⟨rfl, hbel⟩) | (go_at_call 22; have _t := tokJ; refine (KJ.out _ Kb1.out).mono ?_; rintro e w2 ⟨v2, rfl, ho2, hb2⟩; obtain ⟨A2, c2, rfl, hle2, hC2⟩ := Row.OwnB.slice ho2; have KC2 := Aside0.mk hC2; have Kl2 := Aside0.mk hle2; have Kb5 := Aside0.mk (below_then Kb1.out Kb1.out.size hb2); clear hC2 hb2 ho2 hle2 tokJ) | (go_at_call 19; refine (KU.out _ Kb5.out).mono ?_; rintro e w6 ⟨v6, rfl, h6, hb6⟩; obtain ⟨A6, c6, rfl, hc6, hC6⟩ := Kd.R_reads h6; have KC6 := Aside0.mk hC6; have Kc6 := Aside0.mk hc6; have Kb6 := Aside0.mk (below_then Kb5.out Kb5.out.size hb6); clear h6 hb6 hC6 hc6) | (go_at_call 15; have _t := tokD; refine (KQ1.out _ Kb6.out).mono ?_; rintro e w7 ⟨v7, rfl, ho7, hb7⟩; obtain ⟨A7, c7, rfl, hle7, hC7⟩ := Row.OwnB.slice ho7; have KC7 := Aside0.mk hC7; have KC67 := Aside0.mk (Kd.C_below KC6.out hb7); have Kb7 := Aside0.mk (below_then Kb6.out Kb6.out.size hb7); clear hC7 hb7 ho7 hle7 tokD) | (go_at_call 22; refine (KQ2.out w7 A6 c6 KC67.out Kc6.out).mono ?_; rintro e w8 ⟨v8, rfl, ho8, hb8⟩; obtain ⟨A8, c8, rfl, hle8, hC8⟩ := Row.OwnB.slice ho8; have KC8 := Aside0.mk hC8; have Kl8 := Aside0.mk hle8; have KC78 := Aside0.mk (Kd.C_below KC7.out hb8); have Kb8 := Aside0.mk (below_then Kb7.out Kb7.out.size hb8); clear hC8 hb8 ho8 hle8) | (go_at_call 15; refine (KQ3.out w8 A8 c8 KC8.out Kl8.out).mono ?_; rintro e w9 ⟨v9, rfl, ho9, hb9⟩; obtain ⟨A9, c9, rfl, hle9, hC9⟩ := Row.OwnB.slice ho9; have hs1 := Kd.C_string (P := Try.prog) (c := c7) Try.underlying22 Try.underlying5 Try.underlying9 (Kd.C_below KC78.out hb9); have hs2 := Kd.C_string (P := Try.prog) (c := c9) Try.underlying22 Try.underlying5 Try.underlying9 hC9; have Kb9 := Aside0.mk (below_then Kb8.out Kb8.out.size hb9); clear hC9 hb9 ho9 hle9))
        go_ret
        exact ⟨rfl, below_then Kb9.out Kb9.out.size hbel⟩
      · obtain rfl := KZ.out hF
        have hF2 : (F != 0) = true := by simpa using hF
        have tokJ : True := trivial
        clear KF KZ
        go_enter Try.func9, Try.ntmps9
        go_wp2_with (first | (go_at_call 21; refine KB.out.mono ?_; rintro e w1 ⟨rfl, hb1⟩; have Kb1 := Aside0.mk hb1; clear hb1) | (go_at_call 16; refine (Lz.num_any _ _).mono ?_; rintro e w' ⟨rfl, rfl⟩) | (go_at_call 14; refine (Lz.live_any _).mono ?_; rintro e w' ⟨rfl, hbel⟩) | (go_at_call 22; have _t := tokJ; refine (KJ.out _ Kb1.out).mono ?_; rintro e w2 ⟨v2, rfl, ho2, hb2⟩; obtain ⟨A2, c2, rfl, hle2, hC2⟩ := Row.OwnB.slice ho2; have KC2 := Aside0.mk hC2; have Kl2 := Aside0.mk hle2; have Kb5 := Aside0.mk (below_then Kb1.out Kb1.out.size hb2); clear hC2 hb2 ho2 hle2 tokJ) | (go_at_call 19; refine (KU.out _ Kb5.out).mono ?_; rintro e w6 ⟨v6, rfl, h6, hb6⟩; obtain ⟨A6, c6, rfl, hc6, hC6⟩ := Kd.R_reads h6; have KC6 := Aside0.mk hC6; have Kc6 := Aside0.mk hc6; have Kb6 := Aside0.mk (below_then Kb5.out Kb5.out.size hb6); clear h6 hb6 hC6 hc6))
        go_ret
        exact ⟨rfl, below_then Kb6.out Kb6.out.size hbel⟩
end LzBack
end Go.Proofs.Ytbnkglcgblhjeaa
