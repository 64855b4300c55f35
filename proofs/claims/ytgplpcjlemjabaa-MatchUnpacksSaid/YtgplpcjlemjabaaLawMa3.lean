/- Blocks are packed: unpacked, or not. -/
import Derived.Test.YtgplpcjlemjabaaMaB
set_option linter.unusedVariables false
set_option linter.unusedSimpArgs false
namespace Go.Proofs.Ytgplpcjlemjabaa
open Go.RowKit Go.Proofs.YtgplpcjlemjabaaW.PrintWords Go.Proofs.YtgplpcjlemjabaaW.PrintLast Go.Proofs.YtgplpcjlemjabaaW.PrintMore
namespace Ma
open Go.Proofs.Ytgplpcjlemjabaa.Lz
theorem runpack_any (w : World) (b : List Int) (A : Option Addr) (cap : Nat) (packed : Bool) (most : Int) (hC : Kd.C (Kd.int .u8) w A b.length b) (hcap : b.length ≤ cap) (hb : isB b) (hN : b.length ≤ 1000000) :
    Calls Try.prog 19 #[.slice A b.length cap, .bool packed, .int .i64 most] w fun e w' => ∃ A1 c1, e = .returned (.tuple #[.slice A1 (unp b packed most).1.length c1, .int .i64 (unp b packed most).2]) ∧ Kd.C (Kd.int .u8) w' A1 (unp b packed most).1.length (unp b packed most).1 ∧ Below w.heap.size w w' := by
  have KC := Aside0.mk hC
  by_cases hm : most < 0 ∨ 1048576 < most
  · have he : unp b packed most = ([], 1) := by
      unfold unp
      cases packed with
      | true => rw [if_pos rfl]; unfold dec; rw [if_pos hm]
      | false => rw [if_neg (by decide), if_pos hm]
    rw [he]
    have hm2 : most < 0 ∨ (0 ≤ most ∧ 1048576 < most) := by omega
    clear hm he hC hb
    rcases hm2 with hm | ⟨hm, hm1⟩
    all_goals
      go_enter Try.func19, Try.ntmps19
      go_wp2
      go_ret2
      exact ⟨none, 0, rfl, Kd.C_nil _ _, Below.refl _ _⟩
  · have h0 : 0 ≤ most := by omega
    have h1 : most ≤ 1048576 := by omega
    have KD := Aside0.mk (refdec_dec w b A cap most hC hb hN hcap h0 h1)
    unfold unp
    rw [if_neg hm]
    clear hm
    cases packed with
    | true =>
      rw [if_pos rfl]
      obtain ⟨x, E, P, hx⟩ : ∃ x E P, dec b most = (x, E, P) := ⟨_, _, _, rfl⟩
      rw [hx] at KD ⊢
      simp only at KD ⊢
      clear hC hb hx
      go_enter Try.func19, Try.ntmps19
      go_wp2_with (go_at_call 36; apply Aside0.out)
      refine ⟨?_⟩
      refine KD.out.mono ?_
      rintro e w1 ⟨v8, v9, rfl, hB, h8, h9⟩
      obtain ⟨A8, c8, rfl, -, hC8⟩ := h8.slice
      have KB := Aside0.mk hB
      have KC8 := Aside0.mk hC8
      clear hB h8 h9 hC8
      go_wp2
      go_ret2
      exact ⟨A8, c8, rfl, KC8.out, KB.out⟩
    | false =>
      rw [if_neg (by decide)]
      clear KD hC hb
      by_cases hl : most < b.length
      · rw [if_pos hl]
        go_enter Try.func19, Try.ntmps19
        go_wp2
        go_ret2
        exact ⟨none, 0, rfl, Kd.C_nil _ _, Below.refl _ _⟩
      · rw [if_neg hl]
        have hl2 : (b.length : Int) ≤ most := by omega
        clear hl
        go_enter Try.func19, Try.ntmps19
        go_wp2
        go_ret2
        exact ⟨A, cap, rfl, KC.out, Below.refl _ _⟩
theorem unp_len (b : List Int) (packed : Bool) (most : Int) (hb : isB b) (hN : b.length ≤ 1000000) : (unp b packed most).1.length ≤ 1048576 := by
  unfold unp
  cases packed with
  | true =>
    rw [if_pos rfl]
    unfold dec
    by_cases hm : most < 0 ∨ 1048576 < most
    · rw [if_pos hm]; simp
    · rw [if_neg hm]
      have ht := run_tot (N := b.length) (most := most) (b.length + 1) 0 b hb (by omega) (by omega)
      have ho := outs_length (run b.length most (b.length + 1) 0 b).1 [] ht.2.1
      by_cases h0 : (run b.length most (b.length + 1) 0 b).2.1 = 0
      · have h3 := ht.2.2.1 h0
        simp only [if_pos h0]
        simp at ho
        omega
      · simp only [if_neg h0]
        simp
  | false =>
    rw [if_neg (by decide)]
    split
    · simp
    · split
      · simp
      · simp only; omega
end Ma
namespace MatchUnpacks
set_option maxHeartbeats 8000000 in
set_option maxRecDepth 100000 in
theorem walk (w : World) (A0 : Option Addr) (c0 : Nat) (l0 : List Int) (r0 : Kd.C (Kd.int .u8) w A0 l0.length l0) (k0 : l0.length ≤ c0) (g0 : ∀ v ∈ l0, (fun n : Int => (Lit.int .u8 n).wf = true) v) (m0 : l0.length * 1 ≤ 140737488351232) (a1 : Bool) (a2 : Int) (w2 : (Lit.int .i64 a2).wf = true) :
    Calls Try.prog 6 #[.slice A0 l0.length c0, .bool a1, .int .i64 a2] w fun e w' => e = .returned (.bool true) ∧ Below w.heap.size w w' := by
  have hb := Aside0.mk (Lz.u8B g0)
  clear g0 w2
  by_cases hbig : 5000 < l0.length
  · go_enter Try.func6, Try.ntmps6
    go_wp2_with (go_at_call 12; refine (Ma.live_any _).mono ?_; rintro e w' ⟨rfl, hbel⟩)
    go_ret
    exact ⟨rfl, hbel⟩
  have h1 : l0.length ≤ 5000 := by omega
  clear hbig
  have KC : Aside0 (∀ w', Below w.heap.size w w' → Kd.C (Kd.int .u8) w' A0 l0.length l0) := ⟨fun w' hB => Kd.C_below r0 hB⟩
  have KO := Aside0.mk (Lz.own_none (w := w) (Nat.le_refl _))
  have hal : Below w.heap.size w (w.alloc (.cells #[] 5)) := below_alloc (Below.refl _ _) _
  have Kal := Aside0.mk hal
  clear hal r0
  have KU : Aside0 (∀ (w' : World) (A : Option Addr) (c : Nat), Kd.C (Kd.int .u8) w' A l0.length l0 → l0.length ≤ c → Calls Try.prog 18 #[.slice A l0.length c, .bool a1, .int .i64 a2] w' fun e w'' => ∃ v, e = .returned (.tuple #[v, .int .i64 (Ma.unp l0 a1 a2).2]) ∧ Row.OwnB w'' w'.heap.size v (Ma.unp l0 a1 a2).1 ∧ Below w'.heap.size w' w'') := ⟨fun w' A c hC hc => Ma.unpack_any w' l0 A c a1 a2 hC hc hb.out (by omega)⟩
  have KR : Aside0 (∀ (w' : World), Below w.heap.size w w' → Calls Try.prog 19 #[.slice A0 l0.length c0, .bool a1, .int .i64 a2] w' fun e w'' => ∃ A1 c1, e = .returned (.tuple #[.slice A1 (Ma.unp l0 a1 a2).1.length c1, .int .i64 (Ma.unp l0 a1 a2).2]) ∧ Kd.C (Kd.int .u8) w'' A1 (Ma.unp l0 a1 a2).1.length (Ma.unp l0 a1 a2).1 ∧ Below w'.heap.size w' w'') := ⟨fun w' hB => Ma.runpack_any w' l0 A0 c0 a1 a2 (KC.out w' hB) k0 hb.out (by omega)⟩
  have hlen := Ma.unp_len l0 a1 a2 hb.out (by omega)
  obtain ⟨X, E, hX⟩ : ∃ X E, Ma.unp l0 a1 a2 = (X, E) := ⟨_, _, rfl⟩
  rw [hX] at KU KR hlen
  simp only at KU KR hlen
  clear hX
  go_enter Try.func6, Try.ntmps6
  go_wp2_with ((with_reducible refine gate_builtin (b := .append) (xs := #[.tmp 17, .tmp 18]) rfl ?_); apply Aside0.out)
  refine ⟨?_⟩
  refine Row.app_rows (w0 := w) w.heap.size rfl (.tmp 17) (.tmp 18) rfl _ [] l0 A0 l0.length c0 rfl rfl KO.out (KC.out _ Kal.out) Kal.out (Kal.out).size (by simp; omega) ?_
  intro zs A1 c1 w1 e1 e2 e3 h4 h5 e4 hb1 e5 e6 e7
  obtain rfl : zs = l0 := by rw [e1.out]; rfl
  have KU1 := Aside0.mk (KU.out w1 A1 c1 e4.out h5)
  have Kc := Aside0.mk e4.out
  have KB1 := Aside0.mk hb1.out
  clear e1 e2 e3 h4 e4 e5 e6 e7 hb1 KU KO Kal
  go_wp2_with (go_at_call 18; apply Aside0.out)
  refine ⟨?_⟩
  refine KU1.out.mono ?_
  rintro e w2 ⟨v2, rfl, hO2, hB2⟩
  obtain ⟨A2, c2, rfl, hle2, hC2⟩ := hO2.slice
  have KB2 := Aside0.mk hB2
  have KR2 := Aside0.mk (KR.out w2 (below_then KB1.out KB1.out.size hB2))
  have KO2 := Aside0.mk hO2
  have KC2 := Aside0.mk hC2
  clear hB2 hO2 hC2 KU1 KR
  go_wp2_with (go_at_call 19; apply Aside0.out)
  refine ⟨?_⟩
  refine KR2.out.mono ?_
  rintro e w3 ⟨A3, c3, rfl, hC3, hB3⟩
  have KB3 := Aside0.mk (below_then KB2.out KB2.out.size hB3)
  have KO3 := Aside0.mk (KO2.out.below hB3)
  have hs1 := Kd.C_string (P := Try.prog) (c := c2) Try.underlying22 Try.underlying5 Try.underlying9 (Kd.C_below KC2.out hB3)
  have hs2 := Kd.C_string (P := Try.prog) (c := c3) Try.underlying22 Try.underlying5 Try.underlying9 hC3
  clear hB3 hC3 KO2 KC2 KR2 KB2 hle2
  obtain ⟨n, hn⟩ : ∃ n, n = X.length := ⟨_, rfl⟩
  rw [← hn] at KO3 hlen ⊢
  go_wp2_with (go_at_call 14; refine (Ma.num_any _ _).mono ?_; rintro e w' ⟨rfl, rfl⟩)
  clear hs1 hs2
  go_loopw [12] (fun i wr => ∃ (k : Nat) (t : List Int), k ≤ n ∧ i = .int .i64 k ∧ Aside0 (t.length = n) ∧ Aside0 (Kd.R (Kd.int .u8) 5 wr w1.heap.size (fun _ => True) (.slice A2 n c2) t) ∧ Aside0 (Below w1.heap.size w1 wr)) (fun i _ => n - (intOf i).toNat)
  case atStart => exact ⟨0, X, Nat.zero_le _, rfl, ⟨hn.symm⟩, KO3, KB3⟩
  case round =>
    clear KO3 KB3
    obtain ⟨k, t, hk, rfl, Kt, KO, KB⟩ := hrel
    by_cases hlt : k < n
    · obtain ⟨g, c, e0, gb, gl, cl, hG⟩ := Kd.R_form KO.out (by have := Kt.out; omega)
      rw [Kt.out] at e0
      injection e0 with ea en ec
      subst ea
      subst ec
      obtain ⟨x0, f0⟩ := Kd.R_celln 0 KO.out (k : Int) (by omega) (by omega)
      obtain ⟨y, hy⟩ : ∃ y, y = rdOf 0 t (k : Int) := ⟨_, rfl⟩
      rw [← hy] at x0
      have HP := Kd.R_putg KO.out (k : Int) (IntKind.u8.wrap (y + 1))
      simp only [Int.toNat_natCast] at x0 f0 HP
      have KP := Aside0.mk HP
      have KG := Aside0.mk gb
      clear HP hG gl gb cl en hy
      go_wp2_with ((with_reducible refine gate_store (t := 5) (p := 56) rfl ?_); refine store_event (t := 5) (p := 56) (v := ?vo_w12) (w1 := (wr.setCell ⟨g, k, none⟩ (.int .u8 (IntKind.u8.wrap (y + 1))))) ?hg ?ho ?hn ?hr ?_; (case ho => rfl); (case hg => rfl); (case hn => rfl); (case hr => first | (go_simp; done) | (go_simp; rfl)); intro w12 hw; have n0_ := Aside0.mk (show Kd.R (Kd.int .u8) 5 w12 w1.heap.size (fun _ => True) (.slice (some ⟨g, 0, none⟩) n c2) (t.set k (IntKind.u8.wrap (y + 1))) by rw [hw]; exact KP.out.1); have n1_ := Aside0.mk (show Below w1.heap.size w1 w12 by rw [hw]; exact below_set KB.out KG.out); clear hw)
      refine ⟨⟨k + 1, t.set k (IntKind.u8.wrap (y + 1)), by omega, by go_num, ⟨by rw [List.length_set]; exact Kt.out⟩, n0_, n1_⟩, by simp [intOf]; omega⟩
    · obtain rfl : k = n := by omega
      have hs3 := Kd.C_string (P := Try.prog) (c := c1) Try.underlying22 Try.underlying5 Try.underlying9 (Kd.C_below Kc.out KB.out)
      have hs4 := Kd.C_string (P := Try.prog) (c := c0) Try.underlying22 Try.underlying5 Try.underlying9 (KC.out wr (below_then KB1.out KB1.out.size KB.out))
      go_wp2_with (go_at_call 12; refine (Ma.live_any _).mono ?_; rintro e w' ⟨rfl, hbel⟩)
      go_ret
      have hB := below_then KB1.out KB1.out.size KB.out
      exact ⟨rfl, below_then hB hB.size hbel⟩
end MatchUnpacks
end Go.Proofs.Ytgplpcjlemjabaa
