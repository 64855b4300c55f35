/- Any bytes' encoding: the statement's walk. -/
import Derived.Test.YtpdggoapjbjmhaaMe8
set_option linter.unusedVariables false
set_option linter.unusedSimpArgs false
namespace Go.Proofs.Ytpdggoapjbjmhaa
open Go.RowKit Go.Proofs.Ytpdggoapjbjmhaa.Fd Go.Proofs.Ytpdggoapjbjmhaa.Bg Go.Proofs.Ytpdggoapjbjmhaa.Lz Go.Proofs.Ytpdggoapjbjmhaa.Ma Go.Proofs.Ytpdggoapjbjmhaa.Bk Go.Proofs.Ytpdggoapjbjmhaa.Me Go.Proofs.YtpdggoapjbjmhaaW.PrintWords Go.Proofs.YtpdggoapjbjmhaaW.PrintLast Go.Proofs.YtpdggoapjbjmhaaW.PrintMore
namespace MetaEncodes
theorem big_ (w : World) (A0 : Option Addr) (n0 c0 : Nat) (a1 : Int) (hd1 : decide ((n0 : Int) > 40000) = true) : Calls Try.prog 9 #[.slice A0 n0 c0, .int .u64 a1] w fun e w' => e = .returned (.bool true) ∧ Below w.heap.size w w' := by
  go_enter Try.func9, Try.ntmps9
  go_wp2_with (go_at_call 28; refine (Me.live_any _).mono ?_; rintro e w' ⟨rfl, hbel⟩)
  go_ret
  exact ⟨rfl, hbel⟩
theorem encM_short (b : List Int) (hn : b.length ≤ 40000) (x : Nat) : (encM b x (cnt b.length)).length ≤ b.length + 48 * cnt b.length ∧ (encM b x (cnt b.length)).length ≤ 41000 ∧ cnt b.length ≤ 5 ∧ (b.length + 8191) / 8192 = cnt b.length := by
  have h := encM_bound b x (cnt b.length)
  have h2 : (b.take (8192 * cnt b.length)).length ≤ b.length := by rw [List.length_take]; omega
  have h3 : cnt b.length ≤ 5 ∧ (b.length + 8191) / 8192 = cnt b.length := by unfold cnt; omega
  omega
set_option maxHeartbeats 2000000 in
set_option maxRecDepth 100000 in
theorem main_ (w : World) (A0 : Option Addr) (c0 : Nat) (l0 : List Int) (r0 : Kd.C (Kd.int .u8) w A0 l0.length l0) (k0 : l0.length ≤ c0) (hl0 : isB l0) (a1 : Int) (hn : l0.length ≤ 40000) (hd1 : decide ((l0.length : Int) > 40000) = false) : Calls Try.prog 9 #[.slice A0 l0.length c0, .int .u64 a1] w fun e w' => e = .returned (.bool true) ∧ Below w.heap.size w w' := by
  obtain ⟨x, hx⟩ : ∃ x, x = a1.toNat := ⟨_, rfl⟩
  have hbits := Ma.bits_any a1
  rw [← hx] at hbits
  have KM : Aside0 (∀ w', Below w.heap.size w w' → Kd.C (Kd.int .u8) w' A0 l0.length l0) := ⟨fun w' hB => Kd.C_below r0 hB⟩
  obtain ⟨m1, m2, m3, m4⟩ := encM_short l0 hn x
  have hX := encM_isB hl0 x (cnt l0.length)
  have KL := Aside0.mk (fun (w1 : World) (A : Option Addr) (c : Nat) (hC : Kd.C (Kd.int .u8) w1 A l0.length l0) (hc : l0.length ≤ c) => encode_any w1 l0 A c x hC hc hl0 hn)
  have KD := Aside0.mk (fun (w1 : World) (A : Option Addr) (c : Nat) (hC : Kd.C (Kd.int .u8) w1 A (encM l0 x (cnt l0.length)).length (encM l0 x (cnt l0.length))) (hc : (encM l0 x (cnt l0.length)).length ≤ c) => Me.rdecode_any w1 (encM l0 x (cnt l0.length)) A c 0 ((encM l0 x (cnt l0.length)).length : Int) (l0.length : Int) hC hc hX (by omega))
  have KH := Aside0.mk (fun (w1 : World) (A : Option Addr) (c : Nat) (hC : Kd.C (Kd.int .u8) w1 A (encM l0 x (cnt l0.length)).length (encM l0 x (cnt l0.length))) (hc : (encM l0 x (cnt l0.length)).length ≤ c) => rchunks_any w1 (encM l0 x (cnt l0.length)) A c 0 ((encM l0 x (cnt l0.length)).length : Int) (l0.length : Int) hC hc hX (by omega))
  have hhl := heads_len l0 x
  rw [decode_enc hl0 hn x] at KD
  rw [chunks_enc hl0 hn x] at KH
  simp only at KD KH
  obtain ⟨H, hH⟩ : ∃ H, H = heads l0 x := ⟨_, rfl⟩
  rw [← hH] at KH hhl
  obtain ⟨q, hq⟩ : ∃ q, q = cnt l0.length := ⟨_, rfl⟩
  rw [← hq] at m1 m2 m3 m4 KL KD KH hhl
  obtain ⟨X, hX2⟩ : ∃ X, X = encM l0 x q := ⟨_, rfl⟩
  rw [← hX2] at m1 m2 KL KD KH
  obtain ⟨nx, hnx⟩ : ∃ n, n = X.length := ⟨_, rfl⟩
  obtain ⟨n0, hn0⟩ : ∃ n, n = l0.length := ⟨_, rfl⟩
  have hquo : ((n0 : Int) + 8192 - 1).tdiv 8192 = (q : Int) := by rw [Int.tdiv_eq_ediv_of_nonneg (by omega)]; omega
  rw [← hn0] at KL KM KD KH hd1 hn k0 m1 ⊢
  rw [← hnx] at KD KH m1 m2
  have Kn0 := Aside0.mk hn0
  have Kq := Aside0.mk (And.intro hhl hquo)
  have hle : decide ((nx : Int) ≤ (n0 : Int) + 48 * (q : Int)) = true := decide_eq_true (by omega)
  have Knx := Aside0.mk hnx
  clear r0 hl0 hn0 hX hX2 hH hq hnx hx hhl hquo m4
  go_enter Try.func9, Try.ntmps9
  go_wp2_with ((with_reducible refine gate_builtin (b := .append) (xs := #[.tmp 16, .tmp 17]) rfl ?_); apply Aside0.out)
  refine ⟨?_⟩
  have hb0 := below_alloc (Below.refl w.heap.size w) (.cells #[] 5)
  refine Row.app_rows (w0 := w) w.heap.size rfl (.tmp 16) (.tmp 17) rfl _ [] l0 A0 n0 c0 rfl rfl (Row.OwnB.lit w w.heap.size #[] [] rfl (Nat.le_refl _) (by simp)) (KM.out _ hb0) hb0 (by simp) (by simp; omega) ?_
  intro zs A1 c1 w1 e1 e2 e3 h4 h5 e4 hb1 e5 hg7 e7
  have hz : zs = l0 := by have := e1.out; rwa [List.nil_append] at this
  subst hz
  have KC1 := e4
  have KB1 := hb1
  rw [← Kn0.out] at h5 KC1 ⊢
  clear e1 e2 e3 h4 e4 hb1 e5 hg7 e7 hb0
  go_wp2_with (go_at_call 29; apply Aside0.out)
  refine ⟨?_⟩
  refine (KL.out w1 A1 c1 KC1.out h5).mono ?_
  rintro e w2 ⟨v, rfl, hO, hB2⟩
  have KB2 := Aside0.mk (below_then KB1.out KB1.out.size hB2)
  have KC2 := Aside0.mk (Kd.C_below KC1.out hB2)
  obtain ⟨A2, c2, rfl, hc2, hC2⟩ := hO.slice
  rw [← Knx.out] at hc2 hC2 ⊢
  have KX := Aside0.mk hC2
  clear hO hB2 hC2
  go_wp2_with (go_at_call 30; apply Aside0.out)
  refine ⟨?_⟩
  refine (KD.out w2 A2 c2 KX.out hc2).mono ?_
  rintro e w3 ⟨v3, rfl, hO3, hB3⟩
  have KB3 := Aside0.mk (below_then KB2.out KB2.out.size hB3)
  have KC3 := Aside0.mk (Kd.C_below KC2.out hB3)
  have KX3 := Aside0.mk (Kd.C_below KX.out hB3)
  obtain ⟨A3, c3, rfl, -, hC3⟩ := hO3.slice
  rw [← Kn0.out] at hC3 ⊢
  have KY := Aside0.mk hC3
  clear hO3 hB3 hC3
  go_wp2_with (go_at_call 31; apply Aside0.out)
  refine ⟨?_⟩
  refine (KH.out w3 A2 c2 KX3.out hc2).mono ?_
  rintro e w4 ⟨v4, rfl, hO4, hB4⟩
  have KB4 := Aside0.mk (below_then KB3.out KB3.out.size hB4)
  obtain ⟨A4, c4, rfl, -, -⟩ := hO4.slice
  have hsy := Kd.C_string (P := Try.prog) (c := c3) Try.underlying37 Try.underlying5 Try.underlying9 (Kd.C_below KY.out hB4)
  have hsc := Kd.C_string (P := Try.prog) (c := c1) Try.underlying37 Try.underlying5 Try.underlying9 (Kd.C_below KC3.out hB4)
  have hsi := Kd.C_string (P := Try.prog) (c := c0) Try.underlying37 Try.underlying5 Try.underlying9 (KM.out w4 KB4.out)
  obtain ⟨hhl, hquo⟩ := Kq.out
  rw [hhl]
  clear hO4 hB4 hhl Kq m1 KL KD KH KB1 KB2 KB3 KC2 KC3 KX KX3 KY KC1 Knx Kn0 hd1 k0 h5 hc2
  go_wp2_with (first
    | (go_at_call 32; refine (Me.num_any _ _).mono ?_; rintro e w' ⟨rfl, rfl⟩)
    | (go_at_call 28; refine (Me.live_any _).mono ?_; rintro e w' ⟨rfl, hbel⟩))
  go_ret
  exact ⟨rfl, below_then KB4.out KB4.out.size hbel⟩
theorem walk (w : World) (A0 : Option Addr) (c0 : Nat) (l0 : List Int) (r0 : Kd.C (Kd.int .u8) w A0 l0.length l0) (k0 : l0.length ≤ c0) (g0 : ∀ v ∈ l0, (fun n : Int => (Lit.int .u8 n).wf = true) v) (m0 : l0.length * 1 ≤ 140737488351232) (a1 : Int) (w1 : (Lit.int .u64 a1).wf = true) :
    Calls Try.prog 9 #[.slice A0 l0.length c0, .int .u64 a1] w fun e w' => e = .returned (.bool true) ∧ Below w.heap.size w w' := by
  have hb : isB l0 := fun x hx => by
    have := g0 x hx
    have e1 : IntKind.u8.min = 0 := by decide
    have e2 : IntKind.u8.max = 255 := by decide
    simp only [Lit.wf, e1, e2, Bool.and_eq_true, decide_eq_true_eq] at this
    omega
  by_cases c1 : (l0.length : Int) > 40000
  · exact big_ w A0 l0.length c0 a1 (decide_eq_true c1)
  · exact main_ w A0 c0 l0 r0 k0 hb a1 (by omega) (decide_eq_false c1)
end MetaEncodes
end Go.Proofs.Ytpdggoapjbjmhaa
