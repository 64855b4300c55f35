/- Any bytes' stream: the statement's walk. -/
import Derived.Test.YtpdggoapjbjmhaaMe8
set_option linter.unusedVariables false
set_option linter.unusedSimpArgs false
namespace Go.Proofs.Ytpdggoapjbjmhaa
open Go.RowKit Go.Proofs.Ytpdggoapjbjmhaa.Fd Go.Proofs.Ytpdggoapjbjmhaa.Bg Go.Proofs.Ytpdggoapjbjmhaa.Lz Go.Proofs.Ytpdggoapjbjmhaa.Ma Go.Proofs.Ytpdggoapjbjmhaa.Bk Go.Proofs.Ytpdggoapjbjmhaa.Me Go.Proofs.YtpdggoapjbjmhaaW.PrintWords Go.Proofs.YtpdggoapjbjmhaaW.PrintLast Go.Proofs.YtpdggoapjbjmhaaW.PrintMore
namespace MetaDecodes
theorem big_ (w : World) (A0 : Option Addr) (n0 c0 : Nat) (a1 a2 a3 : Int) (hd1 : decide ((n0 : Int) > 40000) = true) : Calls Try.prog 12 #[.slice A0 n0 c0, .int .i64 a1, .int .i64 a2, .int .i64 a3] w fun e w' => e = .returned (.bool true) ∧ Below w.heap.size w w' := by
  go_enter Try.func12, Try.ntmps12
  go_wp2_with (go_at_call 28; refine (Me.live_any _).mono ?_; rintro e w' ⟨rfl, hbel⟩)
  go_ret
  exact ⟨rfl, hbel⟩
theorem dcs_len (im : List Int) : ∀ l : List Ck, (dcs im l).1.length ≤ 8192 * l.length
  | [] => Nat.zero_le _
  | c :: l => by
    have h := dcs_len im l
    have h2 := @chunk_bds im c
    rw [dcs]
    split
    · exact Nat.zero_le _
    · split
      · exact Nat.zero_le _
      · simp only [List.length_append, List.length_cons]; omega
theorem decode_len (im : List Int) (a t size : Int) : (Me.decode im a t size).1.length ≤ 137438953472 := by
  unfold Me.decode
  split
  · exact Nat.zero_le _
  · rename_i h
    have h0 : (chunks im a t size).2 = 0 := Classical.byContradiction fun hh => h hh
    obtain ⟨h1, h2, h3, h4⟩ := chunks_fine h0
    have h5 := psum_pos _ fun c hc => (h4 c hc).1
    have h6 := dcs_len im (chunks im a t size).1
    omega
set_option maxHeartbeats 2000000 in
theorem main_ (w : World) (A0 : Option Addr) (c0 : Nat) (l0 : List Int) (r0 : Kd.C (Kd.int .u8) w A0 l0.length l0) (k0 : l0.length ≤ c0) (hl0 : isB l0) (a1 a2 a3 : Int) (hn : l0.length ≤ 40000) (hd1 : decide ((l0.length : Int) > 40000) = false) : Calls Try.prog 12 #[.slice A0 l0.length c0, .int .i64 a1, .int .i64 a2, .int .i64 a3] w fun e w' => e = .returned (.bool true) ∧ Below w.heap.size w w' := by
  have KM : Aside0 (∀ w', Below w.heap.size w w' → Kd.C (Kd.int .u8) w' A0 l0.length l0) := ⟨fun w' hB => Kd.C_below r0 hB⟩
  have KR := Aside0.mk (fun (w1 : World) (hb : Below w.heap.size w w1) => Me.rdecode_any w1 l0 A0 c0 a1 a2 a3 (Kd.C_below r0 hb) k0 hl0 (by omega))
  have KL := Aside0.mk (fun (w1 : World) (A : Option Addr) (c : Nat) (hC : Kd.C (Kd.int .u8) w1 A l0.length l0) (hc : l0.length ≤ c) => Me.decode_any w1 l0 A c a1 a2 a3 hC hc hl0 (by omega))
  have hlen := decode_len l0 a1 a2 a3
  obtain ⟨⟨U, ue⟩, hU⟩ : ∃ t, t = Me.decode l0 a1 a2 a3 := ⟨_, rfl⟩
  rw [← hU] at KR KL hlen
  have hlen : U.length ≤ 137438953472 := hlen
  obtain ⟨n0, hn0⟩ : ∃ n, n = l0.length := ⟨_, rfl⟩
  rw [← hn0] at KL KR KM hd1 hn k0 ⊢
  have Kn0 := Aside0.mk hn0
  clear hU r0 hl0 hn0
  go_enter Try.func12, Try.ntmps12
  go_wp2_with ((with_reducible refine gate_builtin (b := .append) (xs := #[.tmp 19, .tmp 20]) rfl ?_); apply Aside0.out)
  refine ⟨?_⟩
  have hb0 := below_alloc (Below.refl w.heap.size w) (.cells #[] 5)
  refine Row.app_rows (w0 := w) w.heap.size rfl (.tmp 19) (.tmp 20) rfl _ [] l0 A0 n0 c0 rfl rfl (Row.OwnB.lit w w.heap.size #[] [] rfl (Nat.le_refl _) (by simp)) (KM.out _ hb0) hb0 (by simp) (by simp; omega) ?_
  intro zs A1 c1 w1 e1 e2 e3 h4 h5 e4 hb1 e5 hg7 e7
  have hz : zs = l0 := by have := e1.out; rwa [List.nil_append] at this
  subst hz
  have KC1 := e4
  have KB1 := hb1
  rw [← Kn0.out] at h5 KC1 ⊢
  clear e1 e2 e3 h4 e4 hb1 e5 hg7 e7 hb0
  go_wp2_with (go_at_call 39; apply Aside0.out)
  refine ⟨?_⟩
  refine (KL.out w1 A1 c1 KC1.out h5).mono ?_
  rintro e w2 ⟨v, rfl, hO, hB2⟩
  have KB2 := Aside0.mk hB2
  have KO := Aside0.mk hO
  obtain ⟨A2, c2, rfl, -, hC2⟩ := hO.slice
  clear hO hB2 hC2
  go_wp2_with (go_at_call 30; apply Aside0.out)
  refine ⟨?_⟩
  refine (KR.out w2 (below_then KB1.out KB1.out.size KB2.out)).mono ?_
  rintro e w3 ⟨v3, rfl, hO3, hB3⟩
  have KB3 : Aside0 (Below w1.heap.size w1 w3) := ⟨below_then KB2.out KB2.out.size hB3⟩
  have KO3 := Aside0.mk (KO.out.below hB3)
  obtain ⟨A3, c3, rfl, -, hC3⟩ := hO3.slice
  have KC0 : Aside0 (∀ wr, Below w1.heap.size w1 wr → Kd.C (Kd.int .u8) wr A1 n0 zs ∧ Kd.C (Kd.int .u8) wr A0 n0 zs) := ⟨fun wr hb => ⟨Kd.C_below KC1.out hb, KM.out wr (below_then KB1.out KB1.out.size hb)⟩⟩
  have hsx := Kd.C_string (P := Try.prog) (c := c2) Try.underlying37 Try.underlying5 Try.underlying9 KO3.out.reads.2.2
  have hsy := Kd.C_string (P := Try.prog) (c := c3) Try.underlying37 Try.underlying5 Try.underlying9 hC3
  clear hC3 hB3 hO3
  obtain ⟨n, hn⟩ : ∃ n, n = U.length := ⟨_, rfl⟩
  rw [← hn] at hsx hsy hlen KO3 ⊢
  have Kn := Aside0.mk hn
  clear hn KO
  go_wp2_with (go_at_call 32; refine (Me.num_any _ _).mono ?_; rintro e w' ⟨rfl, rfl⟩)
  clear hsx hsy
  go_loopw [14] (fun i wr => ∃ (k : Nat) (ys : List Int), k ≤ n ∧ i = .int .i64 k ∧ Aside0 (ys.length = n) ∧ Aside0 (Row.OwnB wr w1.heap.size (.slice A2 n c2) ys) ∧ Aside0 (Below w1.heap.size w1 wr)) (fun i _ => n - (intOf i).toNat)
  case atStart => exact ⟨0, U, Nat.zero_le _, rfl, ⟨Kn.out.symm⟩, KO3, KB3⟩
  case round =>
    obtain ⟨k, ys, hk, rfl, Ky, KOr, KBr⟩ := hrel
    by_cases hlt : k < n
    · obtain ⟨g, d1, he, hgb, -, -, -⟩ := Kd.R_form KOr.out (by have := Ky.out; omega)
      injection he with h1 h2 h3
      subst h1 h3
      have hc := Kd.R_celln (0 : Int) KOr.out (k : Int) (by omega) (by omega)
      rw [Int.toNat_natCast] at hc
      obtain ⟨hc1, hc2⟩ := hc
      have hput := Aside0.mk (fun x : Int => Kd.R_putn KOr.out (k : Int) x)
      simp only [Int.toNat_natCast] at hput
      obtain ⟨y, hy⟩ : ∃ y, y = rdOf 0 ys (k : Int) := ⟨_, rfl⟩
      rw [← hy] at hc1
      have t1 : (k < n) = True := eq_true hlt
      clear hy h2
      go_wp2
      go_roundw
      case rel => exact ⟨k + 1, _, by omega, by go_num, ⟨by rw [List.length_set]; exact Ky.out⟩, ⟨hput.out _⟩, ⟨KBr.out.setCell hgb _⟩⟩
      case measure => simp [intOf]; omega
    · have hsc := Kd.C_string (P := Try.prog) (c := c1) Try.underlying37 Try.underlying5 Try.underlying9 (KC0.out wr KBr.out).1
      have hsi := Kd.C_string (P := Try.prog) (c := c0) Try.underlying37 Try.underlying5 Try.underlying9 (KC0.out wr KBr.out).2
      go_wp2_with (go_at_call 28; refine (Me.live_any _).mono ?_; rintro e w' ⟨rfl, hbel⟩)
      go_ret
      have hbw := below_then KB1.out KB1.out.size KBr.out
      exact ⟨rfl, below_then hbw hbw.size hbel⟩
theorem walk (w : World) (A0 : Option Addr) (c0 : Nat) (l0 : List Int) (r0 : Kd.C (Kd.int .u8) w A0 l0.length l0) (k0 : l0.length ≤ c0) (g0 : ∀ v ∈ l0, (fun n : Int => (Lit.int .u8 n).wf = true) v) (m0 : l0.length * 1 ≤ 140737488351232) (a1 : Int) (w1 : (Lit.int .i64 a1).wf = true) (a2 : Int) (w2 : (Lit.int .i64 a2).wf = true) (a3 : Int) (w3 : (Lit.int .i64 a3).wf = true) :
    Calls Try.prog 12 #[.slice A0 l0.length c0, .int .i64 a1, .int .i64 a2, .int .i64 a3] w fun e w' => e = .returned (.bool true) ∧ Below w.heap.size w w' := by
  have hb : isB l0 := fun x hx => by
    have := g0 x hx
    have e1 : IntKind.u8.min = 0 := by decide
    have e2 : IntKind.u8.max = 255 := by decide
    simp only [Lit.wf, e1, e2, Bool.and_eq_true, decide_eq_true_eq] at this
    omega
  by_cases c1 : (l0.length : Int) > 40000
  · exact big_ w A0 l0.length c0 a1 a2 a3 (decide_eq_true c1)
  · exact main_ w A0 c0 l0 r0 k0 hb a1 a2 a3 (by omega) (decide_eq_false c1)
end MetaDecodes
end Go.Proofs.Ytpdggoapjbjmhaa
