/- Chunks of any bytes: the statement's walk. -/
import Derived.Test.YtpdggoapjbjmhaaMeS
set_option linter.unusedVariables false
set_option linter.unusedSimpArgs false
namespace Go.Proofs.Ytpdggoapjbjmhaa
open Go.RowKit Go.Proofs.Ytpdggoapjbjmhaa.Fd Go.Proofs.Ytpdggoapjbjmhaa.Bg Go.Proofs.Ytpdggoapjbjmhaa.Lz Go.Proofs.Ytpdggoapjbjmhaa.Ma Go.Proofs.Ytpdggoapjbjmhaa.Bk Go.Proofs.Ytpdggoapjbjmhaa.Me Go.Proofs.YtpdggoapjbjmhaaW.PrintWords Go.Proofs.YtpdggoapjbjmhaaW.PrintLast Go.Proofs.YtpdggoapjbjmhaaW.PrintMore
namespace MetaChunks
theorem big_ (w : World) (A0 : Option Addr) (n0 c0 : Nat) (a1 a2 a3 : Int) (ck : Ck) (hd1 : decide ((n0 : Int) > 40000) = true) : Calls Try.prog 11 #[.slice A0 n0 c0, .int .i64 a1, .int .i64 a2, .int .i64 a3, .agg #[.int .i64 ck.f0, .int .i64 ck.f1, .int .i64 ck.f2, .bool ck.f3, .int .u32 ck.f4]] w fun e w' => e = .returned (.bool true) ∧ Below w.heap.size w w' := by
  have KB := Aside0.mk (below_alloc (Below.refl w.heap.size w) (.cells #[.int .i64 ck.f0, .int .i64 ck.f1, .int .i64 ck.f2, .bool ck.f3, .int .u32 ck.f4] 62))
  go_enter Try.func11, Try.ntmps11
  go_wp2_with (go_at_call 28; refine (Me.live_any _).mono ?_; rintro e w' ⟨rfl, hbel⟩)
  go_ret
  exact ⟨rfl, below_then KB.out KB.out.size hbel⟩
set_option maxHeartbeats 2000000 in
set_option maxRecDepth 100000 in
theorem main_ (w : World) (A0 : Option Addr) (c0 : Nat) (l0 : List Int) (r0 : Kd.C (Kd.int .u8) w A0 l0.length l0) (k0 : l0.length ≤ c0) (hl0 : isB l0) (a1 a2 a3 : Int) (ck : Ck) (hck : ck.f0 ≤ 9223372036854775807) (hn : l0.length ≤ 40000) (hd1 : decide ((l0.length : Int) > 40000) = false) : Calls Try.prog 11 #[.slice A0 l0.length c0, .int .i64 a1, .int .i64 a2, .int .i64 a3, .agg #[.int .i64 ck.f0, .int .i64 ck.f1, .int .i64 ck.f2, .bool ck.f3, .int .u32 ck.f4]] w fun e w' => e = .returned (.bool true) ∧ Below w.heap.size w w' := by
  have hbox := below_alloc (Below.refl w.heap.size w) (.cells #[.int .i64 ck.f0, .int .i64 ck.f1, .int .i64 ck.f2, .bool ck.f3, .int .u32 ck.f4] 62)
  have hnew := heap_alloc_new w (.cells #[.int .i64 ck.f0, .int .i64 ck.f1, .int .i64 ck.f2, .bool ck.f3, .int .u32 ck.f4] 62)
  have Kbox := Aside0.mk hbox
  have Knew := Aside0.mk hnew
  have KL := Aside0.mk (fun (w1 : World) (hb : Below w.heap.size w w1) => chunks_any w1 l0 A0 c0 a1 a2 a3 (Kd.C_below r0 hb) k0 hl0 (by omega))
  have KR := Aside0.mk (fun (w1 : World) (hb : Below w.heap.size w w1) => rchunks_any w1 l0 A0 c0 a1 a2 a3 (Kd.C_below r0 hb) k0 hl0 (by omega))
  have KX := Aside0.mk (fun (w1 : World) (c : Ck) (hb : Below w.heap.size w w1) (hc : c.f0 ≤ 9223372036854775807) => chunk_any w1 l0 A0 c0 c (Kd.C_below r0 hb) k0 hl0 (by omega) hc)
  have KY := Aside0.mk (fun (w1 : World) (c : Ck) (hb : Below w.heap.size w w1) (hc : c.f0 ≤ 9223372036854775807) => rchunk_any w1 l0 A0 c0 c (Kd.C_below r0 hb) k0 hl0 (by omega) hc)
  unfold bx at KX KY
  have hlen := chunks_len l0 a1 a2 a3
  obtain ⟨⟨l, ue⟩, hU⟩ : ∃ t, t = chunks l0 a1 a2 a3 := ⟨_, rfl⟩
  rw [← hU] at KR KL hlen
  have Kle : Aside0 (∀ c ∈ l, c.f0 ≤ 9223372036854775807) := ⟨fun c hc => by have := hlen.2 c hc; omega⟩
  have hlen : l.length ≤ 40001 := by have h : l.length ≤ l0.length + 1 := hlen.1; omega
  obtain ⟨n0, hn0⟩ : ∃ n, n = l0.length := ⟨_, rfl⟩
  rw [← hn0] at KL KR KX KY hd1 ⊢
  have Kck := Aside0.mk hck
  clear hU r0 hl0 hn0 hn k0 hck hbox hnew
  go_enter Try.func11, Try.ntmps11
  go_wp2_with (go_at_call 35; apply Aside0.out)
  refine ⟨?_⟩
  refine (KL.out _ Kbox.out).mono ?_
  rintro e w1 ⟨v, rfl, hO, hB1⟩
  have KB1 := Aside0.mk (below_then Kbox.out Kbox.out.size hB1)
  have Kx1 : Aside0 (w1.heap[w.heap.size]? = some (.cells #[.int .i64 ck.f0, .int .i64 ck.f1, .int .i64 ck.f2, .bool ck.f3, .int .u32 ck.f4] 62)) := ⟨blk_below Knew.out hB1⟩
  obtain ⟨Al, cl, rfl, hcl, hCl⟩ := hO.slice
  have KCl := Aside0.mk hCl
  clear hO hB1 hCl
  go_wp2_with (go_at_call 31; apply Aside0.out)
  refine ⟨?_⟩
  refine (KR.out _ KB1.out).mono ?_
  rintro e w2 ⟨v, rfl, hO, hB2⟩
  have KB2 := Aside0.mk (below_then KB1.out KB1.out.size hB2)
  have Kx2 : Aside0 (w2.heap[w.heap.size]? = some (.cells #[.int .i64 ck.f0, .int .i64 ck.f1, .int .i64 ck.f2, .bool ck.f3, .int .u32 ck.f4] 62)) := ⟨blk_below Kx1.out hB2⟩
  obtain ⟨Am, cm, rfl, hcm, hCm⟩ := hO.slice
  have KCm := Aside0.mk hCm
  have KCl2 := Aside0.mk (Kd.C_below KCl.out hB2)
  clear hO hB2 hCm
  have KS := Aside0.mk (same_any w2 l Al Am cl cm KCl2.out hcl KCm.out hcm (by omega))
  obtain ⟨nl, hnl⟩ : ∃ n, n = l.length := ⟨_, rfl⟩
  rw [← hnl] at KS KCm KCl2 hlen ⊢
  clear hnl hcl hcm KCl
  go_wp2_with (first
    | (go_at_call 36; apply Aside0.out)
    | (go_at_call 32; refine (Me.num_any _ _).mono ?_; rintro e w' ⟨rfl, rfl⟩))
  refine ⟨?_⟩
  refine KS.out.mono ?_
  rintro e w3 ⟨rfl, hB3⟩
  have KB3 := Aside0.mk (below_then KB2.out KB2.out.size hB3)
  have Kx3 : Aside0 (w3.heap[w.heap.size]? = some (.cells #[.int .i64 ck.f0, .int .i64 ck.f1, .int .i64 ck.f2, .bool ck.f3, .int .u32 ck.f4] 62)) := ⟨blk_below Kx2.out hB3⟩
  have KCl3 := Aside0.mk (Kd.C_below KCl2.out hB3)
  have KCm3 := Aside0.mk (Kd.C_below KCm.out hB3)
  clear hB3
  go_wp2_with (go_at_call 32; refine (Me.num_any _ _).mono ?_; rintro e w' ⟨rfl, rfl⟩)
  go_loopw [15] (fun i wr => ∃ (k : Nat), k ≤ nl ∧ i = .int .i64 k ∧ Aside0 (Below w3.heap.size w3 wr)) (fun i _ => nl - (intOf i).toNat)
  case atStart => exact ⟨0, Nat.zero_le _, rfl, ⟨Below.refl _ _⟩⟩
  case round =>
    obtain ⟨k, hk, rfl, KBr⟩ := hrel
    have KBw := Aside0.mk (below_then KB3.out KB3.out.size KBr.out)
    by_cases hlt : k < nl
    · obtain ⟨ad, c, r, hd1, hd2, hmem, rfl, x0, x1, x2, x3, x4⟩ := at_C (Kd.C_below KCl3.out KBr.out) k hlt
      have KCm4 := Aside0.mk (Kd.C_below KCm3.out KBr.out)
      have KX1 := Aside0.mk (KX.out wr c KBw.out (Kle.out c hmem))
      have KY1 : Aside0 (∀ w1, Below wr.heap.size wr w1 → _) := ⟨fun w1 hb => KY.out w1 c (below_then KBw.out KBw.out.size hb) (Kle.out c hmem)⟩
      have Kdr := Aside0.mk (And.intro hd1 hd2)
      generalize hY : chunk l0 c = Y at KX1 KY1
      obtain ⟨U, ue2⟩ := Y
      simp only at KX1 KY1
      obtain ⟨m, hm⟩ : ∃ m, m = U.length := ⟨_, rfl⟩
      rw [← hm] at KY1
      have Km := Aside0.mk hm
      clear hd1 hd2 hmem hY hm
      go_wp2_with (go_at_call 37; apply Aside0.out)
      refine ⟨?_⟩
      refine KX1.out.mono ?_
      rintro e w4 ⟨v3, rfl, hO3, hB4⟩
      obtain ⟨A3, c3, rfl, -, hC3⟩ := hO3.slice
      rw [← Km.out] at hC3 ⊢
      have KB4 := Aside0.mk hB4
      have KC3 := Aside0.mk hC3
      clear hO3 hB4 hC3 x0 x1 x2 x3 x4
      obtain ⟨bd, c', r', hd1, hd2, hmem, rfl, x0, x1, x2, x3, x4⟩ := at_C (Kd.C_below KCm4.out KB4.out) k hlt
      have hcc : c' = c := by have h := Kdr.out.1; rw [hd1] at h; injection h
      subst hcc
      clear hd1 hd2 hmem
      go_wp2_with (go_at_call 38; apply Aside0.out)
      refine ⟨?_⟩
      refine (KY1.out w4 KB4.out).mono ?_
      rintro e w5 ⟨A4, c4, rfl, hC4, hB5⟩
      have KB5 : Aside0 (Below w3.heap.size w3 w5) := ⟨below_then (below_then KBr.out KBr.out.size KB4.out) (below_then KBr.out KBr.out.size KB4.out).size hB5⟩
      have hsx := Kd.C_string (P := Try.prog) (c := c3) Try.underlying37 Try.underlying5 Try.underlying9 (Kd.C_below KC3.out hB5)
      have hsy := Kd.C_string (P := Try.prog) (c := c4) Try.underlying37 Try.underlying5 Try.underlying9 hC4
      clear hC4 hB5 x0 x1 x2 x3 x4
      go_wp2_with (go_at_call 32; refine (Me.num_any _ _).mono ?_; rintro e w' ⟨rfl, rfl⟩)
      go_roundw
      case rel => exact ⟨k + 1, by omega, by go_num, KB5⟩
      case measure => simp [intOf]; omega
    · obtain ⟨x0, x1, x2, x3, x4⟩ := bx_cells (blk_below Kx3.out KBr.out)
      have Kx4 := Aside0.mk (blk_below Kx3.out KBr.out)
      have KX1 := Aside0.mk (KX.out wr ck KBw.out Kck.out)
      have KY1 : Aside0 (∀ w1, Below wr.heap.size wr w1 → _) := ⟨fun w1 hb => KY.out w1 ck (below_then KBw.out KBw.out.size hb) Kck.out⟩
      generalize hY : chunk l0 ck = Y at KX1 KY1
      obtain ⟨U, ue2⟩ := Y
      simp only at KX1 KY1
      obtain ⟨m, hm⟩ : ∃ m, m = U.length := ⟨_, rfl⟩
      rw [← hm] at KY1
      have Km := Aside0.mk hm
      clear hY hm
      go_wp2_with (go_at_call 37; apply Aside0.out)
      refine ⟨?_⟩
      refine KX1.out.mono ?_
      rintro e w4 ⟨v3, rfl, hO3, hB4⟩
      obtain ⟨A3, c3, rfl, -, hC3⟩ := hO3.slice
      rw [← Km.out] at hC3 ⊢
      have KB4 := Aside0.mk hB4
      have KC3 := Aside0.mk hC3
      clear hO3 hB4 hC3 x0 x1 x2 x3 x4
      obtain ⟨x0, x1, x2, x3, x4⟩ := bx_cells (blk_below Kx4.out KB4.out)
      go_wp2_with (go_at_call 38; apply Aside0.out)
      refine ⟨?_⟩
      refine (KY1.out w4 KB4.out).mono ?_
      rintro e w5 ⟨A4, c4, rfl, hC4, hB5⟩
      have KB5 : Aside0 (Below w.heap.size w w5) := ⟨below_then (below_then KBw.out KBw.out.size KB4.out) (below_then KBw.out KBw.out.size KB4.out).size hB5⟩
      have hsx := Kd.C_string (P := Try.prog) (c := c3) Try.underlying37 Try.underlying5 Try.underlying9 (Kd.C_below KC3.out hB5)
      have hsy := Kd.C_string (P := Try.prog) (c := c4) Try.underlying37 Try.underlying5 Try.underlying9 hC4
      clear hC4 hB5 x0 x1 x2 x3 x4
      go_wp2_with (first
        | (go_at_call 32; refine (Me.num_any _ _).mono ?_; rintro e w' ⟨rfl, rfl⟩)
        | (go_at_call 28; refine (Me.live_any _).mono ?_; rintro e w' ⟨rfl, hbel⟩))
      go_ret
      exact ⟨rfl, below_then KB5.out KB5.out.size hbel⟩
theorem walk (w : World) (A0 : Option Addr) (c0 : Nat) (l0 : List Int) (r0 : Kd.C (Kd.int .u8) w A0 l0.length l0) (k0 : l0.length ≤ c0) (g0 : ∀ v ∈ l0, (fun n : Int => (Lit.int .u8 n).wf = true) v) (m0 : l0.length * 1 ≤ 140737488351232) (a1 : Int) (w1 : (Lit.int .i64 a1).wf = true) (a2 : Int) (w2 : (Lit.int .i64 a2).wf = true) (a3 : Int) (w3 : (Lit.int .i64 a3).wf = true) (cs4 : Array Value) (x4 : Int × Int × Int × Bool × Int) (r4 : ∃ c00 c01, cs4.toList = c00 ++ c01 ∧ ((Kd.int .i64).K w x4.1 c00 ∧ (fun n : Int => (Lit.int .i64 n).wf = true) x4.1) ∧ (∃ c10 c11, c01 = c10 ++ c11 ∧ ((Kd.int .i64).K w x4.2.1 c10 ∧ (fun n : Int => (Lit.int .i64 n).wf = true) x4.2.1) ∧ (∃ c20 c21, c11 = c20 ++ c21 ∧ ((Kd.int .i64).K w x4.2.2.1 c20 ∧ (fun n : Int => (Lit.int .i64 n).wf = true) x4.2.2.1) ∧ (∃ c30 c31, c21 = c30 ++ c31 ∧ (Kd.bool.K w x4.2.2.2.1 c30 ∧ (fun _ : Bool => True) x4.2.2.2.1) ∧ ((Kd.int .u32).K w x4.2.2.2.2 c31 ∧ (fun n : Int => (Lit.int .u32 n).wf = true) x4.2.2.2.2))))) :
    Calls Try.prog 11 #[.slice A0 l0.length c0, .int .i64 a1, .int .i64 a2, .int .i64 a3, .agg cs4] w fun e w' => e = .returned (.bool true) ∧ Below w.heap.size w w' := by
  have hb : isB l0 := fun x hx => by
    have := g0 x hx
    have e1 : IntKind.u8.min = 0 := by decide
    have e2 : IntKind.u8.max = 255 := by decide
    simp only [Lit.wf, e1, e2, Bool.and_eq_true, decide_eq_true_eq] at this
    omega
  obtain ⟨y0, y1, y2, y3, y4⟩ := x4
  obtain ⟨d0, d1, e0, ⟨f0, g1⟩, d2, d3, e1, ⟨f1, -⟩, d4, d5, e2, ⟨f2, -⟩, d6, d7, e3, ⟨f3, -⟩, f4, -⟩ := r4
  have f0 : d0 = [.int .i64 y0] := f0
  have f1 : d2 = [.int .i64 y1] := f1
  have f2 : d4 = [.int .i64 y2] := f2
  have f3 : d6 = [.bool y3] := f3
  have f4 : d7 = [.int .u32 y4] := f4
  have hcs : cs4 = #[.int .i64 y0, .int .i64 y1, .int .i64 y2, .bool y3, .int .u32 y4] := by
    apply Array.toList_inj.1
    rw [e0, e1, e2, e3, f0, f1, f2, f3, f4]
    rfl
  have i0 := Go.bounds_i64 g1
  rw [hcs]
  by_cases c1 : (l0.length : Int) > 40000
  · exact big_ w A0 l0.length c0 a1 a2 a3 ⟨y0, y1, y2, y3, y4⟩ (decide_eq_true c1)
  · exact main_ w A0 c0 l0 r0 k0 hb a1 a2 a3 ⟨y0, y1, y2, y3, y4⟩ (by show y0 ≤ 9223372036854775807; omega) (by omega) (decide_eq_false c1)
end MetaChunks
end Go.Proofs.Ytpdggoapjbjmhaa
