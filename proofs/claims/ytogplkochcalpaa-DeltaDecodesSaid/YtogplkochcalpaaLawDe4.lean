/- Any bytes as a delta; they stay: the statement's walk. -/
import Derived.Test.YtogplkochcalpaaDB
import Derived.Test.YtogplkochcalpaaDC
import Derived.Test.YtogplkochcalpaaDp3
import Derived.Test.YtogplkochcalpaaDp4
set_option linter.unusedVariables false
set_option linter.unusedSimpArgs false
namespace Go.Proofs.Ytogplkochcalpaa
open Go.RowKit Go.Proofs.Ytogplkochcalpaa.De Go.Proofs.Ytogplkochcalpaa.PD Go.Proofs.Ytogplkochcalpaa.Fd Go.Proofs.Ytogplkochcalpaa.Bg Go.Proofs.YtogplkochcalpaaW.PrintWords Go.Proofs.YtogplkochcalpaaW.PrintLast Go.Proofs.YtogplkochcalpaaW.PrintMore
namespace DeltaDecodes
theorem big_ (w : World) (A0 : Option Addr) (c0 n : Nat) (hn : 5000 < n) : Calls Try.prog 8 #[.slice A0 n c0] w fun e w' => e = .returned (.bool true) ∧ Below w.heap.size w w' := by
  go_enter Try.func8, Try.ntmps8
  go_wp2_with (go_at_call 10; refine (live_any _).mono ?_; rintro e w' ⟨rfl, hbel⟩)
  go_ret
  exact ⟨rfl, hbel⟩
theorem parse_len (x : List Int) : ∀ (f : Nat) (s : RS) (acc ops : List S37), acc.length ≤ s.at_ → s.at_ ≤ x.length → parse x f s acc = some ops → ops.length ≤ x.length
  | 0, s, acc, ops, h1, h2, h => by rw [parse] at h; cases h
  | f + 1, s, acc, ops, h1, h2, h => by
    rw [parse] at h
    by_cases c : x.length ≤ s.at_
    · rw [if_pos c] at h
      injection h with h
      subst h
      omega
    · rw [if_neg c] at h
      by_cases g : (opP x s).2.1 = true ∧ (opP x s).2.2.bad = false
      · rw [if_pos g] at h
        obtain ⟨g1, g2⟩ := op_good g.1 g.2
        exact parse_len x f _ _ ops (by rw [List.length_append, List.length_singleton]; omega) g2 h
      · rw [if_neg g] at h; cases h
theorem dec_len (l : List Int) (hm : l.length ≤ 2000000) : (decP l).1.l.length ≤ 8388608 := by
  unfold decP
  by_cases h : l.length < 32 ∨ l.take 4 ≠ [80, 77, 68, 49]
  · rw [if_pos h]; simp [zeroD]
  · rw [if_neg h]
    by_cases hS : rdN l (l.length - 4) 4 ≠ Sum.crc 0 (l.take (l.length - 4))
    · rw [if_pos hS]; simp [zeroD]
    · rw [if_neg hS]
      have h32 : 32 ≤ l.length := by
        rcases Nat.lt_or_ge l.length 32 with h1 | h1
        · exact absurd (Or.inl h1) h
        · exact h1
      have hil := inner_len h32
      cases hp : parse (inner l) ((inner l).length + 1) ⟨24, false⟩ [] with
      | none => simp [finD, zeroD]
      | some ops =>
        have := parse_len _ _ _ _ _ (by simp) (by show 24 ≤ _; omega) hp
        rw [finD]
        by_cases r : rightD (headD (inner l) ops) = true
        · rw [if_pos r]; show ops.length ≤ _; omega
        · rw [if_neg r]; simp [zeroD]
set_option maxHeartbeats 8000000 in
set_option maxRecDepth 100000 in
theorem main_ (w : World) (A0 : Option Addr) (c0 : Nat) (l0 : List Int) (hn : l0.length ≤ 5000) (r0 : Kd.C (Kd.int .u8) w A0 l0.length l0) (k0 : l0.length ≤ c0) (hl : ∀ x ∈ l0, 0 ≤ x ∧ x < 256) : Calls Try.prog 8 #[.slice A0 l0.length c0] w fun e w' => e = .returned (.bool true) ∧ Below w.heap.size w w' := by
  have KD : Aside0 (∀ (w1 : World) A1 c1, Kd.C (Kd.int .u8) w1 A1 l0.length l0 → l0.length ≤ c1 → _) := ⟨fun w1 A1 c1 h1 h2 => decode_any w1 l0 A1 c1 h1 hl (by omega) h2⟩
  have KR : Aside0 (∀ (w1 : World), Below w.heap.size w w1 → _) := ⟨fun w1 h => rdecode_any w1 l0 A0 c0 (Kd.C_below r0 h) hl (by omega) k0⟩
  have KM : Aside0 (∀ w', Below w.heap.size w w' → Kd.C (Kd.int .u8) w' A0 l0.length l0) := ⟨fun w' h => Kd.C_below r0 h⟩
  have hdl := dec_len l0 (by omega)
  obtain ⟨d, E, hd⟩ : ∃ d E, decP l0 = (d, E) := ⟨_, _, rfl⟩
  rw [hd] at KD KR hdl
  have KQ : Aside0 (∀ (w1 : World) B cb B2 cb2, Kd.C k37 w1 B d.l.length d.l → d.l.length ≤ cb → Kd.C k37 w1 B2 d.l.length d.l → d.l.length ≤ cb2 → _) := ⟨fun w1 B cb B2 cb2 h1 h2 h3 h4 => same_any d B B2 cb cb2 w1 h1 h2 h3 h4 hdl⟩
  simp only [DecR, dv] at KD KR KQ
  obtain ⟨n, hnn⟩ : ∃ n, n = l0.length := ⟨_, rfl⟩
  rw [← hnn] at KD KR KM hn k0 ⊢
  obtain ⟨k, hk⟩ : ∃ k, k = d.l.length := ⟨_, rfl⟩
  rw [← hk] at KQ KR
  have Kn := Aside0.mk hnn
  have Kk := Aside0.mk hk
  clear r0 hl hd hdl hnn hk
  go_enter Try.func8, Try.ntmps8
  go_wp2_with ((with_reducible refine gate_builtin (b := .append) (xs := #[.tmp 12, .tmp 13]) rfl ?_); apply Aside0.out)
  refine ⟨?_⟩
  have hb := below_alloc (Below.refl w.heap.size w) (.cells #[] 5)
  refine Row.app_rows (w0 := w) w.heap.size rfl (.tmp 12) (.tmp 13) rfl _ [] l0 A0 n c0 rfl rfl (Row.OwnB.lit w w.heap.size #[] [] rfl (Nat.le_refl _) (by simp)) (KM.out _ hb) hb (by simp) (by simp; omega) ?_
  intro zs A1 c1 w1 hz ho hzl hzle hzc hC1 hb1 hbs hg1 hat1
  have hz := hz.out
  rw [List.nil_append] at hz
  subst hz
  rw [← Kn.out] at hzc hC1 ⊢
  have KB1 := Aside0.mk hb1.out
  have KC1 := Aside0.mk hC1.out
  clear ho hzl hzle hC1 hg1 hat1 hb1 hbs hb
  go_wp2_with (go_at_call 25; apply Aside0.out)
  refine ⟨?_⟩
  refine (KD.out w1 A1 c1 KC1.out hzc).mono ?_
  rintro e w2 ⟨ov, rfl, hN, hb2⟩
  obtain ⟨A2, c2, rfl, hle2, hC2⟩ := N_C hN
  rw [← Kk.out] at hle2 hC2 ⊢
  have hX := heap_alloc_new w2 (.cells #[.int .i64 d.a, .int .i64 d.b, .int .u64 d.c, .int .u64 d.d, .slice A2 k c2] 27)
  have hXb := below_alloc (Below.refl w2.heap.size w2) (.cells #[.int .i64 d.a, .int .i64 d.b, .int .u64 d.c, .int .u64 d.d, .slice A2 k c2] 27)
  have KX3 := Aside0.mk hX
  have KB3 := Aside0.mk (below_then (below_then KB1.out KB1.out.size hb2) (below_then KB1.out KB1.out.size hb2).size hXb)
  have KC3 := Aside0.mk (Kd.C_below hC2 hXb)
  have KS3 := Aside0.mk (Kd.C_below (Kd.C_below KC1.out hb2) hXb)
  clear hN hb2 hC2 hX hXb
  go_wp2_with (go_at_call 26; apply Aside0.out)
  refine ⟨?_⟩
  refine (KR.out _ KB3.out).mono ?_
  rintro e w4 ⟨A4, c4, rfl, hC4, hle4, hb4⟩
  have hX := heap_alloc_new w4 (.cells #[.int .i64 d.a, .int .i64 d.b, .int .u64 d.c, .int .u64 d.d, .slice A4 k c4] 27)
  have hXb := below_alloc (Below.refl w4.heap.size w4) (.cells #[.int .i64 d.a, .int .i64 d.b, .int .u64 d.c, .int .u64 d.d, .slice A4 k c4] 27)
  obtain ⟨z0, z1, z2, z3, z4⟩ := dbox_cells hX
  obtain ⟨y0, y1, y2, y3, y4⟩ := dbox_cells (blk_below (blk_below KX3.out hb4) hXb)
  have KB5 := Aside0.mk (below_then (below_then KB3.out KB3.out.size hb4) (below_then KB3.out KB3.out.size hb4).size hXb)
  have KQ5 := Aside0.mk (KQ.out _ A2 c2 A4 c4 (Kd.C_below (Kd.C_below KC3.out hb4) hXb) hle2 (Kd.C_below hC4 hXb) hle4)
  have KS5 := Aside0.mk (Kd.C_below (Kd.C_below KS3.out hb4) hXb)
  clear hC4 hb4 hX hXb
  go_wp2_with (go_at_call 13; apply Aside0.out)
  refine ⟨?_⟩
  refine KQ5.out.mono ?_
  rintro e w6 ⟨rfl, hb6⟩
  have hs1 := str_atE (c := c1) (Kd.C_below KS5.out hb6)
  have hs2 := str_atE (c := c0) (KM.out _ (below_then KB5.out KB5.out.size hb6))
  have KB6 := Aside0.mk (below_then KB5.out KB5.out.size hb6)
  clear hb6 z0 z1 z2 z3 z4 y0 y1 y2 y3 y4
  go_wp2_with (first | (go_at_call 12; refine (num_any _ _).mono ?_; rintro e w' ⟨rfl, rfl⟩) | (go_at_call 10; refine (live_any _).mono ?_; rintro e w' ⟨rfl, hbel⟩))
  go_ret
  exact ⟨rfl, below_then KB6.out KB6.out.size hbel⟩
theorem walk (w : World) (A0 : Option Addr) (c0 : Nat) (l0 : List Int) (r0 : Kd.C (Kd.int .u8) w A0 l0.length l0) (k0 : l0.length ≤ c0) (g0 : ∀ v ∈ l0, (fun n : Int => (Lit.int .u8 n).wf = true) v) (m0 : l0.length * 1 ≤ 140737488351232) :
    Calls Try.prog 8 #[.slice A0 l0.length c0] w fun e w' => e = .returned (.bool true) ∧ Below w.heap.size w w' := by
  by_cases h : 5000 < l0.length
  · exact big_ w A0 c0 l0.length h
  · exact main_ w A0 c0 l0 (by omega) r0 k0 (u8_b g0)
end DeltaDecodes
end Go.Proofs.Ytogplkochcalpaa
