/- Streams in chunks: the document's Chunk, and what keeps its bytes as they are. -/
import Derived.Test.YtpdggoapjbjmhaaMe9
set_option linter.unusedVariables false
set_option linter.unusedSimpArgs false
namespace Go.Proofs.Ytpdggoapjbjmhaa.Me
open Go.RowKit Go.Proofs.Ytpdggoapjbjmhaa.Fd Go.Proofs.Ytpdggoapjbjmhaa.Bg Go.Proofs.Ytpdggoapjbjmhaa.Lz Go.Proofs.Ytpdggoapjbjmhaa.Ma Go.Proofs.Ytpdggoapjbjmhaa.Bk Go.Proofs.YtpdggoapjbjmhaaW.PrintWords Go.Proofs.YtpdggoapjbjmhaaW.PrintLast Go.Proofs.YtpdggoapjbjmhaaW.PrintMore
/-- Bytes that stand as long as what is older than w0 and what was made from base on stand. -/
def Far (w0 : World) (base : Nat) (w' : World) (A1 : Option Addr) (U : List Int) : Prop := ∀ W, Below w0.heap.size w0 W → (∀ k, base ≤ k → k < w'.heap.size → W.heap[k]? = w'.heap[k]?) → Kd.C (Kd.int .u8) W A1 U.length U
theorem Far.nil (w0 : World) (base : Nat) (w' : World) : Far w0 base w' none [] := fun W _ _ => Kd.C_nil _ _
theorem Far.mono {w0 w' : World} {base b1 : Nat} {A1 : Option Addr} {U : List Int} (h : Far w0 base w' A1 U) (hb : b1 ≤ base) : Far w0 b1 w' A1 U := fun W hW hk => h W hW fun k h1 h2 => hk k (Nat.le_trans hb h1) h2
theorem own_lt {W : World} {base : Nat} {v : Value} {xs : List Int} (h : Row.OwnB W base v xs) (k : Nat) (hk : v.ownBlock = some k) : base ≤ k ∧ k < W.heap.size := by
  refine ⟨(own_cells h).1 k hk, ?_⟩
  obtain ⟨cells, hc⟩ := own_typed (Kd.own_of_R h) k hk
  exact (Array.getElem?_eq_some_iff.1 hc).1
theorem Far.own {w0 w' : World} {base n c : Nat} {A1 : Option Addr} {U : List Int} (h : Row.OwnB w' base (.slice A1 n c) U) : Far w0 base w' A1 U := fun W _ hk => (OwnB_frame h fun k e => hk k (own_lt h k e).1 (own_lt h k e).2).reads.2.2
set_option maxHeartbeats 2000000 in
set_option maxRecDepth 100000 in
theorem runpack_far (w0 w : World) (b : List Int) (A : Option Addr) (cap : Nat) (packed : Bool) (most : Int) (hC : Kd.C (Kd.int .u8) w A b.length b) (hcap : b.length ≤ cap) (hb : isB b) (hN : b.length ≤ 1000000) (hA : ∀ W, Below w0.heap.size w0 W → Kd.C (Kd.int .u8) W A b.length b) :
    Calls Try.prog 43 #[.slice A b.length cap, .bool packed, .int .i64 most] w fun e w' => ∃ A1 c1, e = .returned (.tuple #[.slice A1 (unp b packed most).1.length c1, .int .i64 (unp b packed most).2]) ∧ Far w0 w.heap.size w' A1 (unp b packed most).1 ∧ Below w.heap.size w w' := by
  have KC := Aside0.mk hC
  have KA := Aside0.mk hA
  clear hA
  by_cases hm : most < 0 ∨ 1048576 < most
  · have he : unp b packed most = ([], 1) := by
      unfold unp
      cases packed with
      | true => rw [if_pos rfl]; unfold dec; rw [if_pos hm]
      | false => rw [if_neg (by decide), if_pos hm]
    rw [he]
    have hm2 : most < 0 ∨ (0 ≤ most ∧ 1048576 < most) := by omega
    clear hm he hC hb
    rcases hm2 with hm | ⟨hm, hm1⟩
    all_goals
      go_enter Try.func43, Try.ntmps43
      go_wp2
      go_ret2
      exact ⟨none, 0, rfl, Far.nil _ _ _, Below.refl _ _⟩
  · have h0 : 0 ≤ most := by omega
    have h1 : most ≤ 1048576 := by omega
    have KD := Aside0.mk (refdec_dec w b A cap most hC hb hN hcap h0 h1)
    unfold unp
    rw [if_neg hm]
    clear hm
    cases packed with
    | true =>
      rw [if_pos rfl]
      obtain ⟨x, E, P, hx⟩ : ∃ x E P, dec b most = (x, E, P) := ⟨_, _, _, rfl⟩
      rw [hx] at KD ⊢
      simp only at KD ⊢
      clear hC hb hx
      go_enter Try.func43, Try.ntmps43
      go_wp2_with (go_at_call 58; apply Aside0.out)
      refine ⟨?_⟩
      refine KD.out.mono ?_
      rintro e w1 ⟨v8, v9, rfl, hB, h8, h9⟩
      obtain ⟨A8, c8, rfl, -, hC8⟩ := h8.slice
      have KB := Aside0.mk hB
      have KC8 := Aside0.mk (Far.own (w0 := w0) h8)
      clear hB h8 h9 hC8
      go_wp2
      go_ret2
      exact ⟨A8, c8, rfl, KC8.out, KB.out⟩
    | false =>
      rw [if_neg (by decide)]
      clear KD hC hb
      by_cases hl : most < b.length
      · rw [if_pos hl]
        go_enter Try.func43, Try.ntmps43
        go_wp2
        go_ret2
        exact ⟨none, 0, rfl, Far.nil _ _ _, Below.refl _ _⟩
      · rw [if_neg hl]
        have hl2 : (b.length : Int) ≤ most := by omega
        clear hl
        go_enter Try.func43, Try.ntmps43
        go_wp2
        go_ret2
        exact ⟨A, cap, rfl, fun W hW _ => KA.out W hW, Below.refl _ _⟩
set_option maxHeartbeats 2000000 in
set_option maxRecDepth 100000 in
theorem chunk_ok_far (w0 w : World) (A : Option Addr) (L cc : Nat) (a P s z4 : Int) (p : Bool) (im : List Int) (hL : L = im.length) (hC : Kd.C (Kd.int .u8) w A L im) (hc : L ≤ cc) (him : isB im) (hg : rgt ⟨a, P, s, p, z4⟩ = true) (hl : L ≤ 1000000) (hr : a + 8 + s ≤ (L : Int)) (z : Int) (hz : z = ((Sum.crc 0 (cutx im (a + 8) s) : Nat) : Int)) (U : List Int) (ue : Int) (hu0 : unp (cutx im (a + 8) s) p P = (U, ue)) (hyz : z = z4) (hu : ue = 0) (hul : (U.length : Int) = P) (hA : ∀ W, Below w0.heap.size w0 W → Kd.C (Kd.int .u8) W A L im) : Calls Try.prog 38 #[.slice A L cc, .agg #[.int .i64 a, .int .i64 P, .int .i64 s, .bool p, .int .u32 z4]] w fun e w' => ∃ A1 c1, e = .returned (.tuple #[.slice A1 U.length c1, .int .i64 0]) ∧ Far w0 w.heap.size w' A1 U ∧ Below w.heap.size w w' := by
  obtain ⟨r0, r1, r2, r3, r4, -⟩ := (rgt_iff _).1 hg
  simp only at r0 r1 r2 r3 r4
  have KR := Aside0.mk (rright_any ⟨a, P, s, p, z4⟩)
  rw [hg] at KR
  have Kal : Aside0 (Below w.heap.size w (w.alloc (.cells #[.int .i64 a, .int .i64 P, .int .i64 s, .bool p, .int .u32 z4] 62))) := ⟨below_alloc (Below.refl _ _) _⟩
  clear hg
  obtain ⟨A', c', hmc, hsl, hCx, hxl⟩ := cut_int A cc L im hL (a + 8) (a + 8 + s) s (by omega) (by omega) rfl hr hc
  have KCx : Aside0 (∀ w1, Below w.heap.size w w1 → Kd.C (Kd.int .u8) w1 A' s.toNat (cutx im (a + 8) s)) := ⟨fun w1 hb => hCx w1 (Kd.C_below hC hb)⟩
  have KAx : Aside0 (∀ W, Below w0.heap.size w0 W → Kd.C (Kd.int .u8) W A' s.toNat (cutx im (a + 8) s)) := ⟨fun W hW => hCx W (hA W hW)⟩
  clear hA
  have hix := cutx_isB him (a + 8) s
  have hm1 : s.toNat ≤ 1000000 := by omega
  have KX : Aside0 (∀ w1, Below w.heap.size w w1 → Calls Try.prog 42 #[.int .u32 0, .slice A' s.toNat c'] w1 fun e w' => e = .returned (.int .u32 z) ∧ w1 = w') := ⟨fun w1 hb => by
    have h := Sum.refCrc_any 0 (by decide) A' c' (cutx im (a + 8) s) w1 (by rw [hxl]; exact KCx.out w1 hb) (by omega) hix
    rw [hxl, ← hz] at h
    exact h⟩
  have KU : Aside0 (∀ w1, Below w.heap.size w w1 → Calls Try.prog 43 #[.slice A' s.toNat c', .bool p, .int .i64 P] w1 fun e w' => ∃ A1 c1, e = .returned (.tuple #[.slice A1 U.length c1, .int .i64 ue]) ∧ Far w0 w1.heap.size w' A1 U ∧ Below w1.heap.size w1 w') := ⟨fun w1 hb => by
    have h := runpack_far w0 w1 (cutx im (a + 8) s) A' c' p P (by rw [hxl]; exact KCx.out w1 hb) (by rw [hxl]; exact hmc) hix (by rw [hxl]; exact hm1) (fun W hW => by rw [hxl]; exact KAx.out W hW)
    rw [hxl, hu0] at h
    exact h⟩
  obtain ⟨Li, hLi⟩ : ∃ x : Int, (L : Int) = x := ⟨_, rfl⟩
  have i1 : Li ≤ 1000000 := by omega
  rw [hLi] at hr
  have i2 : a ≤ 1000000 := by omega
  have hb1 : decide (a > Li) = false := decide_eq_false (by omega)
  have hb3 : decide (8 + s > Li - a) = false := decide_eq_false (by omega)
  have i0 : 0 ≤ Li := by omega
  have Kz := Aside0.mk hyz
  clear hz hyz hix hCx hxl hmc him hC hL hc hl hm1 r1 r2 hr hu0
  go_enter Try.func38, Try.ntmps38
  go_wp2_with (go_at_call 53; apply Aside0.out)
  refine ⟨?_⟩
  refine (KR.out _).mono ?_
  rintro e w1 ⟨rfl, hB1⟩
  have KB1 := Aside0.mk (below_then Kal.out Kal.out.size hB1)
  have KW := Aside0.mk ((hB1.block w.heap.size (by simp)).trans (heap_alloc_new w _))
  have hwg : w.heap.size < w1.heap.size := by have := hB1.size; simp at this; omega
  obtain ⟨g, hg⟩ : ∃ g, g = w.heap.size := ⟨_, rfl⟩
  rw [← hg] at KW hwg ⊢
  have Kg := Aside0.mk hg
  clear hB1 hg
  obtain ⟨x0, x1, x2, x3, x4⟩ := bx_cells KW.out
  go_wp2
  refine start_ (n := 5) (S := fun w' => Below g w w' ∧ w'.heap[g]? = some (.cells #[.int .i64 a, .int .i64 P, .int .i64 s, .bool p, .int .u32 z4] 62 (0, 0))) (ds := []) #[false, false, false, false, false] (by kernel_rfl) rfl rfl ⟨(show Below g w w1.drew from below_drew (by rw [Kg.out]; exact KB1.out)), (show w1.drew.heap[g]? = _ from KW.out)⟩ (fun hHeld => ?_)
  refine pure_ (i := 0) (N := some 39) (v := ?_) (a' := ?_) #[true, false, false, false, false] rfl rfl (by kernel_rfl) (fun _ _ _ h => h) (Or.inl ⟨by rfl, ?_⟩) ?_ ?_
  rotate_left
  · intro w'
    go_simp
    with_reducible rfl
  rotate_left
  · simp only [Act.put, List.setIfInBounds_toArray, List.set_cons_zero, List.set_cons_succ, i64_w, i32_w]
    rfl
  refine pure_ (i := 2) (N := some 41) (v := ?_) (a' := ?_) #[true, false, true, false, false] rfl rfl (by kernel_rfl) (fun _ _ _ h => h) (Or.inl ⟨by rfl, ?_⟩) ?_ ?_
  rotate_left
  · intro w'
    go_simp
    with_reducible rfl
  rotate_left
  · simp only [Act.put, List.setIfInBounds_toArray, List.set_cons_zero, List.set_cons_succ, i64_w, i32_w]
    rfl
  refine take_ (i := 3) (N := some 42) (v := .int .u32 z4) (a' := ?_) #[true, false, true, true, false] rfl rfl (by kernel_rfl) (fun _ _ _ h => h) (Or.inl ⟨by rfl, ?_⟩) hHeld ?_ ?_
  · rintro w' ⟨s0, s1⟩
    (have y4 := (bx_cells s1).2.2.2.2)
    go_simp
    (try rfl)
  rotate_left
  · simp only [Act.put, List.setIfInBounds_toArray, List.set_cons_zero, List.set_cons_succ, i64_w, i32_w]
    rfl
  refine one_ (i := 1) (N := some 40) #[true, true, true, true, false] rfl rfl (by kernel_rfl) (by decide) (fun K hK => ?_)
  refine goes_ Try.func42 (by kernel_rfl) rfl #[.int .u32 0, .slice A' s.toNat c'] (by rfl) rfl rfl (by simp only [List.map_toArray, List.map_cons, List.map_nil]; rfl) ?_
  with_reducible refine (KX.out _ (by rw [← Kg.out]; exact hHeld.1)).mono ?_
  rintro e w9 ⟨rfl, rfl⟩
  refine ⟨_, rfl, ?_⟩
  refine hK.out _ _ ⟨hHeld.1, hHeld.2⟩ (fun hHeld => ?_)
  clear hK K
  refine norm_ (a' := ?_) ?_ ?_
  rotate_left
  · show Act.put _ (some 40) _ = _
    simp only [Act.put, List.setIfInBounds_toArray, List.set_cons_zero, List.set_cons_succ, i64_w, i32_w]
    rfl
  refine pure_ (i := 4) (N := some 43) (v := .bool false) (a' := ?_) #[true, true, true, true, true] rfl rfl (by kernel_rfl) (fun _ _ _ h => h) (Or.inl ⟨by rfl, ?_⟩) ?_ ?_
  · intro w'
    (have hz := Kz.out)
    go_simp
    (try simp [hz])
  rotate_left
  · simp only [Act.put, List.setIfInBounds_toArray, List.set_cons_zero, List.set_cons_succ, i64_w, i32_w]
    rfl
  refine done_ (by kernel_rfl) ?_
  have KB2 : Aside0 (Below w.heap.size w _) := ⟨by rw [← Kg.out]; exact hHeld.1⟩
  have KW2 := Aside0.mk hHeld.2
  obtain ⟨x0, x1, x2, x3, x4⟩ := bx_cells hHeld.2
  have hwg2 := (Array.getElem?_eq_some_iff.1 hHeld.2).1
  clear hHeld
  go_wp2_with (go_at_call 43; apply Aside0.out)
  refine ⟨?_⟩
  refine (KU.out _ KB2.out).mono ?_
  rintro e w3 ⟨A5, c5, rfl, hO, hB3⟩
  have KB3 := Aside0.mk (below_then KB2.out KB2.out.size hB3)
  have KO := Aside0.mk hO
  obtain ⟨y0, y1, y2, y3, y4⟩ := bx_cells ((hB3.block g hwg2).trans KW2.out)
  clear hB3 hO x0 x1 x2 x3 x4
  subst hu
  have hq : ((U.length : Int) != P) = false := by simp [hul]
  clear hul
  go_wp2
  go_ret2
  exact ⟨_, _, rfl, KO.out.mono KB2.out.size, KB3.out⟩
set_option maxHeartbeats 2000000 in
set_option maxRecDepth 100000 in
theorem rchunk_far (w0 w : World) (im : List Int) (A : Option Addr) (cc : Nat) (c : Ck) (hC : Kd.C (Kd.int .u8) w A im.length im) (hc : im.length ≤ cc) (him : isB im) (hl : im.length ≤ 1000000) (ha : c.f0 ≤ 9223372036854775807) (hA : ∀ W, Below w0.heap.size w0 W → Kd.C (Kd.int .u8) W A im.length im) :
    Calls Try.prog 38 #[.slice A im.length cc, .agg (bx c)] w fun e w' => ∃ A1 c1, e = .returned (.tuple #[.slice A1 (chunk im c).1.length c1, .int .i64 (chunk im c).2]) ∧ Far w0 w.heap.size w' A1 (chunk im c).1 ∧ Below w.heap.size w w' := by
  obtain ⟨a, P, s, p, z4⟩ := c
  unfold bx chunk
  simp only at ha ⊢
  cases hg : rgt ⟨a, P, s, p, z4⟩ with
  | false =>
    rw [if_pos rfl]
    refine (chunk_arg_r w A _ cc a P s z4 p hg).mono ?_
    rintro e w' ⟨rfl, hB⟩
    exact ⟨none, 0, rfl, Far.nil _ _ _, hB⟩
  | true =>
    rw [if_neg (by decide)]
    by_cases p1 : (im.length : Int) < a + 8 + s
    · rw [if_pos p1]
      refine (chunk_range_r w A _ cc a P s z4 p hg hl ha p1).mono ?_
      rintro e w' ⟨rfl, hB⟩
      exact ⟨none, 0, rfl, Far.nil _ _ _, hB⟩
    rw [if_neg p1]
    by_cases p2 : ((Sum.crc 0 (cutx im (a + 8) s) : Nat) : Int) ≠ z4
    · rw [if_pos p2]
      refine (chunk_sum_r w A _ cc a P s z4 p im rfl hC hc him hg hl (by omega) _ rfl p2).mono ?_
      rintro e w' ⟨rfl, hB⟩
      exact ⟨none, 0, rfl, Far.nil _ _ _, hB⟩
    rw [if_neg p2]
    have p2 := Classical.byContradiction p2
    obtain ⟨U, ue, hu⟩ : ∃ U ue, unp (cutx im (a + 8) s) p P = (U, ue) := ⟨_, _, rfl⟩
    rw [hu]
    simp only
    by_cases p3 : ue ≠ 0 ∨ (U.length : Int) ≠ P
    · rw [if_pos p3]
      refine (chunk_form_r w A _ cc a P s z4 p im rfl hC hc him hg hl (by omega) _ rfl U ue hu p2 p3).mono ?_
      rintro e w' ⟨rfl, hB⟩
      exact ⟨none, 0, rfl, Far.nil _ _ _, hB⟩
    rw [if_neg p3]
    have q1 : ue = 0 := Classical.byContradiction fun h => p3 (Or.inl h)
    have q2 : (U.length : Int) = P := Classical.byContradiction fun h => p3 (Or.inr h)
    exact chunk_ok_far w0 w A _ cc a P s z4 p im rfl hC hc him hg hl (by omega) _ rfl U ue hu p2 q1 q2 hA
end Go.Proofs.Ytpdggoapjbjmhaa.Me
