/- Streams in chunks: a part of what chunks tell: the document's walk. -/
import Derived.Test.YtpdggoapjbjmhaaMeB
set_option linter.unusedVariables false
set_option linter.unusedSimpArgs false
namespace Go.Proofs.Ytpdggoapjbjmhaa.Me
open Go.RowKit Go.Proofs.Ytpdggoapjbjmhaa.Fd Go.Proofs.Ytpdggoapjbjmhaa.Bg Go.Proofs.Ytpdggoapjbjmhaa.Lz Go.Proofs.Ytpdggoapjbjmhaa.Ma Go.Proofs.Ytpdggoapjbjmhaa.Bk Go.Proofs.YtpdggoapjbjmhaaW.PrintWords Go.Proofs.YtpdggoapjbjmhaaW.PrintLast Go.Proofs.YtpdggoapjbjmhaaW.PrintMore
/-- What of the first bytes lies within. -/
def mid (U : List Int) (A N j : Nat) : List Int := ((U.take j).drop A).take N
theorem mid_zero (U : List Int) (A N : Nat) : mid U A N 0 = [] := by unfold mid; rw [List.take_zero, List.drop_nil, List.take_nil]
theorem mid_all {U : List Int} {A N j : Nat} (h : U.length ≤ j) : mid U A N j = (U.drop A).take N := by unfold mid; rw [List.take_of_length_le h]
theorem mid_len (U : List Int) (A N j : Nat) : (mid U A N j).length ≤ N := by unfold mid; rw [List.length_take]; omega
theorem mid_next {U : List Int} {A N j : Nat} (h : j < U.length) : mid U A N (j + 1) = mid U A N j ++ if A ≤ j ∧ j - A < N then [rd U (j : Int)] else [] := by
  have e : U.take (j + 1) = U.take j ++ [rd U (j : Int)] := by
    unfold rd
    rw [Int.toNat_natCast, List.take_add_one, List.getD_eq_getElem?_getD, List.getElem?_eq_getElem h]
    rfl
  have hl : (U.take j).length = j := by rw [List.length_take]; omega
  unfold mid
  rw [e, List.drop_append, hl]
  by_cases h1 : A ≤ j
  · rw [show A - j = 0 by omega, List.drop_zero, List.take_append, List.length_drop, hl]
    by_cases h2 : j - A < N
    · rw [if_pos ⟨h1, h2⟩, List.take_of_length_le (l := [rd U (j : Int)]) (by rw [List.length_singleton]; omega)]
    · rw [if_neg (fun hh => h2 hh.2), show N - (j - A) = 0 by omega, List.take_zero]
  · rw [if_neg (fun hh => h1 hh.1), List.drop_eq_nil_of_le (show [rd U (j : Int)].length ≤ A - j by rw [List.length_singleton]; omega), List.append_nil, List.append_nil]
set_option maxHeartbeats 2000000 in
set_option maxRecDepth 100000 in
theorem rslice_go (w : World) (im : List Int) (A Al : Option Addr) (cc cl : Nat) (l : List Ck) (at_ n : Int) (hC : Kd.C (Kd.int .u8) w A im.length im) (hc : im.length ≤ cc) (him : isB im) (hl : im.length ≤ 1000000) (hCl : Kd.C kC w Al l.length l) (hp : ∀ c ∈ l, c.f1 ≤ 16777216 ∧ c.f0 ≤ 9223372036854775807) (hn : l.length ≤ 30) (hi : -9223372036854775808 ≤ at_ ∧ at_ ≤ 9223372036854775807 ∧ -9223372036854775808 ≤ n ∧ n ≤ 9223372036854775807) :
    Calls Try.prog 34 #[.slice A im.length cc, .slice Al l.length cl, .int .i64 at_, .int .i64 n] w fun e w' => ∃ v, e = .returned (.tuple #[v, .int .i64 (slice im l at_ n).2]) ∧ Row.OwnB w' w.heap.size v (slice im l at_ n).1 ∧ Below w.heap.size w w' := by
  have KX : Aside0 (∀ (w1 : World) (c : Ck), Below w.heap.size w w1 → c.f0 ≤ 9223372036854775807 → Calls Try.prog 38 #[.slice A im.length cc, .agg #[.int .i64 c.f0, .int .i64 c.f1, .int .i64 c.f2, .bool c.f3, .int .u32 c.f4]] w1 fun e w' => ∃ A1 c1, e = .returned (.tuple #[.slice A1 (chunk im c).1.length c1, .int .i64 (chunk im c).2]) ∧ Far w w1.heap.size w' A1 (chunk im c).1 ∧ Below w1.heap.size w1 w') := ⟨fun w1 c hb hg => rchunk_far w w1 im A cc c (Kd.C_below hC hb) hc him hl hg (fun W hW => Kd.C_below hC hW)⟩
  have KPL : Aside0 (∀ (w1 : World) (c : Ck), Calls Try.prog 54 #[.agg #[.int .i64 c.f0, .int .i64 c.f1, .int .i64 c.f2, .bool c.f3, .int .u32 c.f4]] w1 fun e w' => e = .returned (.int .i64 (pl c)) ∧ Below w1.heap.size w1 w') := ⟨fun w1 c => by
    have h := rplain_any c.f0 c.f1 c.f2 c.f4 c.f3 w1
    rw [show max c.f1 0 = (pl c : Int) by unfold pl; omega] at h
    exact h⟩
  have KCl : Aside0 (∀ w', Below w.heap.size w w' → Kd.C kC w' Al l.length l) := ⟨fun w' hb => Kd.C_below hCl hb⟩
  have Kp := Aside0.mk hp
  have KT : Aside0 (∀ k, psm (l.take k) ≤ 16777216 * k) := ⟨fun k => psm_le l k fun c hc => (hp c hc).1⟩
  have KS : Aside0 (slice im l at_ n = if at_ < 0 ∨ n < 0 ∨ (psm l : Int) < at_ + n then ([], 9) else sl im l at_.toNat n.toNat) := ⟨rfl⟩
  generalize slice im l at_ n = R at KS ⊢
  obtain ⟨L, hL⟩ : ∃ L, L = im.length := ⟨_, rfl⟩
  obtain ⟨nl, hnl⟩ : ∃ n, n = l.length := ⟨_, rfl⟩
  rw [← hL] at KX ⊢
  rw [← hnl] at KCl hn ⊢
  have Kn := Aside0.mk hnl
  have Ki := Aside0.mk hi
  clear hC hc him hl hL hnl hCl hp hi
  go_enter Try.func34, Try.ntmps34
  go_wp2
  go_loopw [10, 11] (fun v10 v21 wr => ∃ (k T : Nat), k ≤ nl ∧ T ≤ 16777216 * k ∧ v10 = .int .i64 T ∧ v21 = .int .i64 k ∧ Aside0 (T = psm (l.take k)) ∧ Aside0 (Below w.heap.size w wr)) (fun _ i _ => nl - (intOf i).toNat)
  case atStart => exact ⟨0, 0, Nat.zero_le _, Nat.zero_le _, rfl, rfl, ⟨rfl⟩, ⟨Below.refl _ _⟩⟩
  case round =>
    obtain ⟨k, T, hk, hT, rfl, rfl, KT1, KB⟩ := hrel
    by_cases hlt : k < nl
    · obtain ⟨ad, c, r, hd1, hd2, hmem, rfl, x0, x1, x2, x3, x4⟩ := at_C (KCl.out wr KB.out) k hlt
      have KPc := Aside0.mk (KPL.out wr c)
      obtain ⟨p, hp⟩ : ∃ p, p = pl c := ⟨_, rfl⟩
      have hp1 := (Kp.out c hmem).1
      have hp2 : p ≤ 16777216 := by rw [hp]; unfold pl; omega
      rw [← hp] at KPc
      have KT2 : Aside0 (T + p = psm (l.take (k + 1))) := ⟨by rw [psm_take l k c r hd1, ← KT1.out, hp]⟩
      clear hd1 hd2 hmem hp
      go_wp2_with (go_at_call 54; apply Aside0.out)
      refine ⟨?_⟩
      refine KPc.out.mono ?_
      rintro e w3 ⟨rfl, hB3⟩
      have KB3 := Aside0.mk (below_then KB.out KB.out.size hB3)
      clear hB3 x0 x1 x2 x3 x4
      go_wp2
      go_roundw
      case rel => exact ⟨k + 1, T + p, by omega, by omega, by go_num, by go_num, KT2, KB3⟩
      case measure => simp [intOf]; omega
    · have hkn : k = nl := by omega
      have hTl : T = psm l := by rw [KT1.out, List.take_of_length_le (by rw [hkn, Kn.out]; exact Nat.le_refl _)]
      have KRb : Aside0 ((at_ < 0 ∨ n < 0 ∨ (T : Int) < at_ + n) → R = ([], 9)) := ⟨fun h => by rw [KS.out, if_pos (by rw [← hTl]; exact h)]⟩
      have KRg : Aside0 (¬ (at_ < 0 ∨ n < 0 ∨ (T : Int) < at_ + n) → R = sl im l at_.toNat n.toNat) := ⟨fun h => by rw [KS.out, if_neg (by rw [← hTl]; exact h)]⟩
      have hT5 : T ≤ 503316480 := by omega
      clear hTl hkn hT KT1
      by_cases b1 : at_ < 0
      · have hR := Aside0.mk (KRb.out (Or.inl b1))
        have f1 : decide (at_ < 0) = true := decide_eq_true b1
        clear b1
        go_wp2
        go_ret2
        exact ⟨.slice none 0 0, by rw [hR.out] <;> rfl, by rw [hR.out]; exact Row.OwnB.nil _ _, KB.out⟩
      by_cases b2 : n < 0
      · have hR := Aside0.mk (KRb.out (Or.inr (Or.inl b2)))
        have f1 : decide (at_ < 0) = false := decide_eq_false b1
        have f2 : decide (n < 0) = true := decide_eq_true b2
        clear b1 b2
        go_wp2
        go_ret2
        exact ⟨.slice none 0 0, by rw [hR.out] <;> rfl, by rw [hR.out]; exact Row.OwnB.nil _ _, KB.out⟩
      obtain ⟨a, rfl⟩ := Int.eq_ofNat_of_zero_le (a := at_) (by omega)
      obtain ⟨m, rfl⟩ := Int.eq_ofNat_of_zero_le (a := n) (by omega)
      have ha9 : a ≤ 9223372036854775807 := by have := Ki.out; omega
      have hm9 : m ≤ 9223372036854775807 := by have := Ki.out; omega
      by_cases b3 : T < a
      · have hR := Aside0.mk (KRb.out (Or.inr (Or.inr (by omega))))
        go_wp2
        go_ret2
        exact ⟨.slice none 0 0, by rw [hR.out] <;> rfl, by rw [hR.out]; exact Row.OwnB.nil _ _, KB.out⟩
      by_cases b4 : T < a + m
      · have hR := Aside0.mk (KRb.out (Or.inr (Or.inr (by omega))))
        go_wp2
        go_ret2
        exact ⟨.slice none 0 0, by rw [hR.out] <;> rfl, by rw [hR.out]; exact Row.OwnB.nil _ _, KB.out⟩
      have KR0 := Aside0.mk (KRg.out (by omega))
      by_cases b5 : m = 0
      · subst b5
        have KR6 : Aside0 (R = ([], 0)) := ⟨by rw [KR0.out]; exact sl_zero im l _⟩
        go_wp2
        go_ret2
        exact ⟨.slice none 0 0, by rw [KR6.out] <;> rfl, by rw [KR6.out]; exact Row.OwnB.nil _ _, KB.out⟩
      have KR : Aside0 (pre [] (sl im (l.drop 0) (a - 0) (a + m - max a 0)) = R) := ⟨by
        rw [KR0.out, Int.toNat_natCast, Int.toNat_natCast, List.drop_zero, show a + m - max a 0 = m by omega, Nat.sub_zero]
        unfold pre
        split
        · rename_i h; rw [List.nil_append]; exact Prod.ext rfl h.symm
        · rename_i h; exact (sl_err im l a m h).symm⟩
      have ha6 : a ≤ 503316480 := by omega
      have hm6 : m ≤ 503316480 := by omega
      have hm0 : 0 < m := by omega
      clear ha9 hm9 KRb KRg KR0
      go_wp2
      clear b1 b2 b3 b4 b5 hlt hk hT5
      go_loopw [12, 13, 14] (fun v12 v13 v14 wr => ∃ (k F t : Nat) (A1 : Option Addr) (c1 : Nat) (d : List Int), k ≤ nl ∧ F ≤ 16777216 * k ∧ t ≤ a + m ∧ v12 = .slice A1 t c1 ∧ v13 = .int .i64 F ∧ v14 = .int .i64 k ∧ Aside0 (t = d.length) ∧ Aside0 (t ≤ max a F - a) ∧ Aside0 (Row.OwnB wr w.heap.size (.slice A1 t c1) d) ∧ Aside0 (Below w.heap.size w wr) ∧ Aside0 (pre d (sl im (l.drop k) (a - F) (a + m - max a F)) = R)) (fun _ _ i _ => nl - (intOf i).toNat)
      case atStart => exact ⟨0, 0, 0, none, 0, [], Nat.zero_le _, Nat.zero_le _, Nat.zero_le _, rfl, rfl, rfl, ⟨rfl⟩, ⟨Nat.zero_le _⟩, ⟨Row.OwnB.nil _ _⟩, KB, KR⟩
      case round =>
        clear KB KR
        obtain ⟨k, F, t, A1, c1, d, hk, hF, ht, rfl, rfl, rfl, Kd_, Kt, KO, KB, KP⟩ := hrel
        by_cases hlt : k < nl
        · obtain ⟨ad, c, r, hd1, hd2, hmem, rfl, x0, x1, x2, x3, x4⟩ := at_C (KCl.out wr KB.out) k hlt
          have KPc := Aside0.mk (KPL.out wr c)
          obtain ⟨p, hp⟩ : ∃ p, p = pl c := ⟨_, rfl⟩
          have hp1 := (Kp.out c hmem).1
          have hp2 : p ≤ 16777216 := by rw [hp]; unfold pl; omega
          have hf0 := (Kp.out c hmem).2
          rw [← hp] at KPc
          have KPp := KP.out
          rw [hd1] at KPp
          have Kskip : Aside0 (p ≤ a - F ∨ a + m ≤ F → pre d (sl im (l.drop (k + 1)) (a - (F + p)) (a + m - max a (F + p))) = R) := ⟨fun h => by
            rw [← KPp, hd2]
            by_cases h1 : p ≤ a - F
            · rw [sl_skip (by rw [← hp]; exact h1), ← hp, show a - F - p = a - (F + p) by omega]
              by_cases h0 : p = 0
              · rw [h0, Nat.add_zero]
              · rw [show max a (F + p) = max a F by omega]
            · have h2 : a + m ≤ F := by omega
              rw [show a + m - max a F = 0 by omega, show a + m - max a (F + p) = 0 by omega, sl_zero, sl_zero]⟩
          have Klen : Aside0 ((chunk im c).2 = 0 → (chunk im c).1.length = p) := ⟨fun h => by have := (chunk_len h).1; rw [hp]; unfold pl; omega⟩
          have KPb : Aside0 (¬ p ≤ a - F → F < a + m → (chunk im c).2 ≠ 0 → R = ([], (chunk im c).2)) := ⟨fun g1 g2 h => by rw [← KPp, sl_bad (by omega) (by rw [← hp]; exact g1) h]⟩
          have KPn : Aside0 (¬ p ≤ a - F → F < a + m → (chunk im c).2 = 0 → pre (d ++ ((chunk im c).1.drop (a - F)).take (a + m - max a F)) (sl im (l.drop (k + 1)) (a - (F + p)) (a + m - max a (F + p))) = R) := ⟨fun g1 g2 h => by
            have hq := Klen.out h
            rw [← KPp, hd2, sl_good (by omega) (by rw [← hp]; exact g1) h, List.length_take, List.length_drop, hq, show a - (F + p) = 0 by omega, show a + m - max a F - min (a + m - max a F) (p - (a - F)) = a + m - max a (F + p) by omega]⟩
          have KXc : Aside0 (∀ w1, Below w.heap.size w w1 → _) := ⟨fun w1 hb => KX.out w1 c hb hf0⟩
          generalize chunk im c = Y at KXc Klen KPb KPn
          obtain ⟨U, ue⟩ := Y
          simp only at KXc Klen KPb KPn
          have Kdr := Aside0.mk hd1
          clear hd1 hd2 hmem hp KPp hf0
          go_wp2_with (go_at_call 54; apply Aside0.out)
          refine ⟨?_⟩
          refine KPc.out.mono ?_
          rintro e w2 ⟨rfl, hB2⟩
          have KB2 := Aside0.mk (below_then KB.out KB.out.size hB2)
          have KO2 := Aside0.mk (KO.out.below hB2)
          obtain ⟨ad2, c2', r2', hd3, hd4, hmem2, had, y0, y1, y2, y3, y4⟩ := at_C (KCl.out w2 KB2.out) k hlt
          have hcc : c2' = c := by have h := Kdr.out; rw [hd3] at h; injection h
          subst hcc
          injection had with had
          subst had
          clear hd3 hd4 hmem2
          clear hB2 x0 x1 x2 x3 x4
          by_cases g : p ≤ a - F ∨ a + m ≤ F
          · have KP2 := Aside0.mk (Kskip.out g)
            have Kt2 : Aside0 (t ≤ max a (F + p) - a) := ⟨by have := Kt.out; omega⟩
            clear y0 y1 y2 y3 y4
            by_cases g1 : p = 0
            · subst g1
              go_wp2
              go_roundw
              case rel => exact ⟨k + 1, F + 0, t, A1, c1, d, by omega, by omega, ht, rfl, by go_num, by go_num, Kd_, Kt2, KO2, KB2, KP2⟩
              case measure => simp [intOf]; omega
            by_cases g2 : F + p ≤ a
            · go_wp2
              go_roundw
              case rel => exact ⟨k + 1, F + p, t, A1, c1, d, by omega, by omega, ht, rfl, by go_num, by go_num, Kd_, Kt2, KO2, KB2, KP2⟩
              case measure => simp [intOf]; omega
            have g3 : a + m ≤ F := by omega
            go_wp2
            go_roundw
            case rel => exact ⟨k + 1, F + p, t, A1, c1, d, by omega, by omega, ht, rfl, by go_num, by go_num, Kd_, Kt2, KO2, KB2, KP2⟩
            case measure => simp [intOf]; omega
          have g1 : 0 < p := by omega
          have g2 : a < F + p := by omega
          have g3 : F < a + m := by omega
          have KPb2 := Aside0.mk (KPb.out (by omega) g3)
          have KPn2 := Aside0.mk (KPn.out (by omega) g3)
          clear KPb KPn Kskip g
          go_wp2_with (go_at_call 38; apply Aside0.out)
          refine ⟨?_⟩
          refine (KXc.out w2 KB2.out).mono ?_
          rintro e w3 ⟨A3, c3, rfl, hC3, hB3⟩
          have KB3 := Aside0.mk (below_then KB2.out KB2.out.size hB3)
          have KO3 := Aside0.mk (KO2.out.below hB3)
          have KC3 : Aside0 (∀ W, Below w.heap.size w W → (∀ k, w2.heap.size ≤ k → k < w3.heap.size → W.heap[k]? = w3.heap[k]?) → Kd.C (Kd.int .u8) W A3 U.length U) := ⟨hC3⟩
          have Kst0 : Aside0 ((∀ k, w2.heap.size ≤ k → k < w3.heap.size → w3.heap[k]? = w3.heap[k]?) ∧ w3.heap.size ≤ w3.heap.size ∧ ∀ b, (Value.slice A1 t c1).ownBlock = some b → b < w2.heap.size ∨ w3.heap.size ≤ b) := ⟨fun _ _ _ => rfl, Nat.le_refl _, fun b hb => Or.inl (own_lt KO2.out b hb).2⟩
          clear hC3 hB3 y0 y1 y2 y3 y4
          by_cases hu : ue = 0
          · subst hu
            have hlen : U.length = p := Klen.out rfl
            have KPn3 := Aside0.mk (KPn2.out rfl)
            rw [hlen] at KC3 ⊢
            have Kul := Aside0.mk hlen
            clear hlen KPn2 KPb2
            go_wp2
            go_loopw [12, 18] (fun v12 v18 wr => ∃ (j s : Nat) (A4 : Option Addr) (c4 : Nat), j ≤ p ∧ s ≤ a + m ∧ v12 = .slice A4 s c4 ∧ v18 = .int .i64 j ∧ Aside0 (s = t + (mid U (a - F) (a + m - max a F) j).length) ∧ Aside0 (Row.OwnB wr w.heap.size (.slice A4 s c4) (d ++ mid U (a - F) (a + m - max a F) j)) ∧ Aside0 (Below w.heap.size w wr) ∧ Aside0 ((∀ k, w2.heap.size ≤ k → k < w3.heap.size → wr.heap[k]? = w3.heap[k]?) ∧ w3.heap.size ≤ wr.heap.size ∧ ∀ b, (Value.slice A4 s c4).ownBlock = some b → b < w2.heap.size ∨ w3.heap.size ≤ b)) (fun _ i _ => p - (intOf i).toNat)
            case atStart => exact ⟨0, t, A1, c1, Nat.zero_le _, ht, rfl, rfl, ⟨by rw [mid_zero]; rfl⟩, ⟨by rw [mid_zero, List.append_nil]; exact KO3.out⟩, KB3, ⟨fun _ _ _ => rfl, Nat.le_refl _, Kst0.out.2.2⟩⟩
            case round =>
              obtain ⟨j, s, A4, c4, hj, hs, rfl, rfl, Ks, KOz, KBz, KB3z⟩ := hrel
              by_cases hjp : j < p
              · have hnx := Aside0.mk (mid_next (U := U) (A := a - F) (N := a + m - max a F) (j := j) (by rw [Kul.out]; exact hjp))
                by_cases q1 : a ≤ F + j
                · by_cases q2 : F + j < a + m
                  · obtain ⟨bd, rfl, hcel⟩ := Kd.at_int (KC3.out wr KBz.out KB3z.out.1) (j : Int) (by omega) (by omega)
                    rw [Int.toNat_natCast] at hcel
                    obtain ⟨y, hy⟩ : ∃ y, y = rd U (j : Int) := ⟨_, rfl⟩
                    rw [← hy] at hcel hnx
                    have hn1 := hnx.out
                    rw [if_pos ⟨by omega, by omega⟩] at hn1
                    have Kn1 := Aside0.mk hn1
                    have hs1 : Aside0 (s + 1 ≤ a + m) := ⟨by
                      have h1 := mid_len U (a - F) (a + m - max a F) (j + 1)
                      rw [hn1, List.length_append, List.length_singleton] at h1
                      have := Ks.out; have := Kt.out; omega⟩
                    clear hn1 hy
                    go_wp2_with ((with_reducible refine gate_builtin (b := .append) (xs := #[.tmp 112, .tmp 117]) rfl ?_); apply Aside0.out)
                    refine ⟨?_⟩
                    have hb0 := below_alloc (Below.refl wr.heap.size wr) (.cells #[.int .u8 y] 5)
                    refine Row.app_rows (w0 := w) w.heap.size rfl (.tmp 112) (.tmp 117) rfl (.slice A4 s c4) (d ++ mid U (a - F) (a + m - max a F) j) [y] _ 1 1 rfl rfl (KOz.out.below hb0) ((Row.OwnB.lit wr wr.heap.size #[.int .u8 y] [y] rfl (Nat.le_refl _) (by simp)).reads.2.2) (below_then KBz.out KBz.out.size hb0) (below_then KBz.out KBz.out.size hb0).size (by rw [List.length_append, ← Kd_.out, ← Ks.out]; omega) ?_
                    intro zs A5 c5 w5 e1 e2 e3 h4 h5 e4 hb4 e5 hg4 e7
                    have hzl : zs.length = s + 1 := by rw [e3.out, List.length_append, ← Kd_.out, ← Ks.out]
                    have KO5 := e2
                    rw [e1.out, List.append_assoc, ← Kn1.out] at KO5
                    rw [hzl] at h5 ⊢
                    have KO6 : Aside0 (Row.OwnB w5 w.heap.size (.slice A5 (s + 1) c5) (d ++ mid U (a - F) (a + m - max a F) (j + 1))) := ⟨by
                      have h := KO5.out
                      rwa [show (d ++ mid U (a - F) (a + m - max a F) (j + 1)).length = s + 1 by rw [← hzl, e1.out, Kn1.out, List.append_assoc]] at h⟩
                    have KB5 := hb4
                    have hsz : wr.heap.size ≤ (wr.alloc (.cells #[.int .u8 y] 5)).heap.size := hb0.size
                    have KB35 : Aside0 ((∀ k, w2.heap.size ≤ k → k < w3.heap.size → w5.heap[k]? = w3.heap[k]?) ∧ w3.heap.size ≤ w5.heap.size ∧ ∀ b, (Value.slice A5 (s + 1) c5).ownBlock = some b → b < w2.heap.size ∨ w3.heap.size ≤ b) := by
                      obtain ⟨i1, i2, i3⟩ := KB3z.out
                      refine ⟨fun k h1 h2 => ?_, Nat.le_trans i2 (Nat.le_trans hsz hg4.out.size), fun b hb => ?_⟩
                      · rw [hg4.out.block k (by omega) (fun e => by have := i3 k e.symm; omega), hb0.block k (by omega)]
                        exact i1 k h1 h2
                      · rcases e7.out with e | ⟨b', e, hb'⟩
                        · rw [hzl] at e
                          exact i3 b (e ▸ hb)
                        · rw [hzl] at e
                          rw [hb] at e
                          injection e with e
                          subst e
                          exact Or.inr (by omega)
                    have Ks5 : Aside0 (s + 1 = t + (mid U (a - F) (a + m - max a F) (j + 1)).length) := ⟨by rw [Kn1.out, List.length_append, List.length_singleton, Ks.out]; omega⟩
                    have hs2 := hs1.out
                    clear e1 e2 e3 h4 h5 e4 hb4 e5 hg4 e7 hzl KO5 hb0 hsz
                    go_wp2
                    go_roundw
                    case rel => exact ⟨j + 1, s + 1, A5, c5, by omega, hs2, rfl, by go_num, Ks5, KO6, KB5, KB35⟩
                    case measure => simp [intOf]; omega
                  · have hn1 := hnx.out
                    rw [if_neg (by omega), List.append_nil] at hn1
                    have Kn1 := Aside0.mk hn1
                    clear hn1
                    go_wp2
                    go_roundw
                    case rel => exact ⟨j + 1, s, A4, c4, by omega, hs, rfl, by go_num, ⟨by rw [Kn1.out]; exact Ks.out⟩, ⟨by rw [Kn1.out]; exact KOz.out⟩, KBz, KB3z⟩
                    case measure => simp [intOf]; omega
                · have hn1 := hnx.out
                  rw [if_neg (by omega), List.append_nil] at hn1
                  have Kn1 := Aside0.mk hn1
                  clear hn1
                  go_wp2
                  go_roundw
                  case rel => exact ⟨j + 1, s, A4, c4, by omega, hs, rfl, by go_num, ⟨by rw [Kn1.out]; exact Ks.out⟩, ⟨by rw [Kn1.out]; exact KOz.out⟩, KBz, KB3z⟩
                  case measure => simp [intOf]; omega
              · have hm9 := Aside0.mk (mid_all (U := U) (A := a - F) (N := a + m - max a F) (j := j) (by rw [Kul.out]; omega))
                have KP4 : Aside0 (pre (d ++ mid U (a - F) (a + m - max a F) j) (sl im (l.drop (k + 1)) (a - (F + p)) (a + m - max a (F + p))) = R) := ⟨by rw [hm9.out]; exact KPn3.out⟩
                have Ks4 : Aside0 (s = (d ++ mid U (a - F) (a + m - max a F) j).length) := ⟨by rw [List.length_append, ← Kd_.out]; exact Ks.out⟩
                have Kt4 : Aside0 (s ≤ max a (F + p) - a) := ⟨by
                  have h1 : (mid U (a - F) (a + m - max a F) j).length ≤ p - (a - F) := by
                    rw [hm9.out, List.length_take, List.length_drop, Kul.out]; omega
                  have := Ks.out; have := Kt.out; omega⟩
                go_wp2
                go_roundw
                case rel => exact ⟨k + 1, F + p, s, A4, c4, _, by omega, by omega, hs, rfl, by go_num, by go_num, Ks4, Kt4, KOz, KBz, KP4⟩
                case measure => simp [intOf]; omega
          · have hne : (ue != 0) = true := by simp [hu]
            have KR6 := Aside0.mk (KPb2.out hu)
            clear hu
            go_wp2
            go_ret2
            exact ⟨.slice none 0 0, by rw [KR6.out] <;> rfl, by rw [KR6.out]; exact Row.OwnB.nil _ _, KB3.out⟩
        · obtain rfl : k = nl := by omega
          have KR6 : Aside0 (R = (d, 0)) := ⟨by rw [← KP.out, List.drop_eq_nil_of_le (by rw [Kn.out]; exact Nat.le_refl _)]; exact pre_nil⟩
          go_wp2
          go_ret2
          exact ⟨.slice A1 t c1, by rw [KR6.out] <;> rfl, by rw [KR6.out]; exact KO.out, KB.out⟩
end Go.Proofs.Ytpdggoapjbjmhaa.Me
