/- Streams in chunks: a part of what chunks tell: the program's walk. -/
import Derived.Test.YtpdggoapjbjmhaaMe8
set_option linter.unusedVariables false
set_option linter.unusedSimpArgs false
namespace Go.Proofs.Ytpdggoapjbjmhaa.Me
open Go.RowKit Go.Proofs.Ytpdggoapjbjmhaa.Fd Go.Proofs.Ytpdggoapjbjmhaa.Bg Go.Proofs.Ytpdggoapjbjmhaa.Lz Go.Proofs.Ytpdggoapjbjmhaa.Ma Go.Proofs.Ytpdggoapjbjmhaa.Bk Go.Proofs.YtpdggoapjbjmhaaW.PrintWords Go.Proofs.YtpdggoapjbjmhaaW.PrintLast Go.Proofs.YtpdggoapjbjmhaaW.PrintMore
attribute [local go_sem] max2_int min2_int max_two min_two
/-- How many bytes a chunk is said to tell. -/
def pl (c : Ck) : Nat := c.f1.toNat
def psm : List Ck → Nat
  | [] => 0
  | c :: l => pl c + psm l
/-- What chunks tell from a place on, so many. -/
def sl (im : List Int) : List Ck → Nat → Nat → List Int × Int
  | [], _, _ => ([], 0)
  | c :: l, a, n => if n = 0 then ([], 0) else if pl c ≤ a then sl im l (a - pl c) n else if (chunk im c).2 ≠ 0 then ([], (chunk im c).2) else pre (((chunk im c).1.drop a).take n) (sl im l 0 (n - (((chunk im c).1.drop a).take n).length))
def slice (im : List Int) (l : List Ck) (a n : Int) : List Int × Int := if a < 0 ∨ n < 0 ∨ (psm l : Int) < a + n then ([], 9) else sl im l a.toNat n.toNat
theorem sl_zero (im : List Int) : ∀ (l : List Ck) (a : Nat), sl im l a 0 = ([], 0)
  | [], _ => rfl
  | _ :: _, _ => by rw [sl, if_pos rfl]
theorem sl_skip {im c l a n} (h : pl c ≤ a) : sl im (c :: l) a n = sl im l (a - pl c) n := by
  by_cases h0 : n = 0
  · subst h0; rw [sl_zero, sl_zero]
  · rw [sl, if_neg h0, if_pos h]
theorem sl_bad {im d c l a n} (h0 : n ≠ 0) (h : ¬ pl c ≤ a) (he : (chunk im c).2 ≠ 0) : pre d (sl im (c :: l) a n) = ([], (chunk im c).2) := by
  rw [sl, if_neg h0, if_neg h, if_pos he]
  unfold pre
  rw [if_neg he]
theorem pre_pre (d p : List Int) (r : List Int × Int) : pre d (pre p r) = pre (d ++ p) r := by
  unfold pre
  by_cases h : r.2 = 0
  · rw [if_pos h, if_pos h, if_pos rfl, List.append_assoc]
  · rw [if_neg h, if_neg h, if_neg h]
theorem sl_good {im d c l a n} (h0 : n ≠ 0) (h : ¬ pl c ≤ a) (he : (chunk im c).2 = 0) : pre d (sl im (c :: l) a n) = pre (d ++ ((chunk im c).1.drop a).take n) (sl im l 0 (n - (((chunk im c).1.drop a).take n).length)) := by
  rw [sl, if_neg h0, if_neg h, if_neg (by simp [he]), pre_pre]
theorem sl_err (im : List Int) : ∀ (l : List Ck) (a n : Nat), (sl im l a n).2 ≠ 0 → sl im l a n = ([], (sl im l a n).2)
  | [], _, _, h => absurd rfl h
  | c :: l, a, n, h => by
    rw [sl] at h ⊢
    by_cases c1 : n = 0
    · rw [if_pos c1] at h; exact absurd rfl h
    rw [if_neg c1] at h ⊢
    by_cases c2 : pl c ≤ a
    · rw [if_pos c2] at h ⊢; exact sl_err im l _ _ h
    rw [if_neg c2] at h ⊢
    by_cases c3 : (chunk im c).2 ≠ 0
    · rw [if_pos c3]
    rw [if_neg c3] at h ⊢
    unfold pre at h ⊢
    split
    · rename_i h5; rw [if_pos h5] at h; exact absurd rfl h
    · rfl
theorem psm_take (l : List Ck) (k : Nat) (c : Ck) (r : List Ck) (h : l.drop k = c :: r) : psm (l.take (k + 1)) = psm (l.take k) + pl c := by
  induction l generalizing k with
  | nil => simp at h
  | cons a l ih =>
    cases k with
    | zero =>
      rw [List.drop_zero] at h
      injection h with h1 h2
      subst h1
      rw [List.take_succ_cons, List.take_zero, List.take_zero, psm, psm, psm]
      omega
    | succ k =>
      rw [List.drop_succ_cons] at h
      have := ih k h
      rw [List.take_succ_cons, List.take_succ_cons, psm, psm]
      omega
theorem psm_le (l : List Ck) (k : Nat) (h : ∀ c ∈ l, c.f1 ≤ 16777216) : psm (l.take k) ≤ 16777216 * k := by
  induction l generalizing k with
  | nil => rw [List.take_nil]; exact Nat.zero_le _
  | cons a l ih =>
    cases k with
    | zero => exact Nat.zero_le _
    | succ k =>
      have h1 := ih k fun c hc => h c (List.mem_cons_of_mem _ hc)
      have h2 := h a (List.mem_cons_self ..)
      rw [List.take_succ_cons, psm]
      unfold pl
      omega
theorem OwnB_nb {w w1 : World} {b : Nat} {v : Value} {l : List Int} (h : Row.OwnB w b v l) (hb : Below w.heap.size w w1) : Row.OwnB w1 b v l := h.below hb
set_option maxHeartbeats 2000000 in
set_option maxRecDepth 100000 in
theorem slice_go (w : World) (im : List Int) (A Al : Option Addr) (cc cl : Nat) (l : List Ck) (at_ n : Int) (hC : Kd.C (Kd.int .u8) w A im.length im) (hc : im.length ≤ cc) (him : isB im) (hl : im.length ≤ 1000000) (hCl : Kd.C kC w Al l.length l) (hp : ∀ c ∈ l, c.f1 ≤ 16777216 ∧ c.f0 ≤ 9223372036854775807) (hn : l.length ≤ 30) (z : Bool) (hz0 : z = decide (at_ < 0 ∨ n < 0 ∨ (psm l : Int) < at_ + n)) (hi : -9223372036854775808 ≤ at_ ∧ at_ ≤ 9223372036854775807 ∧ -9223372036854775808 ≤ n ∧ n ≤ 9223372036854775807) :
    Calls Try.prog 33 #[.slice A im.length cc, .slice Al l.length cl, .int .i64 at_, .int .i64 n] w fun e w' => ∃ v, e = .returned (.tuple #[v, .int .i64 (slice im l at_ n).2]) ∧ Row.OwnB w' w.heap.size v (slice im l at_ n).1 ∧ Below w.heap.size w w' := by
  have KX : Aside0 (∀ (w1 : World) (c : Ck), Below w.heap.size w w1 → c.f0 ≤ 9223372036854775807 → Calls Try.prog 37 #[.slice A im.length cc, .agg #[.int .i64 c.f0, .int .i64 c.f1, .int .i64 c.f2, .bool c.f3, .int .u32 c.f4]] w1 fun e w' => ∃ v, e = .returned (.tuple #[v, .int .i64 (chunk im c).2]) ∧ Row.OwnB w' w1.heap.size v (chunk im c).1 ∧ Below w1.heap.size w1 w') := ⟨fun w1 c hb hg => chunk_any w1 im A cc c (Kd.C_below hC hb) hc him hl hg⟩
  have KCl : Aside0 (∀ w', Below w.heap.size w w' → Kd.C kC w' Al l.length l) := ⟨fun w' hb => Kd.C_below hCl hb⟩
  have Kp := Aside0.mk hp
  have KT : Aside0 (∀ k, psm (l.take k) ≤ 16777216 * k) := ⟨fun k => psm_le l k fun c hc => (hp c hc).1⟩
  have KS : Aside0 (slice im l at_ n = if at_ < 0 ∨ n < 0 ∨ (psm l : Int) < at_ + n then ([], 9) else sl im l at_.toNat n.toNat) := ⟨rfl⟩
  generalize slice im l at_ n = R at KS ⊢
  obtain ⟨L, hL⟩ : ∃ L, L = im.length := ⟨_, rfl⟩
  obtain ⟨nl, hnl⟩ : ∃ n, n = l.length := ⟨_, rfl⟩
  rw [← hL] at KX ⊢
  rw [← hnl] at KCl hn ⊢
  have Kn := Aside0.mk hnl
  have Kz := Aside0.mk hz0
  have Ki := Aside0.mk hi
  clear hC hc him hl hL hnl hCl hp hz0 hi
  go_enter Try.func33, Try.ntmps33
  go_wp2
  go_loopw [10, 21] (fun v10 v21 wr => ∃ (k T : Nat), k ≤ nl ∧ T ≤ 16777216 * k ∧ v10 = .int .i64 T ∧ v21 = .int .i64 k ∧ Aside0 (T = psm (l.take k)) ∧ Aside0 (Below w.heap.size w wr)) (fun _ i _ => nl - (intOf i).toNat)
  case atStart => exact ⟨0, 0, Nat.zero_le _, Nat.zero_le _, rfl, rfl, ⟨rfl⟩, ⟨Below.refl _ _⟩⟩
  case round =>
    obtain ⟨k, T, hk, hT, rfl, rfl, KT1, KB⟩ := hrel
    by_cases hlt : k < nl
    · obtain ⟨ad, c, r, hd1, hd2, hmem, rfl, x0, x1, x2, x3, x4⟩ := at_C (KCl.out wr KB.out) k hlt
      have Kbox : Aside0 (Below w.heap.size w (wr.alloc (.cells #[.int .i64 c.f0, .int .i64 c.f1, .int .i64 c.f2, .bool c.f3, .int .u32 c.f4] 62))) := ⟨below_alloc KB.out _⟩
      obtain ⟨p, hp⟩ : ∃ p, p = pl c := ⟨_, rfl⟩
      have hp1 := (Kp.out c hmem).1
      have hmx : (if c.f1 < 0 then (0 : Int) else c.f1) = (p : Int) := by rw [hp]; unfold pl; split <;> omega
      have hp2 : p ≤ 16777216 := by rw [hp]; unfold pl; omega
      have hmn : (if (1099511627776 : Int) < (p : Int) then (1099511627776 : Int) else (p : Int)) = (p : Int) := if_neg (by omega)
      have hmn2 : (if (1152921504606846976 : Int) < (T : Int) + (p : Int) then (1152921504606846976 : Int) else (T : Int) + (p : Int)) = ((T + p : Nat) : Int) := by rw [if_neg (by omega)]; norm_cast
      have KT2 : Aside0 (T + p = psm (l.take (k + 1))) := ⟨by rw [psm_take l k c r hd1, ← KT1.out, hp]⟩
      clear hd1 hd2 hmem hp
      go_wp2
      go_roundw
      case rel => exact ⟨k + 1, T + p, by omega, by omega, by go_num, by go_num, KT2, Kbox⟩
      case measure => simp [intOf]; omega
    · have hkn : k = nl := by omega
      have hTl : T = psm l := by rw [KT1.out, List.take_of_length_le (by rw [hkn, Kn.out]; exact Nat.le_refl _)]
      have KRb : Aside0 ((at_ < 0 ∨ n < 0 ∨ (T : Int) < at_ + n) → R = ([], 9)) := ⟨fun h => by rw [KS.out, if_pos (by rw [← hTl]; exact h)]⟩
      have KRg : Aside0 (¬ (at_ < 0 ∨ n < 0 ∨ (T : Int) < at_ + n) → R = sl im l at_.toNat n.toNat) := ⟨fun h => by rw [KS.out, if_neg (by rw [← hTl]; exact h)]⟩
      have hT5 : T ≤ 503316480 := by omega
      have KT5 := Aside0.mk hT5
      clear hTl hkn hT KT1
      by_cases b1 : at_ < 0
      · have hR := Aside0.mk (KRb.out (Or.inl b1))
        have f1 : decide (at_ < 0) = true := decide_eq_true b1
        clear b1
        go_wp2
        go_ret2
        exact ⟨.slice none 0 0, by rw [hR.out] <;> rfl, by rw [hR.out]; exact Row.OwnB.nil _ _, KB.out⟩
      by_cases b2 : n < 0
      · have hR := Aside0.mk (KRb.out (Or.inr (Or.inl b2)))
        have f1 : decide (at_ < 0) = false := decide_eq_false b1
        have f2 : decide (n < 0) = true := decide_eq_true b2
        clear b1 b2
        go_wp2
        go_ret2
        exact ⟨.slice none 0 0, by rw [hR.out] <;> rfl, by rw [hR.out]; exact Row.OwnB.nil _ _, KB.out⟩
      obtain ⟨a, rfl⟩ := Int.eq_ofNat_of_zero_le (a := at_) (by omega)
      obtain ⟨m, rfl⟩ := Int.eq_ofNat_of_zero_le (a := n) (by omega)
      have ha9 : a ≤ 9223372036854775807 := by have := Ki.out; omega
      have hm9 : m ≤ 9223372036854775807 := by have := Ki.out; omega
      by_cases b3 : T < m
      · have hR := Aside0.mk (KRb.out (Or.inr (Or.inr (by omega))))
        go_wp2
        go_ret2
        exact ⟨.slice none 0 0, by rw [hR.out] <;> rfl, by rw [hR.out]; exact Row.OwnB.nil _ _, KB.out⟩
      by_cases b4 : T < a + m
      · have hR := Aside0.mk (KRb.out (Or.inr (Or.inr (by omega))))
        go_wp2
        go_ret2
        exact ⟨.slice none 0 0, by rw [hR.out] <;> rfl, by rw [hR.out]; exact Row.OwnB.nil _ _, KB.out⟩
      have KR : Aside0 (pre [] (sl im (l.drop 0) a m) = R) := ⟨by
        rw [KRg.out (by omega), Int.toNat_natCast, Int.toNat_natCast, List.drop_zero]
        unfold pre
        split
        · rename_i h; rw [List.nil_append]; exact Prod.ext rfl h.symm
        · rename_i h; exact (sl_err im l a m h).symm⟩
      have ha6 : a ≤ 503316480 := by omega
      have hm6 : m ≤ 503316480 := by omega
      clear ha9 hm9 KRb KRg KT5
      go_wp2
      clear b1 b2 b3 b4 hlt hk hT5
      go_loopw [2, 13, 53] (fun v2 v13 v53 wr => ∃ (k a t : Nat) (A1 : Option Addr) (c1 : Nat) (d : List Int), k ≤ nl ∧ a ≤ 503316480 ∧ t ≤ m ∧ v2 = .int .i64 a ∧ v13 = .slice A1 t c1 ∧ v53 = .int .i64 k ∧ Aside0 (t = d.length) ∧ Aside0 (Row.OwnB wr w.heap.size (.slice A1 t c1) d) ∧ Aside0 (Below w.heap.size w wr) ∧ Aside0 (pre d (sl im (l.drop k) a (m - t)) = R)) (fun _ _ i _ => nl - (intOf i).toNat)
      case atStart => exact ⟨0, a, 0, none, 0, [], Nat.zero_le _, ha6, Nat.zero_le _, rfl, rfl, rfl, ⟨rfl⟩, ⟨Row.OwnB.nil _ _⟩, KB, KR⟩
      case round =>
        clear KB KR ha6
        obtain ⟨k, a, t, A1, c1, d, hk, ha6, ht, rfl, rfl, rfl, Kd_, KO, KB, KP⟩ := hrel
        by_cases hlt : k < nl
        · obtain ⟨ad, c, r, hd1, hd2, hmem, rfl, x0, x1, x2, x3, x4⟩ := at_C (KCl.out wr KB.out) k hlt
          obtain ⟨p, hp⟩ : ∃ p, p = pl c := ⟨_, rfl⟩
          have hp1 := (Kp.out c hmem).1
          have hmx : (if c.f1 < 0 then (0 : Int) else c.f1) = (p : Int) := by rw [hp]; unfold pl; split <;> omega
          have hp2 : p ≤ 16777216 := by rw [hp]; unfold pl; omega
          have Kbox : Aside0 (Below wr.heap.size wr (wr.alloc (.cells #[.int .i64 c.f0, .int .i64 c.f1, .int .i64 c.f2, .bool c.f3, .int .u32 c.f4] 62))) := ⟨below_alloc (Below.refl _ _) _⟩
          have KPp := KP.out
          rw [hd1] at KPp
          by_cases hsk : p ≤ a
          · rw [sl_skip (by rw [← hp]; exact hsk), ← hp, ← hd2] at KPp
            have KP2 := Aside0.mk KPp
            have KB2 := Aside0.mk (below_then KB.out KB.out.size Kbox.out)
            have KO2 := Aside0.mk (KO.out.below Kbox.out)
            clear hd1 hd2 hmem hp KPp
            go_wp2
            go_roundw
            case rel => exact ⟨k + 1, a - p, t, A1, c1, d, by omega, by omega, ht, by go_num, rfl, by go_num, Kd_, KO2, KB2, KP2⟩
            case measure => simp [intOf]; omega
          by_cases hfull : t = m
          · subst hfull
            rw [Nat.sub_self, sl_zero, pre_nil] at KPp
            have KR6 : Aside0 (R = (d, 0)) := ⟨KPp.symm⟩
            have KB2 := Aside0.mk (below_then KB.out KB.out.size Kbox.out)
            have KO2 := Aside0.mk (KO.out.below Kbox.out)
            clear hd1 hd2 hmem hp KPp
            go_wp2
            go_ret2
            exact ⟨.slice A1 t c1, by rw [KR6.out] <;> rfl, by rw [KR6.out]; exact KO2.out, KB2.out⟩
          have hf0 := (Kp.out c hmem).2
          have KX1 := Aside0.mk (KX.out _ c (below_then KB.out KB.out.size Kbox.out) hf0)
          have Klen : Aside0 ((chunk im c).2 = 0 → (chunk im c).1.length = p) := ⟨fun h => by have := (chunk_len h).1; rw [hp]; unfold pl; omega⟩
          have KPb : Aside0 ((chunk im c).2 ≠ 0 → R = ([], (chunk im c).2)) := ⟨fun h => by rw [← KPp, sl_bad (by omega) (by rw [← hp]; exact hsk) h]⟩
          have KPn : Aside0 ((chunk im c).2 = 0 → pre (d ++ ((chunk im c).1.drop a).take (m - t)) (sl im (l.drop (k + 1)) 0 (m - t - (((chunk im c).1.drop a).take (m - t)).length)) = R) := ⟨fun h => by rw [← KPp, hd2, sl_good (by omega) (by rw [← hp]; exact hsk) h]⟩
          generalize chunk im c = Y at KX1 Klen KPb KPn
          obtain ⟨U, ue⟩ := Y
          simp only at KX1 Klen KPb KPn
          clear hd1 hd2 hmem hp KPp hf0
          go_wp2_with (go_at_call 37; apply Aside0.out)
          refine ⟨?_⟩
          refine KX1.out.mono ?_
          rintro e w3 ⟨v3, rfl, hO3, hB3⟩
          obtain ⟨A3, c3, rfl, hc3, hC3⟩ := hO3.slice
          have KB3 := Aside0.mk (below_then (below_then KB.out KB.out.size Kbox.out) (below_then KB.out KB.out.size Kbox.out).size hB3)
          have KO3 := Aside0.mk ((KO.out.below Kbox.out).below hB3)
          have KC3 := Aside0.mk hC3
          have Kc3 := Aside0.mk hc3
          clear hO3 hB3 hC3 hc3 x0 x1 x2 x3 x4
          by_cases hu : ue = 0
          · subst hu
            have hlen : U.length = p := Klen.out rfl
            have KPn2 := Aside0.mk (KPn.out rfl)
            obtain ⟨q, hq⟩ : ∃ q, q = min (m - t) (p - a) := ⟨_, rfl⟩
            obtain ⟨A8, c8, h81, h82, h83⟩ := cut_at A3 c3 U a q (by omega) Kc3.out
            have hql : ((U.drop a).take (m - t)).length = q := by rw [List.length_take, List.length_drop]; omega
            have hqe : (U.drop a).take q = (U.drop a).take (m - t) := by
              rw [List.take_eq_take_min, List.take_eq_take_min (i := m - t), List.length_drop, hlen]
              congr 1
              omega
            rw [hlen] at KC3 h82 h83 ⊢
            rw [hqe] at h83
            rw [hql] at KPn2
            have K83 := Aside0.mk h83
            have Kql := Aside0.mk hql
            have hmn : (if ((p : Int) - (a : Int)) < ((m : Int) - (t : Int)) then ((p : Int) - (a : Int)) else ((m : Int) - (t : Int))) = (q : Int) := by split <;> omega
            rw [show ((a + q : Nat) : Int) = (a : Int) + (q : Int) by norm_cast] at h82
            have hq5 : a + q ≤ p := by omega
            have Kq := Aside0.mk hq
            clear h83 hql hqe hlen KPn hq
            go_wp2_with ((with_reducible refine gate_builtin (b := .append) (xs := #[.tmp 79, .tmp 93]) rfl ?_); apply Aside0.out)
            refine ⟨?_⟩
            refine Row.app_rows (w0 := w) w.heap.size rfl (.tmp 79) (.tmp 93) rfl (.slice A1 t c1) d ((U.drop a).take (m - t)) A8 q c8 rfl rfl KO3.out (K83.out _ KC3.out) KB3.out KB3.out.size (by rw [← Kd_.out]; omega) ?_
            intro zs A4 c4 w4 e1 e2 e3 h4 h5 e4 hb4 e5 hg4 e7
            have hqm : t + q ≤ m := by have := Kq.out; omega
            have hzl : zs.length = t + q := by rw [e3.out, ← Kd_.out]
            have KO4 := e2
            rw [hzl] at KO4 ⊢
            have KB4 := hb4
            have Kz : Aside0 (t + q = zs.length) := ⟨hzl.symm⟩
            have KP4 : Aside0 (pre zs (sl im (l.drop (k + 1)) 0 (m - (t + q))) = R) := ⟨by rw [e1.out, ← KPn2.out, Nat.sub_sub]⟩
            clear e1 e2 e3 h4 h5 e4 hb4 e5 hg4 e7 hzl
            go_wp2
            go_roundw
            case rel => exact ⟨k + 1, 0, t + q, A4, c4, zs, by omega, by omega, by omega, by go_num, rfl, by go_num, Kz, KO4, KB4, KP4⟩
            case measure => simp [intOf]; omega
          · have hne : (ue != 0) = true := by simp [hu]
            have KR6 := Aside0.mk (KPb.out hu)
            clear hu
            go_wp2
            go_ret2
            exact ⟨.slice none 0 0, by rw [KR6.out] <;> rfl, by rw [KR6.out]; exact Row.OwnB.nil _ _, KB3.out⟩
        · obtain rfl : k = nl := by omega
          have KR6 : Aside0 (R = (d, 0)) := ⟨by rw [← KP.out, List.drop_eq_nil_of_le (by rw [Kn.out]; exact Nat.le_refl _)]; exact pre_nil⟩
          go_wp2
          go_ret2
          exact ⟨.slice A1 t c1, by rw [KR6.out] <;> rfl, by rw [KR6.out]; exact KO.out, KB.out⟩
end Go.Proofs.Ytpdggoapjbjmhaa.Me
