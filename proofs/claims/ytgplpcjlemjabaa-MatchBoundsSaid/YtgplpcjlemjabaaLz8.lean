/- Blocks are unpacked: the document's answer. -/
import Derived.Test.YtgplpcjlemjabaaLz7
set_option linter.unusedVariables false
set_option linter.unusedSimpArgs false
namespace Go.Proofs.Ytgplpcjlemjabaa.Lz
open Go.RowKit Go.Proofs.YtgplpcjlemjabaaW.PrintWords Go.Proofs.YtgplpcjlemjabaaW.PrintLast Go.Proofs.YtgplpcjlemjabaaW.PrintMore
/-- What stands at the head of the loop. -/
structure LR (w : World) (b : List Int) (most : Int) (wr : World) (u8 u9 : Value) (acc : List Sq) (n at_ f : Nat) : Prop where
  own : Row.OwnB wr w.heap.size u8 (outs [] acc)
  row : RowL w w.heap.size wr u9 acc
  below : Below w.heap.size w wr
  len : (outs [] acc).length = n
  tot : tot acc = n
  tot1 : (n : Int) ≤ most
  at0 : at_ ≤ b.length
  cnt : acc.length ≤ at_
  fuel : b.length - at_ < f
  eq : run b.length most (b.length + 1) 0 b = (acc ++ (run b.length most f n (b.drop at_)).1, (run b.length most f n (b.drop at_)).2)
/-- What the document's Decode answers. -/
def RP (w : World) (b : List Int) (most : Int) (e : Ending) (w' : World) : Prop :=
  ∃ v8 v9, e = .returned (.tuple #[v8, v9, .int .i64 (run b.length most (b.length + 1) 0 b).2.1, .int .i64 (if (run b.length most (b.length + 1) 0 b).2.1 = 0 then (b.length : Int) else (run b.length most (b.length + 1) 0 b).2.2)]) ∧ Below w.heap.size w w' ∧
    Row.OwnB w' w.heap.size v8 (if (run b.length most (b.length + 1) 0 b).2.1 = 0 then outs [] (run b.length most (b.length + 1) 0 b).1 else []) ∧ RowL w w.heap.size w' v9 (if (run b.length most (b.length + 1) 0 b).2.1 = 0 then (run b.length most (b.length + 1) 0 b).1 else [])
section
variable {w wr w' : World} {b : List Int} {most : Int} {u8 u9 : Value} {acc : List Sq} {n at_ f : Nat}
theorem LR_fail {er pp : Int} (h : LR w b most wr u8 u9 acc n at_ f) (hst : step b.length most n (b.drop at_) = .fail er pp) (hne : er ≠ 0) (hb : Below w.heap.size w w') : RP w b most (.returned (.tuple #[.slice none 0 0, .slice none 0 0, .int .i64 er, .int .i64 pp])) w' := by
  obtain ⟨f', rfl⟩ : ∃ f', f = f' + 1 := ⟨f - 1, by have := h.fuel; omega⟩
  have hrun : run b.length most (b.length + 1) 0 b = (acc, er, pp) := by
    have h0 := h.eq
    simp only [run, hst, List.append_nil] at h0
    simpa only [run] using h0
  unfold RP
  rw [hrun]
  simp only
  rw [if_neg hne, if_neg hne, if_neg hne]
  exact ⟨_, _, rfl, hb, Row.OwnB.nil _ _, RowL.nil _ _ _⟩
theorem LR_last {lit : List Int} {v8 v9 : Value} (h : LR w b most wr u8 u9 acc n at_ f) (hst : step b.length most n (b.drop at_) = .last lit) (ho : Row.OwnB w' w.heap.size v8 (outs [] acc ++ lit)) (hr : RowL w w.heap.size w' v9 (acc ++ [(lit, 0, 0)])) (hb : Below w.heap.size w w') : RP w b most (.returned (.tuple #[v8, v9, .int .i64 0, .int .i64 b.length])) w' := by
  obtain ⟨f', rfl⟩ : ∃ f', f = f' + 1 := ⟨f - 1, by have := h.fuel; omega⟩
  have hrun : run b.length most (b.length + 1) 0 b = (acc ++ [(lit, 0, 0)], 0, 0) := by
    have h0 := h.eq
    simp only [run, hst] at h0
    simpa only [run] using h0
  unfold RP
  rw [hrun]
  simp only
  rw [if_pos True.intro, if_pos True.intro, if_pos True.intro, outs_snoc]
  exact ⟨_, _, rfl, hb, ho, hr⟩
theorem LR_seq {lit rest : List Int} {off len : Nat} {at2 : Nat} {v8 v9 : Value} (h : LR w b most wr u8 u9 acc n at_ f) (hst : step b.length most n (b.drop at_) = .seq lit off len rest) (hrest : rest = b.drop at2) (hat2 : at2 ≤ b.length) (hlt : at_ < at2) (hm : (n : Int) + lit.length + len ≤ most)
    (ho : Row.OwnB w' w.heap.size v8 (cp (outs [] acc ++ lit) off len)) (hr : RowL w w.heap.size w' v9 (acc ++ [(lit, (off : Int), (len : Int))])) (hb : Below w.heap.size w w') : ∃ f', LR w b most w' v8 v9 (acc ++ [(lit, (off : Int), (len : Int))]) (n + lit.length + len) at2 f' := by
  obtain ⟨f', rfl⟩ : ∃ f', f = f' + 1 := ⟨f - 1, by have := h.fuel; omega⟩
  subst hrest
  have h1 := h.len
  have h2 := h.tot
  have h3 := h.fuel
  have h4 := h.cnt
  refine ⟨f', ?_, hr, hb, ?_, ?_, by omega, hat2, by simp; omega, by omega, ?_⟩
  · rw [outs_snoc]; exact ho
  · rw [outs_snoc, cp_length, List.length_append]; simp only [Int.toNat_natCast]; omega
  · rw [tot_snoc, h2]; simp only; omega
  · have h0 := h.eq
    rw [show run b.length most (f' + 1) n (b.drop at_) = ((lit, (off : Int), (len : Int)) :: (run b.length most f' (n + lit.length + len) (b.drop at2)).1, (run b.length most f' (n + lit.length + len) (b.drop at2)).2) by
      conv => lhs; unfold run
      rw [hst]] at h0
    rw [h0, List.append_assoc, List.singleton_append]
    simp only [Int.natCast_add]
end
theorem infoSeq : (Try.prog.info? 67).map (fun i => (i.zero, i.size, i.bytes)) = some (some (.agg #[.slice none 0 0, .int .i64 0, .int .i64 0]), 3, 40) := by kernel_rfl
theorem row_slice {w : World} {base e size n : Nat} {v : Value} {xs : List Value} (h : w.ownsRow base e size v n xs) : ∃ A c, v = .slice A n c := by
  obtain ⟨_, ⟨h1, h2⟩ | ⟨g, cap, cur, hv, _⟩⟩ := h
  · exact ⟨none, 0, by rw [h1, h2]⟩
  · exact ⟨_, _, hv⟩
theorem RowL_snoc {w0 w1 : World} {base nn cL : Nat} {v1 : Value} {acc : List Sq} {cells : List Value} {lit : List Int} {off len : Int} {A : Option Addr} (h : SC w0 base acc cells) (hl : lit.length = nn) (hC : ∀ w', Below base w0 w' → Kd.C (Kd.int .u8) w' A lit.length lit) (hc : nn ≤ cL) (hr : w1.ownsRow base 67 3 v1 (acc.length + 1) (cells ++ [.slice A nn cL, .int .i64 off, .int .i64 len])) : RowL w0 base w1 v1 (acc ++ [(lit, off, len)]) := by
  subst hl
  exact ⟨_, by simpa using hr, .snoc h hC hc⟩
theorem ref_off {x y : Int} {o : Nat} (hx : 0 ≤ x ∧ x < 256) (hy : 0 ≤ y ∧ y < 256) (h : (o : Int) = x + y * 256) : wrap64 (wrap64 x + wrap64 (256 * wrap64 y)) = (o : Int) := by
  rw [show wrap64 y = y by unfold wrap64; omega, show wrap64 x = x by unfold wrap64; omega, show wrap64 (256 * y) = 256 * y by unfold wrap64; omega]
  unfold wrap64
  omega
theorem reflen_none {w : World} {A : Option Addr} {c : Nat} {at_ : Nat} {b : List Int} (hC : Kd.C (Kd.int .u8) w A b.length b) (hb : isB b) (hN : b.length ≤ 4000000) (ha : at_ ≤ b.length) (n : Int) (hn0 : 0 ≤ n) (hn1 : n ≤ 15) (hL : lenH n (b.drop at_) = none) :
    Calls Try.prog 59 #[.slice A b.length c, .int .i64 n, .int .i64 at_] w fun e w' => e = .returned (.tuple #[.int .i64 (-1), .int .i64 b.length]) ∧ w = w' :=
  (reflen_any hC hb hN ha n hn0 hn1).mono fun e w' ⟨hw, h⟩ => by
    rcases h with ⟨_, he⟩ | ⟨m, at2, h, _⟩
    · exact ⟨he, hw.symm⟩
    · rw [hL] at h; cases h
theorem drop_inj {b : List Int} {i j : Nat} (hi : i ≤ b.length) (hj : j ≤ b.length) (h : b.drop i = b.drop j) : i = j := by
  have := congrArg List.length h
  simp only [List.length_drop] at this
  omega
theorem reflen_some {w : World} {A : Option Addr} {c : Nat} {at_ at2 : Nat} {m : Int} {b : List Int} (hC : Kd.C (Kd.int .u8) w A b.length b) (hb : isB b) (hN : b.length ≤ 4000000) (ha : at_ ≤ b.length) (n : Int) (hn0 : 0 ≤ n) (hn1 : n ≤ 15) (hL : lenH n (b.drop at_) = some (m, b.drop at2)) (h2 : at2 ≤ b.length) :
    Calls Try.prog 59 #[.slice A b.length c, .int .i64 n, .int .i64 at_] w fun e w' => e = .returned (.tuple #[.int .i64 m, .int .i64 at2]) ∧ w = w' :=
  (reflen_any hC hb hN ha n hn0 hn1).mono fun e w' ⟨hw, h⟩ => by
    rcases h with ⟨h, _⟩ | ⟨m', at3, h, _, h3, _, _, he⟩
    · rw [hL] at h; cases h
    · rw [hL] at h
      injection h with h
      injection h with e1 e2
      rw [he, e1, drop_inj h2 h3 e2]
      exact ⟨rfl, hw.symm⟩
theorem lenH_at {b : List Int} {k : Nat} {n m : Int} {r : List Int} (hb : isB b) (hN : b.length ≤ 1000000) (hk : k ≤ b.length) (hn : 0 ≤ n ∧ n ≤ 15) (h : lenH n (b.drop k) = some (m, r)) : ∃ (k2 nn : Nat), r = b.drop k2 ∧ k ≤ k2 ∧ k2 ≤ b.length ∧ m = (nn : Int) ∧ nn ≤ 300000000 := by
  obtain ⟨h1, h2, h3, j, rfl⟩ := lenH_spec (isB_drop hb k) hn.1 h
  simp only [List.drop_drop, List.length_drop] at h1 h3 ⊢
  by_cases hj : k + j ≤ b.length
  · exact ⟨k + j, m.toNat, rfl, by omega, hj, by omega, by omega⟩
  · exact ⟨b.length, m.toNat, by rw [List.drop_eq_nil_of_le (by omega), List.drop_length], hk, Nat.le_refl _, by omega, by omega⟩
/-- What stands at the head of the copy's loop. -/
def CI (w : World) (sb : Nat) (AL : Option Addr) (nn cL offn ln : Nat) (wr : World) (u8 u9 : Value) (ys : List Int) (acc : List Sq) : Prop :=
  Row.OwnB wr w.heap.size u8 ys ∧ RowL w w.heap.size wr u9 acc ∧ Below w.heap.size w wr ∧ wr.heap[sb]? = some (.cells #[.slice AL nn cL, .int .i64 offn, .int .i64 ln] 67 (0, 0)) ∧ u9.ownBlock ≠ some sb
theorem CI.next {w wr w5 : World} {sb : Nat} {AL : Option Addr} {nn cL offn ln : Nat} {u8 u9 v5 : Value} {ys zs : List Int} {acc : List Sq} (h : CI w sb AL nn cL offn ln wr u8 u9 ys acc) (h5 : Row.OwnB w5 w.heap.size v5 zs) (hb5 : Below w.heap.size w w5) (hg5 : wr.grownBy w5 u8.ownBlock) : CI w sb AL nn cL offn ln w5 v5 u9 zs acc :=
  ⟨h5, h.2.1.grown h.1 hg5, hb5, (hg5.block _ (blk_lt h.2.2.2.1) (fun e => box_ne h.1 h.2.2.2.1 e.symm)).trans h.2.2.2.1, h.2.2.2.2⟩
set_option maxHeartbeats 4000000 in
set_option maxRecDepth 100000 in
theorem refdec_any (w : World) (b : List Int) (A : Option Addr) (c : Nat) (most : Int) (hC : Kd.C (Kd.int .u8) w A b.length b) (hb : isB b) (hN : b.length ≤ 1000000) (hcap : b.length ≤ c) (hm0 : 0 ≤ most) (hm1 : most ≤ 1048576) :
    Calls Try.prog 36 #[.slice A b.length c, .int .i64 most] w (RP w b most) := by
  have KC0 := Aside0.mk hC
  have KC : Aside0 (∀ w', Below w.heap.size w w' → Kd.C (Kd.int .u8) w' A b.length b) := ⟨fun w' hB => Kd.C_below hC hB⟩
  have Kb := Aside0.mk hb
  clear hC hb
  go_enter Try.func36, Try.ntmps36
  go_wp2
  go_loopw [8, 9, 10] (fun u8 u9 i wr => ∃ (acc : List Sq) (n at_ f : Nat) (A8 A9 : Option Addr) (c8 c9 : Nat), i = .int .i64 at_ ∧ u8 = .slice A8 n c8 ∧ u9 = .slice A9 acc.length c9 ∧ Aside0 (LR w b most wr (.slice A8 n c8) (.slice A9 acc.length c9) acc n at_ f)) (fun _ _ i _ => b.length - (intOf i).toNat)
  case atStart => exact ⟨[], 0, 0, b.length + 1, none, none, 0, 0, rfl, rfl, rfl, ⟨⟨Row.OwnB.nil _ _, RowL.nil _ _ _, Below.refl _ _, rfl, rfl, hm0, Nat.zero_le _, Nat.le_refl _, by omega, by simp⟩⟩⟩
  case round =>
    obtain ⟨acc, n, at_, f, A8, A9, c8, c9, rfl, rfl, rfl, KL⟩ := hrel
    have hat := KL.out.at0
    have hn1 := KL.out.tot1
    obtain ⟨la, hla⟩ : ∃ la, la = acc.length := ⟨_, rfl⟩
    rw [← hla] at KL
    rw [← hla]
    have Kla := Aside0.mk hla
    clear hla
    by_cases hlt : at_ < b.length
    · have hCr := KC.out wr KL.out.below
      obtain ⟨ad, e, hx⟩ := Kd.at_int hCr (at_ : Int) (by omega) (by omega)
      subst e
      obtain ⟨x, hxx⟩ : ∃ x, x = b[at_] := ⟨_, rfl⟩
      rw [rd_at hlt, ← hxx, Int.toNat_natCast] at hx
      have hxb := Kb.out x (by rw [hxx]; exact List.getElem_mem hlt)
      have Kdr := Aside0.mk (show b.drop at_ = x :: b.drop (at_ + 1) by rw [hxx]; exact drop_cons hlt)
      have KCr := Aside0.mk hCr
      obtain ⟨tq, htq⟩ : ∃ tq, x / 16 = tq := ⟨_, rfl⟩
      have htd : x.tdiv 16 = tq := by rw [Int.tdiv_eq_ediv_of_nonneg hxb.1]; exact htq
      have htq1 : 0 ≤ tq ∧ tq ≤ 15 := by omega
      have Ktq := Aside0.mk htq
      have Kxb := Aside0.mk hxb
      obtain ⟨tq0, tq1⟩ := htq1
      obtain ⟨x0, x1⟩ := hxb
      clear hCr hxx htq
      cases hL : lenH tq (b.drop (at_ + 1)) with
      | none =>
        have Kst : Aside0 (step b.length most n (b.drop at_) = .fail 6 b.length) := ⟨by rw [Kdr.out]; simp only [step, Ktq.out, hL]⟩
        have KL1 := Aside0.mk (reflen_none (c := c) KCr.out Kb.out (by omega) (by omega) tq tq0 tq1 hL)
        clear hL
        go_wp2_with (go_at_call 59; refine KL1.out.mono ?_; rintro e w' ⟨rfl, rfl⟩)
        refine bodyPost_ret (results_list (rs := [.tmp 4, .tmp 5, .tmp 6, .tmp 7]) rfl (by simp) (.tmp (.tmp (.tmp (.tmp .nil))))) rfl ?_
        exact LR_fail KL.out Kst.out (by decide) KL.out.below
      | some p =>
        obtain ⟨m, r1⟩ := p
        obtain ⟨k2, nn, rfl, hk, hk2, rfl, hnn⟩ := lenH_at Kb.out hN (by omega : at_ + 1 ≤ b.length) ⟨tq0, tq1⟩ hL
        have KL1 := Aside0.mk (reflen_some (c := c) KCr.out Kb.out (by omega) (by omega) tq tq0 tq1 hL hk2)
        have KLH := Aside0.mk (show lenH (x / 16) (b.drop (at_ + 1)) = some ((nn : Int), b.drop k2) by rw [Ktq.out]; exact hL)
        clear hL
        by_cases c3 : most - (n : Int) < (nn : Int)
        · have Kst : Aside0 (step b.length most n (b.drop at_) = .fail 2 at_) := ⟨by rw [Kdr.out]; simp only [step, KLH.out]; rw [if_pos c3, tok_place hlt]⟩
          go_wp2_with (go_at_call 59; refine KL1.out.mono ?_; rintro e w' ⟨rfl, rfl⟩)
          refine bodyPost_ret (results_list (rs := [.tmp 4, .tmp 5, .tmp 6, .tmp 7]) rfl (by simp) (.tmp (.tmp (.tmp (.tmp .nil))))) rfl ?_
          exact LR_fail KL.out Kst.out (by decide) KL.out.below
        by_cases c4 : (b.length : Int) - (k2 : Int) < (nn : Int)
        · have Kst : Aside0 (step b.length most n (b.drop at_) = .fail 6 b.length) := ⟨by rw [Kdr.out]; simp only [step, KLH.out]; rw [if_neg c3, if_pos (by rw [List.length_drop]; omega)]⟩
          go_wp2_with (go_at_call 59; refine KL1.out.mono ?_; rintro e w' ⟨rfl, rfl⟩)
          refine bodyPost_ret (results_list (rs := [.tmp 4, .tmp 5, .tmp 6, .tmp 7]) rfl (by simp) (.tmp (.tmp (.tmp (.tmp .nil))))) rfl ?_
          exact LR_fail KL.out Kst.out (by decide) KL.out.below
        obtain ⟨ee, hw, he1, he2, he3, he4, hee⟩ := slice_bounds (N := b.length) (at2 := k2) (nn := nn) (c := c) (by omega) hcap hN
        have Kee := Aside0.mk hee
        obtain ⟨AL, hAL⟩ : ∃ AL, (if c = k2 then some ad else some (ad.add k2)) = AL := ⟨_, rfl⟩
        obtain ⟨cL, hcL⟩ : ∃ cL, c - k2 = cL := ⟨_, rfl⟩
        have Kc3 := Aside0.mk c3
        have Kc4 := Aside0.mk c4
        have c3' : (nn : Int) ≤ most - (n : Int) := by omega
        have c4' : (nn : Int) ≤ (b.length : Int) - (k2 : Int) := by omega
        clear hee c3 c4
        go_wp2_with (first | (go_at_call 59; refine KL1.out.mono ?_; rintro e w' ⟨rfl, rfl⟩) | ((with_reducible refine gate_builtin (b := .append) (xs := #[.tmp 63, .tmp 65]) rfl ?_); apply Aside0.out))
        refine ⟨?_⟩
        obtain ⟨lit, hlit⟩ : ∃ lit, lit = (b.drop k2).take nn := ⟨_, rfl⟩
        obtain ⟨hl1, hl2, hl3⟩ : lit.length = nn ∧ nn ≤ cL ∧ ∀ w1, Below w.heap.size w w1 → Kd.C (Kd.int .u8) w1 AL lit.length lit := by rw [hlit]; exact lit_reads hAL.symm hcL.symm rfl hk2 Kee.out he4 hcap KC.out
        have Klit := Aside0.mk hlit
        have Kl1 := Aside0.mk hl1
        have Kl2 := Aside0.mk hl2
        have Kl3 := Aside0.mk hl3
        have hal : Below wr.heap.size wr (wr.alloc (.cells #[.slice AL nn cL, .int .i64 0, .int .i64 0] 67)) := below_alloc (Below.refl _ _) _
        have hal2 : Below w.heap.size w (wr.alloc (.cells #[.slice AL nn cL, .int .i64 0, .int .i64 0] 67)) := below_then KL.out.below KL.out.below.size hal
        have hCl : Kd.C (Kd.int .u8) (wr.alloc (.cells #[.slice AL nn cL, .int .i64 0, .int .i64 0] 67)) AL nn lit := by have := hl3 _ hal2; rw [hl1] at this; exact this
        have hlen := KL.out.len
        have hrow := KL.out.row.below hal
        have hown := KL.out.own.below hal
        have hsb0 := heap_alloc_new wr (.cells #[.slice AL nn cL, .int .i64 0, .int .i64 0] 67)
        have hne9 := KL.out.row.lt
        refine Row.app_rows (w0 := w) w.heap.size rfl (.tmp 63) (.tmp 65) rfl (.slice A8 n c8) (outs [] acc) lit AL nn cL rfl rfl hown hCl hal2 hal2.size (by rw [hlen]; omega) ?_
        intro zs A2 c2 w2 e1 e2 e3 h4 h5 e4 hb2 e5 e6 e7
        obtain ⟨n2, hn2⟩ : ∃ n2, n2 = zs.length := ⟨_, rfl⟩
        obtain ⟨sb, hsb⟩ : ∃ sb, sb = wr.heap.size := ⟨_, rfl⟩
        have hn3 : n2 = n + nn := by rw [hn2, e3.out, hlen]
        rw [← hn2] at e2 h4 h5 e4 ⊢
        have KO2 : Aside0 (Row.OwnB w2 w.heap.size (.slice A2 n2 c2) (outs [] acc ++ lit)) := ⟨by rw [← e1.out]; exact e2.out⟩
        have KR2 : Aside0 (RowL w w.heap.size w2 (.slice A9 la c9) acc) := ⟨hrow.grown hown e6.out⟩
        have KS2 : Aside0 (w2.heap[sb]? = some (.cells #[.slice AL nn cL, .int .i64 0, .int .i64 0] 67 (0, 0))) := ⟨by rw [hsb]; exact (e6.out.block _ (by simp) (fun e => box_ne hown hsb0 e.symm)).trans hsb0⟩
        have Kne : Aside0 ((Value.slice A9 la c9).ownBlock ≠ some sb) := ⟨fun e => by have := hne9 _ e; omega⟩
        have Kn2 := Aside0.mk hn3
        have Ksb : Aside0 (w.heap.size ≤ sb) := ⟨by rw [hsb]; exact KL.out.below.size⟩
        rw [← hsb]
        have hn2a : n2 ≤ 1048576 := by omega
        have hn2b : (n2 : Int) ≤ most := by omega
        clear hlit hl1 hl2 hl3 hal hal2 hCl hlen hrow hown hsb0 hne9 e1 e2 e3 h4 e4 e5 e6 e7 hn2 hsb hn3 hAL hcL
        have hy0 : w2.cell? ⟨sb, 0, none⟩ = some (.slice AL nn cL) := (cell_of_row _ _ _ _ _ _ KS2.out).trans rfl
        have hy1 : w2.cell? ⟨sb, 1, none⟩ = some (.int .i64 0) := (cell_of_row _ _ _ _ _ _ KS2.out).trans rfl
        have hy2 : w2.cell? ⟨sb, 2, none⟩ = some (.int .i64 0) := (cell_of_row _ _ _ _ _ _ KS2.out).trans rfl
        have hadd : (k2 : Int) + (nn : Int) = (ee : Int) := by omega
        have Kdd : Aside0 ((b.drop k2).drop nn = b.drop ee) := ⟨by rw [List.drop_drop, Kee.out]⟩
        have Kc4'' : Aside0 ((nn : Int) ≤ ((b.drop k2).length : Int)) := ⟨by rw [List.length_drop]; omega⟩
        by_cases c5 : ee = b.length
        · have Kst : Aside0 (step b.length most n (b.drop at_) = .last lit) := ⟨by
            rw [Kdr.out, step_d KLH.out c3' Kc4''.out, Kdd.out, c5, List.drop_length, Klit.out]
            rfl⟩
          have heq : ((ee : Int) == (b.length : Int)) = true := by rw [c5]; simp
          clear c5
          go_wp2_with ((with_reducible refine gate_builtin (b := .append) (xs := #[.tmp 75, .tmp 77]) rfl ?_); apply Aside0.out)
          refine ⟨?_⟩
          obtain ⟨cells, hcells, hsc⟩ := KR2.out
          have hla := Kla.out
          have hcnt := KL.out.cnt
          refine print_append_cells (w0 := w) (W := w2) w.heap.size rfl (.tmp 75) (.tmp 77) 64 67 (.agg #[.slice none 0 0, .int .i64 0, .int .i64 0]) 3 40 rfl Try.underlying64 infoSeq rfl (by decide) (by decide) (.slice A9 la c9) acc.length cells [.slice AL nn cL, .int .i64 0, .int .i64 0] rfl rfl rfl (by simp [Value.oneCell']) hcells hb2.out hb2.out.size (by omega) ?_
          intro v5 w5 h5 hb5 hg5 hat5
          obtain ⟨A5, c55, rfl⟩ := row_slice h5
          have KR5 := Aside0.mk (RowL_snoc hsc Kl1.out Kl3.out Kl2.out h5)
          have KO5 := Aside0.mk (own_grown_l KR2.out KO2.out hg5)
          have Kb5 := Aside0.mk hb5
          clear h5 hb5 hg5 hat5 hsc hcells hla hcnt
          go_wp2
          refine bodyPost_ret (results_list (rs := [.tmp 4, .tmp 5, .tmp 6, .tmp 7]) rfl (by simp) (.tmp (.tmp (.tmp (.tmp .nil))))) rfl ?_
          exact LR_last KL.out Kst.out KO5.out KR5.out Kb5.out
        by_cases c6 : (b.length : Int) - ee < 2
        · have Kst : Aside0 (step b.length most n (b.drop at_) = .fail 6 b.length) := ⟨by
            obtain ⟨z, hz⟩ := drop_one he4 c5 c6
            rw [Kdr.out, step_d KLH.out c3' Kc4''.out, Kdd.out, hz]
            rfl⟩
          have heq : ((ee : Int) == (b.length : Int)) = false := by simp; omega
          have heq2 : ((ee : Int) + 1 == (b.length : Int)) = true := by simp; omega
          clear c5 c6
          go_wp2
          refine bodyPost_ret (results_list (rs := [.tmp 4, .tmp 5, .tmp 6, .tmp 7]) rfl (by simp) (.tmp (.tmp (.tmp (.tmp .nil))))) rfl ?_
          exact LR_fail KL.out Kst.out (by decide) hb2.out
        obtain ⟨y1, y2, Kd2⟩ : ∃ y1 y2, Aside0 (b.drop ee = y1 :: y2 :: b.drop (ee + 2) ∧ (0 ≤ y1 ∧ y1 < 256) ∧ (0 ≤ y2 ∧ y2 < 256) ∧ rd b (ee : Int) = y1 ∧ rd b ((ee + 1 : Nat) : Int) = y2 ∧ ee + 2 ≤ b.length ∧ ee < b.length ∧ ee + 1 < b.length) := by
          obtain ⟨y1, y2, h⟩ := drop_two Kb.out he4 (by omega)
          exact ⟨y1, y2, ⟨h⟩⟩
        have heq : ((ee : Int) == (b.length : Int)) = false := by simp; omega
        have heq2 : ((ee : Int) + 1 == (b.length : Int)) = false := by simp; omega
        clear c5 c6
        go_wp2
        obtain ⟨z1, z2, z3, z4, z5, z6, z7, z8⟩ := Kd2.out
        obtain ⟨ef, hef, hef1, hef2⟩ := next_idx z8 hN
        have hC2 := KC.out w2 hb2.out
        obtain ⟨ad', e', hq1⟩ := Kd.at_int hC2 (ee : Int) (by omega) (by omega)
        injection e' with e'
        subst e'
        obtain ⟨ad', e', hq2⟩ := Kd.at_int hC2 ((ee + 1 : Nat) : Int) (by omega) (by omega)
        injection e' with e'
        subst e'
        rw [Int.toNat_natCast, z4] at hq1
        rw [z5, Int.toNat_natCast, ← hef2] at hq2
        have hef' : (ee : Int) + 1 = (ef : Int) := by omega
        have hwf : wrap64 (ef : Int) = (ef : Int) := by unfold wrap64; omega
        obtain ⟨y1a, y1b⟩ := z2
        obtain ⟨y2a, y2b⟩ := z3
        obtain ⟨offn, hoffn⟩ : ∃ offn : Nat, (offn : Int) = y1 + y2 * 256 := ⟨(y1 + y2 * 256).toNat, by omega⟩
        have hoffw : wrap64 (wrap64 y1 + wrap64 (256 * wrap64 y2)) = (offn : Int) := ref_off ⟨y1a, y1b⟩ ⟨y2a, y2b⟩ hoffn
        have hoffb : offn ≤ 65535 := by omega
        have Koffn := Aside0.mk hoffn
        have hf1 : w2.frozen? ⟨sb, 1, none⟩ = false := blk_frozen KS2.out 1
        clear z1 z4 z5 z6 z8 hef2 hC2 hoffn
        refine start_ (n := 15) (S := fun w' => w'.cell? (ad.add ee) = some (.int .u8 y1) ∧ w'.cell? (ad.add ef) = some (.int .u8 y2)) (ds := [14]) #[false, false, false, false, false, false, false, false, false, false, false, false, false, false, false] (by kernel_rfl) rfl rfl ⟨(show w2.cell? _ = _ from hq1), (show w2.cell? _ = _ from hq2)⟩ (fun hHeld => ?_)
        refine pure_ (i := 0) (N := some 88) (v := ?_) (a' := ?_) #[true, false, false, false, false, false, false, false, false, false, false, false, false, false, false] rfl rfl (by kernel_rfl) (fun _ _ _ h => h) (Or.inl ⟨by rfl, ?_⟩) ?_ ?_
        rotate_left
        · intro w'
          go_simp
          with_reducible rfl
        rotate_left
        · simp only [Act.put, List.setIfInBounds_toArray, List.set_cons_zero, List.set_cons_succ, i64_w, i32_w]
          rfl
        refine pure_ (i := 1) (N := some 89) (v := ?_) (a' := ?_) #[true, true, false, false, false, false, false, false, false, false, false, false, false, false, false] rfl rfl (by kernel_rfl) (fun _ _ _ h => h) (Or.inl ⟨by rfl, ?_⟩) ?_ ?_
        rotate_left
        · intro w'
          go_simp
          with_reducible rfl
        rotate_left
        · simp only [Act.put, List.setIfInBounds_toArray, List.set_cons_zero, List.set_cons_succ, i64_w, i32_w]
          rfl
        refine pure_ (i := 2) (N := some 90) (v := ?_) (a' := ?_) #[true, true, true, false, false, false, false, false, false, false, false, false, false, false, false] rfl rfl (by kernel_rfl) (fun _ _ _ h => h) (Or.inl ⟨by rfl, ?_⟩) ?_ ?_
        rotate_left
        · intro w'
          go_simp
          with_reducible rfl
        rotate_left
        · simp only [Act.put, List.setIfInBounds_toArray, List.set_cons_zero, List.set_cons_succ, i64_w, i32_w]
          rfl
        refine pure_ (i := 5) (N := some 93) (v := ?_) (a' := ?_) #[true, true, true, false, false, true, false, false, false, false, false, false, false, false, false] rfl rfl (by kernel_rfl) (fun _ _ _ h => h) (Or.inl ⟨by rfl, ?_⟩) ?_ ?_
        rotate_left
        · intro w'
          go_simp
          with_reducible rfl
        rotate_left
        · simp only [Act.put, List.setIfInBounds_toArray, List.set_cons_zero, List.set_cons_succ, i64_w, i32_w]
          rfl
        refine pure_ (i := 6) (N := some 94) (v := ?_) (a' := ?_) #[true, true, true, false, false, true, true, false, false, false, false, false, false, false, false] rfl rfl (by kernel_rfl) (fun _ _ _ h => h) (Or.inl ⟨by rfl, ?_⟩) ?_ ?_
        rotate_left
        · intro w'
          go_simp
          with_reducible rfl
        rotate_left
        · simp only [Act.put, List.setIfInBounds_toArray, List.set_cons_zero, List.set_cons_succ, i64_w, i32_w]
          rfl
        refine pure_ (i := 7) (N := some 95) (v := ?_) (a' := ?_) #[true, true, true, false, false, true, true, true, false, false, false, false, false, false, false] rfl rfl (by kernel_rfl) (fun _ _ _ h => h) (Or.inl ⟨by rfl, ?_⟩) ?_ ?_
        rotate_left
        · intro w'
          go_simp
          with_reducible rfl
        rotate_left
        · simp only [Act.put, List.setIfInBounds_toArray, List.set_cons_zero, List.set_cons_succ, i64_w, i32_w]
          rfl
        refine pure_ (i := 8) (N := some 96) (v := ?_) (a' := ?_) #[true, true, true, false, false, true, true, true, true, false, false, false, false, false, false] rfl rfl (by kernel_rfl) (fun _ _ _ h => h) (Or.inl ⟨by rfl, ?_⟩) ?_ ?_
        rotate_left
        · intro w'
          go_simp
          with_reducible rfl
        rotate_left
        · simp only [Act.put, List.setIfInBounds_toArray, List.set_cons_zero, List.set_cons_succ, i64_w, i32_w]
          rfl
        refine take_ (i := 3) (N := some 91) (v := ?_) (a' := ?_) #[true, true, true, true, false, true, true, true, true, false, false, false, false, false, false] rfl rfl (by kernel_rfl) (fun _ _ _ h => h) (Or.inl ⟨by rfl, ?_⟩) hHeld ?_ ?_
        rotate_left
        · rintro w' ⟨s0, s1⟩
          go_simp
          with_reducible rfl
        rotate_left
        · simp only [Act.put, List.setIfInBounds_toArray, List.set_cons_zero, List.set_cons_succ, i64_w, i32_w]
          rfl
        refine pure_ (i := 4) (N := some 92) (v := ?_) (a' := ?_) #[true, true, true, true, true, true, true, true, true, false, false, false, false, false, false] rfl rfl (by kernel_rfl) (fun _ _ _ h => h) (Or.inl ⟨by rfl, ?_⟩) ?_ ?_
        rotate_left
        · intro w'
          go_simp
          with_reducible rfl
        rotate_left
        · simp only [Act.put, List.setIfInBounds_toArray, List.set_cons_zero, List.set_cons_succ, i64_w, i32_w]
          rfl
        refine take_ (i := 9) (N := some 97) (v := ?_) (a' := ?_) #[true, true, true, true, true, true, true, true, true, true, false, false, false, false, false] rfl rfl (by kernel_rfl) (fun _ _ _ h => h) (Or.inl ⟨by rfl, ?_⟩) hHeld ?_ ?_
        rotate_left
        · rintro w' ⟨s0, s1⟩
          go_simp
          with_reducible rfl
        rotate_left
        · simp only [Act.put, List.setIfInBounds_toArray, List.set_cons_zero, List.set_cons_succ, i64_w, i32_w]
          rfl
        refine pure_ (i := 10) (N := some 98) (v := ?_) (a' := ?_) #[true, true, true, true, true, true, true, true, true, true, true, false, false, false, false] rfl rfl (by kernel_rfl) (fun _ _ _ h => h) (Or.inl ⟨by rfl, ?_⟩) ?_ ?_
        rotate_left
        · intro w'
          go_simp
          with_reducible rfl
        rotate_left
        · simp only [Act.put, List.setIfInBounds_toArray, List.set_cons_zero, List.set_cons_succ, i64_w, i32_w]
          rfl
        refine pure_ (i := 11) (N := some 99) (v := ?_) (a' := ?_) #[true, true, true, true, true, true, true, true, true, true, true, true, false, false, false] rfl rfl (by kernel_rfl) (fun _ _ _ h => h) (Or.inl ⟨by rfl, ?_⟩) ?_ ?_
        rotate_left
        · intro w'
          go_simp
          with_reducible rfl
        rotate_left
        · simp only [Act.put, List.setIfInBounds_toArray, List.set_cons_zero, List.set_cons_succ, i64_w, i32_w]
          rfl
        refine pure_ (i := 12) (N := some 100) (v := ?_) (a' := ?_) #[true, true, true, true, true, true, true, true, true, true, true, true, true, false, false] rfl rfl (by kernel_rfl) (fun _ _ _ h => h) (Or.inl ⟨by rfl, ?_⟩) ?_ ?_
        rotate_left
        · intro w'
          go_simp
          with_reducible rfl
        rotate_left
        · simp only [Act.put, List.setIfInBounds_toArray, List.set_cons_zero, List.set_cons_succ, i64_w, i32_w]
          rfl
        refine pure_ (i := 13) (N := some 101) (v := ?_) (a' := ?_) #[true, true, true, true, true, true, true, true, true, true, true, true, true, true, false] rfl rfl (by kernel_rfl) (fun _ _ _ h => h) (Or.inl ⟨by rfl, ?_⟩) ?_ ?_
        rotate_left
        · intro w'
          go_simp
          with_reducible rfl
        rotate_left
        · simp only [Act.put, List.setIfInBounds_toArray, List.set_cons_zero, List.set_cons_succ, i64_w, i32_w]
          rfl
        refine last_ (i := 14) (N := none) #[true, true, true, true, true, true, true, true, true, true, true, true, true, true, true] rfl rfl (by kernel_rfl) (by decide) (fun K hK => ?_)
        refine skip_ (w1 := ?_) (by rfl) rfl ?_ ?_
        rotate_left
        · go_simp
          rfl
        refine hK.out _ _ ?_
        clear hK K
        refine done_ (by kernel_rfl) ?_
        have KS8 := Aside0.mk (blk_set KS2.out 1 (.int .i64 (offn : Int)))
        have hfr : ∀ k, k ≠ sb → (w2.setCell ⟨sb, 1, none⟩ (.int .i64 (offn : Int))).drew.heap[k]? = w2.heap[k]? := fun k hk => Below.heap_setCell w2 ⟨sb, 1, none⟩ _ k hk
        have KO8 := Aside0.mk (own_frame KO2.out fun k e => hfr k fun e2 => box_ne KO2.out KS2.out (by rw [e, e2]))
        have KR8 := Aside0.mk (KR2.out.frame fun k e => hfr k fun e2 => Kne.out (by rw [e, e2]))
        have Kb8 : Aside0 (Below w.heap.size w (w2.setCell ⟨sb, 1, none⟩ (.int .i64 (offn : Int))).drew) := ⟨(hb2.out.setCell Ksb.out _).drew⟩
        obtain ⟨W8, hW8⟩ : ∃ W8, W8 = (w2.setCell ⟨sb, 1, none⟩ (.int .i64 (offn : Int))).drew := ⟨_, rfl⟩
        rw [← hW8] at KO8 KR8 Kb8 ⊢
        have KS8' : Aside0 (W8.heap[sb]? = some (.cells #[.slice AL nn cL, .int .i64 offn, .int .i64 0] 67 (0, 0))) := ⟨by rw [hW8]; exact KS8.out⟩
        clear hfr KS8 hW8 hHeld hy0 hy1 hy2 hq1 hq2 hf1 hoffw
        have hy1 : W8.cell? ⟨sb, 1, none⟩ = some (.int .i64 offn) := (cell_of_row _ _ _ _ _ _ KS8'.out).trans rfl
        have hy2 : W8.cell? ⟨sb, 2, none⟩ = some (.int .i64 0) := (cell_of_row _ _ _ _ _ _ KS8'.out).trans rfl
        by_cases c7 : offn = 0 ∨ n2 < offn
        · have Kst : Aside0 (step b.length most n (b.drop at_) = .fail 9 ee) := ⟨by
            rw [Kdr.out, step_d KLH.out c3' Kc4''.out, Kdd.out, Kd2.out.1]
            exact tail_range (by have := Koffn.out; have := Kn2.out; omega) Kd2.out.2.2.2.2.2.1⟩
          have Kc7 := Aside0.mk c7
          rcases c7 with rfl | c7
          · go_wp2
            refine bodyPost_ret (results_list (rs := [.tmp 4, .tmp 5, .tmp 6, .tmp 7]) rfl (by simp) (.tmp (.tmp (.tmp (.tmp .nil))))) rfl ?_
            exact LR_fail KL.out Kst.out (by decide) Kb8.out
          · have hz : ((offn : Int) == 0) = false := by simp; omega
            go_wp2
            refine bodyPost_ret (results_list (rs := [.tmp 4, .tmp 5, .tmp 6, .tmp 7]) rfl (by simp) (.tmp (.tmp (.tmp (.tmp .nil))))) rfl ?_
            exact LR_fail KL.out Kst.out (by decide) Kb8.out
        have c7a : ((offn : Int) == 0) = false := by simp; omega
        have c7b : offn ≤ n2 := by omega
        have Kc7 : Aside0 (¬ (y1 + y2 * 256 = 0 ∨ (n : Int) + (nn : Int) < y1 + y2 * 256)) := ⟨by have := Koffn.out; have := Kn2.out; omega⟩
        clear c7
        have Kae : Aside0 (at_ < ee) := ⟨Nat.lt_of_lt_of_le hk he1⟩
        have Kc3' : Aside0 ((nn : Int) ≤ most - (n : Int)) := ⟨c3'⟩
        rename_i q1 q2 q3 q4 K0 hK0
        clear q1 q2 q3 q4 hk hk2 hnn hw he1 he2 he3 c3' c4' hadd hef hef1 hef' hwf y1a y1b y2a y2b tq0 tq1 htd heq heq2 h5
        obtain ⟨tr, htr⟩ : ∃ tr, x % 16 = tr := ⟨_, rfl⟩
        have htm : x.tmod 16 = tr := by rw [Int.tmod_eq_emod_of_nonneg x0]; exact htr
        have tr0 : 0 ≤ tr := by omega
        have tr1 : tr ≤ 15 := by omega
        have Ktr := Aside0.mk htr
        clear htr
        have he5 : ee + 2 ≤ b.length := Kd2.out.2.2.2.2.2.1
        have hx8 : W8.cell? (ad.add at_) = some (.int .u8 x) := by
          obtain ⟨ad', e', hq⟩ := Kd.at_int (KC.out W8 Kb8.out) (at_ : Int) (by omega) (by omega)
          injection e' with e'
          subst e'
          obtain ⟨ad', e', hq2⟩ := Kd.at_int (KC.out wr KL.out.below) (at_ : Int) (by omega) (by omega)
          injection e' with e'
          subst e'
          rw [Int.toNat_natCast] at hq hq2
          rw [hx] at hq2
          rw [hq]
          exact hq2.symm
        have he6 : ((ee + 2 : Nat) : Int) = (ee : Int) + 2 := by omega
        cases hL : lenH tr (b.drop (ee + 2)) with
        | none =>
          have Kst : Aside0 (step b.length most n (b.drop at_) = .fail 6 b.length) := ⟨by
            rw [Kdr.out, step_d KLH.out Kc3'.out Kc4''.out, Kdd.out, Kd2.out.1]
            exact tail_none Kc7.out (by rw [Ktr.out]; exact hL)⟩
          have hc2 := reflen_none (c := c) (KC.out W8 Kb8.out) Kb.out (by omega) he5 tr tr0 tr1 hL
          rw [he6] at hc2
          have KL2 := Aside0.mk hc2
          clear hL hc2 he6 he5
          go_wp2_with (go_at_call 59; refine KL2.out.mono ?_; rintro e w' ⟨rfl, rfl⟩)
          refine bodyPost_ret (results_list (rs := [.tmp 4, .tmp 5, .tmp 6, .tmp 7]) rfl (by simp) (.tmp (.tmp (.tmp (.tmp .nil))))) rfl ?_
          exact LR_fail KL.out Kst.out (by decide) Kb8.out
        | some p =>
          obtain ⟨mm, r4⟩ := p
          obtain ⟨k4, m4, rfl, hk4, hk4b, rfl, hm4⟩ := lenH_at Kb.out hN he5 ⟨tr0, tr1⟩ hL
          have hts := tail_some (N := b.length) (rl := (b.drop (at_ + 1)).length) (most := most) (size := n) (t := x) (n := nn) (x := y1) (y := y2) (m := (m4 : Int)) (lit := lit) (r3 := b.drop (ee + 2)) (r4 := b.drop k4) Kc7.out (by rw [Ktr.out]; exact hL)
          have hc2 := reflen_some (c := c) (KC.out W8 Kb8.out) Kb.out (by omega) he5 tr tr0 tr1 hL hk4b
          rw [he6] at hc2
          have KL2 := Aside0.mk hc2
          have Kk4 : Aside0 (ee + 2 ≤ k4 ∧ k4 ≤ b.length) := ⟨⟨hk4, hk4b⟩⟩
          have Kk4b : Aside0 (k4 ≤ b.length) := ⟨hk4b⟩
          have hf2 : W8.frozen? ⟨sb, 2, none⟩ = false := blk_frozen KS8'.out 2
          obtain ⟨ln, hln⟩ : ∃ ln : Nat, (m4 : Int) + 4 = (ln : Int) := ⟨m4 + 4, by omega⟩
          have hln1 : ln ≤ 300000004 := by omega
          have Kln := Aside0.mk hln
          rw [hln] at hts
          clear hL hc2 he6 he5 hk4 hk4b
          by_cases cq9 : most - (n2 : Int) < (ln : Int)
          · have Kst : Aside0 (step b.length most n (b.drop at_) = .fail 2 at_) := ⟨by
              rw [Kdr.out, step_d KLH.out Kc3'.out Kc4''.out, Kdd.out, Kd2.out.1, ← Klit.out, hts, if_pos (by have := Kn2.out; omega), tok_place hlt]⟩
            clear hts
            go_wp2_with (go_at_call 59; refine KL2.out.mono ?_; rintro e w' ⟨rfl, rfl⟩)
            refine bodyPost_ret (results_list (rs := [.tmp 4, .tmp 5, .tmp 6, .tmp 7]) rfl (by simp) (.tmp (.tmp (.tmp (.tmp .nil))))) rfl ?_
            exact LR_fail KL.out Kst.out (by decide) (Kb8.out.setCell Ksb.out _)
          have Kst : Aside0 (step b.length most n (b.drop at_) = .seq lit (offn : Int) (ln : Int) (b.drop k4)) := ⟨by
            rw [Kdr.out, step_d KLH.out Kc3'.out Kc4''.out, Kdd.out, Kd2.out.1, ← Klit.out, hts, if_neg (by have := Kn2.out; omega), ← Koffn.out]⟩
          clear hts
          go_wp2_with (go_at_call 59; refine KL2.out.mono ?_; rintro e w' ⟨rfl, rfl⟩)
          have KS9' := blk_set KS8'.out 2 (.int .i64 (ln : Int))
          obtain ⟨W9, hW9⟩ : ∃ W9, W9 = W8.setCell ⟨sb, 2, none⟩ (.int .i64 (ln : Int)) := ⟨_, rfl⟩
          rw [← hW9] at KS9' ⊢
          have hfr : ∀ k, k ≠ sb → W9.heap[k]? = W8.heap[k]? := fun k hk => by rw [hW9]; exact Below.heap_setCell W8 ⟨sb, 2, none⟩ _ k hk
          have KI9 : Aside0 (CI w sb AL nn cL offn ln W9 (.slice A2 n2 c2) (.slice A9 la c9) (outs [] acc ++ lit) acc) := ⟨own_frame KO8.out (fun k e => hfr k fun e2 => box_ne KO8.out KS8'.out (by rw [e, e2])), KR8.out.frame (fun k e => hfr k fun e2 => Kne.out (by rw [e, e2])), (by rw [hW9]; exact Kb8.out.setCell Ksb.out _), KS9', Kne.out⟩
          have Kll : Aside0 ((outs [] acc ++ lit).length = n2) := ⟨by rw [List.length_append, KL.out.len, Kl1.out, Kn2.out]⟩
          have Kat : Aside0 (at_ < k4) := ⟨by have := Kk4.out; have := Kae.out; omega⟩
          have Kmm : Aside0 ((n : Int) + lit.length + ln ≤ most) := ⟨by have := Kn2.out; have := Kl1.out; omega⟩
          have hlnm : (ln : Int) ≤ 1048576 := by omega
          have Ko1 : Aside0 (1 ≤ offn ∧ offn ≤ n2) := ⟨by simp at c7a; omega⟩
          obtain ⟨wo, rfl⟩ : ∃ wo : World, wo = wr := ⟨_, rfl⟩
          clear hfr hW9 KS9' hy1 hy2 hx8 hf2 hln hx KO8 KR8 Kb8 KS8' hb2 KO2 KR2 KS2 KLH KL1 KL2 cq9 c7a c7b Kdd Kc4'' Kc7 Kd2 KCr htm tr0 tr1 Ktr x0 x1 hm4 hln1 hoffb
          go_wp2
          go_loopw [8, 16] (fun u i wr => ∃ (k : Nat) (A : Option Addr) (cc : Nat), k ≤ ln ∧ i = .int .i64 k ∧ u = .slice A (n2 + k) cc ∧ Aside0 (CI w sb AL nn cL offn ln wr (.slice A (n2 + k) cc) (.slice A9 la c9) (cp (outs [] acc ++ lit) offn k) acc)) (fun _ i _ => ln - (intOf i).toNat)
          case atStart => exact ⟨0, A2, c2, by omega, rfl, rfl, KI9⟩
          case round =>
            obtain ⟨k, A, cc, hk, rfl, rfl, HU⟩ := hrel
            obtain ⟨q, hq⟩ : ∃ q, q = n2 + k := ⟨_, rfl⟩
            obtain ⟨ys, hys⟩ : ∃ ys, ys = cp (outs [] acc ++ lit) offn k := ⟨_, rfl⟩
            have hyl : ys.length = q := by rw [hys, cp_length, Kll.out, hq]
            rw [← hq, ← hys] at HU
            have y0 : wr.cell? ⟨sb, 0, none⟩ = some (.slice AL nn cL) := (cell_of_row _ _ _ _ _ _ HU.out.2.2.2.1).trans rfl
            have y1 : wr.cell? ⟨sb, 1, none⟩ = some (.int .i64 offn) := (cell_of_row _ _ _ _ _ _ HU.out.2.2.2.1).trans rfl
            have y2 : wr.cell? ⟨sb, 2, none⟩ = some (.int .i64 ln) := (cell_of_row _ _ _ _ _ _ HU.out.2.2.2.1).trans rfl
            rw [← hq]
            have Kq := Aside0.mk hq
            have Kys := Aside0.mk hys
            have Kyl := Aside0.mk hyl
            have hqb : q ≤ 3000000 := by omega
            have hqb2 : (q : Int) ≤ 3000000 := by omega
            clear hys
            by_cases hkl : k < ln
            · have ho1 : 1 ≤ offn := Ko1.out.1
              have ho2 : offn ≤ q := by have := Ko1.out.2; omega
              have hC := (Row.OwnB.reads HU.out.1).2.2
              rw [hyl] at hC
              obtain ⟨ad2, e, hx⟩ := Kd.at_int hC ((q - offn : Nat) : Int) (by omega) (by omega)
              rw [Int.toNat_natCast] at hx
              subst e
              obtain ⟨xx, hxv⟩ : ∃ xx, xx = rd ys ((q - offn : Nat) : Int) := ⟨_, rfl⟩
              rw [← hxv] at hx
              have Kx := Aside0.mk hxv
              clear hq hyl hC hxv
              go_wp2_with ((with_reducible refine gate_builtin (b := .append) (xs := #[.tmp 147, .tmp 156]) rfl ?_); apply Aside0.out)
              refine ⟨?_⟩
              refine Kd.R_append (Kd.int .u8) (w0 := w) (W := wr) w.heap.size rfl (.tmp 147) (.tmp 156) 22 5 (.int .u8 0) 1 rfl Try.underlying22 Row.info8 rfl (by decide) (by decide) (.slice (some ad2) q cc) ys xx [.int .u8 xx] (fun _ => True) (fun _ => False) rfl rfl rfl (fun _ h => h.elim) (fun _ _ => trivial) HU.out.1 HU.out.2.2.1 HU.out.2.2.1.size (by rw [Kyl.out]; omega) ?_
              intro v5 w5 h5 hb5 hg5 hat5
              have KU5 := Aside0.mk (HU.out.next h5 hb5 hg5)
              obtain ⟨A5, c5', hv5⟩ := Kd.R_slice h5
              rw [List.length_append, List.length_singleton, Kyl.out] at hv5
              subst hv5
              clear h5 hb5 hg5 hat5
              go_wp2
              refine ⟨⟨k + 1, A5, c5', by omega, by simp, by rw [Kq.out, Nat.add_assoc], ?_⟩, by simp [intOf]; omega⟩
              have hh : n2 + (k + 1) = q + 1 := by rw [Kq.out]; omega
              have hcp : cp (outs [] acc ++ lit) offn (k + 1) = ys ++ [xx] := by
                simp only [cp]
                rw [← Kys.out, Kyl.out, Kx.out]
                simp [rd]
              rw [hh, hcp]
              exact KU5
            · obtain rfl : k = ln := by omega
              clear hq hyl
              go_wp2_with ((with_reducible refine gate_builtin (b := .append) (xs := #[.tmp 158, .tmp 160]) rfl ?_); apply Aside0.out)
              refine ⟨?_⟩
              obtain ⟨HO, HR, HB, HS, Hne⟩ := HU.out
              obtain ⟨cells, hcells, hsc⟩ := HR
              have hla := Kla.out
              have hcnt := KL.out.cnt
              refine print_append_cells (w0 := w) (W := wr) w.heap.size rfl (.tmp 158) (.tmp 160) 64 67 (.agg #[.slice none 0 0, .int .i64 0, .int .i64 0]) 3 40 rfl Try.underlying64 infoSeq rfl (by decide) (by decide) (.slice A9 la c9) acc.length cells [.slice AL nn cL, .int .i64 offn, .int .i64 k] rfl rfl rfl (by simp [Value.oneCell']) hcells HB HB.size (by omega) ?_
              intro v5 w5 h5 hb5 hg5 hat5
              obtain ⟨A5, c55, rfl⟩ := row_slice h5
              have KR5 := Aside0.mk (RowL_snoc hsc Kl1.out Kl3.out Kl2.out h5)
              have KO5 := Aside0.mk (own_grown_l HU.out.2.1 HU.out.1 hg5)
              rw [Kys.out] at KO5
              have KLL := Aside0.mk (LR_seq KL.out Kst.out rfl Kk4b.out Kat.out Kmm.out KO5.out KR5.out hb5)
              have hnn2 : n + lit.length + k = q := by rw [Kl1.out, Kq.out, Kn2.out]
              have Ksn : Aside0 ((acc ++ [(lit, (offn : Int), (k : Int))]).length = acc.length + 1) := ⟨by simp⟩
              clear h5 hb5 hg5 hat5 hsc hcells hla hcnt HO HB HS Hne hn1 hlnm
              go_wp2
              obtain ⟨f', hLL⟩ := KLL.out
              rw [hnn2] at hLL
              have Ka1 := Kat.out
              have Ka2 := Kk4b.out
              refine ⟨⟨acc ++ [(lit, (offn : Int), (k : Int))], q, k4, f', A, A5, cc, c55, rfl, rfl, by rw [Ksn.out], ?_⟩, by simp [intOf]; omega⟩
              rw [Ksn.out]
              exact ⟨hLL⟩
    · obtain rfl : at_ = b.length := by omega
      go_wp2
      refine bodyPost_ret (results_list (rs := [.tmp 4, .tmp 5, .tmp 6, .tmp 7]) rfl (by simp) (.tmp (.tmp (.tmp (.tmp .nil))))) rfl ?_
      exact LR_fail KL.out (by rw [List.drop_length]; rfl) (by decide) KL.out.below
end Go.Proofs.Ytgplpcjlemjabaa.Lz
