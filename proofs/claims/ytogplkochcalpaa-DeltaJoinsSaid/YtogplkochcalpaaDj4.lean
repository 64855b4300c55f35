/- Deltas joined: the parts of ops, one by one: the iterator's walk. -/
import Derived.Test.YtogplkochcalpaaDj1
import Derived.Test.YtogplkochcalpaaRg
import Derived.OwnWalkIn
set_option linter.unusedVariables false
set_option linter.unusedSimpArgs false
namespace Go.Proofs.Ytogplkochcalpaa.De
open Go.RowKit Go.Proofs.Ytogplkochcalpaa.PD Go.Proofs.Ytogplkochcalpaa.Fd Go.Proofs.Ytogplkochcalpaa.Bg Go.Proofs.YtogplkochcalpaaW.PrintWords Go.Proofs.YtogplkochcalpaaW.PrintLast Go.Proofs.YtogplkochcalpaaW.PrintMore
attribute [local go_sem] Oper.semAt_some
theorem length_any (o : S37) (A : Option Addr) (c : Nat) (w : World) (hC : Kd.C (Kd.int .u8) w A o.f2.length o.f2) (hc : o.f2.length ≤ c) {a : Int} (hr : rightO o a) (ha : a ≤ 8388608) (hw : WfO o) : Calls Try.prog 35 #[.agg #[.int .i64 o.f0, .int .i64 o.f1, .slice A o.f2.length c]] w fun e w' => e = .returned (.int .i64 (ol o)) ∧ Below w.heap.size w w' :=
  delta_length.calls o.f0 o.f1 A c o.f2 _ w hC hc (by unfold delta_length.f; rw [ol_wrap hr ha hw])
/-- An operation by itself, within an iterator. -/
theorem operW {n : Nat} {o : Oper} {a : Act} {w : World} {K : Act → World → Prop} {Q : Exit → Act → World → Prop} (h : o.wp Try.prog a w K Q) : o.wpIn Fence.wide n Try.prog a w K Q := by
  refine ⟨fun _ _ => trivial, ?_⟩
  have e : o.semAt Fence.wide.round a.eval = execOp a.eval o := rfl
  rw [e]
  unfold Oper.wp at h
  generalize (execOp a.eval o).run Try.prog w = r at h ⊢
  cases r with
  | ok x w1 =>
    cases x with
    | value v => exact h
    | skip => exact h
    | defer d => exact h
    | enter f args => exact ⟨(fun h => by cases h), (callsIn_wide.2 h).mono fun e w2 h2 => by cases e <;> exact h2⟩
    | row row args => exact ⟨(fun h => by cases h), fun c cs _ => let ⟨v, w', r, s⟩ := h c cs; ⟨v, w', r, stepsIn_wide.2 s⟩⟩
    | round l f tmps assign body => exact h.elim
    | _ => exact h.elim
  | halt s w1 =>
    cases s with
    | panic v => exact h
    | _ => exact h.elim
section
variable {n : Nat} {ops : Array Oper} {rest : List Oper} {o : Oper} {a : Act} {w : World} {Q : Exit → Act → World → Prop}
theorem gateW_store {t : TypeId} {p : Tmp} {v : Operand} (_ho : o.op = .store t (.tmp p) v) (h : wpListIn Fence.wide n Try.prog ops Q (o :: rest) a w) : wpListIn Fence.wide n Try.prog ops Q (o :: rest) a w := h
theorem storeW (hgd : o.guard = none) (x y : Operand) (ho : o.op = .store 37 x y) (g : Nat) (cells old : Array Value) (hx : a.eval x = .pointer (some ⟨g, 0, none⟩)) (hy : a.eval y = .agg cells) (hg : w.heap[g]? = some (.cells old 37 (0, 0))) (hs : cells.size = 3) (hold : old.size = 3) (h1 : cells.all (·.oneCell') = true)
    (h : ∀ w', w'.heap[g]? = some (.cells cells 37 (0, 0)) → (∀ b w0, b ≤ g → Below b w0 w → Below b w0 w') → (∀ k, k ≠ g → w'.heap[k]? = w.heap[k]?) → w'.heap.size = w.heap.size → wpListIn Fence.wide n Try.prog ops Q rest (a.put o.dst undef) w') : wpListIn Fence.wide n Try.prog ops Q (o :: rest) a w :=
  wpListIn_plain hgd fun K hK => operW (wp_store_row 37 x y ho g cells hx hy 37 old hg (by rw [hs]; exact szOp) (by rw [hs, hold]) h1 (hK _ _ (h _ (setRow_heap w g _ _ _ (0, 0) hg) (fun b w0 hb hB => ⟨hB.os, hB.tape, hB.output, by have := hB.size; simpa [World.setRow] using this, fun k hk => (setRow_other w g k cells (by omega)).trans (hB.block k hk)⟩) (fun k hk => setRow_other w g k cells hk) (by simp [World.setRow]))))
end
theorem drop_hd {α : Type} {P r : List α} {k : Nat} {x : α} (h : P.drop k = x :: r) : k < P.length ∧ P[k]? = some x ∧ P.drop (k + 1) = r := by
  refine ⟨?_, ?_, ?_⟩
  · apply Nat.lt_of_not_le
    intro hle
    rw [List.drop_eq_nil_of_le hle] at h
    cases h
  · have h1 : (P.drop k)[0]? = some x := by rw [h]; rfl
    rw [List.getElem?_drop] at h1
    exact h1
  · have h1 : (P.drop k).drop 1 = r := by rw [h]; rfl
    rw [List.drop_drop] at h1
    exact h1
/-- What yield is given. -/
def PArg (n0 : Nat) (P : List S37) (k : Nat) (W : World) (v : Value) : Prop := ∃ o A c, P[k]? = some o ∧ v = .agg #[.int .i64 o.f0, .int .i64 o.f1, .slice A o.f2.length c] ∧ Row.OwnB W n0 (.slice A o.f2.length c) o.f2
theorem OwnB_sg {w w1 : World} {base b0 L : Nat} {own : Nat → Prop} {v : Value} {xs : List Int} (h : Row.OwnB w base v xs) (hs : Rg.St b0 own L w w1) (ho : ∀ k, own k → k < base) (hL : L < base) : Row.OwnB w1 base v xs := by
  obtain ⟨h0, inner, hoo, hr⟩ := h
  refine ⟨h0, inner, own_move hoo fun k hk => ?_, hr⟩
  obtain ⟨cells, hc⟩ := own_typed hoo k hk
  have hb := Kd.R_base (Kd.R_tight rfl (show Row.OwnB w base v xs from ⟨h0, inner, hoo, hr⟩)) k hk
  rw [hc]
  exact hs.same k _ hc (by omega) (fun hn => by have := ho k hn; omega)
theorem PArg_st {n0 L b0 : Nat} {own : Nat → Prop} {P : List S37} {k : Nat} {v : Value} {w w1 : World} (h : PArg n0 P k w v) (hs : Rg.St b0 own L w w1) (ho : ∀ k, own k → k < n0) (hL : L < n0) : PArg n0 P k w1 v := by
  obtain ⟨o, A, c, h1, h2, h3⟩ := h
  exact ⟨o, A, c, h1, h2, OwnB_sg h3 hs ho hL⟩
/-- The iterator's boxes. -/
structure PB (p1 p2 p3 : Nat) (A : Option Addr) (n c : Nat) (at_ m : Int) (W : World) : Prop where
  b1 : W.heap[p1]? = some (.cells #[.slice A n c] 25 (0, 0))
  b2 : W.heap[p2]? = some (.cells #[.int .i64 at_] 3 (0, 0))
  b3 : W.heap[p3]? = some (.cells #[.int .i64 m] 3 (0, 0))
  ne : p1 < p2 ∧ p2 < p3
section
variable {p1 p2 p3 n c : Nat} {A : Option Addr} {at_ m : Int} {W W1 : World}
theorem PB.keep (H : PB p1 p2 p3 A n c at_ m W) (hb : Below W.heap.size W W1) : PB p1 p2 p3 A n c at_ m W1 := ⟨blk_below H.b1 hb, blk_below H.b2 hb, blk_below H.b3 hb, H.ne⟩
theorem PB.cells (H : PB p1 p2 p3 A n c at_ m W) : W.cell? ⟨p1, 0, none⟩ = some (.slice A n c) ∧ W.cell? ⟨p2, 0, none⟩ = some (.int .i64 at_) ∧ W.cell? ⟨p3, 0, none⟩ = some (.int .i64 m) := ⟨(cell_of_row _ _ _ _ _ _ H.b1).trans rfl, (cell_of_row _ _ _ _ _ _ H.b2).trans rfl, (cell_of_row _ _ _ _ _ _ H.b3).trans rfl⟩
theorem PB.at2 (H : PB p1 p2 p3 A n c at_ m W) (t : Int) : PB p1 p2 p3 A n c t m (W.setCell ⟨p2, 0, none⟩ (.int .i64 t)) :=
  ⟨(Below.heap_setCell _ ⟨p2, 0, none⟩ _ p1 (by have := H.ne; show p1 ≠ p2; omega)).trans H.b1, blk_set H.b2 0 _, (Below.heap_setCell _ ⟨p2, 0, none⟩ _ p3 (by have := H.ne; show p3 ≠ p2; omega)).trans H.b3, H.ne⟩
theorem PB.at3 (H : PB p1 p2 p3 A n c at_ m W) (t : Int) : PB p1 p2 p3 A n c at_ t (W.setCell ⟨p3, 0, none⟩ (.int .i64 t)) :=
  ⟨(Below.heap_setCell _ ⟨p3, 0, none⟩ _ p1 (by have := H.ne; show p1 ≠ p3; omega)).trans H.b1, (Below.heap_setCell _ ⟨p3, 0, none⟩ _ p2 (by have := H.ne; show p2 ≠ p3; omega)).trans H.b2, blk_set H.b3 0 _, H.ne⟩
theorem PB.rd {base : Nat} (H : PB p1 p2 p3 A n c at_ m W) (h : Rg.Rd base (fun k => k = p1 ∨ k = p2 ∨ k = p3) W W1) : PB p1 p2 p3 A n c at_ m W1 := ⟨(h.own _ (Or.inl rfl)).trans H.b1, (h.own _ (Or.inr (Or.inl rfl))).trans H.b2, (h.own _ (Or.inr (Or.inr rfl))).trans H.b3, H.ne⟩
end
theorem parts_step {o : S37} {r : List S37} {at_ n : Int} (h : ¬ ol o ≤ at_) (hn : ¬ n = 0) : partsP (o :: r) at_ n = cutO o at_ (min n (ol o - at_)) :: partsP r 0 (n - min n (ol o - at_)) := by rw [partsP, if_neg h, if_neg hn]
set_option maxHeartbeats 4000000 in
set_option maxRecDepth 100000 in
theorem parts_iter (w w0 : World) (base p1 p2 p3 : Nat) (l : List S37) (A : Option Addr) (c : Nat) (at0 n0 a x : Int) (nl : Nat) (hnl : nl = l.length) (hbase : base ≤ p1) (hC : ∀ W, Below base w W → Kd.C k37 W A nl l) (hc : nl ≤ c) (hl : nl ≤ 8388608) (hr : rightL a x l = true) (ha : a ≤ 8388608) (hx : x ≤ 8388608) (hw : ∀ o ∈ l, WfO o) (h0 : 0 ≤ at0) (h1 : 0 ≤ n0) (h2 : at0 ≤ 8388608) (h3 : n0 ≤ 8388608) (hB : PB p1 p2 p3 A nl c at0 n0 w0) (hlt : p3 < w0.heap.size) (hbw : Below base w w0) :
    Rg.Iter Try.prog 56 #[.pointer (some ⟨p1, 0, none⟩), .pointer (some ⟨p2, 0, none⟩), .pointer (some ⟨p3, 0, none⟩)] base (fun k => k = p1 ∨ k = p2 ∨ k = p3) (partsP l at0 n0).length (fun k W v => PArg (w0.heap.size + 2) (partsP l at0 n0) k W v) w0 := by
  intro lo J W hW hsz hstab hY hJ0
  obtain ⟨P, hP⟩ : ∃ P, P = partsP l at0 n0 := ⟨_, rfl⟩
  rw [← hP] at hY ⊢
  have hne := hB.ne
  have KB0 : Aside0 (PB p1 p2 p3 A nl c at0 n0 W) := ⟨⟨(hW.block p1 (by omega)).trans hB.b1, (hW.block p2 (by omega)).trans hB.b2, (hW.block p3 hlt).trans hB.b3, hne⟩⟩
  have KBw : Aside0 (Below base w W) := ⟨hbw.trans (hW.mono (by omega))⟩
  have KJ := Aside0.mk hstab
  have KY := Aside0.mk hY
  have K0 := Aside0.mk hJ0
  have KC := Aside0.mk hC
  have KP := Aside0.mk hP
  have Kr := Aside0.mk hr
  have Kw := Aside0.mk hw
  have Knl := Aside0.mk hnl
  have hbp2 : base ≤ p2 := by omega
  have hbp3 : base ≤ p3 := by omega
  clear hstab hY hJ0 hC hP hr hw hnl hW hB hbw
  obtain ⟨x0, x1, x2⟩ := KB0.out.cells
  refine callsIn_of_wp Try.func56 rfl trivial ?_ rfl
  simp only [Try.ntmps56, List.size_toArray, List.length_cons, List.length_nil, Nat.reduceAdd, Nat.reduceSub, Array.replicate_succ, Array.replicate_zero, List.push_toArray, List.append_toArray, List.nil_append, List.cons_append]
  gi_wp2
  clear x0 x1 x2
  gi_loopw [12] (fun u12 wr => ∃ (j kk : Nat) (at_ n : Int), j ≤ nl ∧ u12 = .int .i64 j ∧ 0 ≤ at_ ∧ at_ ≤ 8388608 ∧ 0 ≤ n ∧ n ≤ 8388608 ∧ Aside0 (J kk wr) ∧ Aside0 (PB p1 p2 p3 A nl c at_ n wr) ∧ Aside0 (P.drop kk = partsP (l.drop j) at_ n ∧ kk ≤ P.length) ∧ Aside0 (∃ x', rightL a x' (l.drop j) = true ∧ x' ≤ 8388608) ∧ Aside0 (Below base w wr) ∧ w0.heap.size + 1 < wr.heap.size) (fun u12 _ => nl - (intOf u12).toNat)
  case atStart => exact ⟨0, 0, at0, n0, Nat.zero_le _, rfl, h0, h2, h1, h3, K0, KB0, ⟨by rw [List.drop_zero, List.drop_zero]; exact KP.out, Nat.zero_le _⟩, ⟨x, by rw [List.drop_zero]; exact Kr.out, hx⟩, KBw, hsz⟩
  case round =>
    obtain ⟨j, kk, at_, n, hj, rfl, ha0, ha1, hn0, hn1, KJk, KB, KD, KX, KW, hws⟩ := hrel
    obtain ⟨x0, x1, x2⟩ := KB.out.cells
    clear K0 KB0 KBw hsz
    by_cases hltj : j < nl
    · obtain ⟨o, e1, e2, e3⟩ := rd_drop (l := l) (i := j) (by rw [← Knl.out]; exact hltj)
      obtain ⟨ad, B, cb, hA, y0, y1, y2, hcb, hCB⟩ := at_T37 (KC.out wr KW.out) (j : Int) (by omega) (by omega)
      subst hA
      rw [e1] at y0 y1 y2 hcb hCB
      rw [Int.toNat_natCast] at y0 y1 y2
      obtain ⟨x', hx1, hx2⟩ := KX.out
      rw [e2] at hx1
      obtain ⟨g1, g2, g3⟩ := rightL_cons hx1
      have hpo := ol_pos g1
      have Kg := Aside0.mk (And.intro g1 (And.intro g2 g3))
      have hol : ol o ≤ 8388608 := by omega
      have KD2 : Aside0 (P.drop kk = partsP (o :: l.drop (j + 1)) at_ n) := ⟨by rw [← e2]; exact KD.out.1⟩
      have Kal := Aside0.mk (below_alloc (Below.refl wr.heap.size wr) (.cells #[.int .i64 o.f0, .int .i64 o.f1, .slice B o.f2.length cb] 37))
      have KL := Aside0.mk (length_any o B cb _ (Kd.C_below hCB Kal.out) hcb g1 ha (Kw.out o e3))
      have KCB := Aside0.mk (And.intro hCB hcb)
      have KO8 := Aside0.mk (heap_alloc_new wr (.cells #[.int .i64 o.f0, .int .i64 o.f1, .slice B o.f2.length cb] 37))
      obtain ⟨lo2, hlo⟩ : ∃ lo2, lo2 = o.f2.length := ⟨_, rfl⟩
      rw [← hlo] at y2 Kal KL KO8
      have Klo := Aside0.mk hlo
      obtain ⟨sz, hsz2⟩ : ∃ sz, sz = ol o := ⟨_, rfl⟩
      rw [← hsz2] at KL hol hpo
      have Ksz := Aside0.mk hsz2
      clear e1 e2 e3 hcb hCB hx1 g1 g2 g3 hlo hsz2
      gi_wp2
      refine ⟨trivial, rfl, callsIn_wide.2 (KL.out.mono ?_)⟩
      rintro e w2 ⟨rfl, hb⟩
      have hbA : base ≤ wr.heap.size := by omega
      have KJ2 : Aside0 (J kk w2) := ⟨KJ.out _ _ _ KJk.out ((Rg.It.new Kal.out hbA).trans (Rg.It.new hb (Nat.le_trans hbA Kal.out.size)))⟩
      have KB2 := Aside0.mk ((KB.out.keep Kal.out).keep hb)
      have KO2 := Aside0.mk (blk_below KO8.out hb)
      have KW2 : Aside0 (Below base w w2) := ⟨(KW.out.trans (Kal.out.mono hbA)).trans (hb.mono (Nat.le_trans hbA Kal.out.size))⟩
      have hws2 : w0.heap.size + 1 < w2.heap.size := by have := Kal.out.size; have := hb.size; omega
      have KCB2 : Aside0 (Kd.C (Kd.int .u8) w2 B o.f2.length o.f2) := ⟨Kd.C_below (Kd.C_below KCB.out.1 Kal.out) hb⟩
      clear hb x0 x1 x2 y0 y1 y2
      obtain ⟨x0, x1, x2⟩ := KB2.out.cells
      have xf1 : w2.frozen? ⟨p2, 0, none⟩ = false := blk_frozen KB2.out.b2 0
      obtain ⟨y0, y1, y2⟩ := obox_cells KO2.out
      by_cases hge : sz ≤ at_
      · have hge1 : decide (sz ≤ at_) = true := decide_eq_true hge
        have KJ3 : Aside0 (J kk (w2.setCell ⟨p2, 0, none⟩ (.int .i64 (at_ - sz)))) := ⟨KJ.out _ _ _ KJ2.out (Rg.It.setOwn (own := fun k => k = p1 ∨ k = p2 ∨ k = p3) (a := ⟨p2, 0, none⟩) (Or.inr (Or.inl rfl)) hbp2 _)⟩
        have KB3 := Aside0.mk (KB2.out.at2 (at_ - sz))
        have KW3 : Aside0 (Below base w (w2.setCell ⟨p2, 0, none⟩ (.int .i64 (at_ - sz)))) := ⟨KW2.out.setCell hbp2 _⟩
        have KD3 : Aside0 (P.drop kk = partsP (l.drop (j + 1)) (at_ - sz) n ∧ kk ≤ P.length) := ⟨by rw [KD2.out, partsP, ← Ksz.out, if_pos hge], KD.out.2⟩
        gi_wp2
        go_roundw
        case rel => exact ⟨j + 1, kk, at_ - sz, n, hltj, by go_num, by omega, by omega, hn0, hn1, KJ3, KB3, KD3, ⟨_, Kg.out.2.2, by have := Ksz.out; omega⟩, KW3, by rw [World.size_setCell]; exact hws2⟩
        case measure => simp [intOf]; omega
      · have hge1 : decide (sz ≤ at_) = false := decide_eq_false hge
        by_cases hnz : n = 0
        · have hn2 : (n == 0) = true := by simp [hnz]
          have KJe : Aside0 (J P.length w2) := ⟨by
            have h9 := KD2.out
            rw [partsP, ← Ksz.out, if_neg hge, if_pos hnz] at h9
            have h10 := List.drop_eq_nil_iff.1 h9
            have h11 := KD.out.2
            rw [show P.length = kk by omega]
            exact KJ2.out⟩
          gi_wp2
          (try simp only [Exit.inBlock, Exit.then])
          refine bodyPost_ret (results_none rfl _ _ _) rfl ?_
          exact ⟨⟨_, rfl⟩, KJe.out⟩
        · have hn2 : (n == 0) = false := by simp [hnz]
          obtain ⟨kx, hkx⟩ : ∃ kx, kx = min n (sz - at_) := ⟨_, rfl⟩
          have KD3 : Aside0 (P.drop kk = cutO o at_ kx :: partsP (l.drop (j + 1)) 0 (n - kx)) := ⟨by rw [KD2.out, parts_step (by rw [← Ksz.out]; exact hge) hnz, ← Ksz.out, ← hkx]⟩
          have hmin : (if sz - at_ < n then sz - at_ else n) = kx := by rw [hkx]; split <;> omega
          have hk1 : 0 < kx ∧ kx ≤ n ∧ at_ + kx ≤ sz := by omega
          obtain ⟨hk1, hk2, hk3⟩ := hk1
          have KD4 := Aside0.mk (drop_hd KD3.out)
          have hf0 : 0 ≤ o.f0 ∧ o.f0 ≤ 8388608 := by
            have h9 := bounds0 Kg.out.1 ha
            have h10 := Kg.out.1
            unfold rightO at h10
            split at h10 <;> omega
          obtain ⟨hf0, hf9⟩ := hf0
          have Kge := Aside0.mk hge
          have Khkx := Aside0.mk hkx
          clear hkx hge
          by_cases hf1 : o.f1 = 0
          · have hf2 : (o.f1 == 0) = true := by simp [hf1]
            obtain ⟨pa, rfl⟩ := Int.eq_ofNat_of_zero_le ha0
            obtain ⟨pk, rfl⟩ := Int.eq_ofNat_of_zero_le (Int.le_of_lt hk1)
            have hso : sz = (lo2 : Int) := by have h9 := Ksz.out; have h10 := Klo.out; unfold ol at h9; omega
            obtain ⟨AL, nn, cL, hnn, hncL, hcut2, hCL⟩ := cut_mid2 B cb o.f2 pa (pa + pk) (by omega) (by have := Klo.out; omega) KCB.out.2
            rw [show pa + pk - pa = pk by omega] at hnn hCL
            rw [show ((pa + pk : Nat) : Int) = (pa : Int) + (pk : Int) by omega, ← Klo.out] at hcut2
            obtain ⟨W3, hW3⟩ : ∃ W3, W3 = w2.alloc (.cells #[.int .i64 (o.f0 + (pa : Int)), .int .i64 (pk : Int), .slice none 0 0] 37) := ⟨_, rfl⟩
            have hbA2 : base ≤ w2.heap.size := by omega
            have KA3 : Aside0 (Below w2.heap.size w2 W3) := ⟨by rw [hW3]; exact below_alloc (Below.refl _ _) _⟩
            have KB3 := Aside0.mk (KB2.out.keep KA3.out)
            have KW3 : Aside0 (Below base w W3) := ⟨KW2.out.trans (KA3.out.mono hbA2)⟩
            have KO3 := blk_below KO2.out KA3.out
            have K93 : Aside0 (W3.heap[w2.heap.size]? = some (.cells #[.int .i64 (o.f0 + (pa : Int)), .int .i64 (pk : Int), .slice none 0 0] 37)) := ⟨by rw [hW3]; exact heap_alloc_new _ _⟩
            have KCl := Aside0.mk (Eq_.clone_any W3 AL nn cL ((o.f2.drop pa).take pk) (by have h9 := hCL _ (Kd.C_below KCB2.out KA3.out); rwa [hnn] at h9) (by rw [← hnn, List.length_take]; omega))
            subst hW3
            obtain ⟨z0, z1, z2⟩ := obox_cells KO3
            obtain ⟨v0, v1, v2⟩ := KB3.out.cells
            have Kk := Aside0.mk (And.intro hk1 (And.intro hk2 hk3))
            have Knn := Aside0.mk hnn
            clear KO3 hnn hCL hso
            gi_wp2_with ((with_reducible refine gateW_store (t := 37) (p := 9) (v := .tmp 48) rfl ?_); apply Aside0.out)
            refine ⟨trivial, rfl, callsIn_wide.2 (KCl.out.mono ?_)⟩
            rintro e w6 ⟨v6, rfl, hO6, hb6⟩
            obtain ⟨A6, c6, rfl, hc6, hC6⟩ := hO6.slice
            obtain ⟨o7, ho7⟩ : ∃ o7 : S37, o7 = ⟨0, 0, (o.f2.drop pa).take pk⟩ := ⟨_, rfl⟩
            have hcut : cutO o (pa : Int) (pk : Int) = o7 := by rw [ho7]; unfold cutO; rw [if_neg (by omega), Int.toNat_natCast, Int.toNat_natCast]
            have KO6 : Aside0 (Row.OwnB w6 (w2.alloc (.cells #[.int .i64 (o.f0 + (pa : Int)), .int .i64 (pk : Int), .slice none 0 0] 37)).heap.size (.slice A6 o7.f2.length c6) o7.f2) := ⟨by rw [ho7]; exact hO6⟩
            have K96 := Aside0.mk (blk_below K93.out hb6)
            have Kb6 := Aside0.mk hb6
            have Kcut := Aside0.mk (And.intro hcut ho7)
            obtain ⟨ln, hln⟩ : ∃ ln, ln = o7.f2.length := ⟨_, rfl⟩
            have hln2 : ln = ((o.f2.drop pa).take pk).length := by rw [hln, ho7]
            rw [← hln2]
            have Kln := Aside0.mk hln
            clear hO6 hb6 hC6 hc6 hcut ho7 hln hln2 z0 z1 z2 v0 v1 v2 x0 x1 x2 y0 y1 y2 xf1
            gi_wp2_with ((with_reducible refine gateW_store (t := 37) (p := 9) (v := .tmp 48) rfl ?_); apply Aside0.out)
            refine ⟨?_⟩
            refine storeW rfl (.tmp 9) (.tmp 48) rfl w2.heap.size _ _ rfl rfl K96.out rfl rfl (by simp [Value.oneCell']) ?_
            intro w7 hg7 hB7 hE7 hS7
            have KA7 : Aside0 (Below w2.heap.size w2 w7) := ⟨hB7 _ _ (Nat.le_refl _) (KA3.out.trans (Kb6.out.mono KA3.out.size))⟩
            have KJ7 : Aside0 (J kk w7) := ⟨KJ.out _ _ _ KJ2.out (Rg.It.new KA7.out hbA2)⟩
            have KB7 := Aside0.mk (KB2.out.keep KA7.out)
            have KW7 : Aside0 (Below base w w7) := ⟨KW2.out.trans (KA7.out.mono hbA2)⟩
            have hlo7 : w0.heap.size + 2 ≤ (w2.alloc (.cells #[.int .i64 (o.f0 + (pa : Int)), .int .i64 (pk : Int), .slice none 0 0] 37)).heap.size := by have := KA3.out.size; omega
            have harg : PArg (w0.heap.size + 2) P kk w7 (.agg #[.int .i64 0, .int .i64 0, .slice A6 ln c6]) := ⟨o7, A6, c6, by rw [← Kcut.out.1]; exact KD4.out.2.1, by rw [Kln.out, Kcut.out.2], by rw [← Kln.out]; have h9 := own_other2 KO6.out K96.out hE7; rw [← Kln.out] at h9; exact h9.lower hlo7⟩
            obtain ⟨fn, tmps, assign, body, hy, hR⟩ := KY.out kk _ w7 KJ7.out KD4.out.1 harg
            have KR := Aside0.mk hR
            obtain ⟨z0, z1, z2⟩ := obox_cells hg7
            clear hR harg hg7 hB7 hE7 hS7 hlo7
            gi_wp2
            refine ⟨rfl, KR.out.mono ?_⟩
            rintro e W4 ⟨rfl, hJ4, hR4⟩
            have KB4 := Aside0.mk (KB7.out.rd hR4)
            have KJ4 := Aside0.mk hJ4
            have KW4 : Aside0 (Below base w W4) := ⟨KW7.out.trans hR4.below⟩
            have hws4 : w0.heap.size + 1 < W4.heap.size := by have := KA7.out.size; have := hR4.below.size; omega
            clear hJ4 hR4 hy z0 z1 z2
            obtain ⟨x0, x1, x2⟩ := KB4.out.cells
            have xf1 : W4.frozen? ⟨p2, 0, none⟩ = false := blk_frozen KB4.out.b2 0
            have xf2 : W4.frozen? ⟨p3, 0, none⟩ = false := blk_frozen KB4.out.b3 0
            gi_wp2
            have hne23 : p2 ≠ p3 := by omega
            have hne32 : p3 ≠ p2 := by omega
            gi_region
            obtain ⟨W5, hW5⟩ : ∃ W5, W5 = ((W4.setCell ⟨p2, 0, none⟩ (.int .i64 0)).setCell ⟨p3, 0, none⟩ (.int .i64 (n - (pk : Int)))).drew := ⟨_, rfl⟩
            rw [← hW5]
            have KJ5 : Aside0 (J (kk + 1) W5) := ⟨by rw [hW5]; exact KJ.out _ _ _ KJ4.out (((Rg.It.setOwn (own := fun k => k = p1 ∨ k = p2 ∨ k = p3) (a := ⟨p2, 0, none⟩) (Or.inr (Or.inl rfl)) hbp2 _).trans (Rg.It.setOwn (a := ⟨p3, 0, none⟩) (Or.inr (Or.inr rfl)) hbp3 _)).trans Rg.It.drew)⟩
            have KB5 : Aside0 (PB p1 p2 p3 (some ad) nl c 0 (n - (pk : Int)) W5) := ⟨by rw [hW5]; have h9 := (KB4.out.at2 0).at3 (n - (pk : Int)); exact ⟨h9.b1, h9.b2, h9.b3, h9.ne⟩⟩
            have KW5 : Aside0 (Below base w W5) := ⟨by rw [hW5]; exact ((KW4.out.setCell hbp2 _).setCell hbp3 _).drew⟩
            have hws5 : w0.heap.size + 1 < W5.heap.size := by rw [hW5]; show w0.heap.size + 1 < ((W4.setCell ⟨p2, 0, none⟩ (.int .i64 0)).setCell ⟨p3, 0, none⟩ (.int .i64 (n - (pk : Int)))).heap.size; rw [World.size_setCell, World.size_setCell]; exact hws4
            clear hW5 x0 x1 x2 xf1 xf2
            gi_wp2
            go_roundw
            case rel => exact ⟨j + 1, kk + 1, 0, n - (pk : Int), hltj, by go_num, by omega, by omega, by omega, by omega, KJ5, KB5, ⟨KD4.out.2.2, KD4.out.1⟩, ⟨_, Kg.out.2.2, by have := Ksz.out; omega⟩, KW5, hws5⟩
            case measure => simp [intOf]; omega
          · have hf2 : (o.f1 == 0) = false := by simp [hf1]
            obtain ⟨W3, hW3⟩ : ∃ W3, W3 = w2.alloc (.cells #[.int .i64 (o.f0 + at_), .int .i64 kx, .slice none 0 0] 37) := ⟨_, rfl⟩
            have hbA2 : base ≤ w2.heap.size := by omega
            have KA3 : Aside0 (Below w2.heap.size w2 W3) := ⟨by rw [hW3]; exact below_alloc (Below.refl _ _) _⟩
            have KJ3 : Aside0 (J kk W3) := ⟨KJ.out _ _ _ KJ2.out (Rg.It.new KA3.out hbA2)⟩
            have KB3 := Aside0.mk (KB2.out.keep KA3.out)
            have KW3 : Aside0 (Below base w W3) := ⟨KW2.out.trans (KA3.out.mono hbA2)⟩
            have hcut : cutO o at_ kx = ⟨o.f0 + at_, kx, []⟩ := if_pos (by have := bounds0 Kg.out.1 ha; omega)
            have harg : PArg (w0.heap.size + 2) P kk W3 (.agg #[.int .i64 (o.f0 + at_), .int .i64 kx, .slice none 0 0]) := ⟨⟨o.f0 + at_, kx, []⟩, none, 0, by rw [← hcut]; exact KD4.out.2.1, rfl, Row.OwnB.nil _ _⟩
            obtain ⟨fn, tmps, assign, body, hy, hR⟩ := KY.out kk _ W3 KJ3.out KD4.out.1 harg
            have KR := Aside0.mk hR
            have KO3 := blk_below KO2.out KA3.out
            subst hW3
            obtain ⟨z0, z1, z2⟩ := obox_cells KO3
            have Kk := Aside0.mk (And.intro hk1 (And.intro hk2 hk3))
            clear hR harg hcut KO3
            gi_wp2
            refine ⟨rfl, KR.out.mono ?_⟩
            rintro e W4 ⟨rfl, hJ4, hR4⟩
            have KB4 := Aside0.mk (KB3.out.rd hR4)
            have KJ4 := Aside0.mk hJ4
            have KW4 : Aside0 (Below base w W4) := ⟨KW3.out.trans hR4.below⟩
            have hws4 : w0.heap.size + 1 < W4.heap.size := by have := KA3.out.size; have := hR4.below.size; omega
            clear hJ4 hR4 hy z0 z1 z2 x0 x1 x2 y0 y1 y2 xf1
            obtain ⟨x0, x1, x2⟩ := KB4.out.cells
            have xf1 : W4.frozen? ⟨p2, 0, none⟩ = false := blk_frozen KB4.out.b2 0
            have xf2 : W4.frozen? ⟨p3, 0, none⟩ = false := blk_frozen KB4.out.b3 0
            gi_wp2
            have hne23 : p2 ≠ p3 := by omega
            have hne32 : p3 ≠ p2 := by omega
            gi_region
            obtain ⟨W5, hW5⟩ : ∃ W5, W5 = ((W4.setCell ⟨p2, 0, none⟩ (.int .i64 0)).setCell ⟨p3, 0, none⟩ (.int .i64 (n - kx))).drew := ⟨_, rfl⟩
            rw [← hW5]
            have KJ5 : Aside0 (J (kk + 1) W5) := ⟨by rw [hW5]; exact KJ.out _ _ _ KJ4.out (((Rg.It.setOwn (own := fun k => k = p1 ∨ k = p2 ∨ k = p3) (a := ⟨p2, 0, none⟩) (Or.inr (Or.inl rfl)) hbp2 _).trans (Rg.It.setOwn (a := ⟨p3, 0, none⟩) (Or.inr (Or.inr rfl)) hbp3 _)).trans Rg.It.drew)⟩
            have KB5 : Aside0 (PB p1 p2 p3 (some ad) nl c 0 (n - kx) W5) := ⟨by rw [hW5]; have h9 := (KB4.out.at2 0).at3 (n - kx); exact ⟨h9.b1, h9.b2, h9.b3, h9.ne⟩⟩
            have KW5 : Aside0 (Below base w W5) := ⟨by rw [hW5]; exact ((KW4.out.setCell hbp2 _).setCell hbp3 _).drew⟩
            have hws5 : w0.heap.size + 1 < W5.heap.size := by rw [hW5]; show w0.heap.size + 1 < ((W4.setCell ⟨p2, 0, none⟩ (.int .i64 0)).setCell ⟨p3, 0, none⟩ (.int .i64 (n - kx))).heap.size; rw [World.size_setCell, World.size_setCell]; exact hws4
            clear hW5 x0 x1 x2 xf1 xf2
            gi_wp2
            go_roundw
            case rel => exact ⟨j + 1, kk + 1, 0, n - kx, hltj, by go_num, by omega, by omega, by omega, by omega, KJ5, KB5, ⟨KD4.out.2.2, KD4.out.1⟩, ⟨_, Kg.out.2.2, by have := Ksz.out; omega⟩, KW5, hws5⟩
            case measure => simp [intOf]; omega
    · obtain rfl : j = nl := by omega
      have KJe : Aside0 (J P.length wr) := ⟨by
        have h9 := KD.out.1
        rw [Knl.out, List.drop_length, partsP] at h9
        have h10 := List.drop_eq_nil_iff.1 h9
        have h11 := KD.out.2
        rw [show P.length = kk by omega]
        exact KJk.out⟩
      gi_wp2
      go_end0
      exact ⟨⟨_, rfl⟩, KJe.out⟩
end Go.Proofs.Ytogplkochcalpaa.De
