/- Texts put together: Me5, Me6. -/
import Derived.Test.YtpdggoapjbjmhaaMe4
import Derived.Test.YtpdggoapjbjmhaaKG
import Derived.Test.YtpdggoapjbjmhaaKG
import Derived.Test.YtpdggoapjbjmhaaKG
import Derived.OwnWalkIn
/- Streams in chunks: what all chunks tell, by the program and by the document: walks. -/
set_option linter.unusedVariables false
set_option linter.unusedSimpArgs false
namespace Go.Proofs.Ytpdggoapjbjmhaa.Me
open Go.RowKit Go.Proofs.Ytpdggoapjbjmhaa.Fd Go.Proofs.Ytpdggoapjbjmhaa.Bg Go.Proofs.Ytpdggoapjbjmhaa.Lz Go.Proofs.Ytpdggoapjbjmhaa.Ma Go.Proofs.Ytpdggoapjbjmhaa.Bk Go.Proofs.YtpdggoapjbjmhaaW.PrintWords Go.Proofs.YtpdggoapjbjmhaaW.PrintLast Go.Proofs.YtpdggoapjbjmhaaW.PrintMore
/-- What chunks tell, one behind the other. -/
def dcs (im : List Int) : List Ck → List Int × Int
  | [] => ([], 0)
  | c :: l => if (chunk im c).2 ≠ 0 then ([], (chunk im c).2) else if (dcs im l).2 ≠ 0 then ([], (dcs im l).2) else ((chunk im c).1 ++ (dcs im l).1, 0)
def decode (im : List Int) (a t size : Int) : List Int × Int := if (chunks im a t size).2 ≠ 0 then ([], (chunks im a t size).2) else dcs im (chunks im a t size).1
def pre (d : List Int) (r : List Int × Int) : List Int × Int := if r.2 = 0 then (d ++ r.1, 0) else ([], r.2)
theorem pre_nil {d : List Int} : pre d ([], 0) = (d, 0) := by unfold pre; rw [if_pos rfl, List.append_nil]
theorem pre_bad {im d l c} (h : (chunk im c).2 ≠ 0) : pre d (dcs im (c :: l)) = ([], (chunk im c).2) := by
  rw [dcs, if_pos h]
  unfold pre
  rw [if_neg h]
theorem pre_good {im d l c} (h : (chunk im c).2 = 0) : pre d (dcs im (c :: l)) = pre (d ++ (chunk im c).1) (dcs im l) := by
  rw [dcs, if_neg (by rw [h]; simp)]
  unfold pre
  by_cases h2 : (dcs im l).2 = 0
  · simp [h2, List.append_assoc]
  · simp [h2]
theorem pre_start {im l} : pre [] (dcs im l) = dcs im l := by
  cases l with
  | nil => rfl
  | cons c l =>
    by_cases h : (chunk im c).2 = 0
    · rw [pre_good h, dcs, if_neg (by rw [h]; simp)]
      unfold pre
      by_cases h2 : (dcs im l).2 = 0
      · rw [if_pos h2, if_neg (by rw [h2]; simp), List.nil_append]
      · rw [if_neg h2, if_pos h2]
    · rw [pre_bad h, dcs, if_pos h]
theorem chunk_len {im : List Int} {c : Ck} (h : (chunk im c).2 = 0) : ((chunk im c).1.length : Int) = c.f1 ∧ rgt c = true := by
  unfold chunk at h ⊢
  by_cases h1 : rgt c = false
  · rw [if_pos h1] at h; cases h
  rw [if_neg h1] at h ⊢
  by_cases h2 : (im.length : Int) < c.f0 + 8 + c.f2
  · rw [if_pos h2] at h; cases h
  rw [if_neg h2] at h ⊢
  by_cases h3 : ((Sum.crc 0 (cutx im (c.f0 + 8) c.f2) : Nat) : Int) ≠ c.f4
  · rw [if_pos h3] at h; cases h
  rw [if_neg h3] at h ⊢
  by_cases h4 : (unp (cutx im (c.f0 + 8) c.f2) c.f3 c.f1).2 ≠ 0 ∨ ((unp (cutx im (c.f0 + 8) c.f2) c.f3 c.f1).1.length : Int) ≠ c.f1
  · rw [if_pos h4] at h; cases h
  rw [if_neg h4]
  exact ⟨Classical.byContradiction fun hh => h4 (Or.inr hh), by simpa using h1⟩
theorem chunk_bds {im : List Int} {c : Ck} : (chunk im c).1.length ≤ 8192 := by
  by_cases h : (chunk im c).2 = 0
  · obtain ⟨h1, h2⟩ := chunk_len h
    have := (rgt_iff c).1 h2
    omega
  · have h2 : (chunk im c).1 = [] := by
      unfold chunk at h ⊢
      split
      · rfl
      split
      · rfl
      split
      · rfl
      split
      · rfl
      · rename_i h1 h2 h3 h4
        rw [if_neg h1, if_neg h2, if_neg h3, if_neg h4] at h
        exact absurd rfl h
    rw [h2]
    exact Nat.zero_le _
def psum : List Ck → Int
  | [] => 0
  | c :: l => c.f1 + psum l
/-- What chunks of a stream are like. -/
theorem chs_fine {im : List Int} {t : Int} : ∀ (f : Nat) (p sz : Int), 0 ≤ sz → (chs im t f p sz).2 = 0 → psum (chs im t f p sz).1 = sz ∧ ∀ c ∈ (chs im t f p sz).1, rgt c = true ∧ c.f0 ≤ t
  | 0, _, _, _, h => by cases h
  | f + 1, p, sz, h0, h => by
    rw [chs] at h ⊢
    by_cases h1 : sz ≤ 0
    · rw [if_pos h1] at h ⊢
      by_cases h2 : p = t
      · rw [if_pos h2]
        exact ⟨by show (0 : Int) = sz; omega, fun c hc => by cases hc⟩
      · rw [if_neg h2] at h; cases h
    rw [if_neg h1] at h ⊢
    by_cases h2 : t < p + 8
    · rw [if_pos h2] at h; cases h
    rw [if_neg h2] at h ⊢
    by_cases h3 : rgt (chk im p) = true ∧ (chk im p).f1 = min sz 8192 ∧ p + 8 + (chk im p).f2 ≤ t
    · rw [if_pos h3] at h ⊢
      unfold cns at h ⊢
      by_cases h4 : (chs im t f (p + 8 + (chk im p).f2) (sz - min sz 8192)).2 = 0
      · rw [if_pos h4]
        obtain ⟨g1, g2⟩ := chs_fine f _ _ (by omega) h4
        refine ⟨?_, fun c hc => ?_⟩
        · show (chk im p).f1 + psum _ = sz
          rw [g1, h3.2.1]
          omega
        · rcases List.mem_cons.1 hc with rfl | hc
          · exact ⟨h3.1, by have h5 := (rgt_iff _).1 h3.1; have h6 := h3.2.2; show p ≤ t; omega⟩
          · exact g2 c hc
      · rw [if_neg h4] at h
        exact absurd h h4
    · rw [if_neg h3] at h; cases h
theorem chunks_fine {im : List Int} {a t size : Int} (h : (chunks im a t size).2 = 0) : 0 ≤ size ∧ size ≤ 16777216 ∧ psum (chunks im a t size).1 = size ∧ ∀ c ∈ (chunks im a t size).1, rgt c = true ∧ c.f0 ≤ im.length := by
  unfold chunks at h ⊢
  by_cases h1 : a < 0 ∨ a > t ∨ t > im.length ∨ size < 0 ∨ size > 16777216
  · rw [if_pos h1] at h; cases h
  · rw [if_neg h1] at h ⊢
    obtain ⟨g1, g2⟩ := chs_fine _ _ _ (by omega) h
    exact ⟨by omega, by omega, g1, fun c hc => ⟨(g2 c hc).1, by have := (g2 c hc).2; omega⟩⟩
theorem psum_pos : ∀ l : List Ck, (∀ c ∈ l, rgt c = true) → (l.length : Int) ≤ psum l
  | [], _ => Int.le_refl 0
  | c :: l, h => by
    have h1 := psum_pos l fun x hx => h x (List.mem_cons_of_mem _ hx)
    have h2 := (rgt_iff c).1 (h c List.mem_cons_self)
    show ((l.length + 1 : Nat) : Int) ≤ c.f1 + psum l
    omega
theorem at_C {w : World} {A : Option Addr} {n : Nat} {l : List Ck} (h : Kd.C kC w A n l) (k : Nat) (hk : k < n) : ∃ ad c r, l.drop k = c :: r ∧ l.drop (k + 1) = r ∧ c ∈ l ∧ A = some ad ∧ w.cell? (ad.add (k * 5)) = some (.int .i64 c.f0) ∧ w.cell? ⟨(ad.add (k * 5)).block, (ad.add (k * 5)).off + 1, none⟩ = some (.int .i64 c.f1) ∧ w.cell? ⟨(ad.add (k * 5)).block, (ad.add (k * 5)).off + 2, none⟩ = some (.int .i64 c.f2) ∧ w.cell? ⟨(ad.add (k * 5)).block, (ad.add (k * 5)).off + 3, none⟩ = some (.bool c.f3) ∧ w.cell? ⟨(ad.add (k * 5)).block, (ad.add (k * 5)).off + 4, none⟩ = some (.int .u32 c.f4) := by
  have hl : k < l.length := by rw [h.1]; exact hk
  obtain ⟨ad, e, h0, h1, h2, h3, h4⟩ := PMetaParts.at_T62 h (k : Int) (by omega) (by omega)
  have hr : PMetaParts.rd_T62 l (k : Int) = l[k] := by
    unfold PMetaParts.rd_T62
    rw [Int.toNat_natCast, List.getD_eq_getElem?_getD, List.getElem?_eq_getElem hl]
    rfl
  rw [hr] at h0 h1 h2 h3 h4
  rw [Int.toNat_natCast] at h0 h1 h2 h3 h4
  exact ⟨ad, l[k], l.drop (k + 1), List.drop_eq_getElem_cons hl, rfl, List.getElem_mem hl, e, h0, h1, h2, h3, h4⟩
theorem own_mem {w : World} {base g : Nat} {xs : List Int} (h : Cp.Mem w g xs) (hb : base ≤ g) (hm : xs.length ≤ 100000000) : Row.OwnB w base (.slice (some ⟨g, 0, none⟩) xs.length xs.length) xs := by
  have hh : w.heap[g]? = some (.cells (encs (Value.int .u8) xs).toArray 5 (0, 0)) := h
  exact Kd.R_of_own ⟨by rw [encs_length, Nat.mul_one], Or.inr ⟨g, xs.length, (encs (Value.int .u8) xs).toArray, rfl, hb, hh, Nat.le_refl _, by unfold maxLen; omega, by simp [encs], by show List.take (xs.length * 1) (encs (Value.int .u8) xs) = _; rw [List.take_of_length_le (by rw [encs_length]; omega)]⟩⟩ (fun _ _ => trivial)
theorem made_mem (w : World) (m : Nat) : Cp.Mem (w.alloc (.cells (madeCells #[Value.int .u8 0] m) 5)) w.heap.size (List.replicate m 0) := by
  have hl : madeCells #[Value.int .u8 0] m = (nums .u8 (List.replicate m 0)).toArray := by
    apply Array.ext'
    apply List.ext_getElem
    · simp [madeCells, nums]
    · intro i h1 h2
      simp [madeCells, Nat.mod_one, nums]
  unfold Cp.Mem
  rw [heap_alloc_new, hl]
theorem info8v : (Try.prog.info? 5).map (fun i => (i.zero, i.size, i.bytes)) = some (some (.int .u8 0), 1, 1) := by kernel_rfl
theorem splice_next (d ys : List Int) (r : Nat) (h : ys.length ≤ r) : splice (d ++ List.replicate r 0) d.length ys = (d ++ ys) ++ List.replicate (r - ys.length) 0 := by
  unfold splice
  rw [List.take_left, List.drop_append, List.drop_eq_nil_of_le (by omega), List.nil_append, List.drop_replicate]
  simp only [List.append_assoc]
  congr 3
  omega
set_option maxHeartbeats 2000000 in
set_option maxRecDepth 100000 in
theorem rdecode_any (w : World) (im : List Int) (A : Option Addr) (cc : Nat) (a t size : Int) (hC : Kd.C (Kd.int .u8) w A im.length im) (hc : im.length ≤ cc) (him : isB im) (hl : im.length ≤ 1000000) :
    Calls Try.prog 30 #[.slice A im.length cc, .int .i64 a, .int .i64 t, .int .i64 size] w fun e w' => ∃ v, e = .returned (.tuple #[v, .int .i64 (decode im a t size).2]) ∧ Row.OwnB w' w.heap.size v (decode im a t size).1 ∧ Below w.heap.size w w' := by
  have KH := Aside0.mk (rchunks_any w im A cc a t size hC hc him hl)
  have Kfine := Aside0.mk (@chunks_fine im a t size)
  have KD : Aside0 (decode im a t size = if (chunks im a t size).2 ≠ 0 then ([], (chunks im a t size).2) else dcs im (chunks im a t size).1) := ⟨rfl⟩
  generalize decode im a t size = R at KD ⊢
  generalize hX : chunks im a t size = X at KH KD Kfine
  obtain ⟨l, e0⟩ := X
  simp only at KH KD Kfine
  have KC : Aside0 (∀ (w1 : World) (c : Ck), Below w.heap.size w w1 → c.f0 ≤ 9223372036854775807 → Calls Try.prog 38 #[.slice A im.length cc, .agg (bx c)] w1 fun e w' => ∃ A1 c1, e = .returned (.tuple #[.slice A1 (chunk im c).1.length c1, .int .i64 (chunk im c).2]) ∧ Kd.C (Kd.int .u8) w' A1 (chunk im c).1.length (chunk im c).1 ∧ Below w1.heap.size w1 w') := ⟨fun w1 c hb hg => rchunk_any w1 im A cc c (Kd.C_below hC hb) hc him hl hg⟩
  obtain ⟨L, hL⟩ : ∃ L, L = im.length := ⟨_, rfl⟩
  rw [← hL] at KH KC Kfine hl ⊢
  have Kl1 := Aside0.mk hl
  clear hC hc him hl hL hX
  go_enter Try.func30, Try.ntmps30
  go_wp2_with (go_at_call 31; apply Aside0.out)
  refine ⟨?_⟩
  refine KH.out.mono ?_
  rintro e w1 ⟨v, rfl, hR, hB1⟩
  obtain ⟨Al, cl, rfl, -, hCl⟩ := hR.slice
  have KB1 := Aside0.mk hB1
  have KCl : Aside0 (∀ w', Below w1.heap.size w1 w' → Kd.C kC w' Al l.length l) := ⟨fun w' hb => Kd.C_below hCl hb⟩
  clear hR hB1 hCl
  by_cases h0 : e0 = 0
  · subst h0
    have Kg := Aside0.mk (Kfine.out rfl)
    have KR : Aside0 (pre [] (dcs im (l.drop 0)) = R) := ⟨by rw [List.drop_zero, pre_start, KD.out, if_neg (by simp)]⟩
    obtain ⟨nl, hnl⟩ : ∃ n, n = l.length := ⟨_, rfl⟩
    have hn1 : nl ≤ 16777216 := by have h1 := psum_pos l (fun c hc => (Kg.out.2.2.2 c hc).1); have := Kg.out.2.2.1; have := Kg.out.2.1; omega
    rw [← hnl] at KCl ⊢
    have Kn := Aside0.mk hnl
    clear hnl
    go_wp2
    go_loopw [12, 13] (fun v12 v13 wr => ∃ (k n : Nat) (A1 : Option Addr) (c1 : Nat) (d : List Int), v12 = .slice A1 n c1 ∧ v13 = .int .i64 k ∧ k ≤ nl ∧ n ≤ 8192 * k ∧ Aside0 (n = d.length) ∧ Aside0 (Row.OwnB wr w1.heap.size (.slice A1 n c1) d) ∧ Aside0 (Below w1.heap.size w1 wr) ∧ Aside0 (pre d (dcs im (l.drop k)) = R)) (fun _ i _ => nl - (intOf i).toNat)
    case atStart => exact ⟨0, 0, none, 0, [], rfl, rfl, Nat.zero_le _, Nat.le_refl _, ⟨rfl⟩, ⟨Row.OwnB.nil _ _⟩, ⟨Below.refl _ _⟩, KR⟩
    case round =>
      obtain ⟨k, n, A1, c1, d, rfl, rfl, hk, hn, Kd_, KO, KB, KP⟩ := hrel
      by_cases hlt : k < nl
      · obtain ⟨ad, c, r, hd1, hd2, hmem, rfl, x0, x1, x2, x3, x4⟩ := at_C (KCl.out wr KB.out) k hlt
        have KX := Aside0.mk (KC.out wr c (below_then KB1.out KB1.out.size KB.out) (by have := (Kg.out.2.2.2 c hmem).2; have := Kl1.out; omega))
        have hbd := chunk_bds (im := im) (c := c)
        have KPp := KP.out
        rw [hd1] at KPp
        have KPn : Aside0 ((chunk im c).2 = 0 → pre (d ++ (chunk im c).1) (dcs im (l.drop (k + 1))) = R) := ⟨fun h => by rw [← KPp, hd2, pre_good h]⟩
        have KPb : Aside0 ((chunk im c).2 ≠ 0 → R = ([], (chunk im c).2)) := ⟨fun h => by rw [← KPp, pre_bad h]⟩
        unfold bx at KX
        generalize chunk im c = Y at KX hbd KPn KPb
        obtain ⟨U, ue⟩ := Y
        simp only at KX hbd KPn KPb
        obtain ⟨m, hm⟩ : ∃ m, m = U.length := ⟨_, rfl⟩
        rw [← hm] at KX hbd
        have Km := Aside0.mk hm
        clear hd1 hd2 hmem KPp hm
        go_wp2_with (go_at_call 38; apply Aside0.out)
        refine ⟨?_⟩
        refine KX.out.mono ?_
        rintro e w3 ⟨A3, c3, rfl, hC3, hB3⟩
        have KB3 := Aside0.mk (below_then KB.out KB.out.size hB3)
        have KO3 := Aside0.mk (KO.out.below hB3)
        have KC3 := Aside0.mk hC3
        clear hC3 hB3 x0 x1 x2 x3 x4
        by_cases hu : ue = 0
        · subst hu
          go_wp2_with ((with_reducible refine gate_builtin (b := .append) (xs := #[.tmp 45, .tmp 46]) rfl ?_); apply Aside0.out)
          refine ⟨?_⟩
          refine Row.app_rows (w0 := w1) w1.heap.size rfl (.tmp 45) (.tmp 46) rfl (.slice A1 n c1) d U A3 m c3 rfl rfl KO3.out KC3.out KB3.out KB3.out.size (by rw [← Kd_.out]; omega) ?_
          intro zs A4 c4 w4 e1 e2 e3 h4 h5 e4 hb4 e5 hg4 e7
          have hzl : zs.length = n + m := by rw [e3.out, ← Kd_.out]
          have KO4 := e2
          rw [hzl] at KO4 ⊢
          have KB4 := hb4
          have Kz : Aside0 (n + m = zs.length) := ⟨hzl.symm⟩
          have KP4 : Aside0 (pre zs (dcs im (l.drop (k + 1))) = R) := ⟨by rw [e1.out]; exact KPn.out trivial⟩
          clear e1 e2 e3 h4 h5 e4 hb4 e5 hg4 e7 hzl
          go_wp2
          go_roundw
          case rel => exact ⟨k + 1, n + m, A4, c4, zs, rfl, by go_num, by omega, by omega, Kz, KO4, KB4, KP4⟩
          case measure => simp [intOf]; omega
        · have hne : (ue != 0) = true := by simp [hu]
          have KR6 := Aside0.mk (KPb.out hu)
          clear hu
          go_wp2
          go_ret2
          exact ⟨.slice none 0 0, by rw [KR6.out] <;> rfl, by rw [KR6.out]; exact Row.OwnB.nil _ _, below_then KB1.out KB1.out.size KB3.out⟩
      · obtain rfl : k = nl := by omega
        have KR6 : Aside0 (R = (d, 0)) := ⟨by rw [← KP.out, List.drop_eq_nil_of_le (by rw [Kn.out]; exact Nat.le_refl _)]; exact pre_nil⟩
        go_wp2
        go_ret2
        exact ⟨.slice A1 n c1, by rw [KR6.out] <;> rfl, by rw [KR6.out]; exact KO.out.lower KB1.out.size, below_then KB1.out KB1.out.size KB.out⟩
  · have hne : (e0 != 0) = true := by simp [h0]
    have KR6 : Aside0 (R = ([], e0)) := ⟨by rw [KD.out, if_pos h0]⟩
    clear h0
    go_wp2
    go_ret2
    exact ⟨.slice none 0 0, by rw [KR6.out] <;> rfl, by rw [KR6.out]; exact Row.OwnB.nil _ _, KB1.out⟩
theorem cut_exact (g n m : Nat) (h : n < m) (W : World) : (Instr.slice 37 (.slice (some ⟨g, 0, none⟩) m m) (some (.int .i64 (n : Int))) none none).run Try.prog W = .ok (.slice (some ⟨g, n, none⟩) (m - n) (m - n)) W := by
  have hu := Try.underlying37
  have h1 : (n : Int) ≤ (m : Int) := by omega
  have h2 : ¬ m = n := by omega
  have h3 : ¬ n = m := by omega
  go_simp
theorem chunks_any (w : World) (im : List Int) (A : Option Addr) (c : Nat) (a t size : Int) (hC : Kd.C (Kd.int .u8) w A im.length im) (hc : im.length ≤ c) (him : isB im) (hl : im.length ≤ 1000000) :
    Calls Try.prog 35 #[.slice A im.length c, .int .i64 a, .int .i64 t, .int .i64 size] w fun e w' => ∃ v, e = .returned (.tuple #[v, .int .i64 (chunks im a t size).2]) ∧ RC w' w.heap.size v (chunks im a t size).1 ∧ Below w.heap.size w w' :=
  PMetaParts.meta_Chunks.calls (im.length + 20) A c im a t size _ _ w hC hc (chunks_f im him hl a t size)
set_option maxHeartbeats 2000000 in
set_option maxRecDepth 100000 in
theorem decode_any (w : World) (im : List Int) (A : Option Addr) (cc : Nat) (a t size : Int) (hC : Kd.C (Kd.int .u8) w A im.length im) (hc : im.length ≤ cc) (him : isB im) (hl : im.length ≤ 1000000) :
    Calls Try.prog 39 #[.slice A im.length cc, .int .i64 a, .int .i64 t, .int .i64 size] w fun e w' => ∃ v, e = .returned (.tuple #[v, .int .i64 (decode im a t size).2]) ∧ Row.OwnB w' w.heap.size v (decode im a t size).1 ∧ Below w.heap.size w w' := by
  have KH := Aside0.mk (chunks_any w im A cc a t size hC hc him hl)
  have Kfine := Aside0.mk (@chunks_fine im a t size)
  have KD : Aside0 (decode im a t size = if (chunks im a t size).2 ≠ 0 then ([], (chunks im a t size).2) else dcs im (chunks im a t size).1) := ⟨rfl⟩
  generalize decode im a t size = R at KD ⊢
  generalize hX : chunks im a t size = X at KH KD Kfine
  obtain ⟨l, e0⟩ := X
  simp only at KH KD Kfine
  have KC : Aside0 (∀ (w1 : World) (c : Ck), Below w.heap.size w w1 → c.f0 ≤ 9223372036854775807 → Calls Try.prog 37 #[.slice A im.length cc, .agg (bx c)] w1 fun e w' => ∃ v, e = .returned (.tuple #[v, .int .i64 (chunk im c).2]) ∧ Row.OwnB w' w1.heap.size v (chunk im c).1 ∧ Below w1.heap.size w1 w') := ⟨fun w1 c hb hg => chunk_any w1 im A cc c (Kd.C_below hC hb) hc him hl hg⟩
  obtain ⟨L, hL⟩ : ∃ L, L = im.length := ⟨_, rfl⟩
  rw [← hL] at KH KC Kfine hl ⊢
  have Kl1 := Aside0.mk hl
  clear hC hc him hl hL hX
  by_cases h0 : e0 = 0
  · subst h0
    have Kg := Aside0.mk (Kfine.out rfl)
    have KR : Aside0 (pre [] (dcs im (l.drop 0)) = R) := ⟨by rw [List.drop_zero, pre_start, KD.out, if_neg (by simp)]⟩
    obtain ⟨m, rfl⟩ := Int.eq_ofNat_of_zero_le Kg.out.1
    have hm1 : m ≤ 16777216 := by have := Kg.out.2.1; omega
    have hmk := print_make_of (P := Try.prog) 37 5 (.int .u8 0) 1 Try.underlying37 info8v rfl (by decide) m (by omega)
    obtain ⟨nl, hnl⟩ : ∃ n, n = l.length := ⟨_, rfl⟩
    have hn1 : nl ≤ 16777216 := by have h1 := psum_pos l (fun c hc => (Kg.out.2.2.2 c hc).1); have := Kg.out.2.2.1; have := Kg.out.2.1; omega
    have Kn := Aside0.mk hnl
    go_enter Try.func39, Try.ntmps39
    go_wp2_with (go_at_call 35; apply Aside0.out)
    refine ⟨?_⟩
    refine KH.out.mono ?_
    rintro e w1 ⟨v, rfl, hR, hB1⟩
    obtain ⟨Al, cl, rfl, -, hCl⟩ := hR.slice
    have KB1 := Aside0.mk hB1
    have KCl : Aside0 (∀ w', Below w1.heap.size w1 w' → Kd.C kC w' Al l.length l) := ⟨fun w' hb => Kd.C_below hCl hb⟩
    have KM0 := Aside0.mk (made_mem w1 m)
    have KB0 := Aside0.mk (below_alloc (Below.refl _ w1) (.cells (madeCells #[Value.int .u8 0] m) 5))
    obtain ⟨g, hg⟩ : ∃ g, g = w1.heap.size := ⟨_, rfl⟩
    rw [← hnl] at KCl ⊢
    clear hR hB1 hCl hnl
    go_wp2
    rw [← hg] at KM0 ⊢
    have Kgg := Aside0.mk hg
    clear hmk hg
    go_loopw [13, 33] (fun v13 v33 wr => ∃ (k n : Nat) (d : List Int), v13 = .int .i64 n ∧ v33 = .int .i64 k ∧ k ≤ nl ∧ n ≤ m ∧ Aside0 (n = d.length) ∧ Aside0 ((n : Int) + psum (l.drop k) = (m : Int)) ∧ Aside0 (Cp.Mem wr g (d ++ List.replicate (m - n) 0)) ∧ Aside0 (Below w1.heap.size w1 wr) ∧ Aside0 (pre d (dcs im (l.drop k)) = R)) (fun _ i _ => nl - (intOf i).toNat)
    case atStart => exact ⟨0, 0, [], rfl, rfl, Nat.zero_le _, Nat.zero_le _, ⟨rfl⟩, ⟨by rw [List.drop_zero, Kg.out.2.2.1]; omega⟩, KM0, KB0, KR⟩
    case round =>
      obtain ⟨k, n, d, rfl, rfl, hk, hn, Kd_, Ks, KM, KB, KP⟩ := hrel
      by_cases hlt : k < nl
      · obtain ⟨ad, c, r, hd1, hd2, hmem, rfl, x0, x1, x2, x3, x4⟩ := at_C (KCl.out wr KB.out) k hlt
        have hgc := (rgt_iff c).1 (Kg.out.2.2.2 c hmem).1
        have hpr := psum_pos r (fun x hx => (Kg.out.2.2.2 x (List.mem_of_mem_drop (i := k) (by rw [hd1]; exact List.mem_cons_of_mem _ hx))).1)
        have Ks2 : Aside0 ((n : Int) + c.f1 + psum (l.drop (k + 1)) = (m : Int)) := ⟨by rw [← Ks.out, hd1, hd2]; show _ = (n : Int) + (c.f1 + psum r); omega⟩
        have hfit : (n : Int) + c.f1 ≤ m := by have := Ks2.out; rw [hd2] at this; omega
        have hnm : n < m := by omega
        have hf0 := (Kg.out.2.2.2 c hmem).2
        have KX : Aside0 (∀ w3, Below wr.heap.size wr w3 → Calls Try.prog 37 #[.slice A L cc, .agg (bx c)] w3 fun e w' => ∃ v, e = .returned (.tuple #[v, .int .i64 (chunk im c).2]) ∧ Row.OwnB w' w3.heap.size v (chunk im c).1 ∧ Below w3.heap.size w3 w') := ⟨fun w3 hb => KC.out w3 c (below_then (below_then KB1.out KB1.out.size KB.out) (below_then KB1.out KB1.out.size KB.out).size hb) (by have := Kl1.out; omega)⟩
        have Kbox : Aside0 (Below wr.heap.size wr (wr.alloc (.cells #[.int .i64 c.f0, .int .i64 c.f1, .int .i64 c.f2, .bool c.f3, .int .u32 c.f4] 62))) := ⟨below_alloc (Below.refl _ _) _⟩
        have Klen := Aside0.mk (@chunk_len im c)
        have KPp := KP.out
        rw [hd1] at KPp
        have KPn : Aside0 ((chunk im c).2 = 0 → pre (d ++ (chunk im c).1) (dcs im (l.drop (k + 1))) = R) := ⟨fun h => by rw [← KPp, hd2, pre_good h]⟩
        have KPb : Aside0 ((chunk im c).2 ≠ 0 → R = ([], (chunk im c).2)) := ⟨fun h => by rw [← KPp, pre_bad h]⟩
        unfold bx at KX
        generalize chunk im c = Y at KX KPn KPb Klen
        obtain ⟨U, ue⟩ := Y
        simp only at KX KPn KPb Klen
        have Kf := Aside0.mk (And.intro hgc hfit)
        clear hd1 hd2 hmem KPp hpr hgc hfit hf0
        go_wp2_with (go_at_call 37; apply Aside0.out)
        refine ⟨?_⟩
        refine (KX.out _ Kbox.out).mono ?_
        rintro e w3 ⟨v3, rfl, hO3, hB3⟩
        obtain ⟨A3, c3, rfl, -, hC3⟩ := hO3.slice
        have KB3' := Aside0.mk (below_then Kbox.out Kbox.out.size hB3)
        have KB3 := Aside0.mk (below_then KB.out KB.out.size KB3'.out)
        have KM3 : Aside0 (Cp.Mem w3 g (d ++ List.replicate (m - n) 0)) := ⟨blk_below KM.out KB3'.out⟩
        have KC3 := Aside0.mk hC3
        clear hC3 hB3 hO3 x0 x1 x2 x3 x4
        by_cases hu : ue = 0
        · subst hu
          have hlen : (U.length : Int) = c.f1 := (Klen.out rfl).1
          obtain ⟨u, hu⟩ : ∃ u, u = U.length := ⟨_, rfl⟩
          rw [← hu] at hlen KC3 ⊢
          have hfit2 : n + u ≤ m := by have := Kf.out.2; omega
          have hnext : Aside0 (((n + u : Nat) : Int) + psum (l.drop (k + 1)) = (m : Int)) := ⟨by have := Ks2.out; omega⟩
          have Ku := Aside0.mk hu
          have hsl := fun W => cut_exact g n m hnm W
          clear hlen hu
          go_wp2_with ((with_reducible refine gate_builtin (b := .copy) (xs := #[.tmp 49, .tmp 50]) rfl ?_); apply Aside0.out)
          refine ⟨?_⟩
          refine Cp.copy_mem rfl (.tmp 49) (.tmp 50) rfl g n (m - n) (m - n) A3 u c3 (d ++ List.replicate (m - n) 0) U rfl rfl KM3.out (by rw [List.length_append, List.length_replicate, ← Kd_.out]; omega) KC3.out ?_
          intro w5 KM5 KO5
          have hT : U.take (m - n) = U := List.take_of_length_le (by rw [← Ku.out]; omega)
          rw [hT] at KM5 ⊢
          have KM6 : Aside0 (Cp.Mem w5 g ((d ++ U) ++ List.replicate (m - (n + u)) 0)) := ⟨by
            have h := KM5.out
            rw [Kd_.out, splice_next d U _ (by rw [← Ku.out, ← Kd_.out]; omega)] at h
            rw [show m - (n + u) = m - d.length - U.length by rw [← Ku.out, ← Kd_.out]; omega]
            exact h⟩
          have KB5 : Aside0 (Below w1.heap.size w1 w5) := ⟨KB3.out.trans (KO5.out.1.mono (by rw [Kgg.out]; exact Nat.le_refl _))⟩
          have KP5 : Aside0 (pre (d ++ U) (dcs im (l.drop (k + 1))) = R) := ⟨by first | exact KPn.out rfl | exact KPn.out trivial⟩
          have Kd5 : Aside0 (n + u = (d ++ U).length) := ⟨by rw [List.length_append, Kd_.out, Ku.out]⟩
          rw [← Ku.out]
          clear KM5 KO5 hT hsl
          go_wp2
          go_roundw
          case rel => exact ⟨k + 1, n + u, d ++ U, by go_num, by go_num, by omega, hfit2, Kd5, hnext, KM6, KB5, KP5⟩
          case measure => simp [intOf]; omega
        · have hne : (ue != 0) = true := by simp [hu]
          have KR6 := Aside0.mk (KPb.out hu)
          clear hu
          go_wp2
          go_ret2
          exact ⟨.slice none 0 0, by rw [KR6.out] <;> rfl, by rw [KR6.out]; exact Row.OwnB.nil _ _, below_then KB1.out KB1.out.size KB3.out⟩
      · obtain rfl : k = nl := by omega
        have KR6 : Aside0 (R = (d, 0)) := ⟨by rw [← KP.out, List.drop_eq_nil_of_le (by rw [Kn.out]; exact Nat.le_refl _)]; exact pre_nil⟩
        have hnm : n = m := by
          have h := Ks.out
          rw [List.drop_eq_nil_of_le (by rw [Kn.out]; exact Nat.le_refl _)] at h
          have h2 : (n : Int) + 0 = (m : Int) := h
          omega
        subst hnm
        have KM6 := KM.out
        rw [Nat.sub_self, List.replicate_zero, List.append_nil] at KM6
        have KO6 : Aside0 (Row.OwnB wr w.heap.size (.slice (some ⟨g, 0, none⟩) n n) d) := ⟨by
          have h := own_mem KM6 (show w.heap.size ≤ g by rw [Kgg.out]; exact KB1.out.size) (by rw [← Kd_.out]; omega)
          rwa [← Kd_.out] at h⟩
        clear KM6
        go_wp2
        go_ret2
        exact ⟨_, by rw [KR6.out] <;> rfl, by rw [KR6.out]; exact KO6.out, below_then KB1.out KB1.out.size KB.out⟩
  · have hne : (e0 != 0) = true := by simp [h0]
    have KR6 : Aside0 (R = ([], e0)) := ⟨by rw [KD.out, if_pos h0]⟩
    clear h0
    go_enter Try.func39, Try.ntmps39
    go_wp2_with (go_at_call 35; apply Aside0.out)
    refine ⟨?_⟩
    refine KH.out.mono ?_
    rintro e w1 ⟨v, rfl, hR, hB1⟩
    obtain ⟨Al, cl, rfl, -, hCl⟩ := hR.slice
    have KB1 := Aside0.mk hB1
    clear hR hB1 hCl
    go_wp2
    go_ret2
    exact ⟨.slice none 0 0, by rw [KR6.out] <;> rfl, by rw [KR6.out]; exact Row.OwnB.nil _ _, KB1.out⟩
end Go.Proofs.Ytpdggoapjbjmhaa.Me
/- Streams in chunks: a stream's pieces, one by one: the iterator's walk. -/
set_option linter.unusedVariables false
set_option linter.unusedSimpArgs false
namespace Go.Proofs.Ytpdggoapjbjmhaa.Me
open Go.RowKit Go.Proofs.Ytpdggoapjbjmhaa.Fd Go.Proofs.Ytpdggoapjbjmhaa.Bg Go.Proofs.Ytpdggoapjbjmhaa.Lz Go.Proofs.Ytpdggoapjbjmhaa.Ma Go.Proofs.Ytpdggoapjbjmhaa.Bk Go.Proofs.YtpdggoapjbjmhaaW.PrintWords Go.Proofs.YtpdggoapjbjmhaaW.PrintLast Go.Proofs.YtpdggoapjbjmhaaW.PrintMore
attribute [local go_sem] Oper.semAt_some
/-- A piece of a stream. -/
def piece (b : List Int) (k : Nat) : List Int := (b.drop (8192 * k)).take 8192
def cnt (n : Nat) : Nat := (n + 8191) / 8192
theorem cut_head (A : Option Addr) (c n m : Nat) (b : List Int) (hn : b.length = n) (hm : m ≤ n) (hc : n ≤ c) : (∀ W : World, (Instr.slice 37 (.slice A n c) none (some (.int .i64 (m : Int))) none).run Try.prog W = .ok (.slice A m c) W) ∧ ∀ w : World, Kd.C (Kd.int .u8) w A n b → Kd.C (Kd.int .u8) w A m (b.take m) := by
  subst hn
  constructor
  · intro W
    have hu := Try.underlying37
    have h1 : (m : Int) ≤ (c : Int) := by omega
    have h2 : (0 : Int) ≤ (m : Int) := by omega
    go_simp
  · intro w hC
    have h := Kd.C_take hC hm
    rwa [List.length_take, Nat.min_eq_left hm] at h
theorem OwnB_frame {w w1 : World} {base : Nat} {v : Value} {xs : List Int} (h : Row.OwnB w base v xs) (hb : ∀ k, v.ownBlock = some k → w1.heap[k]? = w.heap[k]?) : Row.OwnB w1 base v xs := by
  obtain ⟨h0, inner, ho, hr⟩ := h
  exact ⟨h0, inner, own_move ho hb, hr⟩
theorem OwnB_st {w w1 : World} {base b0 : Nat} {own : Nat → Prop} {v : Value} {xs : List Int} (h : Row.OwnB w base v xs) (hs : Rf.St b0 own w w1) (ho : ∀ k, own k → k < base) : Row.OwnB w1 base v xs := by
  refine OwnB_frame h fun k hk => ?_
  obtain ⟨cells, hc⟩ := own_typed (Kd.own_of_R h) k hk
  have hlt := (World.ownsRow.lt (Kd.own_of_R h) k hk).1
  rw [hc]
  exact hs.same k _ hc rfl (fun hn => by have := ho k hn; omega)
/-- What yield is given. -/
def Arg (w : World) (base : Nat) (b : List Int) (k : Nat) (v : Value) : Prop := ∃ A n c, v = .slice A n c ∧ n = (piece b k).length ∧ n ≤ c ∧ ∀ W, Below base w W → Kd.C (Kd.int .u8) W A n (piece b k)
set_option maxHeartbeats 1000000 in
set_option maxRecDepth 100000 in
theorem pieces_iter (w w0 : World) (base p : Nat) (b : List Int) (L : Nat) (hL : L = b.length) (hN : L ≤ 16777216) (A : Option Addr) (c : Nat) (hc : L ≤ c) (hp : base ≤ p) (hbox : w0.heap[p]? = some (.cells #[.slice A L c] 37 (0, 0))) (hC : ∀ W, Below base w W → Kd.C (Kd.int .u8) W A L b) :
    Rf.Iter Try.prog 71 #[.pointer (some ⟨p, 0, none⟩)] base (fun k => k = p) (cnt L) (fun k _ v => Arg w base b k v) w0 := by
  intro l J W hW hsz hstab hY h0
  have hpw : p < w0.heap.size := (Array.getElem?_eq_some_iff.1 hbox).1
  have hcell0 : W.heap[p]? = some (.cells #[.slice A L c] 37 (0, 0)) := (hW.block p hpw).trans hbox
  have KL := Aside0.mk hL
  have KJ := Aside0.mk hstab
  have KY := Aside0.mk hY
  have K0 := Aside0.mk h0
  have KC := Aside0.mk hC
  have Kp := Aside0.mk hp
  have Kcell := Aside0.mk hcell0
  clear hL hstab hY h0 hC hW hbox hsz hp
  have hcw : W.cell? ⟨p, 0, none⟩ = some (.slice A L c) := (cell_of_row _ _ _ _ _ _ hcell0).trans rfl
  clear hcell0
  refine callsIn_of_wp Try.func71 rfl trivial ?_ rfl
  simp only [Try.ntmps71, List.size_toArray, List.length_cons, List.length_nil, Nat.reduceAdd, Nat.reduceSub, Array.replicate_succ, Array.replicate_zero, List.push_toArray, List.append_toArray, List.nil_append, List.cons_append]
  gi_wp2
  clear hcw
  gi_loopw [3] (fun _ wr => ∃ (k s r : Nat) (A1 : Option Addr) (c1 : Nat), s + r = L ∧ r ≤ c1 ∧ Aside0 (8192 * k = s ∨ (r = 0 ∧ k = cnt L)) ∧ Aside0 (r = 0 → k = cnt L) ∧ Aside0 (J k wr) ∧ Aside0 (wr.heap[p]? = some (.cells #[.slice A1 r c1] 37 (0, 0))) ∧ Aside0 (∀ W, Below base w W → Kd.C (Kd.int .u8) W A1 r (b.drop s))) (fun _ wr => match wr.cell? ⟨p, 0, none⟩ with | some (.slice _ n _) => n | _ => 0)
  case atStart => exact ⟨0, 0, L, A, c, by omega, hc, ⟨Or.inl rfl⟩, ⟨fun h => by rw [h]; rfl⟩, K0, Kcell, ⟨fun W hB => by rw [List.drop_zero]; exact KC.out W hB⟩⟩
  case round =>
    obtain ⟨k, s, r, A1, c1, hs, hr, Kk, Kz, KJk, Kc1, KC1⟩ := hrel
    have hcw : wr.cell? ⟨p, 0, none⟩ = some (.slice A1 r c1) := (cell_of_row _ _ _ _ _ _ Kc1.out).trans rfl
    have hmu : (match wr.cell? ⟨p, 0, none⟩ with | some (.slice _ n _) => n | _ => 0) = r := by rw [hcw]
    have Kmu := Aside0.mk hmu
    clear hmu
    by_cases hlt : 0 < r
    · have hks : 8192 * k = s := by
        rcases Kk.out with h | ⟨h, -⟩
        · exact h
        · omega
      obtain ⟨n, hn⟩ : ∃ n, n = min r 8192 := ⟨_, rfl⟩
      have hkN : k < cnt L := by unfold cnt; omega
      have hpc : piece b k = (b.drop s).take n := by
        unfold piece
        rw [hks]
        by_cases h : r ≤ 8192
        · rw [List.take_of_length_le (by rw [List.length_drop, ← KL.out]; omega), List.take_of_length_le (by rw [List.length_drop, ← KL.out]; omega)]
        · rw [show n = 8192 by omega]
      have hdl : (b.drop s).length = r := by rw [List.length_drop, ← KL.out]; omega
      obtain ⟨hcut1, hC2⟩ := cut_head A1 c1 r n (b.drop s) hdl (by omega) hr
      have harg : Arg w base b k (.slice A1 n c1) := ⟨A1, n, c1, rfl, by rw [hpc, List.length_take, hdl]; omega, by omega, fun W hB => by rw [hpc]; exact hC2 W (KC1.out W hB)⟩
      obtain ⟨A2, m, c2, hm, hmc, hcut2, hC3⟩ := cut_tail A1 c1 (b.drop s) n (by rw [hdl]; omega) (by rw [hdl]; exact hr)
      rw [hdl] at hcut2 hC3
      have hm2 : m = r - n := by rw [hm, List.length_drop, hdl]
      subst hm2
      have KC4 : Aside0 (∀ W, Below base w W → Kd.C (Kd.int .u8) W A2 (r - n) (b.drop (s + n))) := ⟨fun W hB => by
        have h := hC3 W (KC1.out W hB)
        rwa [List.drop_drop] at h⟩
      obtain ⟨fn, tmps, assign, body, hy, hR⟩ := KY.out k (.slice A1 n c1) wr KJk.out hkN harg
      have KR := Aside0.mk hR
      have hmin : (if (8192 : Int) < (r : Int) then (8192 : Int) else (r : Int)) = (n : Int) := by split <;> omega
      have Kn := Aside0.mk (And.intro hks (And.intro hn (And.intro hkN hmc)))
      have hpos : (r : Int) > 0 := by omega
      clear hks hn hkN hpc hdl hC2 harg hm hC3 hR hmc
      gi_wp2
      refine ⟨rfl, KR.out.mono ?_⟩
      rintro e W3 ⟨rfl, hJ3, hk3⟩
      have Kc3 := Aside0.mk ((hk3.own p rfl).trans Kc1.out)
      have hcw3 : W3.cell? ⟨p, 0, none⟩ = some (.slice A1 r c1) := (cell_of_row _ _ _ _ _ _ Kc3.out).trans rfl
      have hfr3 : W3.frozen? ⟨p, 0, none⟩ = false := blk_frozen Kc3.out 0
      have KJ3 := Aside0.mk hJ3
      clear hJ3 hk3 hcw hy
      gi_wp2
      go_roundw
      case rel =>
        refine ⟨k + 1, s + n, r - n, A2, c2, ?_, Kn.out.2.2.2, ⟨?_⟩, ⟨?_⟩, ⟨KJ.out _ _ _ KJ3.out (Rf.It.setOwn (own := fun k => k = p) (a := ⟨p, 0, none⟩) rfl Kp.out _)⟩, ⟨?_⟩, KC4⟩
        · have := Kn.out.2.1; omega
        · obtain ⟨h1, h2, h3, -⟩ := Kn.out
          by_cases h : r ≤ 8192
          · exact Or.inr ⟨by omega, by unfold cnt at h3 ⊢; omega⟩
          · exact Or.inl (by omega)
        · intro h
          obtain ⟨h1, h2, h3, -⟩ := Kn.out
          unfold cnt at h3 ⊢
          omega
        · have h := blk_set Kc3.out 0 (.slice A2 (r - n) c2)
          exact h
      case measure =>
        rw [Kmu.out]
        have h : (W3.setCell ⟨p, 0, none⟩ (.slice A2 (r - n) c2)).cell? ⟨p, 0, none⟩ = some (.slice A2 (r - n) c2) := (cell_of_row _ _ _ _ _ _ (blk_set Kc3.out 0 (.slice A2 (r - n) c2))).trans rfl
        rw [h]
        have := Kn.out.2.1
        show r - n < r
        omega
    · obtain rfl : r = 0 := by omega
      have KJe : Aside0 (J (cnt L) wr) := ⟨by rw [← Kz.out rfl]; exact KJk.out⟩
      gi_wp2
      go_end0
      exact ⟨⟨_, rfl⟩, KJe.out⟩
end Go.Proofs.Ytpdggoapjbjmhaa.Me
