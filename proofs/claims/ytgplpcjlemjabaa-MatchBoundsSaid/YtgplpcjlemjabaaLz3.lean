/- Blocks are unpacked: a sequence behind what there is. -/
import Derived.Test.YtgplpcjlemjabaaLz1
import Derived.Test.YtgplpcjlemjabaaRow
import Derived.Test.YtgplpcjlemjabaaWZeros
import Derived.Laws.CopyOwn
import Derived.Laws.OwnMore
set_option linter.unusedVariables false
set_option linter.unusedSimpArgs false
namespace Go.Proofs.Ytgplpcjlemjabaa.Lz
open Go.RowKit Go.Proofs.YtgplpcjlemjabaaW.PrintWords Go.Proofs.YtgplpcjlemjabaaW.PrintLast Go.Proofs.YtgplpcjlemjabaaW.PrintMore
/-- A copy byte by byte. -/
def cp (out : List Int) (off : Nat) : Nat → List Int
  | 0 => out
  | k + 1 => cp out off k ++ [(cp out off k).getD ((cp out off k).length - off) 0]
theorem cp_length (out : List Int) (off : Nat) : ∀ k, (cp out off k).length = out.length + k
  | 0 => rfl
  | k + 1 => by simp [cp, cp_length out off k]; omega
theorem lit_cells {w : World} {A : Option Addr} {lit : List Int} (h : ReadsOf (Value.int .u8) (0 : Int) w A lit.length lit) (hp : 0 < lit.length) : ∃ ad, A = some ad ∧ ∀ j v, (nums .u8 lit)[j]? = some v → w.cell? (ad.add j) = some v := by
  obtain ⟨ad, had, hc⟩ := h.2.2 hp
  refine ⟨ad, had, fun j v hj => ?_⟩
  have hlt : j < lit.length := by
    have := (List.getElem?_eq_some_iff.1 hj).1
    simpa [nums] using this
  have h3 := hc j hlt
  have h4 : v = .int .u8 (lit.getD j 0) := by
    simp only [nums, List.getElem?_map] at hj
    rw [List.getElem?_eq_getElem hlt] at hj
    simp at hj
    rw [List.getD_eq_getElem?_getD, List.getElem?_eq_getElem hlt]
    exact hj.symm
  rw [h4]
  exact h3
/-- What the copy leaves. -/
theorem own_copied {w : World} {base q cap : Nat} {xs zs lit : List Int} {cur : List Value} (hq : base ≤ q) (hcap : xs.length + lit.length ≤ cap) (hmax : cap ≤ maxLen) (hcs : cur.length = cap) (htk : cur.take (xs.length + lit.length) = encs (Value.int .u8) (xs ++ zs)) (h : w.heap[q]? = some (.cells (splice cur xs.length (nums .u8 lit)).toArray 5 (0, 0))) : Row.OwnB w base (.slice (some ⟨q, 0, none⟩) (xs.length + lit.length) cap) (xs ++ lit) := by
  have hl : (nums .u8 lit).length = lit.length := by simp [nums]
  have hlen : (xs ++ lit).length = xs.length + lit.length := by simp
  refine Kd.R_of_own ?_ (fun _ _ => trivial)
  rw [hlen]
  refine ⟨by simp [encs], Or.inr ⟨q, cap, _, rfl, hq, h, hcap, hmax, by simp [splice, hl]; omega, ?_⟩⟩
  have h1 : cur.take xs.length = encs (Value.int .u8) xs := by
    have h2 := congrArg (List.take xs.length) htk
    rw [List.take_take, Nat.min_eq_left (by omega)] at h2
    rw [h2]
    simp [encs]
  simp only [List.toList_toArray, Nat.mul_one]
  unfold splice
  rw [h1, ← List.append_assoc, List.take_append_of_le_length (by simp [encs, nums]), List.take_of_length_le (by simp [encs, nums])]
  simp [encs, nums]
set_option maxRecDepth 10000 in
theorem copy_own_step {ops : Array Oper} {o : Oper} {a : Act} {w : World} {K : Act → World → Prop} {Q : Exit → Act → World → Prop} {E : Prop} (hgd : o.guard = none) (d s : Operand)
    (ho : o.op = .call { callee := .builtin .copy, args := #[d, s], argTypes := #[22, 22] }) {base : Nat} (dp A2 A3 : Option Addr) (dc c2 c3 : Nat) (xs zs lit : List Int) (hz : zs.length = lit.length)
    (hd : a.eval d = .slice dp lit.length dc) (hs : a.eval s = .slice A2 lit.length c2) (HO : Row.OwnB w base (.slice A3 (xs.length + lit.length) c3) (xs ++ zs)) (hdp : 0 < lit.length → ∀ q, A3 = some ⟨q, 0, none⟩ → dp = some ⟨q, xs.length, none⟩)
    (HC : ReadsOf (Value.int .u8) (0 : Int) w A2 lit.length lit) (h : ∀ w', Row.OwnB w' base (.slice A3 (xs.length + lit.length) c3) (xs ++ lit) → w.grownBy w' (Value.slice A3 (xs.length + lit.length) c3).ownBlock → K (a.put o.dst (goInt lit.length)) w') :
    if Region.wanted o (yielded ops a.tmps) = true then Oper.wp Try.prog o a w K Q else E := by
  have hw : Region.wanted o (yielded ops a.tmps) = true := by simp [Region.wanted, hgd]
  rw [if_pos hw]
  have hu : Try.prog.underlying 22 = some (.slice 5) := Try.underlying22
  have hsz : (Try.prog.info? 5).map (·.size) = some 1 := by kernel_rfl
  by_cases h0 : lit = []
  · subst h0
    obtain rfl : zs = [] := List.eq_nil_of_length_eq_zero hz
    have hrun := run_copy_none (P := Try.prog) w 22 22 o.type 5 dp A2 _ dc _ c2 hu hsz (by simp : Nat.min ([] : List Int).length ([] : List Int).length = 0)
    simp only [List.length_nil] at hd hs hrun
    unfold Oper.wp
    simp [execOp, ho, resolve, invoke, builtin, hd, hs, hrun, Result.andThen]
    exact h w (by simpa using HO) ⟨rfl, rfl, rfl, Nat.le_refl _, fun _ _ _ => rfl⟩
  · have hlp : 0 < lit.length := List.length_pos_iff.2 h0
    have hl : (nums .u8 lit).length = lit.length := by simp [nums]
    obtain ⟨hle', hv | ⟨q, cap, cur, hv, hq, hh, h1, h2, h3, h4⟩⟩ := Kd.own_of_R HO
    · simp only [List.length_append] at hv
      omega
    · injection hv with e1 e2 e3
      subst e1 e3
      simp only [List.length_append, hz, Nat.mul_one] at h1 h3 h4
      obtain rfl := hdp hlp q rfl
      obtain ⟨ad, rfl, hsrc⟩ := lit_cells HC hlp
      have hrun := run_copy_row (P := Try.prog) w 22 22 o.type 5 q xs.length lit.length dc ad lit.length c2 cur 5 (nums .u8 lit) hu hsz hh (by simp [nums]) hsrc (by rw [hl]; omega) (by intro u hu; simp only [nums, List.mem_map] at hu; obtain ⟨x, -, rfl⟩ := hu; rfl)
      rw [hl] at hrun
      unfold Oper.wp
      simp [execOp, ho, resolve, invoke, builtin, hd, hs, hrun, Result.andThen]
      refine h _ (own_copied (cur := cur.toList) (zs := zs) hq h1 h2 (by simpa using h3) ?_ ?_) ⟨rfl, rfl, rfl, by simp [World.setRow], fun k _ hk => setRow_other w q k _ (fun e => hk (by simp [Value.ownBlock, e]))⟩
      · exact h4
      · have := setRow_heap w q _ (splice cur.toList xs.length (nums .u8 lit)).toArray _ (0, 0) hh
        unfold splice at this
        unfold splice
        rw [hl] at this
        rw [hl]
        exact this
theorem grown_trans {w w1 w2 : World} {r r1 : Option Nat} (h : w.grownBy w1 r) (h2 : w1.grownBy w2 r1) (hr : r1 = r ∨ ∃ b, r1 = some b ∧ w.heap.size ≤ b) : w.grownBy w2 r :=
  ⟨h2.os.trans h.os, h2.tape.trans h.tape, h2.output.trans h.output, Nat.le_trans h.size h2.size, fun k hk hne => (h2.block k (Nat.lt_of_lt_of_le hk h.size) (by
    rcases hr with e | ⟨b, e, hb⟩
    · rw [e]; exact hne
    · rw [e]; intro e2; injection e2 with e2; omega)).trans (h.block k hk hne)⟩
theorem grown_drew {w w1 w2 : World} {r : Option Nat} (h : w.grownBy w1 r) (h2 : Below w1.heap.size w1 w2) : w.grownBy w2 r :=
  ⟨h2.os.trans h.os, h2.tape.trans h.tape, h2.output.trans h.output, Nat.le_trans h.size h2.size, fun k hk hne => (h2.block k (Nat.lt_of_lt_of_le hk h.size)).trans (h.block k hk hne)⟩
/-- What is made so far; the box of the sequence stands. -/
def UI (w0 w : World) (base : Nat) (r : Option Nat) (ob : Obj) (wr : World) (u : Value) (ys : List Int) : Prop :=
  Row.OwnB wr base u ys ∧ Below base w0 wr ∧ w.grownBy wr r ∧ wr.heap[w.heap.size]? = some ob ∧ (u.ownBlock = r ∨ ∃ b, u.ownBlock = some b ∧ w.heap.size < b)
theorem UI.next {w0 w : World} {base : Nat} {r : Option Nat} {ob : Obj} {wr w1 : World} {u u1 : Value} {ys zs : List Int} (h : UI w0 w base r ob wr u ys) (hr : ∀ k, r = some k → k < w.heap.size) (h1 : Row.OwnB w1 base u1 zs) (hb : Below base w0 w1) (hg : wr.grownBy w1 u.ownBlock) (hat : u1.ownBlock = u.ownBlock ∨ ∃ b, u1.ownBlock = some b ∧ wr.heap.size ≤ b) : UI w0 w base r ob w1 u1 zs := by
  obtain ⟨ho, hb0, hg0, hob, hu⟩ := h
  have hlt := (Array.getElem?_eq_some_iff.1 hob).1
  refine ⟨h1, hb, grown_trans hg0 hg ?_, (hg.block _ hlt ?_).trans hob, ?_⟩
  · rcases hu with e | ⟨b, e, hb⟩
    · exact Or.inl e
    · exact Or.inr ⟨b, e, by omega⟩
  · rcases hu with e | ⟨b, e, hb⟩
    · rw [e]; intro e2; exact Nat.lt_irrefl _ (hr _ e2.symm)
    · rw [e]; intro e2; injection e2 with e2; omega
  · rcases hat with e | ⟨b, e, hb⟩
    · rw [e]; exact hu
    · exact Or.inr ⟨b, e, by omega⟩
theorem UI.drew {w0 w : World} {base : Nat} {r : Option Nat} {ob : Obj} {wr w1 : World} {u : Value} {ys : List Int} (h : UI w0 w base r ob wr u ys) (hbase : base ≤ wr.heap.size) (h2 : Below wr.heap.size wr w1) : UI w0 w base r ob w1 u ys := by
  obtain ⟨ho, hb0, hg0, hob, hu⟩ := h
  exact ⟨ho.below h2, hb0.trans (h2.mono hbase), grown_drew hg0 h2, (h2.block _ (Array.getElem?_eq_some_iff.1 hob).1).trans hob, hu⟩
set_option maxHeartbeats 4000000 in
set_option maxRecDepth 100000 in
theorem unpack_any (w0 : World) (base : Nat) (v : Value) (xs lit : List Int) (A2 : Option Addr) (c2 off len : Nat) (w : World) (HO : Row.OwnB w base v xs) (HB : Below base w0 w) (hbase : base ≤ w.heap.size) (hC : ∀ w', Below base w0 w' → Kd.C (Kd.int .u8) w' A2 lit.length lit) (hx : xs.length ≤ 10000000) (hl : lit.length ≤ 10000000) (hlen : len ≤ 10000000) (hoff : len = 0 ∨ (1 ≤ off ∧ off ≤ xs.length + lit.length)) :
    Calls Try.prog 62 #[v, .agg #[.slice A2 lit.length c2, .int .i64 off, .int .i64 len]] w fun e w' => ∃ v', e = .returned v' ∧ Row.OwnB w' base v' (cp (xs ++ lit) off len) ∧ Below base w0 w' ∧ w.grownBy w' v.ownBlock ∧ (v'.ownBlock = v.ownBlock ∨ ∃ b, v'.ownBlock = some b ∧ w.heap.size ≤ b) := by
  obtain ⟨A1, c1, rfl, hle, hC1⟩ := HO.slice
  have KO := Aside0.mk (HO.below (below_alloc (Below.refl _ _) (.cells #[.slice A2 lit.length c2, .int .i64 off, .int .i64 len] 67)))
  have KB := Aside0.mk (below_then HB hbase (below_alloc (Below.refl _ _) (.cells #[.slice A2 lit.length c2, .int .i64 off, .int .i64 len] 67)))
  have KC := Aside0.mk hC
  have Koff := Aside0.mk hoff
  have Klt := Aside0.mk (Kd.R_lt HO)
  have KS := Aside0.mk (heap_alloc_new w (.cells #[.slice A2 lit.length c2, .int .i64 off, .int .i64 len] 67))
  clear HO HB hC hC1 hoff
  go_enter Try.func62, Try.ntmps62
  go_wp2_with ((with_reducible refine gate_builtin (b := .append) (xs := #[.tmp 8, .tmp 11]) rfl ?_); apply Aside0.out)
  refine ⟨?_⟩
  refine Kd.R_append_zeros (Kd.int .u8) (w0 := w0) base rfl (.tmp 8) (.tmp 11) 22 3 5 (.int .u8 0) 1 rfl Try.underlying22 Try.underlying3 Row.info8 rfl (by decide) (by decide) (.slice A1 xs.length c1) xs (0 : Int) (lit.length : Int) (fun _ => True) rfl rfl rfl (fun _ _ => trivial) KO.out (by omega) KB.out (by simp; omega) (by simp; omega) ?_
  intro v3 w3 h3 hb3 hg3 hat3
  rw [Int.toNat_natCast] at h3
  have KS3 : Aside0 (w3.heap[w.heap.size]? = some (.cells #[.slice A2 lit.length c2, .int .i64 off, .int .i64 len] 67 (0, 0))) := ⟨(hg3.block _ (by simp) (fun hk => Nat.lt_irrefl _ (Klt.out _ hk.symm))).trans KS.out⟩
  have Kg3 : Aside0 (w.grownBy w3 (Value.slice A1 xs.length c1).ownBlock) := ⟨(grown_of_below (below_alloc (Below.refl _ _) _) _).trans hg3⟩
  have Kat3 : Aside0 (v3.ownBlock = (Value.slice A1 xs.length c1).ownBlock ∨ ∃ b, v3.ownBlock = some b ∧ w.heap.size < b) := ⟨by rcases hat3 with h | ⟨b, h, h2⟩; exact Or.inl h; exact Or.inr ⟨b, h, Nat.lt_of_succ_le (by simpa using h2)⟩⟩
  obtain ⟨A3, c3, hv3⟩ := Kd.R_slice h3
  have hlen3 : (xs ++ List.replicate lit.length (0 : Int)).length = xs.length + lit.length := by simp
  rw [hlen3] at hv3
  subst hv3
  have hsz3 : w.heap.size < w3.heap.size := (Array.getElem?_eq_some_iff.1 KS3.out).1
  have hy0 : w3.cell? ⟨w.heap.size, 0, none⟩ = some (.slice A2 lit.length c2) := (cell_of_row _ _ _ _ _ _ KS3.out).trans rfl
  have KB3 := Aside0.mk hb3
  have KO3 := Aside0.mk h3
  have KU3 : Aside0 (UI w0 w base (Value.slice A1 xs.length c1).ownBlock (.cells #[.slice A2 lit.length c2, .int .i64 off, .int .i64 len] 67 (0, 0)) w3 (.slice A3 (xs.length + lit.length) c3) _) := ⟨h3, hb3, Kg3.out, KS3.out, Kat3.out⟩
  have hle3 := (Kd.R_reads' h3).2.1
  clear h3 hb3 hg3 hat3 hlen3 hle
  go_wp2
  have KCd := Aside0.mk (Kd.reads_of_C (d := (0 : Int)) (KC.out w3.drew KB3.out.drew))
  have hsub : xs.length + lit.length - xs.length = lit.length := by omega
  obtain ⟨dp, hdp⟩ : ∃ dp, dp = (if c3 = xs.length then A3 else A3.map (·.add xs.length)) := ⟨_, rfl⟩
  have Kdp := Aside0.mk hdp
  clear hdp
  refine start_ (n := 6) (S := fun w' => w'.cell? ⟨w.heap.size, 0, none⟩ = some (.slice A2 lit.length c2)) (ds := [5]) #[false, false, false, false, false, false] (by kernel_rfl) rfl rfl ((show w3.cell? _ = _ from hy0)) (fun hHeld => ?_)
  refine pure_ (i := 0) (N := some 13) (v := ?_) (a' := ?_) #[true, false, false, false, false, false] rfl rfl (by kernel_rfl) (fun _ _ _ h => h) (Or.inl ⟨by rfl, ?_⟩) ?_ ?_
  rotate_left
  · intro w'
    go_simp
    with_reducible rfl
  rotate_left
  · simp only [Act.put, List.setIfInBounds_toArray, List.set_cons_zero, List.set_cons_succ, i64_w, i32_w]
    rfl
  refine pure_ (i := 1) (N := some 14) (v := ?_) (a' := ?_) #[true, true, false, false, false, false] rfl rfl (by kernel_rfl) (fun _ _ _ h => h) (Or.inl ⟨by rfl, ?_⟩) ?_ ?_
  rotate_left
  · intro w'
    go_simp
    with_reducible rfl
  rotate_left
  · simp only [Act.put, List.setIfInBounds_toArray, List.set_cons_zero, List.set_cons_succ, i64_w, i32_w]
    rfl
  refine pure_ (i := 2) (N := some 15) (v := .slice dp lit.length (c3 - xs.length)) (a' := ?_) #[true, true, true, false, false, false] rfl rfl (by kernel_rfl) (fun _ _ _ h => h) (Or.inl ⟨by rfl, ?_⟩) ?_ ?_
  · intro w'
    (have hx1 : (xs.length : Int) ≤ ↑xs.length + ↑lit.length := by omega); rw [Kdp.out]; go_simp
  rotate_left
  · simp only [Act.put, List.setIfInBounds_toArray, List.set_cons_zero, List.set_cons_succ, i64_w, i32_w]
    rfl
  refine pure_ (i := 3) (N := some 16) (v := ?_) (a' := ?_) #[true, true, true, true, false, false] rfl rfl (by kernel_rfl) (fun _ _ _ h => h) (Or.inl ⟨by rfl, ?_⟩) ?_ ?_
  rotate_left
  · intro w'
    go_simp
    with_reducible rfl
  rotate_left
  · simp only [Act.put, List.setIfInBounds_toArray, List.set_cons_zero, List.set_cons_succ, i64_w, i32_w]
    rfl
  refine take_ (i := 4) (N := some 17) (v := ?_) (a' := ?_) #[true, true, true, true, true, false] rfl rfl (by kernel_rfl) (fun _ _ _ h => h) (Or.inl ⟨by rfl, ?_⟩) hHeld ?_ ?_
  rotate_left
  · intro w' s0
    go_simp
    with_reducible rfl
  rotate_left
  · simp only [Act.put, List.setIfInBounds_toArray, List.set_cons_zero, List.set_cons_succ, i64_w, i32_w]
    rfl
  refine last_ (i := 5) (N := some 18) #[true, true, true, true, true, true] rfl rfl (by kernel_rfl) (by decide) (fun K hK => ?_)
  refine copy_own_step rfl (.tmp 15) (.tmp 17) rfl _ A2 A3 _ c2 c3 xs _ lit (by simp) rfl rfl (Row.OwnB.below KO3.out (Below.refl _ _).drew) (fun hp q hq => by rw [Kdp.out, if_neg (by omega), hq]; simp only [Option.map_some, add_plain]) KCd.out ?_; intro w4 H4 hg4; have KO4 := Aside0.mk H4; have Kg4 := Aside0.mk hg4
  refine hK.out _ _ ?_
  clear hK K
  refine norm_ (a' := ?_) ?_ ?_
  rotate_left
  · show Act.put _ (some 18) _ = _
    simp only [Act.put, List.setIfInBounds_toArray, List.set_cons_zero, List.set_cons_succ, i64_w, i32_w]
    rfl
  refine done_ (by kernel_rfl) ?_
  have KU4 := Aside0.mk ((KU3.out.drew (by omega) (Below.refl _ _).drew).next Klt.out H4 ((KB3.out.drew).grown hg4 (by show base ≤ w3.heap.size; omega) (Kd.R_base (Row.OwnB.below KO3.out (Below.refl _ _).drew))) hg4 (Or.inl rfl))
  obtain ⟨e1, e2⟩ : w4.cell? ⟨w.heap.size, 2, none⟩ = some (.int .i64 len) ∧ w4.cell? ⟨w.heap.size, 1, none⟩ = some (.int .i64 off) := ⟨(cell_of_row _ _ _ _ _ _ KU4.out.2.2.2.1).trans rfl, (cell_of_row _ _ _ _ _ _ KU4.out.2.2.2.1).trans rfl⟩
  clear KU3 KO3 KB3 Kat3 Kg3 KS3 hg4 H4 KO4 Kg4 KC KCd KO KB KS hHeld hy0
  go_wp2
  go_loopw [0, 21] (fun u i wr => ∃ (k : Nat) (A : Option Addr) (c : Nat), k ≤ len ∧ i = .int .i64 k ∧ u = .slice A (xs.length + lit.length + k) c ∧ Aside0 (UI w0 w base (Value.slice A1 xs.length c1).ownBlock (.cells #[.slice A2 lit.length c2, .int .i64 off, .int .i64 len] 67 (0, 0)) wr (.slice A (xs.length + lit.length + k) c) (cp (xs ++ lit) off k))) (fun _ i _ => len - (intOf i).toNat)
  case atStart => exact ⟨0, A3, c3, by omega, rfl, rfl, KU4⟩
  case round =>
    obtain ⟨k, A, c, hk, rfl, rfl, HU⟩ := hrel
    obtain ⟨n, hn⟩ : ∃ n, n = xs.length + lit.length + k := ⟨_, rfl⟩
    obtain ⟨ys, hys⟩ : ∃ ys, ys = cp (xs ++ lit) off k := ⟨_, rfl⟩
    have hyl : ys.length = n := by rw [hys, cp_length, List.length_append]; omega
    rw [← hn, ← hys] at HU
    obtain ⟨e1, e2⟩ : wr.cell? ⟨w.heap.size, 2, none⟩ = some (.int .i64 len) ∧ wr.cell? ⟨w.heap.size, 1, none⟩ = some (.int .i64 off) := ⟨(cell_of_row _ _ _ _ _ _ HU.out.2.2.2.1).trans rfl, (cell_of_row _ _ _ _ _ _ HU.out.2.2.2.1).trans rfl⟩
    rw [← hn]
    have Kn := Aside0.mk hn
    have Kys := Aside0.mk hys
    have Kyl := Aside0.mk hyl
    have hnb : n ≤ 30000000 := by omega
    clear hys
    by_cases hkl : k < len
    · have hb1 : base ≤ wr.heap.size := Nat.le_trans hbase (Nat.le_of_lt (Array.getElem?_eq_some_iff.1 HU.out.2.2.2.1).1)
      have Kb1 := Aside0.mk hb1
      obtain ⟨i, hi⟩ : ∃ i, i = n - off := ⟨_, rfl⟩
      have hin : i < n := by have := Koff.out; omega
      have hwr : wrap64 ((n : Int) - (off : Int)) = (i : Int) := by
        have := Koff.out
        unfold wrap64
        omega
      have hC := (Row.OwnB.reads HU.out.1).2.2
      rw [hyl] at hC
      obtain ⟨ad, e, hx⟩ := Kd.at_int hC (i : Int) (by omega) (by omega)
      rw [Int.toNat_natCast] at hx
      subst e
      have Ki := Aside0.mk hi
      obtain ⟨x, hxv⟩ : ∃ x, x = rd ys i := ⟨_, rfl⟩
      rw [← hxv] at hx
      have Kx := Aside0.mk hxv
      clear hn hyl hC hi hxv
      go_wp2_with ((with_reducible refine gate_builtin (b := .append) (xs := #[.tmp 23, .tmp 32]) rfl ?_); apply Aside0.out)
      refine ⟨?_⟩
      refine Kd.R_append (Kd.int .u8) (w0 := w0) (W := wr) base rfl (.tmp 23) (.tmp 32) 22 5 (.int .u8 0) 1 rfl Try.underlying22 Row.info8 rfl (by decide) (by decide) (.slice (some ad) n c) ys x [.int .u8 x] (fun _ => True) (fun _ => False) rfl rfl rfl (fun _ h => h.elim) (fun _ _ => trivial) HU.out.1 HU.out.2.1 Kb1.out (by rw [Kyl.out]; omega) ?_
      intro v5 w5 h5 hb5 hg5 hat5
      have KU5 := Aside0.mk (HU.out.next Klt.out h5 hb5 hg5 hat5)
      obtain ⟨A5, c5, hv5⟩ := Kd.R_slice h5
      rw [List.length_append, List.length_singleton, Kyl.out] at hv5
      subst hv5
      clear h5 hb5 hg5 hat5
      go_wp2
      refine ⟨?_, ?measure⟩
      repeat apply Exists.intro
      refine ⟨?rel, rfl⟩
      case rel =>
        refine ⟨k + 1, A5, c5, by omega, by simp, by rw [Kn.out, Nat.add_assoc], ?_⟩
        have hh : xs.length + lit.length + (k + 1) = n + 1 := by rw [Kn.out]; omega
        have hcp : cp (xs ++ lit) off (k + 1) = ys ++ [x] := by
          simp only [cp]
          rw [← Kys.out, Kyl.out, Kx.out, ← Ki.out]
          simp [rd]
        rw [hh, hcp]
        exact KU5
      case measure =>
        simp [intOf]
        omega
    · obtain rfl : k = len := by omega
      go_wp2
      go_ret
      refine ⟨_, rfl, ?_⟩
      rw [← Kys.out]
      refine ⟨HU.out.1, HU.out.2.1, HU.out.2.2.1, ?_⟩
      rcases HU.out.2.2.2.2 with h | ⟨b, h, h2⟩
      · exact Or.inl h
      · exact Or.inr ⟨b, h, Nat.le_of_lt h2⟩
end Go.Proofs.Ytgplpcjlemjabaa.Lz
