/- Boot records: the document's Right, Bytes, Decode: walks. -/
import Derived.Test.YtgplpcjlemjabaaBo5
set_option linter.unusedVariables false
set_option linter.unusedSimpArgs false
namespace Go.Proofs.Ytgplpcjlemjabaa.Bo
open Go.RowKit Go.Proofs.Ytgplpcjlemjabaa.Fd Go.Proofs.Ytgplpcjlemjabaa.Bg Go.Proofs.Ytgplpcjlemjabaa.PBootChooses Go.Proofs.YtgplpcjlemjabaaW.PrintWords Go.Proofs.YtgplpcjlemjabaaW.PrintLast Go.Proofs.YtgplpcjlemjabaaW.PrintMore
theorem rload_any (w : World) (l : List Int) (A : Option Addr) (c at_ n : Nat) (hC : Kd.C (Kd.int .u8) w A l.length l) (hc : l.length ≤ c) (hl : ∀ x ∈ l, 0 ≤ x ∧ x < 256) (hb : l.length ≤ 1000000) (hn : n ≤ 8) (hm : at_ + n ≤ l.length) : Calls Try.prog 54 #[.slice A l.length c, .int .i64 at_, .int .i64 n] w fun e w' => e = .returned (.int .u64 (rdN l at_ n)) ∧ Below w.heap.size w w' := by
  refine (portmanteauref01_Load.calls 20 A c l at_ n (rdN l at_ n) w hC hc (load_f l hl at_ n hn hm (by omega) 20 (by decide))).mono ?_
  rintro e w' ⟨rfl, ⟨nd, rfl⟩⟩
  exact ⟨rfl, pw_below_drewN (Below.refl _ _) _⟩
theorem rright_any (r : Rec) (w : World) : Calls Try.prog 25 #[.agg #[.int .u64 r.seq, .int .i64 r.slot, .int .i64 r.len, .int .u64 r.sum]] w fun e w' => e = .returned (.bool (decide (right r))) ∧ Below w.heap.size w w' :=
  portmanteauref08_Right.calls r.seq r.slot r.len r.sum (decide (right r)) w (right_f r)
theorem rbytes_any8 (r : Rec) (hr : right r) (hw : Wf r) (w : World) : Calls Try.prog 27 #[.agg #[.int .u64 r.seq, .int .i64 r.slot, .int .i64 r.len, .int .u64 r.sum]] w fun e w' => ∃ A c, e = .returned (.slice A 32 c) ∧ Kd.C (Kd.int .u8) w' A 32 (bytesB r) ∧ Below w.heap.size w w' := by
  refine (portmanteauref08_Bytes.calls 100 r.seq r.slot r.len r.sum (bytesB r) w (bytes_f r hr hw 100 (by decide))).mono ?_
  rintro e w' ⟨v, rfl, hR, hB⟩
  obtain ⟨A, c, rfl, -, hC⟩ := Row.OwnB.slice hR
  rw [bytesB_len] at hC ⊢
  exact ⟨A, c, rfl, hC, hB⟩
theorem rdecode_short (w : World) (l : List Int) (A : Option Addr) (c : Nat) (h32 : ¬ 32 ≤ l.length) : Calls Try.prog 29 #[.slice A l.length c] w fun e w' => Below w.heap.size w w' ∧ e = .returned (.tuple #[.agg #[.int .u64 0, .int .i64 0, .int .i64 0, .int .u64 0], .int .i64 6]) := by
  have KZb : Aside0 (DB (w.alloc (.cells #[.int .u64 0, .int .i64 0, .int .i64 0, .int .u64 0] 45)) w.heap.size zero) := ⟨heap_alloc_new _ _⟩
  have KBb : Aside0 (Below w.heap.size w (w.alloc (.cells #[.int .u64 0, .int .i64 0, .int .i64 0, .int .u64 0] 45))) := ⟨below_alloc (Below.refl _ _) _⟩
  have hlt : decide ((l.length : Int) < 32) = true := decide_eq_true (by omega)
  clear h32
  go_enter Try.func29, Try.ntmps29
  go_wp2_with ((with_reducible refine gate_store (t := 45) (p := 2) rfl ?_); apply Aside0.out)
  refine ⟨?_⟩
  refine store_rec rfl (.tmp 2) (.tmp 8) rfl w.heap.size #[] _ _ rfl rfl KZb.out rfl rfl (by simp [Value.oneCell']) ?_
  intro wd hg hB
  have KBd := Aside0.mk (hB _ _ (Nat.le_refl _) KBb.out)
  have KWe := Aside0.mk hg
  clear hg hB
  go_wp2
  refine bodyPost_ret (results_list (rs := [.cell 2 45, .tmp 3]) rfl (by simp) (.cell w.heap.size 45 _ _ _ rfl KWe.out Try.underlying45 rfl szRec (.tmp .nil))) rfl ?_
  exact ⟨KBd.out, rfl⟩
/-- Four cells set. -/
def put4 (w : World) (g : Nat) (a b c d : Value) : World := (((w.setCell ⟨g, 0, none⟩ a).setCell ⟨g, 1, none⟩ b).setCell ⟨g, 2, none⟩ c).setCell ⟨g, 3, none⟩ d
theorem put4_below {b0 : Nat} {w0 w : World} {g : Nat} (h : Below b0 w0 w) (hg : b0 ≤ g) (a b c d : Value) : Below b0 w0 (put4 w g a b c d) := (((h.setCell hg _).setCell hg _).setCell hg _).setCell hg _
theorem put4_row {w : World} {g : Nat} (h : w.heap[g]? = some (.cells #[.int .u64 0, .int .i64 0, .int .i64 0, .int .u64 0] 45 (0, 0))) (r : Rec) : DB (put4 w g (.int .u64 r.seq) (.int .i64 r.slot) (.int .i64 r.len) (.int .u64 r.sum)) g r := blk_set (blk_set (blk_set (blk_set h 0 _) 1 _) 2 _) 3 _
set_option maxHeartbeats 1600000 in
set_option maxRecDepth 100000 in
theorem rdecode_long (w : World) (l : List Int) (A : Option Addr) (c : Nat) (hC : Kd.C (Kd.int .u8) w A l.length l) (hl : ∀ x ∈ l, 0 ≤ x ∧ x < 256) (hm : l.length ≤ 1000000) (hc : l.length ≤ c) (h32 : 32 ≤ l.length) :
    Calls Try.prog 29 #[.slice A l.length c] w fun e w' => Below w.heap.size w w' ∧ ((isR l ∧ e = .returned (.tuple #[.agg #[.int .u64 (recD l).seq, .int .i64 (recD l).slot, .int .i64 (recD l).len, .int .u64 (recD l).sum], .int .i64 0])) ∨ (¬ isR l ∧ e = .returned (.tuple #[.agg #[.int .u64 0, .int .i64 0, .int .i64 0, .int .u64 0], .int .i64 6]))) := by
  obtain ⟨ad, had, hcel⟩ := Kd.at_int hC 12 (by omega) (by omega)
  subst had
  have hcel : w.cell? ⟨ad.block, ad.off + 12, none⟩ = some (.int .u8 (rd l 12)) := by simpa [Addr.add] using hcel
  rw [show rd l 12 = l.getD 12 0 from rfl] at hcel
  have Kcel := Aside0.mk hcel
  have KC : Aside0 (∀ w', Below w.heap.size w w' → Kd.C (Kd.int .u8) w' (some ad) l.length l) := ⟨fun w' hb => Kd.C_below hC hb⟩
  have KL := Aside0.mk (fun (w1 : World) (hb : Below w.heap.size w w1) (at_ n : Nat) (hn : n ≤ 8) (h : at_ + n ≤ l.length) => rload_any w1 l (some ad) c at_ n (KC.out w1 hb) hc hl hm hn h)
  have K12 : Aside0 (0 ≤ l.getD 12 0 ∧ l.getD 12 0 < 256) := ⟨by rw [List.getD_eq_getElem?_getD, List.getElem?_eq_getElem (by omega)]; exact hl _ (List.getElem_mem _)⟩
  have B2 : rdN l 16 4 < 4294967296 := rdN_lt hl 16 4 (by omega)
  have Kl := Aside0.mk hl
  have hlt : decide ((l.length : Int) < 32) = false := decide_eq_false (by omega)
  have H32 := Aside0.mk h32
  have Ki : Aside0 (12 < l.length) := ⟨by omega⟩
  have KZb : Aside0 (DB (w.alloc (.cells #[.int .u64 0, .int .i64 0, .int .i64 0, .int .u64 0] 45)) w.heap.size zero) := ⟨heap_alloc_new _ _⟩
  have KBb : Aside0 (Below w.heap.size w (w.alloc (.cells #[.int .u64 0, .int .i64 0, .int .i64 0, .int .u64 0] 45))) := ⟨below_alloc (Below.refl _ _) _⟩
  clear hC hl h32 hcel
  go_enter Try.func29, Try.ntmps29
  go_wp2
  generalize hW : World.alloc w _ = w1 at KZb KBb ⊢
  have hwz : w.heap.size < w1.heap.size := blk_lt KZb.out
  have hsz : w.heap.size ≤ w1.heap.size := by omega
  have i12 : (12 < l.length) = True := eq_true Ki.out
  have j12 : ((12 : Int) < (l.length : Int)) = True := eq_true (by have := Ki.out; omega)
  obtain ⟨n4, hn4⟩ : ∃ n, n = rdN l 4 8 := ⟨_, rfl⟩
  obtain ⟨n16, hn16⟩ : ∃ n, n = rdN l 16 4 := ⟨_, rfl⟩
  obtain ⟨n20, hn20⟩ : ∃ n, n = rdN l 20 8 := ⟨_, rfl⟩
  obtain ⟨s12, hs12⟩ : ∃ n, n = l.getD 12 0 := ⟨_, rfl⟩
  have KRt : Aside0 (recT l = ⟨n4, s12, n16, n20⟩) := ⟨by unfold recT; rw [hn4, hn16, hn20, hs12]⟩
  have KL4 : Aside0 (∀ (w1 : World), Below w.heap.size w w1 → Calls Try.prog 54 #[.slice (some ad) l.length c, .int .i64 4, .int .i64 8] w1 fun e w' => e = .returned (.int .u64 n4) ∧ Below w1.heap.size w1 w') := ⟨fun w1 hb => by rw [hn4]; exact KL.out w1 hb 4 8 (by decide) (by have := H32.out; omega)⟩
  have KL16 : Aside0 (∀ (w1 : World), Below w.heap.size w w1 → Calls Try.prog 54 #[.slice (some ad) l.length c, .int .i64 16, .int .i64 4] w1 fun e w' => e = .returned (.int .u64 n16) ∧ Below w1.heap.size w1 w') := ⟨fun w1 hb => by rw [hn16]; exact KL.out w1 hb 16 4 (by decide) (by have := H32.out; omega)⟩
  have KL20 : Aside0 (∀ (w1 : World), Below w.heap.size w w1 → Calls Try.prog 54 #[.slice (some ad) l.length c, .int .i64 20, .int .i64 8] w1 fun e w' => e = .returned (.int .u64 n20) ∧ Below w1.heap.size w1 w') := ⟨fun w1 hb => by rw [hn20]; exact KL.out w1 hb 20 8 (by decide) (by have := H32.out; omega)⟩
  have cv16 : wrap64 (n16 : Int) = (n16 : Int) := w64_nat n16 (by omega)
  rw [← hn16] at B2
  rw [← hs12] at Kcel K12
  have cv12 : wrap64 s12 = s12 := by have := K12.out; unfold wrap64; omega
  have Kcl : Aside0 (∀ w', Below w1.heap.size w1 w' → w'.cell? ⟨ad.block, ad.off + 12, none⟩ = some (.int .u8 s12)) := ⟨fun w' hb => pw_cell_below (below_then KBb.out hsz hb) Kcel.out⟩
  clear hW hn4 hn16 hn20 hs12 KL K12 Kcel
  refine start_ (n := 14) (S := fun w' => Below w1.heap.size w1 w' ∧ w'.cell? ⟨ad.block, ad.off + 12, none⟩ = some (.int .u8 s12)) (ds := []) #[false, false, false, false, false, false, false, false, false, false, false, false, false, false] (by kernel_rfl) rfl rfl ⟨(show Below w1.heap.size w1 w1.drew from below_drew (Below.refl _ _)), (Kcl.out w1.drew (below_drew (Below.refl _ _)))⟩ (fun hHeld => ?_)
  refine pure_ (i := 0) (N := some 9) (v := ?_) (a' := ?_) #[true, false, false, false, false, false, false, false, false, false, false, false, false, false] rfl rfl (by kernel_rfl) (fun _ _ _ h => h) (Or.inl ⟨by rfl, ?_⟩) ?_ ?_
  rotate_left
  · intro w'
    go_simp
    with_reducible rfl
  rotate_left
  · simp only [Act.put, List.setIfInBounds_toArray, List.set_cons_zero, List.set_cons_succ, i64_w, i32_w]
    rfl
  refine pure_ (i := 2) (N := some 11) (v := ?_) (a' := ?_) #[true, false, true, false, false, false, false, false, false, false, false, false, false, false] rfl rfl (by kernel_rfl) (fun _ _ _ h => h) (Or.inl ⟨by rfl, ?_⟩) ?_ ?_
  rotate_left
  · intro w'
    go_simp
    with_reducible rfl
  rotate_left
  · simp only [Act.put, List.setIfInBounds_toArray, List.set_cons_zero, List.set_cons_succ, i64_w, i32_w]
    rfl
  refine pure_ (i := 3) (N := some 12) (v := ?_) (a' := ?_) #[true, false, true, true, false, false, false, false, false, false, false, false, false, false] rfl rfl (by kernel_rfl) (fun _ _ _ h => h) (Or.inl ⟨by rfl, ?_⟩) ?_ ?_
  rotate_left
  · intro w'
    go_simp
    with_reducible rfl
  rotate_left
  · simp only [Act.put, List.setIfInBounds_toArray, List.set_cons_zero, List.set_cons_succ, i64_w, i32_w]
    rfl
  refine pure_ (i := 6) (N := some 15) (v := ?_) (a' := ?_) #[true, false, true, true, false, false, true, false, false, false, false, false, false, false] rfl rfl (by kernel_rfl) (fun _ _ _ h => h) (Or.inl ⟨by rfl, ?_⟩) ?_ ?_
  rotate_left
  · intro w'
    go_simp
    with_reducible rfl
  rotate_left
  · simp only [Act.put, List.setIfInBounds_toArray, List.set_cons_zero, List.set_cons_succ, i64_w, i32_w]
    rfl
  refine pure_ (i := 9) (N := some 18) (v := ?_) (a' := ?_) #[true, false, true, true, false, false, true, false, false, true, false, false, false, false] rfl rfl (by kernel_rfl) (fun _ _ _ h => h) (Or.inl ⟨by rfl, ?_⟩) ?_ ?_
  rotate_left
  · intro w'
    go_simp
    with_reducible rfl
  rotate_left
  · simp only [Act.put, List.setIfInBounds_toArray, List.set_cons_zero, List.set_cons_succ, i64_w, i32_w]
    rfl
  refine take_ (i := 4) (N := some 13) (v := ?_) (a' := ?_) #[true, false, true, true, true, false, true, false, false, true, false, false, false, false] rfl rfl (by kernel_rfl) (fun _ _ _ h => h) (Or.inl ⟨by rfl, ?_⟩) hHeld ?_ ?_
  rotate_left
  · rintro w' ⟨s0, s1⟩
    go_simp
    with_reducible rfl
  rotate_left
  · simp only [Act.put, List.setIfInBounds_toArray, List.set_cons_zero, List.set_cons_succ, i64_w, i32_w]
    rfl
  refine pure_ (i := 5) (N := some 14) (v := ?_) (a' := ?_) #[true, false, true, true, true, true, true, false, false, true, false, false, false, false] rfl rfl (by kernel_rfl) (fun _ _ _ h => h) (Or.inl ⟨by rfl, ?_⟩) ?_ ?_
  rotate_left
  · intro w'
    go_simp
    with_reducible rfl
  rotate_left
  · simp only [Act.put, List.setIfInBounds_toArray, List.set_cons_zero, List.set_cons_succ, i64_w, i32_w]
    rfl
  refine join_ (σ := Nat) 1 #[true, true, true, true, true, true, true, true, true, true, true, true, true, false] (fun s => [(10, .int .u64 n4), (16, .int .u64 n16), (17, .int .i64 (wrap64 (n16 : Int))), (19, .int .u64 n20), (20, .agg #[.int .u64 n4, .int .i64 s12, .int .i64 n16, .int .u64 n20]), (4, .pointer (some ⟨s, 0, none⟩))]) (fun s w' => w'.heap[s]? = some (.cells #[.int .u64 0, .int .i64 0, .int .i64 0, .int .u64 0] 45 (0, 0)) ∧ w1.heap.size ≤ s ∧ (Below w1.heap.size w1 w' ∧ w'.cell? ⟨ad.block, ad.off + 12, none⟩ = some (.int .u8 s12))) ?_ ?_
  rotate_left
  · intro hCont
    refine two_ (i := 1) (j := 12) (Ni := some 10) (Nj := some 4) #[true, true, true, true, true, true, true, false, false, true, false, false, false, false] #[true, false, true, true, true, true, true, false, false, true, false, false, true, false] rfl rfl rfl rfl (by kernel_rfl) (by decide) (by decide) (fun K hK => ?_) (fun K hK => ?_)
    · skip
      refine goes_ Try.func54 (by kernel_rfl) rfl #[.slice (some ad) l.length c, .int .i64 4, .int .i64 8] (by rfl) rfl rfl (by simp only [List.map_toArray, List.map_cons, List.map_nil]; rfl) ?_
      with_reducible refine (KL4.out _ (below_then KBb.out hsz hHeld.1)).mono ?_
      rintro e w11' ⟨rfl, hb1⟩
      refine ⟨_, rfl, ?_⟩
      refine hK.out _ _ ⟨below_then hHeld.1 hHeld.1.size hb1, pw_cell_below hb1 hHeld.2⟩ (fun hHeld => ?_)
      clear hK K
      refine norm_ (a' := ?_) ?_ ?_
      rotate_left
      · show Act.put _ (some 10) _ = _
        simp only [Act.put, List.setIfInBounds_toArray, List.set_cons_zero, List.set_cons_succ, i64_w, i32_w]
        rfl
      refine two_ (i := 7) (j := 12) (Ni := some 16) (Nj := some 4) #[true, true, true, true, true, true, true, true, false, true, false, false, false, false] #[true, true, true, true, true, true, true, false, false, true, false, false, true, false] rfl rfl rfl rfl (by kernel_rfl) (by decide) (by decide) (fun K hK => ?_) (fun K hK => ?_)
      · skip
        refine goes_ Try.func54 (by kernel_rfl) rfl #[.slice (some ad) l.length c, .int .i64 16, .int .i64 4] (by rfl) rfl rfl (by simp only [List.map_toArray, List.map_cons, List.map_nil]; rfl) ?_
        with_reducible refine (KL16.out _ (below_then KBb.out hsz hHeld.1)).mono ?_
        rintro e w17' ⟨rfl, hb7⟩
        refine ⟨_, rfl, ?_⟩
        refine hK.out _ _ ⟨below_then hHeld.1 hHeld.1.size hb7, pw_cell_below hb7 hHeld.2⟩ (fun hHeld => ?_)
        clear hK K
        refine norm_ (a' := ?_) ?_ ?_
        rotate_left
        · show Act.put _ (some 16) _ = _
          simp only [Act.put, List.setIfInBounds_toArray, List.set_cons_zero, List.set_cons_succ, i64_w, i32_w]
          rfl
        refine pure_ (i := 8) (N := some 17) (v := ?_) (a' := ?_) #[true, true, true, true, true, true, true, true, true, true, false, false, false, false] rfl rfl (by kernel_rfl) (fun _ _ _ h => h) (Or.inl ⟨by rfl, ?_⟩) ?_ ?_
        rotate_left
        · intro w'
          go_simp
          with_reducible rfl
        rotate_left
        · simp only [Act.put, List.setIfInBounds_toArray, List.set_cons_zero, List.set_cons_succ, i64_w, i32_w]
          rfl
        refine two_ (i := 10) (j := 12) (Ni := some 19) (Nj := some 4) #[true, true, true, true, true, true, true, true, true, true, true, false, false, false] #[true, true, true, true, true, true, true, true, true, true, false, false, true, false] rfl rfl rfl rfl (by kernel_rfl) (by decide) (by decide) (fun K hK => ?_) (fun K hK => ?_)
        · skip
          refine goes_ Try.func54 (by kernel_rfl) rfl #[.slice (some ad) l.length c, .int .i64 20, .int .i64 8] (by rfl) rfl rfl (by simp only [List.map_toArray, List.map_cons, List.map_nil]; rfl) ?_
          with_reducible refine (KL20.out _ (below_then KBb.out hsz hHeld.1)).mono ?_
          rintro e w20' ⟨rfl, hb10⟩
          refine ⟨_, rfl, ?_⟩
          refine hK.out _ _ ⟨below_then hHeld.1 hHeld.1.size hb10, pw_cell_below hb10 hHeld.2⟩ (fun hHeld => ?_)
          clear hK K
          refine norm_ (a' := ?_) ?_ ?_
          rotate_left
          · show Act.put _ (some 19) _ = _
            simp only [Act.put, List.setIfInBounds_toArray, List.set_cons_zero, List.set_cons_succ, i64_w, i32_w]
            rfl
          refine pure_ (i := 11) (N := some 20) (v := ?_) (a' := ?_) #[true, true, true, true, true, true, true, true, true, true, true, true, false, false] rfl rfl (by kernel_rfl) (fun _ _ _ h => h) (Or.inl ⟨by rfl, ?_⟩) ?_ ?_
          rotate_left
          · intro w'
            go_simp
            with_reducible rfl
          rotate_left
          · simp only [Act.put, List.setIfInBounds_toArray, List.set_cons_zero, List.set_cons_succ, i64_w, i32_w]
            rfl
          refine one_ (i := 12) (N := some 4) #[true, true, true, true, true, true, true, true, true, true, true, true, true, false] rfl rfl (by kernel_rfl) (by decide) (fun K hK => ?_)
          refine box_step ?hg (N := 4) ?hd (cs := #[.int .u64 0, .int .i64 0, .int .i64 0, .int .u64 0]) (t := 45) ?hr ?_; (case hd => rfl); (case hg => rfl); (case hr => first | (go_simp; done) | (go_simp; rfl))
          intro gb12 hgx w22 hs12 hb12
          have hg12 : w1.heap.size ≤ gb12 := by rw [hgx]; exact hHeld.1.size
          refine hK.out _ _ ⟨below_then hHeld.1 hHeld.1.size hb12, pw_cell_below hb12 hHeld.2⟩ (fun hHeld => ?_)
          clear hK K
          refine norm_ (a' := ?_) ?_ ?_
          rotate_left
          · show Act.put _ (some 4) _ = _
            simp only [Act.put, List.setIfInBounds_toArray, List.set_cons_zero, List.set_cons_succ, i64_w, i32_w]
            rfl
          exact norm_ (by simp only [putAll, Act.put, List.setIfInBounds_toArray, List.set_cons_zero, List.set_cons_succ]) (hCont gb12 _ ⟨hs12, hg12, hHeld⟩)
        · skip
          refine box_step ?hg (N := 4) ?hd (cs := #[.int .u64 0, .int .i64 0, .int .i64 0, .int .u64 0]) (t := 45) ?hr ?_; (case hd => rfl); (case hg => rfl); (case hr => first | (go_simp; done) | (go_simp; rfl))
          intro gb12 hgx w22 hs12 hb12
          have hg12 : w1.heap.size ≤ gb12 := by rw [hgx]; exact hHeld.1.size
          refine hK.out _ _ ⟨below_then hHeld.1 hHeld.1.size hb12, pw_cell_below hb12 hHeld.2⟩ (fun hHeld => ?_)
          clear hK K
          refine norm_ (a' := ?_) ?_ ?_
          rotate_left
          · show Act.put _ (some 4) _ = _
            simp only [Act.put, List.setIfInBounds_toArray, List.set_cons_zero, List.set_cons_succ, i64_w, i32_w]
            rfl
          refine one_ (i := 10) (N := some 19) #[true, true, true, true, true, true, true, true, true, true, true, false, true, false] rfl rfl (by kernel_rfl) (by decide) (fun K hK => ?_)
          refine goes_ Try.func54 (by kernel_rfl) rfl #[.slice (some ad) l.length c, .int .i64 20, .int .i64 8] (by rfl) rfl rfl (by simp only [List.map_toArray, List.map_cons, List.map_nil]; rfl) ?_
          with_reducible refine (KL20.out _ (below_then KBb.out hsz hHeld.1)).mono ?_
          rintro e w20' ⟨rfl, hb10⟩
          refine ⟨_, rfl, ?_⟩
          replace hs12 := blk_below hs12 hb10
          refine hK.out _ _ ⟨below_then hHeld.1 hHeld.1.size hb10, pw_cell_below hb10 hHeld.2⟩ (fun hHeld => ?_)
          clear hK K
          refine norm_ (a' := ?_) ?_ ?_
          rotate_left
          · show Act.put _ (some 19) _ = _
            simp only [Act.put, List.setIfInBounds_toArray, List.set_cons_zero, List.set_cons_succ, i64_w, i32_w]
            rfl
          refine pure_ (i := 11) (N := some 20) (v := ?_) (a' := ?_) #[true, true, true, true, true, true, true, true, true, true, true, true, true, false] rfl rfl (by kernel_rfl) (fun _ _ _ h => h) (Or.inl ⟨by rfl, ?_⟩) ?_ ?_
          rotate_left
          · intro w'
            go_simp
            with_reducible rfl
          rotate_left
          · simp only [Act.put, List.setIfInBounds_toArray, List.set_cons_zero, List.set_cons_succ, i64_w, i32_w]
            rfl
          exact norm_ (by simp only [putAll, Act.put, List.setIfInBounds_toArray, List.set_cons_zero, List.set_cons_succ]) (hCont gb12 _ ⟨hs12, hg12, hHeld⟩)
      · skip
        refine box_step ?hg (N := 4) ?hd (cs := #[.int .u64 0, .int .i64 0, .int .i64 0, .int .u64 0]) (t := 45) ?hr ?_; (case hd => rfl); (case hg => rfl); (case hr => first | (go_simp; done) | (go_simp; rfl))
        intro gb12 hgx w22 hs12 hb12
        have hg12 : w1.heap.size ≤ gb12 := by rw [hgx]; exact hHeld.1.size
        refine hK.out _ _ ⟨below_then hHeld.1 hHeld.1.size hb12, pw_cell_below hb12 hHeld.2⟩ (fun hHeld => ?_)
        clear hK K
        refine norm_ (a' := ?_) ?_ ?_
        rotate_left
        · show Act.put _ (some 4) _ = _
          simp only [Act.put, List.setIfInBounds_toArray, List.set_cons_zero, List.set_cons_succ, i64_w, i32_w]
          rfl
        refine one_ (i := 7) (N := some 16) #[true, true, true, true, true, true, true, true, false, true, false, false, true, false] rfl rfl (by kernel_rfl) (by decide) (fun K hK => ?_)
        refine goes_ Try.func54 (by kernel_rfl) rfl #[.slice (some ad) l.length c, .int .i64 16, .int .i64 4] (by rfl) rfl rfl (by simp only [List.map_toArray, List.map_cons, List.map_nil]; rfl) ?_
        with_reducible refine (KL16.out _ (below_then KBb.out hsz hHeld.1)).mono ?_
        rintro e w17' ⟨rfl, hb7⟩
        refine ⟨_, rfl, ?_⟩
        replace hs12 := blk_below hs12 hb7
        refine hK.out _ _ ⟨below_then hHeld.1 hHeld.1.size hb7, pw_cell_below hb7 hHeld.2⟩ (fun hHeld => ?_)
        clear hK K
        refine norm_ (a' := ?_) ?_ ?_
        rotate_left
        · show Act.put _ (some 16) _ = _
          simp only [Act.put, List.setIfInBounds_toArray, List.set_cons_zero, List.set_cons_succ, i64_w, i32_w]
          rfl
        refine pure_ (i := 8) (N := some 17) (v := ?_) (a' := ?_) #[true, true, true, true, true, true, true, true, true, true, false, false, true, false] rfl rfl (by kernel_rfl) (fun _ _ _ h => h) (Or.inl ⟨by rfl, ?_⟩) ?_ ?_
        rotate_left
        · intro w'
          go_simp
          with_reducible rfl
        rotate_left
        · simp only [Act.put, List.setIfInBounds_toArray, List.set_cons_zero, List.set_cons_succ, i64_w, i32_w]
          rfl
        refine one_ (i := 10) (N := some 19) #[true, true, true, true, true, true, true, true, true, true, true, false, true, false] rfl rfl (by kernel_rfl) (by decide) (fun K hK => ?_)
        refine goes_ Try.func54 (by kernel_rfl) rfl #[.slice (some ad) l.length c, .int .i64 20, .int .i64 8] (by rfl) rfl rfl (by simp only [List.map_toArray, List.map_cons, List.map_nil]; rfl) ?_
        with_reducible refine (KL20.out _ (below_then KBb.out hsz hHeld.1)).mono ?_
        rintro e w20' ⟨rfl, hb10⟩
        refine ⟨_, rfl, ?_⟩
        replace hs12 := blk_below hs12 hb10
        refine hK.out _ _ ⟨below_then hHeld.1 hHeld.1.size hb10, pw_cell_below hb10 hHeld.2⟩ (fun hHeld => ?_)
        clear hK K
        refine norm_ (a' := ?_) ?_ ?_
        rotate_left
        · show Act.put _ (some 19) _ = _
          simp only [Act.put, List.setIfInBounds_toArray, List.set_cons_zero, List.set_cons_succ, i64_w, i32_w]
          rfl
        refine pure_ (i := 11) (N := some 20) (v := ?_) (a' := ?_) #[true, true, true, true, true, true, true, true, true, true, true, true, true, false] rfl rfl (by kernel_rfl) (fun _ _ _ h => h) (Or.inl ⟨by rfl, ?_⟩) ?_ ?_
        rotate_left
        · intro w'
          go_simp
          with_reducible rfl
        rotate_left
        · simp only [Act.put, List.setIfInBounds_toArray, List.set_cons_zero, List.set_cons_succ, i64_w, i32_w]
          rfl
        exact norm_ (by simp only [putAll, Act.put, List.setIfInBounds_toArray, List.set_cons_zero, List.set_cons_succ]) (hCont gb12 _ ⟨hs12, hg12, hHeld⟩)
    · skip
      refine box_step ?hg (N := 4) ?hd (cs := #[.int .u64 0, .int .i64 0, .int .i64 0, .int .u64 0]) (t := 45) ?hr ?_; (case hd => rfl); (case hg => rfl); (case hr => first | (go_simp; done) | (go_simp; rfl))
      intro gb12 hgx w22 hs12 hb12
      have hg12 : w1.heap.size ≤ gb12 := by rw [hgx]; exact hHeld.1.size
      refine hK.out _ _ ⟨below_then hHeld.1 hHeld.1.size hb12, pw_cell_below hb12 hHeld.2⟩ (fun hHeld => ?_)
      clear hK K
      refine norm_ (a' := ?_) ?_ ?_
      rotate_left
      · show Act.put _ (some 4) _ = _
        simp only [Act.put, List.setIfInBounds_toArray, List.set_cons_zero, List.set_cons_succ, i64_w, i32_w]
        rfl
      refine one_ (i := 1) (N := some 10) #[true, true, true, true, true, true, true, false, false, true, false, false, true, false] rfl rfl (by kernel_rfl) (by decide) (fun K hK => ?_)
      refine goes_ Try.func54 (by kernel_rfl) rfl #[.slice (some ad) l.length c, .int .i64 4, .int .i64 8] (by rfl) rfl rfl (by simp only [List.map_toArray, List.map_cons, List.map_nil]; rfl) ?_
      with_reducible refine (KL4.out _ (below_then KBb.out hsz hHeld.1)).mono ?_
      rintro e w11' ⟨rfl, hb1⟩
      refine ⟨_, rfl, ?_⟩
      replace hs12 := blk_below hs12 hb1
      refine hK.out _ _ ⟨below_then hHeld.1 hHeld.1.size hb1, pw_cell_below hb1 hHeld.2⟩ (fun hHeld => ?_)
      clear hK K
      refine norm_ (a' := ?_) ?_ ?_
      rotate_left
      · show Act.put _ (some 10) _ = _
        simp only [Act.put, List.setIfInBounds_toArray, List.set_cons_zero, List.set_cons_succ, i64_w, i32_w]
        rfl
      refine one_ (i := 7) (N := some 16) #[true, true, true, true, true, true, true, true, false, true, false, false, true, false] rfl rfl (by kernel_rfl) (by decide) (fun K hK => ?_)
      refine goes_ Try.func54 (by kernel_rfl) rfl #[.slice (some ad) l.length c, .int .i64 16, .int .i64 4] (by rfl) rfl rfl (by simp only [List.map_toArray, List.map_cons, List.map_nil]; rfl) ?_
      with_reducible refine (KL16.out _ (below_then KBb.out hsz hHeld.1)).mono ?_
      rintro e w17' ⟨rfl, hb7⟩
      refine ⟨_, rfl, ?_⟩
      replace hs12 := blk_below hs12 hb7
      refine hK.out _ _ ⟨below_then hHeld.1 hHeld.1.size hb7, pw_cell_below hb7 hHeld.2⟩ (fun hHeld => ?_)
      clear hK K
      refine norm_ (a' := ?_) ?_ ?_
      rotate_left
      · show Act.put _ (some 16) _ = _
        simp only [Act.put, List.setIfInBounds_toArray, List.set_cons_zero, List.set_cons_succ, i64_w, i32_w]
        rfl
      refine pure_ (i := 8) (N := some 17) (v := ?_) (a' := ?_) #[true, true, true, true, true, true, true, true, true, true, false, false, true, false] rfl rfl (by kernel_rfl) (fun _ _ _ h => h) (Or.inl ⟨by rfl, ?_⟩) ?_ ?_
      rotate_left
      · intro w'
        go_simp
        with_reducible rfl
      rotate_left
      · simp only [Act.put, List.setIfInBounds_toArray, List.set_cons_zero, List.set_cons_succ, i64_w, i32_w]
        rfl
      refine one_ (i := 10) (N := some 19) #[true, true, true, true, true, true, true, true, true, true, true, false, true, false] rfl rfl (by kernel_rfl) (by decide) (fun K hK => ?_)
      refine goes_ Try.func54 (by kernel_rfl) rfl #[.slice (some ad) l.length c, .int .i64 20, .int .i64 8] (by rfl) rfl rfl (by simp only [List.map_toArray, List.map_cons, List.map_nil]; rfl) ?_
      with_reducible refine (KL20.out _ (below_then KBb.out hsz hHeld.1)).mono ?_
      rintro e w20' ⟨rfl, hb10⟩
      refine ⟨_, rfl, ?_⟩
      replace hs12 := blk_below hs12 hb10
      refine hK.out _ _ ⟨below_then hHeld.1 hHeld.1.size hb10, pw_cell_below hb10 hHeld.2⟩ (fun hHeld => ?_)
      clear hK K
      refine norm_ (a' := ?_) ?_ ?_
      rotate_left
      · show Act.put _ (some 19) _ = _
        simp only [Act.put, List.setIfInBounds_toArray, List.set_cons_zero, List.set_cons_succ, i64_w, i32_w]
        rfl
      refine pure_ (i := 11) (N := some 20) (v := ?_) (a' := ?_) #[true, true, true, true, true, true, true, true, true, true, true, true, true, false] rfl rfl (by kernel_rfl) (fun _ _ _ h => h) (Or.inl ⟨by rfl, ?_⟩) ?_ ?_
      rotate_left
      · intro w'
        go_simp
        with_reducible rfl
      rotate_left
      · simp only [Act.put, List.setIfInBounds_toArray, List.set_cons_zero, List.set_cons_succ, i64_w, i32_w]
        rfl
      exact norm_ (by simp only [putAll, Act.put, List.setIfInBounds_toArray, List.set_cons_zero, List.set_cons_succ]) (hCont gb12 _ ⟨hs12, hg12, hHeld⟩)
  rintro gb w2 ⟨hs12, hgb, hHeld⟩
  refine norm_ (a' := ?_) ?_ ?_
  rotate_left
  · simp only [putAll, Act.put, List.setIfInBounds_toArray, List.set_cons_zero, List.set_cons_succ]
    rfl
  refine one_ (i := 13) (N := none) #[true, true, true, true, true, true, true, true, true, true, true, true, true, true] rfl rfl (by kernel_rfl) (by decide) (fun K hK => ?_)
  have cc0 : w2.cell? ⟨gb, 0, none⟩ = some (.int .u64 0) := (cell_of_row _ _ _ _ _ _ hs12).trans rfl
  have cc1 : w2.cell? ⟨gb, 1, none⟩ = some (.int .i64 0) := (cell_of_row _ _ _ _ _ _ hs12).trans rfl
  have cc2 : w2.cell? ⟨gb, 2, none⟩ = some (.int .i64 0) := (cell_of_row _ _ _ _ _ _ hs12).trans rfl
  have cc3 : w2.cell? ⟨gb, 3, none⟩ = some (.int .u64 0) := (cell_of_row _ _ _ _ _ _ hs12).trans rfl
  have cf0 : w2.frozen? ⟨gb, 0, none⟩ = false := blk_frozen hs12 _
  have cf1 : w2.frozen? ⟨gb, 1, none⟩ = false := blk_frozen hs12 _
  have cf2 : w2.frozen? ⟨gb, 2, none⟩ = false := blk_frozen hs12 _
  have cf3 : w2.frozen? ⟨gb, 3, none⟩ = false := blk_frozen hs12 _
  refine skip_ (w1 := ?_) (by rfl) rfl ?_ ?_
  rotate_left
  · (go_simp; rfl)
  refine hK.out _ _ ⟨(put4_below hHeld.1 hgb _ _ _ _), (Kcl.out _ (put4_below hHeld.1 hgb _ _ _ _))⟩ (fun hHeld => ?_)
  clear hK K
  refine done_ (by kernel_rfl) ?_
  obtain ⟨w3, hw3⟩ : ∃ w3, w3 = put4 w2 gb (.int .u64 n4) (.int .i64 s12) (.int .i64 n16) (.int .u64 n20) := ⟨_, rfl⟩
  have KD3 : Aside0 (DB w3 gb (recT l)) := ⟨by rw [hw3, KRt.out]; exact put4_row hs12 ⟨n4, s12, n16, n20⟩⟩
  have KB3 : Aside0 (Below w.heap.size w w3) := ⟨by rw [hw3]; exact below_then KBb.out hsz hHeld.1⟩
  have KZ3 : Aside0 (DB w3 w.heap.size zero) := ⟨by rw [hw3]; exact blk_below KZb.out hHeld.1⟩
  clear hHeld
  unfold put4 at hw3
  rw [← hw3]
  have hgw : w.heap.size < gb := by omega
  obtain ⟨r, hr⟩ : ∃ r, r = recT l := ⟨_, rfl⟩
  rw [← hr] at KD3
  have Kr := Aside0.mk hr
  have hc32 : 32 ≤ c := by have := H32.out; omega
  have hc32' : ((32 : Int) ≤ (c : Int)) = True := eq_true (by omega)
  have hl32 : (l.take 32).length = 32 := by rw [List.length_take]; have := H32.out; omega
  have KC32 : Aside0 (∀ w', Below w.heap.size w w' → Kd.C (Kd.int .u8) w' (some ad) 32 (l.take 32)) := ⟨fun w' hb => Kd.C_of_reads (d := (0 : Int)) (h1 := fun _ => rfl) ((Kd.reads_of_C (d := (0 : Int)) (KC.out w' hb)).take_ 32 H32.out)⟩
  have KRr := Aside0.mk (fun w1 => rright_any r w1)
  clear hw3 hs12 hgb KL4 KL16 KL20 Kcl KRt cv12 cv16 i12 j12 hlt Ki B2 hsz hwz KZb KBb hr hl32
  go_wp2
  by_cases hri : right r
  · rw [decide_eq_true hri] at KRr
    have hwf : Wf r := by rw [Kr.out]; exact recT_wf Kl.out H32.out
    have KY := Aside0.mk (fun w1 => rbytes_any8 r hri hwf w1)
    have Kri := Aside0.mk hri
    have KT : Aside0 (isR l ↔ bytesB r = l.take 32) := ⟨⟨fun h => by rw [Kr.out]; exact ((isT Kl.out H32.out).2 h).2, fun h => (isT Kl.out H32.out).1 ⟨by rw [← Kr.out]; exact Kri.out, by rw [← Kr.out]; exact h⟩⟩⟩
    have hst := Eq_.str_eq (bytesB r) (l.take 32) (bytesB_isB _) (fun x hx => Kl.out x (List.mem_of_mem_take hx))
    clear hri hwf
    by_cases heq : bytesB r = l.take 32
    · have KI : Aside0 (isR l) := ⟨KT.out.2 heq⟩
      rw [decide_eq_true heq] at hst
      have hst2 : ((strOfNums (bytesB r)).toList != (strOfNums (l.take 32)).toList) = false := by unfold bne; rw [hst]; rfl
      have hst3 : (!((strOfNums (bytesB r)).toList == (strOfNums (l.take 32)).toList)) = false := by rw [hst]; rfl
      have Keq := Aside0.mk (And.intro hst (And.intro hst2 hst3))
      clear heq hst hst2 hst3
      refine start_ (n := 12) (S := fun w' => DB w' gb r ∧ Below w.heap.size w w' ∧ DB w' w.heap.size zero) (ds := []) #[false, false, false, false, false, false, false, false, false, false, false, false] (by kernel_rfl) rfl rfl ⟨(show DB w3.drew gb r from KD3.out), (show Below w.heap.size w w3.drew from below_drew KB3.out), (show DB w3.drew w.heap.size zero from KZ3.out)⟩ (fun hHeld => ?_)
      refine take_ (i := 0) (N := some 21) (v := .agg #[.int .u64 r.seq, .int .i64 r.slot, .int .i64 r.len, .int .u64 r.sum]) (a' := ?_) #[true, false, false, false, false, false, false, false, false, false, false, false] rfl rfl (by kernel_rfl) (fun _ _ _ h => h) (Or.inl ⟨by rfl, ?_⟩) hHeld ?_ ?_
      · rintro w' ⟨s0, s1, s2⟩
        (obtain ⟨z0, z1, z2, z3⟩ := box_cells s0)
        go_simp
        (try rfl)
      rotate_left
      · simp only [Act.put, List.setIfInBounds_toArray, List.set_cons_zero, List.set_cons_succ, i64_w, i32_w]
        rfl
      refine one_ (i := 1) (N := some 22) #[true, true, false, false, false, false, false, false, false, false, false, false] rfl rfl (by kernel_rfl) (by decide) (fun K hK => ?_)
      refine goes_ Try.func25 (by kernel_rfl) rfl #[.agg #[.int .u64 r.seq, .int .i64 r.slot, .int .i64 r.len, .int .u64 r.sum]] (by rfl) rfl rfl (by simp only [List.map_toArray, List.map_cons, List.map_nil]; rfl) ?_
      with_reducible refine (KRr.out _).mono ?_
      rintro e w11 ⟨rfl, hb11⟩
      refine ⟨_, rfl, ?_⟩
      refine hK.out _ _ ⟨(blk_below hHeld.1 hb11), (below_then hHeld.2.1 hHeld.2.1.size hb11), (blk_below hHeld.2.2 hb11)⟩ (fun hHeld => ?_)
      clear hK K
      refine norm_ (a' := ?_) ?_ ?_
      rotate_left
      · show Act.put _ (some 22) _ = _
        simp only [Act.put, List.setIfInBounds_toArray, List.set_cons_zero, List.set_cons_succ, i64_w, i32_w]
        rfl
      refine pure_ (i := 2) (N := some 23) (v := ?_) (a' := ?_) #[true, true, true, false, false, false, false, false, false, false, false, false] rfl rfl (by kernel_rfl) (fun _ _ _ h => h) (Or.inl ⟨by rfl, ?_⟩) ?_ ?_
      rotate_left
      · intro w'
        go_simp
        with_reducible rfl
      rotate_left
      · simp only [Act.put, List.setIfInBounds_toArray, List.set_cons_zero, List.set_cons_succ, i64_w, i32_w]
        rfl
      refine pure_ (i := 3) (N := some 24) (v := ?_) (a' := ?_) #[true, true, true, true, false, false, false, false, false, false, false, false] rfl rfl (by kernel_rfl) (fun _ _ _ h => h) (Or.inl ⟨by rfl, ?_⟩) ?_ ?_
      rotate_left
      · intro w'
        go_simp
        with_reducible rfl
      rotate_left
      · simp only [Act.put, List.setIfInBounds_toArray, List.set_cons_zero, List.set_cons_succ, i64_w, i32_w]
        rfl
      refine pure_ (i := 7) (N := some 28) (v := ?_) (a' := ?_) #[true, true, true, true, false, false, false, true, false, false, false, false] rfl rfl (by kernel_rfl) (fun _ _ _ h => h) (Or.inl ⟨by rfl, ?_⟩) ?_ ?_
      rotate_left
      · intro w'
        go_simp
        with_reducible rfl
      rotate_left
      · simp only [Act.put, List.setIfInBounds_toArray, List.set_cons_zero, List.set_cons_succ, i64_w, i32_w]
        rfl
      refine pure_ (i := 8) (N := some 29) (v := ?_) (a' := ?_) #[true, true, true, true, false, false, false, true, true, false, false, false] rfl rfl (by kernel_rfl) (fun _ _ _ h => h) (Or.inl ⟨by rfl, ?_⟩) ?_ ?_
      rotate_left
      · intro w'
        go_simp
        with_reducible rfl
      rotate_left
      · simp only [Act.put, List.setIfInBounds_toArray, List.set_cons_zero, List.set_cons_succ, i64_w, i32_w]
        rfl
      refine take_ (i := 4) (N := some 25) (v := .agg #[.int .u64 r.seq, .int .i64 r.slot, .int .i64 r.len, .int .u64 r.sum]) (a' := ?_) #[true, true, true, true, true, false, false, true, true, false, false, false] rfl rfl (by kernel_rfl) (fun _ _ _ h => h) (Or.inl ⟨by rfl, ?_⟩) hHeld ?_ ?_
      · rintro w' ⟨s0, s1, s2⟩
        (obtain ⟨z0, z1, z2, z3⟩ := box_cells s0)
        go_simp
        (try rfl)
      rotate_left
      · simp only [Act.put, List.setIfInBounds_toArray, List.set_cons_zero, List.set_cons_succ, i64_w, i32_w]
        rfl
      refine take_ (i := 9) (N := some 30) (v := .string (strOfNums (l.take 32))) (a' := ?_) #[true, true, true, true, true, false, false, true, true, true, false, false] rfl rfl (by kernel_rfl) (fun _ _ _ h => h) (Or.inl ⟨by rfl, ?_⟩) hHeld ?_ ?_
      · rintro w' ⟨s0, s1, s2⟩
        exact exec_convert 22 9 (Operand.tmp 29) (by rfl) _ _ (by rfl) (Kd.C_string (P := Try.prog) Try.underlying22 Try.underlying5 Try.underlying9 (KC32.out _ s1))
      rotate_left
      · simp only [Act.put, List.setIfInBounds_toArray, List.set_cons_zero, List.set_cons_succ, i64_w, i32_w]
        rfl
      refine one_ (i := 5) (N := some 26) #[true, true, true, true, true, true, false, true, true, true, false, false] rfl rfl (by kernel_rfl) (by decide) (fun K hK => ?_)
      refine goes_ Try.func27 (by kernel_rfl) rfl #[.agg #[.int .u64 r.seq, .int .i64 r.slot, .int .i64 r.len, .int .u64 r.sum]] (by rfl) rfl rfl (by simp only [List.map_toArray, List.map_cons, List.map_nil]; rfl) ?_
      with_reducible refine (KY.out _).mono ?_
      rintro e w17 ⟨A7, c7, rfl, hC7, hb17⟩
      refine ⟨_, rfl, ?_⟩
      refine hK.out _ _ ⟨(blk_below hHeld.1 hb17), (below_then hHeld.2.1 hHeld.2.1.size hb17), (blk_below hHeld.2.2 hb17)⟩ (fun hHeld => ?_)
      clear hK K
      refine norm_ (a' := ?_) ?_ ?_
      rotate_left
      · show Act.put _ (some 26) _ = _
        simp only [Act.put, List.setIfInBounds_toArray, List.set_cons_zero, List.set_cons_succ, i64_w, i32_w]
        rfl
      refine one_ (i := 6) (N := some 27) #[true, true, true, true, true, true, true, true, true, true, false, false] rfl rfl (by kernel_rfl) (by decide) (fun K hK => ?_)
      refine value_ (w1 := w17) (v := .string (strOfNums (bytesB r))) (by rfl) rfl (exec_convert 22 9 (Operand.tmp 26) (by rfl) _ _ (by rfl) (Kd.C_string (P := Try.prog) Try.underlying22 Try.underlying5 Try.underlying9 hC7)) ?_
      refine hK.out _ _ ⟨hHeld.1, hHeld.2.1, hHeld.2.2⟩ (fun hHeld => ?_)
      clear hK K
      refine norm_ (a' := ?_) ?_ ?_
      rotate_left
      · show Act.put _ (some 27) _ = _
        simp only [Act.put, List.setIfInBounds_toArray, List.set_cons_zero, List.set_cons_succ, i64_w, i32_w]
        rfl
      refine pure_ (i := 10) (N := some 31) (v := .bool false) (a' := ?_) #[true, true, true, true, true, true, true, true, true, true, true, false] rfl rfl (by kernel_rfl) (fun _ _ _ h => h) (Or.inl ⟨by rfl, ?_⟩) ?_ ?_
      · intro w'
        obtain ⟨hst, hst2, hst3⟩ := Keq.out
        go_simp
        (first |done |(simp only [hst, hst2, hst3]; done) |simp [beq_eq_false_iff_ne.mp hst] |simp [beq_iff_eq.mp hst])
      rotate_left
      · simp only [Act.put, List.setIfInBounds_toArray, List.set_cons_zero, List.set_cons_succ, i64_w, i32_w]
        rfl
      refine pure_ (i := 11) (N := some 32) (v := ?_) (a' := ?_) #[true, true, true, true, true, true, true, true, true, true, true, true] rfl rfl (by kernel_rfl) (fun _ _ _ h => h) (Or.inl ⟨by rfl, ?_⟩) ?_ ?_
      rotate_left
      · intro w'
        go_simp
        with_reducible rfl
      rotate_left
      · simp only [Act.put, List.setIfInBounds_toArray, List.set_cons_zero, List.set_cons_succ, i64_w, i32_w]
        rfl
      refine done_ (by kernel_rfl) ?_
      have KB4 := Aside0.mk hHeld.2.1
      have KD4 := Aside0.mk hHeld.1
      have KZ4 := Aside0.mk hHeld.2.2
      obtain ⟨q0, q1, q2, q3⟩ := box_cells KD4.out
      try clear hHeld
      obtain ⟨hst, hst2, hst3⟩ := Keq.out
      go_wp2_with ((with_reducible refine gate_store (t := 45) (p := 2) rfl ?_); apply Aside0.out)
      refine ⟨?_⟩
      refine store_rec rfl (.tmp 2) (.tmp 34) rfl w.heap.size #[] #[.int .u64 r.seq, .int .i64 r.slot, .int .i64 r.len, .int .u64 r.sum] _ rfl rfl KZ4.out rfl rfl (by simp [Value.oneCell']) ?_
      intro wd hg hB
      have KBd := Aside0.mk (hB _ _ (Nat.le_refl _) KB4.out)
      have KWe := Aside0.mk hg
      clear hg hB
      go_wp2
      refine bodyPost_ret (results_list (rs := [.cell 2 45, .tmp 3]) rfl (by simp) (.cell w.heap.size 45 _ _ _ rfl KWe.out Try.underlying45 rfl szRec (.tmp .nil))) rfl ?_
      exact ⟨KBd.out, Or.inl ⟨KI.out, by rw [Kr.out, isT_same Kl.out KI.out]; rfl⟩⟩
    · have KI : Aside0 (¬ isR l) := ⟨fun h => heq (KT.out.1 h)⟩
      rw [decide_eq_false heq] at hst
      have hst2 : ((strOfNums (bytesB r)).toList != (strOfNums (l.take 32)).toList) = true := by unfold bne; rw [hst]; rfl
      have hst3 : (!((strOfNums (bytesB r)).toList == (strOfNums (l.take 32)).toList)) = true := by rw [hst]; rfl
      have Keq := Aside0.mk (And.intro hst (And.intro hst2 hst3))
      clear heq hst hst2 hst3
      refine start_ (n := 12) (S := fun w' => DB w' gb r ∧ Below w.heap.size w w' ∧ DB w' w.heap.size zero) (ds := []) #[false, false, false, false, false, false, false, false, false, false, false, false] (by kernel_rfl) rfl rfl ⟨(show DB w3.drew gb r from KD3.out), (show Below w.heap.size w w3.drew from below_drew KB3.out), (show DB w3.drew w.heap.size zero from KZ3.out)⟩ (fun hHeld => ?_)
      refine take_ (i := 0) (N := some 21) (v := .agg #[.int .u64 r.seq, .int .i64 r.slot, .int .i64 r.len, .int .u64 r.sum]) (a' := ?_) #[true, false, false, false, false, false, false, false, false, false, false, false] rfl rfl (by kernel_rfl) (fun _ _ _ h => h) (Or.inl ⟨by rfl, ?_⟩) hHeld ?_ ?_
      · rintro w' ⟨s0, s1, s2⟩
        (obtain ⟨z0, z1, z2, z3⟩ := box_cells s0)
        go_simp
        (try rfl)
      rotate_left
      · simp only [Act.put, List.setIfInBounds_toArray, List.set_cons_zero, List.set_cons_succ, i64_w, i32_w]
        rfl
      refine one_ (i := 1) (N := some 22) #[true, true, false, false, false, false, false, false, false, false, false, false] rfl rfl (by kernel_rfl) (by decide) (fun K hK => ?_)
      refine goes_ Try.func25 (by kernel_rfl) rfl #[.agg #[.int .u64 r.seq, .int .i64 r.slot, .int .i64 r.len, .int .u64 r.sum]] (by rfl) rfl rfl (by simp only [List.map_toArray, List.map_cons, List.map_nil]; rfl) ?_
      with_reducible refine (KRr.out _).mono ?_
      rintro e w11 ⟨rfl, hb11⟩
      refine ⟨_, rfl, ?_⟩
      refine hK.out _ _ ⟨(blk_below hHeld.1 hb11), (below_then hHeld.2.1 hHeld.2.1.size hb11), (blk_below hHeld.2.2 hb11)⟩ (fun hHeld => ?_)
      clear hK K
      refine norm_ (a' := ?_) ?_ ?_
      rotate_left
      · show Act.put _ (some 22) _ = _
        simp only [Act.put, List.setIfInBounds_toArray, List.set_cons_zero, List.set_cons_succ, i64_w, i32_w]
        rfl
      refine pure_ (i := 2) (N := some 23) (v := ?_) (a' := ?_) #[true, true, true, false, false, false, false, false, false, false, false, false] rfl rfl (by kernel_rfl) (fun _ _ _ h => h) (Or.inl ⟨by rfl, ?_⟩) ?_ ?_
      rotate_left
      · intro w'
        go_simp
        with_reducible rfl
      rotate_left
      · simp only [Act.put, List.setIfInBounds_toArray, List.set_cons_zero, List.set_cons_succ, i64_w, i32_w]
        rfl
      refine pure_ (i := 3) (N := some 24) (v := ?_) (a' := ?_) #[true, true, true, true, false, false, false, false, false, false, false, false] rfl rfl (by kernel_rfl) (fun _ _ _ h => h) (Or.inl ⟨by rfl, ?_⟩) ?_ ?_
      rotate_left
      · intro w'
        go_simp
        with_reducible rfl
      rotate_left
      · simp only [Act.put, List.setIfInBounds_toArray, List.set_cons_zero, List.set_cons_succ, i64_w, i32_w]
        rfl
      refine pure_ (i := 7) (N := some 28) (v := ?_) (a' := ?_) #[true, true, true, true, false, false, false, true, false, false, false, false] rfl rfl (by kernel_rfl) (fun _ _ _ h => h) (Or.inl ⟨by rfl, ?_⟩) ?_ ?_
      rotate_left
      · intro w'
        go_simp
        with_reducible rfl
      rotate_left
      · simp only [Act.put, List.setIfInBounds_toArray, List.set_cons_zero, List.set_cons_succ, i64_w, i32_w]
        rfl
      refine pure_ (i := 8) (N := some 29) (v := ?_) (a' := ?_) #[true, true, true, true, false, false, false, true, true, false, false, false] rfl rfl (by kernel_rfl) (fun _ _ _ h => h) (Or.inl ⟨by rfl, ?_⟩) ?_ ?_
      rotate_left
      · intro w'
        go_simp
        with_reducible rfl
      rotate_left
      · simp only [Act.put, List.setIfInBounds_toArray, List.set_cons_zero, List.set_cons_succ, i64_w, i32_w]
        rfl
      refine take_ (i := 4) (N := some 25) (v := .agg #[.int .u64 r.seq, .int .i64 r.slot, .int .i64 r.len, .int .u64 r.sum]) (a' := ?_) #[true, true, true, true, true, false, false, true, true, false, false, false] rfl rfl (by kernel_rfl) (fun _ _ _ h => h) (Or.inl ⟨by rfl, ?_⟩) hHeld ?_ ?_
      · rintro w' ⟨s0, s1, s2⟩
        (obtain ⟨z0, z1, z2, z3⟩ := box_cells s0)
        go_simp
        (try rfl)
      rotate_left
      · simp only [Act.put, List.setIfInBounds_toArray, List.set_cons_zero, List.set_cons_succ, i64_w, i32_w]
        rfl
      refine take_ (i := 9) (N := some 30) (v := .string (strOfNums (l.take 32))) (a' := ?_) #[true, true, true, true, true, false, false, true, true, true, false, false] rfl rfl (by kernel_rfl) (fun _ _ _ h => h) (Or.inl ⟨by rfl, ?_⟩) hHeld ?_ ?_
      · rintro w' ⟨s0, s1, s2⟩
        exact exec_convert 22 9 (Operand.tmp 29) (by rfl) _ _ (by rfl) (Kd.C_string (P := Try.prog) Try.underlying22 Try.underlying5 Try.underlying9 (KC32.out _ s1))
      rotate_left
      · simp only [Act.put, List.setIfInBounds_toArray, List.set_cons_zero, List.set_cons_succ, i64_w, i32_w]
        rfl
      refine one_ (i := 5) (N := some 26) #[true, true, true, true, true, true, false, true, true, true, false, false] rfl rfl (by kernel_rfl) (by decide) (fun K hK => ?_)
      refine goes_ Try.func27 (by kernel_rfl) rfl #[.agg #[.int .u64 r.seq, .int .i64 r.slot, .int .i64 r.len, .int .u64 r.sum]] (by rfl) rfl rfl (by simp only [List.map_toArray, List.map_cons, List.map_nil]; rfl) ?_
      with_reducible refine (KY.out _).mono ?_
      rintro e w17 ⟨A7, c7, rfl, hC7, hb17⟩
      refine ⟨_, rfl, ?_⟩
      refine hK.out _ _ ⟨(blk_below hHeld.1 hb17), (below_then hHeld.2.1 hHeld.2.1.size hb17), (blk_below hHeld.2.2 hb17)⟩ (fun hHeld => ?_)
      clear hK K
      refine norm_ (a' := ?_) ?_ ?_
      rotate_left
      · show Act.put _ (some 26) _ = _
        simp only [Act.put, List.setIfInBounds_toArray, List.set_cons_zero, List.set_cons_succ, i64_w, i32_w]
        rfl
      refine one_ (i := 6) (N := some 27) #[true, true, true, true, true, true, true, true, true, true, false, false] rfl rfl (by kernel_rfl) (by decide) (fun K hK => ?_)
      refine value_ (w1 := w17) (v := .string (strOfNums (bytesB r))) (by rfl) rfl (exec_convert 22 9 (Operand.tmp 26) (by rfl) _ _ (by rfl) (Kd.C_string (P := Try.prog) Try.underlying22 Try.underlying5 Try.underlying9 hC7)) ?_
      refine hK.out _ _ ⟨hHeld.1, hHeld.2.1, hHeld.2.2⟩ (fun hHeld => ?_)
      clear hK K
      refine norm_ (a' := ?_) ?_ ?_
      rotate_left
      · show Act.put _ (some 27) _ = _
        simp only [Act.put, List.setIfInBounds_toArray, List.set_cons_zero, List.set_cons_succ, i64_w, i32_w]
        rfl
      refine pure_ (i := 10) (N := some 31) (v := .bool true) (a' := ?_) #[true, true, true, true, true, true, true, true, true, true, true, false] rfl rfl (by kernel_rfl) (fun _ _ _ h => h) (Or.inl ⟨by rfl, ?_⟩) ?_ ?_
      · intro w'
        obtain ⟨hst, hst2, hst3⟩ := Keq.out
        go_simp
        (first |done |(simp only [hst, hst2, hst3]; done) |simp [beq_eq_false_iff_ne.mp hst] |simp [beq_iff_eq.mp hst])
      rotate_left
      · simp only [Act.put, List.setIfInBounds_toArray, List.set_cons_zero, List.set_cons_succ, i64_w, i32_w]
        rfl
      refine pure_ (i := 11) (N := some 32) (v := ?_) (a' := ?_) #[true, true, true, true, true, true, true, true, true, true, true, true] rfl rfl (by kernel_rfl) (fun _ _ _ h => h) (Or.inl ⟨by rfl, ?_⟩) ?_ ?_
      rotate_left
      · intro w'
        go_simp
        with_reducible rfl
      rotate_left
      · simp only [Act.put, List.setIfInBounds_toArray, List.set_cons_zero, List.set_cons_succ, i64_w, i32_w]
        rfl
      refine done_ (by kernel_rfl) ?_
      have KB4 := Aside0.mk hHeld.2.1
      have KD4 := Aside0.mk hHeld.1
      have KZ4 := Aside0.mk hHeld.2.2
      obtain ⟨q0, q1, q2, q3⟩ := box_cells KD4.out
      try clear hHeld
      obtain ⟨hst, hst2, hst3⟩ := Keq.out
      go_wp2_with ((with_reducible refine gate_store (t := 45) (p := 2) rfl ?_); apply Aside0.out)
      refine ⟨?_⟩
      refine store_rec rfl (.tmp 2) (.tmp 33) rfl w.heap.size #[] _ _ rfl rfl KZ4.out rfl rfl (by simp [Value.oneCell']) ?_
      intro wd hg hB
      have KBd := Aside0.mk (hB _ _ (Nat.le_refl _) KB4.out)
      have KWe := Aside0.mk hg
      clear hg hB
      go_wp2
      refine bodyPost_ret (results_list (rs := [.cell 2 45, .tmp 3]) rfl (by simp) (.cell w.heap.size 45 _ _ _ rfl KWe.out Try.underlying45 rfl szRec (.tmp .nil))) rfl ?_
      exact ⟨KBd.out, Or.inr ⟨KI.out, rfl⟩⟩
  · have KI : Aside0 (¬ isR l) := ⟨fun h => hri (by rw [Kr.out]; exact ((isT Kl.out H32.out).2 h).1)⟩
    rw [decide_eq_false hri] at KRr
    clear hri
    refine start_ (n := 12) (S := fun w' => DB w' gb r ∧ Below w.heap.size w w' ∧ DB w' w.heap.size zero) (ds := []) #[false, false, false, false, false, false, false, false, false, false, false, false] (by kernel_rfl) rfl rfl ⟨(show DB w3.drew gb r from KD3.out), (show Below w.heap.size w w3.drew from below_drew KB3.out), (show DB w3.drew w.heap.size zero from KZ3.out)⟩ (fun hHeld => ?_)
    refine take_ (i := 0) (N := some 21) (v := .agg #[.int .u64 r.seq, .int .i64 r.slot, .int .i64 r.len, .int .u64 r.sum]) (a' := ?_) #[true, false, false, false, false, false, false, false, false, false, false, false] rfl rfl (by kernel_rfl) (fun _ _ _ h => h) (Or.inl ⟨by rfl, ?_⟩) hHeld ?_ ?_
    · rintro w' ⟨s0, s1, s2⟩
      (obtain ⟨z0, z1, z2, z3⟩ := box_cells s0)
      go_simp
      (try rfl)
    rotate_left
    · simp only [Act.put, List.setIfInBounds_toArray, List.set_cons_zero, List.set_cons_succ, i64_w, i32_w]
      rfl
    refine one_ (i := 1) (N := some 22) #[true, true, false, false, false, false, false, false, false, false, false, false] rfl rfl (by kernel_rfl) (by decide) (fun K hK => ?_)
    refine goes_ Try.func25 (by kernel_rfl) rfl #[.agg #[.int .u64 r.seq, .int .i64 r.slot, .int .i64 r.len, .int .u64 r.sum]] (by rfl) rfl rfl (by simp only [List.map_toArray, List.map_cons, List.map_nil]; rfl) ?_
    with_reducible refine (KRr.out _).mono ?_
    rintro e w11 ⟨rfl, hb11⟩
    refine ⟨_, rfl, ?_⟩
    refine hK.out _ _ ⟨(blk_below hHeld.1 hb11), (below_then hHeld.2.1 hHeld.2.1.size hb11), (blk_below hHeld.2.2 hb11)⟩ (fun hHeld => ?_)
    clear hK K
    refine norm_ (a' := ?_) ?_ ?_
    rotate_left
    · show Act.put _ (some 22) _ = _
      simp only [Act.put, List.setIfInBounds_toArray, List.set_cons_zero, List.set_cons_succ, i64_w, i32_w]
      rfl
    refine pure_ (i := 2) (N := some 23) (v := ?_) (a' := ?_) #[true, true, true, false, false, false, false, false, false, false, false, false] rfl rfl (by kernel_rfl) (fun _ _ _ h => h) (Or.inl ⟨by rfl, ?_⟩) ?_ ?_
    rotate_left
    · intro w'
      go_simp
      with_reducible rfl
    rotate_left
    · simp only [Act.put, List.setIfInBounds_toArray, List.set_cons_zero, List.set_cons_succ, i64_w, i32_w]
      rfl
    refine pure_ (i := 3) (N := some 24) (v := ?_) (a' := ?_) #[true, true, true, true, false, false, false, false, false, false, false, false] rfl rfl (by kernel_rfl) (fun _ _ _ h => h) (Or.inl ⟨by rfl, ?_⟩) ?_ ?_
    rotate_left
    · intro w'
      go_simp
      with_reducible rfl
    rotate_left
    · simp only [Act.put, List.setIfInBounds_toArray, List.set_cons_zero, List.set_cons_succ, i64_w, i32_w]
      rfl
    refine pure_ (i := 4) (N := some 25) (v := undef) (a' := ?_) #[true, true, true, true, true, false, false, false, false, false, false, false] rfl rfl (by kernel_rfl) (fun _ _ _ h => h) (Or.inr ⟨by rfl, rfl⟩) ?_ ?_
    rotate_left
    · simp only [Act.put, List.setIfInBounds_toArray, List.set_cons_zero, List.set_cons_succ, i64_w, i32_w]
      rfl
    refine pure_ (i := 5) (N := some 26) (v := undef) (a' := ?_) #[true, true, true, true, true, true, false, false, false, false, false, false] rfl rfl (by kernel_rfl) (fun _ _ _ h => h) (Or.inr ⟨by rfl, rfl⟩) ?_ ?_
    rotate_left
    · simp only [Act.put, List.setIfInBounds_toArray, List.set_cons_zero, List.set_cons_succ, i64_w, i32_w]
      rfl
    refine pure_ (i := 6) (N := some 27) (v := undef) (a' := ?_) #[true, true, true, true, true, true, true, false, false, false, false, false] rfl rfl (by kernel_rfl) (fun _ _ _ h => h) (Or.inr ⟨by rfl, rfl⟩) ?_ ?_
    rotate_left
    · simp only [Act.put, List.setIfInBounds_toArray, List.set_cons_zero, List.set_cons_succ, i64_w, i32_w]
      rfl
    refine pure_ (i := 7) (N := some 28) (v := undef) (a' := ?_) #[true, true, true, true, true, true, true, true, false, false, false, false] rfl rfl (by kernel_rfl) (fun _ _ _ h => h) (Or.inr ⟨by rfl, rfl⟩) ?_ ?_
    rotate_left
    · simp only [Act.put, List.setIfInBounds_toArray, List.set_cons_zero, List.set_cons_succ, i64_w, i32_w]
      rfl
    refine pure_ (i := 8) (N := some 29) (v := undef) (a' := ?_) #[true, true, true, true, true, true, true, true, true, false, false, false] rfl rfl (by kernel_rfl) (fun _ _ _ h => h) (Or.inr ⟨by rfl, rfl⟩) ?_ ?_
    rotate_left
    · simp only [Act.put, List.setIfInBounds_toArray, List.set_cons_zero, List.set_cons_succ, i64_w, i32_w]
      rfl
    refine pure_ (i := 9) (N := some 30) (v := undef) (a' := ?_) #[true, true, true, true, true, true, true, true, true, true, false, false] rfl rfl (by kernel_rfl) (fun _ _ _ h => h) (Or.inr ⟨by rfl, rfl⟩) ?_ ?_
    rotate_left
    · simp only [Act.put, List.setIfInBounds_toArray, List.set_cons_zero, List.set_cons_succ, i64_w, i32_w]
      rfl
    refine pure_ (i := 10) (N := some 31) (v := undef) (a' := ?_) #[true, true, true, true, true, true, true, true, true, true, true, false] rfl rfl (by kernel_rfl) (fun _ _ _ h => h) (Or.inr ⟨by rfl, rfl⟩) ?_ ?_
    rotate_left
    · simp only [Act.put, List.setIfInBounds_toArray, List.set_cons_zero, List.set_cons_succ, i64_w, i32_w]
      rfl
    refine pure_ (i := 11) (N := some 32) (v := ?_) (a' := ?_) #[true, true, true, true, true, true, true, true, true, true, true, true] rfl rfl (by kernel_rfl) (fun _ _ _ h => h) (Or.inl ⟨by rfl, ?_⟩) ?_ ?_
    rotate_left
    · intro w'
      go_simp
      with_reducible rfl
    rotate_left
    · simp only [Act.put, List.setIfInBounds_toArray, List.set_cons_zero, List.set_cons_succ, i64_w, i32_w]
      rfl
    refine done_ (by kernel_rfl) ?_
    have KB4 := Aside0.mk hHeld.2.1
    have KD4 := Aside0.mk hHeld.1
    have KZ4 := Aside0.mk hHeld.2.2
    obtain ⟨q0, q1, q2, q3⟩ := box_cells KD4.out
    try clear hHeld
    go_wp2_with ((with_reducible refine gate_store (t := 45) (p := 2) rfl ?_); apply Aside0.out)
    refine ⟨?_⟩
    refine store_rec rfl (.tmp 2) (.tmp 33) rfl w.heap.size #[] _ _ rfl rfl KZ4.out rfl rfl (by simp [Value.oneCell']) ?_
    intro wd hg hB
    have KBd := Aside0.mk (hB _ _ (Nat.le_refl _) KB4.out)
    have KWe := Aside0.mk hg
    clear hg hB
    go_wp2
    refine bodyPost_ret (results_list (rs := [.cell 2 45, .tmp 3]) rfl (by simp) (.cell w.heap.size 45 _ _ _ rfl KWe.out Try.underlying45 rfl szRec (.tmp .nil))) rfl ?_
    exact ⟨KBd.out, Or.inr ⟨KI.out, rfl⟩⟩
theorem rdecode_any (w : World) (l : List Int) (A : Option Addr) (c : Nat) (hC : Kd.C (Kd.int .u8) w A l.length l) (hl : ∀ x ∈ l, 0 ≤ x ∧ x < 256) (hm : l.length ≤ 1000000) (hc : l.length ≤ c) :
    Calls Try.prog 29 #[.slice A l.length c] w fun e w' => Below w.heap.size w w' ∧ e = .returned (.tuple #[.agg #[.int .u64 (dec l).1.seq, .int .i64 (dec l).1.slot, .int .i64 (dec l).1.len, .int .u64 (dec l).1.sum], .int .i64 (dec l).2]) := by
  by_cases h32 : 32 ≤ l.length
  · refine (rdecode_long w l A c hC hl hm hc h32).mono ?_
    rintro e w' ⟨hB, ⟨hi, rfl⟩ | ⟨hi, rfl⟩⟩
    · exact ⟨hB, by unfold dec; rw [if_pos hi]⟩
    · exact ⟨hB, by unfold dec; rw [if_neg hi]; rfl⟩
  · refine (rdecode_short w l A c h32).mono ?_
    rintro e w' ⟨hB, rfl⟩
    exact ⟨hB, by unfold dec; rw [if_neg (fun h => h32 h.1)]; rfl⟩
/-- What Decode answers, in one form. -/
theorem decode_dec (w : World) (l : List Int) (A : Option Addr) (c : Nat) (hC : Kd.C (Kd.int .u8) w A l.length l) (hl : ∀ x ∈ l, 0 ≤ x ∧ x < 256) (hm : l.length ≤ 1000000) (hc : l.length ≤ c) :
    Calls Try.prog 28 #[.slice A l.length c] w fun e w' => Below w.heap.size w w' ∧ e = .returned (.tuple #[.agg #[.int .u64 (dec l).1.seq, .int .i64 (dec l).1.slot, .int .i64 (dec l).1.len, .int .u64 (dec l).1.sum], .int .i64 (dec l).2]) := by
  refine (decode_any w l A c hC hl hm hc).mono ?_
  rintro e w' ⟨hB, ⟨hi, rfl⟩ | ⟨hi, rfl⟩⟩
  · exact ⟨hB, by unfold dec; rw [if_pos hi]⟩
  · exact ⟨hB, by unfold dec; rw [if_neg hi]; rfl⟩
end Go.Proofs.Ytgplpcjlemjabaa.Bo
