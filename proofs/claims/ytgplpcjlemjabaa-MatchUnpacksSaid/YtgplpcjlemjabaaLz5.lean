/- Blocks are unpacked: Decode. -/
import Derived.Test.YtgplpcjlemjabaaLz4
set_option linter.unusedVariables false
set_option linter.unusedSimpArgs false
namespace Go.Proofs.Ytgplpcjlemjabaa.Lz
open Go.RowKit Go.Proofs.YtgplpcjlemjabaaW.PrintWords Go.Proofs.YtgplpcjlemjabaaW.PrintLast Go.Proofs.YtgplpcjlemjabaaW.PrintMore
/-- The closure's state: what is unpacked, in the box p. -/
def ID (base p : Nat) (wr : World) (acc : List Sq) (o : Option Nat) : Prop :=
  ∃ u, wr.heap[p]? = some (.cells #[u] 22 (0, 0)) ∧ Row.OwnB wr base u (outs [] acc) ∧ u.ownBlock = o
theorem own_frame {w w1 : World} {base : Nat} {u : Value} {xs : List Int} (h : Row.OwnB w base u xs) (hb : ∀ k, u.ownBlock = some k → w1.heap[k]? = w.heap[k]?) : Row.OwnB w1 base u xs := by
  have h0 := Kd.own_of_R h
  refine Kd.R_of_own ?_ (fun _ _ => trivial)
  obtain ⟨hl, h1 | ⟨g, cap, cur, hv, hg, hh, r1⟩⟩ := h0
  · exact ⟨hl, Or.inl h1⟩
  · exact ⟨hl, Or.inr ⟨g, cap, cur, hv, hg, (hb g (by rw [hv]; rfl)).trans hh, r1⟩⟩
theorem own_lt {w : World} {base : Nat} {u : Value} {xs : List Int} (h : Row.OwnB w base u xs) : ∀ k, u.ownBlock = some k → k < w.heap.size := Kd.R_lt h
theorem own_box {w : World} {base p : Nat} {u v : Value} {xs : List Int} (h : Row.OwnB w base u xs) (hp : w.heap[p]? = some (.cells #[v] 22 (0, 0))) : u.ownBlock ≠ some p := by
  intro e
  obtain ⟨cs, hc⟩ := own_typed (Kd.own_of_R h) p e
  rw [hp] at hc
  injection hc with hc
  injection hc with h1 h2
  cases h2
theorem outs_length (l : List Sq) : ∀ o : List Int, (∀ s ∈ l, 0 ≤ s.2.2) → ((outs o l).length : Int) = o.length + tot l := by
  induction l with
  | nil => intro o _; simp [outs, tot]
  | cons s l ih =>
    intro o h
    have h1 := h s (by simp)
    rw [outs, ih _ (fun t ht => h t (by simp [ht])), cp_length, List.length_append]
    simp only [tot]
    omega
theorem ID_stab (base p : Nat) : Stab p (ID base p) := by
  intro wr w' acc o ⟨u, h1, h2, h3⟩ hk
  have hp := (Array.getElem?_eq_some_iff.1 h1).1
  exact ⟨u, (hk p hp (Or.inl rfl)).trans h1, own_frame h2 (fun k e => hk k (own_lt h2 k e) (Or.inr (by rw [← h3, e]))), h3⟩
theorem load_box {w : World} {a : Addr} {v : Value} (h : w.cell? a = some v) : (loadVar 22 a).run Try.prog w = .ok v w := by
  have hu : Try.prog.underlying 22 = some (.slice 5) := Try.underlying22
  simp [go_sem, loadVar, run_underlying hu, h]
theorem results_cell3 {fn : Func} {p t u v : Nat} (h : fn.results = #[.cell p t, .tmp u, .tmp v]) (tmps : Array Value) (P : Program) (w : World) (a : Addr) (x : Value) (hp : tmps.getD p undef = .pointer (some a)) (hl : (loadVar t a).run P w = .ok x w) :
    (results fn tmps).run P w = .ok (.tuple #[x, tmps.getD u undef, tmps.getD v undef]) w := by
  simp only [results, h]
  have hp2 := hp
  simp only [Array.getD_eq_getD_getElem?] at hp2
  simp [asAddr, hp2, hl]
/-- What a block unpacks to; the error; its place. -/
def dec (b : List Int) (most : Int) : List Int × Int × Int :=
  if most < 0 ∨ 1048576 < most then ([], 1, 0)
  else if (run b.length most (b.length + 1) 0 b).2.1 = 0 then (outs [] (run b.length most (b.length + 1) 0 b).1, 0, b.length) else ([], (run b.length most (b.length + 1) 0 b).2)
set_option maxHeartbeats 4000000 in
set_option maxRecDepth 100000 in
theorem dec_take (w0 : World) (base p : Nat) (most : Int) (hm2 : most ≤ 1048576) (hbp : base ≤ p) (wr : World) (acc : List Sq) (o : Option Nat) (lit : List Int) (A2 : Option Addr) (c2 : Nat) (off len : Int) (hI : ID base p wr acc o ∧ ((outs [] acc).length : Int) = tot acc) (HB : Below base w0 wr) (hbase : base ≤ wr.heap.size) (hfit : Fits most (tot acc) lit off len) (h0 : 0 ≤ tot acc) (hC : ∀ w', Below base w0 w' → Kd.C (Kd.int .u8) w' A2 lit.length lit) (hc2 : lit.length ≤ c2) :
    Calls Try.prog 61 (#[.agg #[.slice A2 lit.length c2, .int .i64 off, .int .i64 len]] ++ #[.pointer (some ⟨p, 0, none⟩)]) wr fun e w' => e = .returned (.tuple #[]) ∧ Below base w0 w' ∧ wr.heap.size ≤ w'.heap.size ∧ (∀ k, k < wr.heap.size → k ≠ p → some k ≠ o → w'.heap[k]? = wr.heap[k]?) ∧ ∃ o', (ID base p w' (acc ++ [(lit, off, len)]) o' ∧ ((outs [] (acc ++ [(lit, off, len)])).length : Int) = tot (acc ++ [(lit, off, len)])) ∧ (o' = o ∨ ∃ q, o' = some q ∧ wr.heap.size ≤ q) ∧ (∀ q, o' = some q → q < w'.heap.size) := by
  obtain ⟨⟨u, hp, ho, rfl⟩, hlen⟩ := hI
  obtain ⟨f1, f2, f3, f4, f5⟩ := hfit
  obtain ⟨offn, rfl⟩ : ∃ n : Nat, off = n := ⟨off.toNat, by omega⟩
  obtain ⟨lenn, rfl⟩ : ∃ n : Nat, len = n := ⟨len.toNat, by omega⟩
  have hplt := (Array.getElem?_eq_some_iff.1 hp).1
  have hal : Below wr.heap.size wr (wr.alloc (.cells #[.slice A2 lit.length c2, .int .i64 offn, .int .i64 lenn] 67)) := below_alloc (Below.refl _ _) _
  have hun := unpack_any w0 base u (outs [] acc) lit A2 c2 offn lenn _ (ho.below hal) (HB.trans (hal.mono hbase)) (by have := hal.size; omega) hC (by omega) (by omega) (by omega) (by omega)
  have hcp : w0 = w0 := rfl
  have Ku := Aside0.mk hun
  have hp0 : wr.cell? ⟨p, 0, none⟩ = some u := (cell_of_row _ _ _ _ _ _ hp).trans rfl
  have hbox := own_box ho hp
  have K := Aside0.mk (And.intro hp (And.intro ho (And.intro hbox hal)))
  have Kl := Aside0.mk hlen
  have Kb := Aside0.mk HB
  have Kf := Aside0.mk (And.intro f2 (And.intro f3 f4))
  have Kr := Aside0.mk hplt
  have Kbs := Aside0.mk (And.intro hbp hbase)
  clear hp ho hbox hal hun hlen HB f1 f2 f3 f4 f5 hC hcp hbase hbp
  go_enter Try.func61, Try.ntmps61
  go_wp2_with (go_at_call 62; refine Ku.out.mono ?_; rintro e w1 ⟨v1, rfl, ho1, hb1, hg1, hat1⟩; have hp1 : w1.heap[p]? = some (.cells #[u] 22 (0, 0)) := (hg1.block p (by have := K.out.2.2.2.size; omega) (fun e => K.out.2.2.1 e.symm)).trans ((K.out.2.2.2.block p Kr.out).trans K.out.1); have hce : w1.cell? ⟨p, 0, none⟩ = some u := (cell_of_row _ _ _ _ _ _ hp1).trans rfl; have hfr : w1.frozen? ⟨p, 0, none⟩ = false := blk_frozen hp1 0; obtain ⟨A1, c1, hv1⟩ := Kd.R_slice ho1; obtain ⟨n1, hn1⟩ : ∃ n1, n1 = (cp (outs [] acc ++ lit) offn lenn).length := ⟨_, rfl⟩; rw [← hn1] at hv1; subst hv1; have K1 := Aside0.mk (And.intro hp1 (And.intro ho1 (And.intro hb1 (And.intro hg1 hat1)))); clear hp1 ho1 hb1 hg1 hat1 Ku hn1)
  go_end0
  obtain ⟨hp1, ho1, hb1, hg1, hat1⟩ := K1.out
  obtain ⟨f2, f3, f4⟩ := Kf.out
  have hal := K.out.2.2.2
  have hbox1 := own_box ho1 hp1
  have hsz := hg1.size
  have hsz0 := hal.size
  have hset : ∀ k, k ≠ p → (w1.setCell ⟨p, 0, none⟩ (.slice A1 n1 c1)).heap[k]? = w1.heap[k]? := fun k hk => Below.heap_setCell w1 ⟨p, 0, none⟩ _ k hk
  have ho2 : Row.OwnB (w1.setCell ⟨p, 0, none⟩ (.slice A1 n1 c1)) base (.slice A1 n1 c1) (cp (outs [] acc ++ lit) offn lenn) := own_frame ho1 fun k e => hset k fun e2 => hbox1 (by rw [e, e2])
  refine ⟨rfl, hb1.setCell Kbs.out.1 _, by simp only [World.size_setCell]; omega, fun k hk h1 h2 => (hset k h1).trans ((hg1.block k (by omega) h2).trans (hal.block k hk)), _, ⟨⟨_, blk_set hp1 0 _, ?_, rfl⟩, ?_⟩, ?_, own_lt ho2⟩
  · rw [outs_snoc]
    exact ho2
  · have := Kl.out
    rw [outs_snoc, tot_snoc, cp_length, List.length_append]
    simp only [Int.toNat_natCast]
    omega
  · rcases hat1 with e | ⟨q, e, hq⟩
    · exact Or.inl e
    · exact Or.inr ⟨q, e, by omega⟩
set_option maxHeartbeats 4000000 in
set_option maxRecDepth 100000 in
/-- Decode. -/
theorem decode_any (w : World) (b : List Int) (A : Option Addr) (c : Nat) (most : Int) (hC : ∀ w', Below w.heap.size w w' → Kd.C (Kd.int .u8) w' A b.length b) (hb : isB b) (hN : b.length ≤ 1000000) (hcap : b.length ≤ c) :
    Calls Try.prog 37 #[.slice A b.length c, .int .i64 most] w fun e w' => ∃ v, e = .returned (.tuple #[v, .int .i64 (dec b most).2.1, .int .i64 (dec b most).2.2]) ∧ Row.OwnB w' w.heap.size v (dec b most).1 ∧ Below w.heap.size w w' := by
  by_cases hm : most < 0 ∨ 1048576 < most
  · have hd : dec b most = ([], 1, 0) := by unfold dec; rw [if_pos hm]
    rw [hd]
    clear hC hd
    have hal : Below w.heap.size w (w.alloc (.cells #[.slice none 0 0] 22)) := below_alloc (Below.refl _ _) _
    have Kal := Aside0.mk hal
    clear hal
    rcases hm with hm | hm
    all_goals
      go_enter Try.func37, Try.ntmps37
      go_wp2
      refine bodyPost_ret (results_cell3 rfl _ _ _ ⟨w.heap.size, 0, none⟩ (.slice none 0 0) rfl (load_box ((cell_of_row _ _ _ _ _ _ (heap_alloc_new w _)).trans rfl))) rfl ?_
      exact ⟨_, rfl, Row.OwnB.nil _ _, Kal.out⟩
  obtain ⟨hm0, hm1⟩ : 0 ≤ most ∧ most ≤ 1048576 := by omega
  have KC := Aside0.mk hC
  have Kb := Aside0.mk hb
  have hal : Below w.heap.size w (w.alloc (.cells #[.slice none 0 0] 22)) := below_alloc (Below.refl _ _) _
  have hin := heap_alloc_new w (.cells #[.slice none 0 0] 22)
  have heach := each_dec w w.heap.size b A c most w.heap.size (fun wr acc o => ID w.heap.size w.heap.size wr acc o ∧ ((outs [] acc).length : Int) = tot acc) none (w.alloc (.cells #[.slice none 0 0] 22)) (fun wr w' acc o h hk => ⟨ID_stab _ _ wr w' acc o h.1 hk, h.2⟩) (fun wr acc o lit A2 c2 off len hI HB hbase hfit h0 hC hc2 => dec_take w w.heap.size w.heap.size most hm1 (Nat.le_refl _) wr acc o lit A2 c2 off len hI HB hbase hfit h0 hC hc2) ⟨⟨_, hin, Row.OwnB.nil _ _, rfl⟩, rfl⟩ (by simp) (by simp) hal (by simp) KC.out Kb.out hN hm0 hm1 hcap
  have hd : dec b most = if (run b.length most (b.length + 1) 0 b).2.1 = 0 then (outs [] (run b.length most (b.length + 1) 0 b).1, 0, (b.length : Int)) else ([], (run b.length most (b.length + 1) 0 b).2) := by unfold dec; rw [if_neg hm]
  unfold EP at heach
  obtain ⟨l, er, pp, hrun⟩ : ∃ l er pp, run b.length most (b.length + 1) 0 b = (l, er, pp) := ⟨_, _, _, rfl⟩
  rw [hrun] at hd heach
  simp only at hd heach
  have Ke := Aside0.mk heach
  clear hal hin heach hrun hC hb hm
  by_cases her : er = 0
  · subst her
    rw [if_pos rfl] at hd
    rw [hd]
    clear hd
    go_enter Try.func37, Try.ntmps37
    go_wp2_with (go_at_call 60; refine Ke.out.mono ?_; rintro e w1 ⟨g, at2, s2, o', rfl, hg, hR, htot, hb1, hs1, hf1, ⟨⟨u, hu1, hu2, hu3⟩, hlen⟩, ho', hlt'⟩; obtain ⟨A1, c1, hv1⟩ := Kd.R_slice hu2; obtain ⟨n1, hn1⟩ : ∃ n1, n1 = (outs [] l).length := ⟨_, rfl⟩; rw [← hn1] at hv1; subst hv1; have Kg := Aside0.mk (own_box hu2 hu1); have hpc : w1.cell? ⟨w.heap.size, 0, none⟩ = some (.slice A1 n1 c1) := (cell_of_row _ _ _ _ _ _ hu1).trans rfl; have hpf : w1.frozen? ⟨w.heap.size, 0, none⟩ = false := blk_frozen hu1 0; have hg4 := (RD_cells hR).2.2.2.2.1; have K1 := Aside0.mk (And.intro hu1 (And.intro hu2 hb1)); clear hR htot hb1 hs1 hf1 hu1 hu2 hu3 hlen ho' hlt' hn1 Ke)
    obtain ⟨hu1, hu2, hb1⟩ := K1.out
    refine bodyPost_ret (results_cell3 rfl _ _ _ ⟨w.heap.size, 0, none⟩ (.slice A1 n1 c1) rfl (load_box ((cell_of_row _ _ _ _ _ _ (blk_set hu1 0 _)).trans rfl))) rfl ?_
    exact ⟨_, rfl, own_frame hu2 fun k e => Below.heap_setCell w1 ⟨w.heap.size, 0, none⟩ _ k fun e2 => Kg.out (by rw [e, e2]), hb1.setCell (Nat.le_refl _) _⟩
  · rw [if_neg her] at hd
    rw [hd]
    clear hd
    have hne : ((er : Int) == 0) = false := by simpa using her
    go_enter Try.func37, Try.ntmps37
    go_wp2_with (go_at_call 60; refine Ke.out.mono ?_; rintro e w1 ⟨g, at2, s2, o', rfl, hg, hR, htot, hb1, hs1, hf1, ⟨⟨u, hu1, hu2, hu3⟩, hlen⟩, ho', hlt'⟩; obtain ⟨A1, c1, hv1⟩ := Kd.R_slice hu2; obtain ⟨n1, hn1⟩ : ∃ n1, n1 = (outs [] l).length := ⟨_, rfl⟩; rw [← hn1] at hv1; subst hv1; have hpc : w1.cell? ⟨w.heap.size, 0, none⟩ = some (.slice A1 n1 c1) := (cell_of_row _ _ _ _ _ _ hu1).trans rfl; have hpf : w1.frozen? ⟨w.heap.size, 0, none⟩ = false := blk_frozen hu1 0; obtain ⟨g0, g1, g2, g3, hg4, hg5⟩ := (RD_cells hR); have hgp : w.heap.size < g := Nat.lt_of_succ_le (by simpa using hg); have K1 := Aside0.mk (And.intro hu1 hb1); clear g0 g1 g2 g3 hg hR htot hb1 hs1 hf1 hu1 hu2 hu3 hlen ho' hlt' hn1 Ke)
    refine start_ (n := 11) (S := fun w' => w'.cell? ⟨g, 4, none⟩ = some (.int .i64 er) ∧ w'.cell? ⟨g, 5, none⟩ = some (.int .i64 pp)) (ds := []) #[false, false, false, false, false, false, false, false, false, false, false] (by kernel_rfl) rfl rfl ⟨(show w1.cell? _ = _ from hg4), (show w1.cell? _ = _ from hg5)⟩ (fun hHeld => ?_)
    refine pure_ (i := 0) (N := some 23) (v := ?_) (a' := ?_) #[true, false, false, false, false, false, false, false, false, false, false] rfl rfl (by kernel_rfl) (fun _ _ _ h => h) (Or.inl ⟨by rfl, ?_⟩) ?_ ?_
    rotate_left
    · intro w'
      go_simp
      with_reducible rfl
    rotate_left
    · simp only [Act.put, List.setIfInBounds_toArray, List.set_cons_zero, List.set_cons_succ, i64_w, i32_w]
      rfl
    refine pure_ (i := 1) (N := some 24) (v := ?_) (a' := ?_) #[true, true, false, false, false, false, false, false, false, false, false] rfl rfl (by kernel_rfl) (fun _ _ _ h => h) (Or.inl ⟨by rfl, ?_⟩) ?_ ?_
    rotate_left
    · intro w'
      go_simp
      with_reducible rfl
    rotate_left
    · simp only [Act.put, List.setIfInBounds_toArray, List.set_cons_zero, List.set_cons_succ, i64_w, i32_w]
      rfl
    refine pure_ (i := 2) (N := some 25) (v := ?_) (a' := ?_) #[true, true, true, false, false, false, false, false, false, false, false] rfl rfl (by kernel_rfl) (fun _ _ _ h => h) (Or.inl ⟨by rfl, ?_⟩) ?_ ?_
    rotate_left
    · intro w'
      go_simp
      with_reducible rfl
    rotate_left
    · simp only [Act.put, List.setIfInBounds_toArray, List.set_cons_zero, List.set_cons_succ, i64_w, i32_w]
      rfl
    refine pure_ (i := 4) (N := some 27) (v := ?_) (a' := ?_) #[true, true, true, false, true, false, false, false, false, false, false] rfl rfl (by kernel_rfl) (fun _ _ _ h => h) (Or.inl ⟨by rfl, ?_⟩) ?_ ?_
    rotate_left
    · intro w'
      go_simp
      with_reducible rfl
    rotate_left
    · simp only [Act.put, List.setIfInBounds_toArray, List.set_cons_zero, List.set_cons_succ, i64_w, i32_w]
      rfl
    refine pure_ (i := 5) (N := some 28) (v := ?_) (a' := ?_) #[true, true, true, false, true, true, false, false, false, false, false] rfl rfl (by kernel_rfl) (fun _ _ _ h => h) (Or.inl ⟨by rfl, ?_⟩) ?_ ?_
    rotate_left
    · intro w'
      go_simp
      with_reducible rfl
    rotate_left
    · simp only [Act.put, List.setIfInBounds_toArray, List.set_cons_zero, List.set_cons_succ, i64_w, i32_w]
      rfl
    refine pure_ (i := 6) (N := some 29) (v := ?_) (a' := ?_) #[true, true, true, false, true, true, true, false, false, false, false] rfl rfl (by kernel_rfl) (fun _ _ _ h => h) (Or.inl ⟨by rfl, ?_⟩) ?_ ?_
    rotate_left
    · intro w'
      go_simp
      with_reducible rfl
    rotate_left
    · simp only [Act.put, List.setIfInBounds_toArray, List.set_cons_zero, List.set_cons_succ, i64_w, i32_w]
      rfl
    refine take_ (i := 3) (N := some 26) (v := ?_) (a' := ?_) #[true, true, true, true, true, true, true, false, false, false, false] rfl rfl (by kernel_rfl) (fun _ _ _ h => h) (Or.inl ⟨by rfl, ?_⟩) hHeld ?_ ?_
    rotate_left
    · rintro w' ⟨s0, s1⟩
      go_simp
      with_reducible rfl
    rotate_left
    · simp only [Act.put, List.setIfInBounds_toArray, List.set_cons_zero, List.set_cons_succ, i64_w, i32_w]
      rfl
    refine take_ (i := 7) (N := some 30) (v := ?_) (a' := ?_) #[true, true, true, true, true, true, true, true, false, false, false] rfl rfl (by kernel_rfl) (fun _ _ _ h => h) (Or.inl ⟨by rfl, ?_⟩) hHeld ?_ ?_
    rotate_left
    · rintro w' ⟨s0, s1⟩
      go_simp
      with_reducible rfl
    rotate_left
    · simp only [Act.put, List.setIfInBounds_toArray, List.set_cons_zero, List.set_cons_succ, i64_w, i32_w]
      rfl
    refine one_ (i := 8) (N := none) #[true, true, true, true, true, true, true, true, true, false, false] rfl rfl (by kernel_rfl) (by decide) (fun K hK => ?_)
    refine skip_ (w1 := ?_) (by rfl) rfl ?_ ?_
    rotate_left
    · go_simp
      rfl
    refine hK.out _ _ ⟨((World.cell?_of_block (a := ⟨g, 4, none⟩) (Below.heap_setCell _ ⟨w.heap.size, 0, none⟩ _ g (Nat.ne_of_gt hgp))).trans hg4), ((World.cell?_of_block (a := ⟨g, 5, none⟩) (Below.heap_setCell _ ⟨w.heap.size, 0, none⟩ _ g (Nat.ne_of_gt hgp))).trans hg5)⟩ (fun hHeld => ?_)
    clear hK K
    refine pure_ (i := 9) (N := some 5) (v := ?_) (a' := ?_) #[true, true, true, true, true, true, true, true, true, true, false] rfl rfl (by kernel_rfl) (fun _ _ _ h => h) (Or.inl ⟨by rfl, ?_⟩) ?_ ?_
    rotate_left
    · intro w'
      go_simp
      with_reducible rfl
    rotate_left
    · simp only [Act.put, List.setIfInBounds_toArray, List.set_cons_zero, List.set_cons_succ, i64_w, i32_w]
      rfl
    refine pure_ (i := 10) (N := some 6) (v := ?_) (a' := ?_) #[true, true, true, true, true, true, true, true, true, true, true] rfl rfl (by kernel_rfl) (fun _ _ _ h => h) (Or.inl ⟨by rfl, ?_⟩) ?_ ?_
    rotate_left
    · intro w'
      go_simp
      with_reducible rfl
    rotate_left
    · simp only [Act.put, List.setIfInBounds_toArray, List.set_cons_zero, List.set_cons_succ, i64_w, i32_w]
      rfl
    refine done_ (by kernel_rfl) ?_
    go_wp2
    have hu3 := blk_set K1.out.1 0 (.slice none 0 0)
    refine bodyPost_ret (results_cell3 rfl _ _ _ ⟨w.heap.size, 0, none⟩ (.slice none 0 0) rfl (load_box ((cell_of_row _ _ _ _ _ _ (show (w1.setCell ⟨w.heap.size, 0, none⟩ (.slice none 0 0)).drew.heap[w.heap.size]? = _ from hu3)).trans rfl))) rfl ?_
    exact ⟨_, rfl, Row.OwnB.nil _ _, (K1.out.2.setCell (Nat.le_refl _) _).drew⟩
end Go.Proofs.Ytgplpcjlemjabaa.Lz
