/- Bytes in blocks: the statement's walk. -/
import Derived.Test.YtpdggoapjbjmhaaBk11
import Derived.Test.YtpdggoapjbjmhaaBk4
import Derived.OpenShut
set_option linter.unusedVariables false
set_option linter.unusedSimpArgs false
namespace Go.Proofs.Ytpdggoapjbjmhaa
open Go.RowKit Go.Proofs.Ytpdggoapjbjmhaa.Fd Go.Proofs.Ytpdggoapjbjmhaa.Bg Go.Proofs.Ytpdggoapjbjmhaa.Lz Go.Proofs.Ytpdggoapjbjmhaa.Bk Go.Proofs.YtpdggoapjbjmhaaW.PrintWords Go.Proofs.YtpdggoapjbjmhaaW.PrintLast Go.Proofs.YtpdggoapjbjmhaaW.PrintMore
namespace BlocksSplits
theorem big_ (w : World) (A0 : Option Addr) (c0 n0 : Nat) (a1 a2 : Int) (hd1 : decide ((n0 : Int) > 20000) = true) : Calls Try.prog 5 #[.slice A0 n0 c0, .int .i64 a1, .int .u64 a2] w fun e w' => e = .returned (.bool true) ∧ Below w.heap.size w w' := by
  go_enter Try.func5, Try.ntmps5
  go_wp2_with (go_at_call 19; refine (live_any _).mono ?_; rintro e w' ⟨rfl, hbel⟩)
  go_ret
  exact ⟨rfl, hbel⟩
theorem split_bad (w : World) (A : Option Addr) (n c x : Nat) (lg : Int) (lo hi : Bool) (hd1 : decide (lg < 12) = lo) (hd2 : decide (lg > 20) = hi) (ho : lo = true ∨ (lo = false ∧ hi = true)) : Calls Try.prog 22 #[.slice A n c, .int .i64 lg, .float .f64 x] w fun e w' => e = .returned (.tuple #[.slice none 0 0, .slice none 0 0, .slice none 0 0, .int .i64 1]) ∧ w = w' := by
  rcases ho with rfl | ⟨rfl, rfl⟩
  all_goals
    go_enter Try.func22, Try.ntmps22
    go_wp2
    refine bodyPost_ret (results_list (rs := [.tmp 6, .tmp 7, .tmp 8, .tmp 9]) rfl (by simp) (.tmp (.tmp (.tmp (.tmp .nil))))) rfl ?_
    exact ⟨rfl, rfl⟩
theorem bad_ (w : World) (A0 : Option Addr) (c0 n0 : Nat) (a1 a2 : Int) (lo hi : Bool) (hd0 : decide ((n0 : Int) > 20000) = false) (hd1 : decide (a1 < 12) = lo) (hd2 : decide (a1 > 20) = hi) (ho : lo = true ∨ (lo = false ∧ hi = true)) : Calls Try.prog 5 #[.slice A0 n0 c0, .int .i64 a1, .int .u64 a2] w fun e w' => e = .returned (.bool true) ∧ Below w.heap.size w w' := by
  have hbits := Ma.bits_any a2
  have KS := Aside0.mk (split_bad w A0 n0 c0 a2.toNat a1 lo hi hd1 hd2 ho)
  rcases ho with rfl | ⟨rfl, rfl⟩
  all_goals
    go_enter Try.func5, Try.ntmps5
    go_wp2_with (first
      | (go_at_call 22; refine KS.out.mono ?_; rintro e w' ⟨rfl, rfl⟩)
      | (go_at_call 17; refine (num_any _ _).mono ?_; rintro e w' ⟨rfl, rfl⟩)
      | (go_at_call 19; refine (live_any _).mono ?_; rintro e w' ⟨rfl, hbel⟩))
    go_ret
    exact ⟨rfl, hbel⟩
theorem one_cut (l : List Int) : ∀ k, k < l.length → (l.take (k + 1)).drop k = [rd l (k : Int)] := by
  induction l with
  | nil => intro k h; exact absurd h (by simp)
  | cons a l ih =>
    intro k h
    cases k with
    | zero => rfl
    | succ k =>
      have h2 := ih k (by simp at h; omega)
      unfold rd at h2 ⊢
      rw [Int.toNat_natCast] at h2 ⊢
      rw [List.take_succ_cons, List.drop_succ_cons, h2]
      rfl
theorem ots_isB {b : List Int} (hb : isB b) (hn : b.length ≤ 20000) (z x : Nat) : ∀ q, isB (ots b z x q)
  | 0 => fun y hy => by cases hy
  | q + 1 => by
    have hbb : isB (blk b z q) := fun y hy => hb y (List.mem_of_mem_drop (List.mem_of_mem_take hy))
    have hN : (blk b z q).length ≤ 1048576 := by unfold blk; rw [List.length_take, List.length_drop]; omega
    refine isB_app (ots_isB hb hn z x q) ?_
    cases h0 : all0 (blk b z q) with
    | true => rw [sto_zero h0]; exact fun y hy => by cases hy
    | false => rw [sto_some h0]; exact sumd_isB (dat_isB hbb hN x)
theorem wds_bds {b : List Int} (hb : isB b) (hn : b.length ≤ 20000) (z x : Nat) : ∀ q, ∀ y ∈ wds b z x q, -9223372036854775808 ≤ y ∧ y ≤ 9223372036854775807
  | 0 => fun y hy => by cases hy
  | q + 1 => by
    have hbb : isB (blk b z q) := fun y hy => hb y (List.mem_of_mem_drop (List.mem_of_mem_take hy))
    have hN : (blk b z q).length ≤ 1048576 := by unfold blk; rw [List.length_take, List.length_drop]; omega
    intro y hy
    rw [wds, List.mem_append, List.mem_singleton] at hy
    rcases hy with hy | rfl
    · exact wds_bds hb hn z x q y hy
    · have h := word_bds hbb hN x
      omega
theorem pow_w (lg z : Nat) (hz : 2 ^ lg = z) (hzm : z ≤ 1048576) : wrap64 ((2 : Int) ^ lg) = (z : Int) := by
  rw [show ((2 : Int) ^ lg) = (z : Int) by rw [← hz]; norm_cast]
  exact w64b (by omega) (by omega)
set_option maxHeartbeats 1000000 in
set_option maxRecDepth 100000 in
theorem main_ (w : World) (A0 : Option Addr) (c0 : Nat) (b : List Int) (lg z q : Nat) (a2 : Int) (hz : 2 ^ lg = z) (h12 : 12 ≤ lg) (h20 : lg ≤ 20) (hC : Kd.C (Kd.int .u8) w A0 b.length b) (k0 : b.length ≤ c0) (hb : isB b) (hn : b.length ≤ 20000) (hq : q = b.length / z) : Calls Try.prog 5 #[.slice A0 b.length c0, .int .i64 lg, .int .u64 a2] w fun e w' => e = .returned (.bool true) ∧ Below w.heap.size w w' := by
  obtain ⟨x, hx⟩ : ∃ x, x = a2.toNat := ⟨_, rfl⟩
  have hbits := Ma.bits_any a2
  rw [← hx] at hbits
  have KS := Aside0.mk (split_any w b A0 c0 x lg z q hz h12 h20 hC k0 hb hn hq)
  have hz4 : 4096 ≤ z := by rw [← hz]; exact Nat.pow_le_pow_right (n := 2) (by decide) h12
  have hzm : z ≤ 1048576 := by rw [← hz]; exact Nat.pow_le_pow_right (n := 2) (by decide) h20
  have hpow := pow_w lg z hz hzm
  have hqz : q * z ≤ b.length := by rw [hq]; exact Nat.div_mul_le_self _ _
  have hq5 : q ≤ 4 := by have := Nat.mul_le_mul_left q hz4; omega
  have hd1 : decide ((b.length : Int) > 20000) = false := decide_eq_false (by omega)
  have hd2 : decide ((lg : Int) < 12) = false := decide_eq_false (by omega)
  have hd3 : decide ((lg : Int) > 20) = false := decide_eq_false (by omega)
  have hquo : (b.length : Int).tdiv (z : Int) = (q : Int) := by rw [Int.tdiv_eq_ediv_of_nonneg (by omega), hq]; norm_cast
  obtain ⟨t, ht⟩ : ∃ t, t = q * z := ⟨_, rfl⟩
  have hmul : (q : Int) * (z : Int) = (t : Int) := by rw [ht]; norm_cast
  have hwq : wrap64 (q : Int) = (q : Int) := w64b (by omega) (by omega)
  have hwt : wrap64 (t : Int) = (t : Int) := w64b (by omega) (by omega)
  have hz0 : ((z : Int) == 0) = false := by simp; omega
  rw [← ht] at hqz
  obtain ⟨xu, hxu, hsu⟩ := infoU
  obtain ⟨At', hcut, hAt'⟩ := print_cut_of (P := Try.prog) (Value.int .u8) (0 : Int) 37 5 .i64 Try.underlying37 hxu hsu A0 b.length c0 t hqz
  have hdl : (b.drop t).length = b.length - t := List.length_drop
  have KCt : Aside0 (∀ w', Below w.heap.size w w' → Kd.C (Kd.int .u8) w' At' (b.length - t) (b.drop t)) := ⟨fun w' hB => Kd.C_of_reads (h1 := fun _ => rfl) (by have h := hAt' w' b k0 (Kd.reads_of_C (Kd.C_below hC hB)); exact h)⟩
  have KC0 : Aside0 (∀ w', Below w.heap.size w w' → Kd.C (Kd.int .u8) w' A0 b.length b) := ⟨fun w' hB => Kd.C_below hC hB⟩
  have hol := ots_len b z x hn q
  obtain ⟨no, hno⟩ : ∃ no, no = (ots b z x q).length := ⟨_, rfl⟩
  rw [← ht, hdl, ← hno] at KS
  rw [← hno] at hol
  have Kb := Aside0.mk hb
  have Ht := Aside0.mk ht
  have Hno := Aside0.mk hno
  have Hdl := Aside0.mk hdl
  clear hx hz hC hb hq hAt' ht hno hdl hxu hsu
  go_enter Try.func5, Try.ntmps5
  go_wp2_with (go_at_call 22; apply Aside0.out)
  refine ⟨?_⟩
  refine KS.out.mono ?_
  rintro e w1 ⟨Aw, cw, Ao, co, At, ct, rfl, hcw, hco, hCw, hCo, hCt, hB1⟩
  have KCw : Aside0 (∀ w', Below w1.heap.size w1 w' → Kd.C (Kd.int .i64) w' Aw q (wds b z x q)) := ⟨fun w' h => Kd.C_below hCw h⟩
  have KCo : Aside0 (∀ w', Below w1.heap.size w1 w' → Kd.C (Kd.int .u8) w' Ao no (ots b z x q)) := ⟨fun w' h => Kd.C_below hCo h⟩
  have KT : Aside0 (∀ w', Below w1.heap.size w1 w' → Kd.C (Kd.int .u8) w' At (b.length - t) (b.drop t)) := ⟨fun w' h => Kd.C_below hCt h⟩
  have KB1 := Aside0.mk hB1
  have Kco := Aside0.mk (And.intro hcw hco)
  have Kcut := Aside0.mk hcut
  have Kari := Aside0.mk (And.intro hquo (And.intro hmul (And.intro hwq (And.intro hwt hz0))))
  clear hCw hCo hCt hB1 hcw hco hcut hquo hmul hwq hwt hz0
  go_wp2
  refine start_ (n := 26) (S := fun w' => Below w.heap.size w w' ∧ Below w1.heap.size w1 w') (ds := []) #[false, false, false, false, false, false, false, false, false, false, false, false, false, false, false, false, false, false, false, false, false, false, false, false, false, false] (by kernel_rfl) rfl rfl ⟨(show Below w.heap.size w w1.drew from below_drew KB1.out), (show Below w1.heap.size w1 w1.drew from below_drew (Below.refl _ _))⟩ (fun hHeld => ?_)
  refine pure_ (i := 0) (N := some 59) (v := ?_) (a' := ?_) #[true, false, false, false, false, false, false, false, false, false, false, false, false, false, false, false, false, false, false, false, false, false, false, false, false, false] rfl rfl (by kernel_rfl) (fun _ _ _ h => h) (Or.inl ⟨by rfl, ?_⟩) ?_ ?_
  rotate_left
  · intro w'
    go_simp
    with_reducible rfl
  rotate_left
  · simp only [Act.put, List.setIfInBounds_toArray, List.set_cons_zero, List.set_cons_succ, i64_w, i32_w]
    rfl
  refine one_ (i := 1) (N := some 60) #[true, true, false, false, false, false, false, false, false, false, false, false, false, false, false, false, false, false, false, false, false, false, false, false, false, false] rfl rfl (by kernel_rfl) (by decide) (fun K hK => ?_)
  refine goes_ Try.func17 (by kernel_rfl) rfl #[.int .i64 0] (by rfl) rfl rfl (by simp only [List.map_toArray, List.map_cons, List.map_nil]; rfl) ?_
  with_reducible refine (num_any _ _).mono ?_
  rintro e w11 ⟨rfl, rfl⟩
  refine ⟨_, rfl, ?_⟩
  refine hK.out _ _ ⟨hHeld.1, hHeld.2⟩ (fun hHeld => ?_)
  clear hK K
  refine norm_ (a' := ?_) ?_ ?_
  rotate_left
  · show Act.put _ (some 60) _ = _
    simp only [Act.put, List.setIfInBounds_toArray, List.set_cons_zero, List.set_cons_succ, i64_w, i32_w]
    rfl
  refine pure_ (i := 2) (N := some 61) (v := ?_) (a' := ?_) #[true, true, true, false, false, false, false, false, false, false, false, false, false, false, false, false, false, false, false, false, false, false, false, false, false, false] rfl rfl (by kernel_rfl) (fun _ _ _ h => h) (Or.inl ⟨by rfl, ?_⟩) ?_ ?_
  rotate_left
  · intro w'
    go_simp
    with_reducible rfl
  rotate_left
  · simp only [Act.put, List.setIfInBounds_toArray, List.set_cons_zero, List.set_cons_succ, i64_w, i32_w]
    rfl
  refine pure_ (i := 3) (N := some 62) (v := ?_) (a' := ?_) #[true, true, true, true, false, false, false, false, false, false, false, false, false, false, false, false, false, false, false, false, false, false, false, false, false, false] rfl rfl (by kernel_rfl) (fun _ _ _ h => h) (Or.inl ⟨by rfl, ?_⟩) ?_ ?_
  rotate_left
  · intro w'
    go_simp
    with_reducible rfl
  rotate_left
  · simp only [Act.put, List.setIfInBounds_toArray, List.set_cons_zero, List.set_cons_succ, i64_w, i32_w]
    rfl
  refine pure_ (i := 4) (N := some 63) (v := ?_) (a' := ?_) #[true, true, true, true, true, false, false, false, false, false, false, false, false, false, false, false, false, false, false, false, false, false, false, false, false, false] rfl rfl (by kernel_rfl) (fun _ _ _ h => h) (Or.inl ⟨by rfl, ?_⟩) ?_ ?_
  rotate_left
  · intro w'
    go_simp
    with_reducible rfl
  rotate_left
  · simp only [Act.put, List.setIfInBounds_toArray, List.set_cons_zero, List.set_cons_succ, i64_w, i32_w]
    rfl
  refine pure_ (i := 5) (N := some 64) (v := ?_) (a' := ?_) #[true, true, true, true, true, true, false, false, false, false, false, false, false, false, false, false, false, false, false, false, false, false, false, false, false, false] rfl rfl (by kernel_rfl) (fun _ _ _ h => h) (Or.inl ⟨by rfl, ?_⟩) ?_ ?_
  rotate_left
  · intro w'
    go_simp
    with_reducible rfl
  rotate_left
  · simp only [Act.put, List.setIfInBounds_toArray, List.set_cons_zero, List.set_cons_succ, i64_w, i32_w]
    rfl
  refine pure_ (i := 6) (N := some 65) (v := ?_) (a' := ?_) #[true, true, true, true, true, true, true, false, false, false, false, false, false, false, false, false, false, false, false, false, false, false, false, false, false, false] rfl rfl (by kernel_rfl) (fun _ _ _ h => h) (Or.inl ⟨by rfl, ?_⟩) ?_ ?_
  rotate_left
  · intro w'
    go_simp
    with_reducible rfl
  rotate_left
  · simp only [Act.put, List.setIfInBounds_toArray, List.set_cons_zero, List.set_cons_succ, i64_w, i32_w]
    rfl
  refine pure_ (i := 7) (N := some 66) (v := ?_) (a' := ?_) #[true, true, true, true, true, true, true, true, false, false, false, false, false, false, false, false, false, false, false, false, false, false, false, false, false, false] rfl rfl (by kernel_rfl) (fun _ _ _ h => h) (Or.inl ⟨by rfl, ?_⟩) ?_ ?_
  rotate_left
  · intro w'
    go_simp
    with_reducible rfl
  rotate_left
  · simp only [Act.put, List.setIfInBounds_toArray, List.set_cons_zero, List.set_cons_succ, i64_w, i32_w]
    rfl
  refine pure_ (i := 8) (N := some 67) (v := ?_) (a' := ?_) #[true, true, true, true, true, true, true, true, true, false, false, false, false, false, false, false, false, false, false, false, false, false, false, false, false, false] rfl rfl (by kernel_rfl) (fun _ _ _ h => h) (Or.inl ⟨by rfl, ?_⟩) ?_ ?_
  rotate_left
  · intro w'
    go_simp
    with_reducible rfl
  rotate_left
  · simp only [Act.put, List.setIfInBounds_toArray, List.set_cons_zero, List.set_cons_succ, i64_w, i32_w]
    rfl
  refine pure_ (i := 9) (N := some 68) (v := .int .i64 q) (a' := ?_) #[true, true, true, true, true, true, true, true, true, true, false, false, false, false, false, false, false, false, false, false, false, false, false, false, false, false] rfl rfl (by kernel_rfl) (fun _ _ _ h => h) (Or.inl ⟨by rfl, ?_⟩) ?_ ?_
  · intro w'
    (obtain ⟨hquo, hmul, hwq, hwt, hz0⟩ := Kari.out)
    go_simp
    (try simp only [i64_w, hquo, hwq])
    (rw [if_neg (by omega)])
  rotate_left
  · simp only [Act.put, List.setIfInBounds_toArray, List.set_cons_zero, List.set_cons_succ, i64_w, i32_w]
    rfl
  refine pure_ (i := 10) (N := some 69) (v := ?_) (a' := ?_) #[true, true, true, true, true, true, true, true, true, true, true, false, false, false, false, false, false, false, false, false, false, false, false, false, false, false] rfl rfl (by kernel_rfl) (fun _ _ _ h => h) (Or.inl ⟨by rfl, ?_⟩) ?_ ?_
  rotate_left
  · intro w'
    go_simp
    with_reducible rfl
  rotate_left
  · simp only [Act.put, List.setIfInBounds_toArray, List.set_cons_zero, List.set_cons_succ, i64_w, i32_w]
    rfl
  refine pure_ (i := 11) (N := some 70) (v := ?_) (a' := ?_) #[true, true, true, true, true, true, true, true, true, true, true, true, false, false, false, false, false, false, false, false, false, false, false, false, false, false] rfl rfl (by kernel_rfl) (fun _ _ _ h => h) (Or.inl ⟨by rfl, ?_⟩) ?_ ?_
  rotate_left
  · intro w'
    go_simp
    with_reducible rfl
  rotate_left
  · simp only [Act.put, List.setIfInBounds_toArray, List.set_cons_zero, List.set_cons_succ, i64_w, i32_w]
    rfl
  refine pure_ (i := 12) (N := some 71) (v := ?_) (a' := ?_) #[true, true, true, true, true, true, true, true, true, true, true, true, true, false, false, false, false, false, false, false, false, false, false, false, false, false] rfl rfl (by kernel_rfl) (fun _ _ _ h => h) (Or.inl ⟨by rfl, ?_⟩) ?_ ?_
  rotate_left
  · intro w'
    go_simp
    with_reducible rfl
  rotate_left
  · simp only [Act.put, List.setIfInBounds_toArray, List.set_cons_zero, List.set_cons_succ, i64_w, i32_w]
    rfl
  refine pure_ (i := 13) (N := some 72) (v := ?_) (a' := ?_) #[true, true, true, true, true, true, true, true, true, true, true, true, true, true, false, false, false, false, false, false, false, false, false, false, false, false] rfl rfl (by kernel_rfl) (fun _ _ _ h => h) (Or.inl ⟨by rfl, ?_⟩) ?_ ?_
  rotate_left
  · intro w'
    go_simp
    with_reducible rfl
  rotate_left
  · simp only [Act.put, List.setIfInBounds_toArray, List.set_cons_zero, List.set_cons_succ, i64_w, i32_w]
    rfl
  refine pure_ (i := 15) (N := some 74) (v := ?_) (a' := ?_) #[true, true, true, true, true, true, true, true, true, true, true, true, true, true, false, true, false, false, false, false, false, false, false, false, false, false] rfl rfl (by kernel_rfl) (fun _ _ _ h => h) (Or.inl ⟨by rfl, ?_⟩) ?_ ?_
  rotate_left
  · intro w'
    go_simp
    with_reducible rfl
  rotate_left
  · simp only [Act.put, List.setIfInBounds_toArray, List.set_cons_zero, List.set_cons_succ, i64_w, i32_w]
    rfl
  refine pure_ (i := 16) (N := some 75) (v := ?_) (a' := ?_) #[true, true, true, true, true, true, true, true, true, true, true, true, true, true, false, true, true, false, false, false, false, false, false, false, false, false] rfl rfl (by kernel_rfl) (fun _ _ _ h => h) (Or.inl ⟨by rfl, ?_⟩) ?_ ?_
  rotate_left
  · intro w'
    go_simp
    with_reducible rfl
  rotate_left
  · simp only [Act.put, List.setIfInBounds_toArray, List.set_cons_zero, List.set_cons_succ, i64_w, i32_w]
    rfl
  refine pure_ (i := 17) (N := some 76) (v := ?_) (a' := ?_) #[true, true, true, true, true, true, true, true, true, true, true, true, true, true, false, true, true, true, false, false, false, false, false, false, false, false] rfl rfl (by kernel_rfl) (fun _ _ _ h => h) (Or.inl ⟨by rfl, ?_⟩) ?_ ?_
  rotate_left
  · intro w'
    go_simp
    with_reducible rfl
  rotate_left
  · simp only [Act.put, List.setIfInBounds_toArray, List.set_cons_zero, List.set_cons_succ, i64_w, i32_w]
    rfl
  refine pure_ (i := 18) (N := some 77) (v := ?_) (a' := ?_) #[true, true, true, true, true, true, true, true, true, true, true, true, true, true, false, true, true, true, true, false, false, false, false, false, false, false] rfl rfl (by kernel_rfl) (fun _ _ _ h => h) (Or.inl ⟨by rfl, ?_⟩) ?_ ?_
  rotate_left
  · intro w'
    go_simp
    with_reducible rfl
  rotate_left
  · simp only [Act.put, List.setIfInBounds_toArray, List.set_cons_zero, List.set_cons_succ, i64_w, i32_w]
    rfl
  refine pure_ (i := 19) (N := some 78) (v := .int .i64 q) (a' := ?_) #[true, true, true, true, true, true, true, true, true, true, true, true, true, true, false, true, true, true, true, true, false, false, false, false, false, false] rfl rfl (by kernel_rfl) (fun _ _ _ h => h) (Or.inl ⟨by rfl, ?_⟩) ?_ ?_
  · intro w'
    (obtain ⟨hquo, hmul, hwq, hwt, hz0⟩ := Kari.out)
    go_simp
    (try simp only [i64_w, hquo, hwq])
    (rw [if_neg (by omega)])
  rotate_left
  · simp only [Act.put, List.setIfInBounds_toArray, List.set_cons_zero, List.set_cons_succ, i64_w, i32_w]
    rfl
  refine pure_ (i := 20) (N := some 79) (v := ?_) (a' := ?_) #[true, true, true, true, true, true, true, true, true, true, true, true, true, true, false, true, true, true, true, true, true, false, false, false, false, false] rfl rfl (by kernel_rfl) (fun _ _ _ h => h) (Or.inl ⟨by rfl, ?_⟩) ?_ ?_
  rotate_left
  · intro w'
    go_simp
    with_reducible rfl
  rotate_left
  · simp only [Act.put, List.setIfInBounds_toArray, List.set_cons_zero, List.set_cons_succ, i64_w, i32_w]
    rfl
  refine pure_ (i := 21) (N := some 80) (v := .int .i64 t) (a' := ?_) #[true, true, true, true, true, true, true, true, true, true, true, true, true, true, false, true, true, true, true, true, true, true, false, false, false, false] rfl rfl (by kernel_rfl) (fun _ _ _ h => h) (Or.inl ⟨by rfl, ?_⟩) ?_ ?_
  · intro w'
    (obtain ⟨hquo, hmul, hwq, hwt, hz0⟩ := Kari.out)
    go_simp
    (try simp only [i64_w, hmul, hwt])
    (try rfl)
  rotate_left
  · simp only [Act.put, List.setIfInBounds_toArray, List.set_cons_zero, List.set_cons_succ, i64_w, i32_w]
    rfl
  refine pure_ (i := 22) (N := some 81) (v := .slice At' (b.length - t) (c0 - t)) (a' := ?_) #[true, true, true, true, true, true, true, true, true, true, true, true, true, true, false, true, true, true, true, true, true, true, true, false, false, false] rfl rfl (by kernel_rfl) (fun _ _ _ h => h) (Or.inl ⟨by rfl, ?_⟩) ?_ ?_
  · intro w'
    (have hcut := Kcut.out)
    go_simp
    (try simp only [hcut])
    (try rfl)
  rotate_left
  · simp only [Act.put, List.setIfInBounds_toArray, List.set_cons_zero, List.set_cons_succ, i64_w, i32_w]
    rfl
  refine take_ (i := 14) (N := some 73) (v := .string (strOfNums (b.drop t))) (a' := ?_) #[true, true, true, true, true, true, true, true, true, true, true, true, true, true, true, true, true, true, true, true, true, true, true, false, false, false] rfl rfl (by kernel_rfl) (fun _ _ _ h => h) (Or.inl ⟨by rfl, ?_⟩) hHeld ?_ ?_
  · rintro w' ⟨s0, s1⟩
    exact exec_convert 37 9 (Operand.tmp 72) (by rfl) _ _ (by rfl) (Kd.C_string (P := Try.prog) Try.underlying37 Try.underlying5 Try.underlying9 (KT.out _ s1))
  rotate_left
  · simp only [Act.put, List.setIfInBounds_toArray, List.set_cons_zero, List.set_cons_succ, i64_w, i32_w]
    rfl
  refine take_ (i := 23) (N := some 82) (v := .string (strOfNums (b.drop t))) (a' := ?_) #[true, true, true, true, true, true, true, true, true, true, true, true, true, true, true, true, true, true, true, true, true, true, true, true, false, false] rfl rfl (by kernel_rfl) (fun _ _ _ h => h) (Or.inl ⟨by rfl, ?_⟩) hHeld ?_ ?_
  · rintro w' ⟨s0, s1⟩
    exact exec_convert 37 9 (Operand.tmp 81) (by rfl) _ _ (by rfl) (Kd.C_string (P := Try.prog) Try.underlying37 Try.underlying5 Try.underlying9 (KCt.out _ s0))
  rotate_left
  · simp only [Act.put, List.setIfInBounds_toArray, List.set_cons_zero, List.set_cons_succ, i64_w, i32_w]
    rfl
  refine pure_ (i := 24) (N := some 83) (v := .bool false) (a' := ?_) #[true, true, true, true, true, true, true, true, true, true, true, true, true, true, true, true, true, true, true, true, true, true, true, true, true, false] rfl rfl (by kernel_rfl) (fun _ _ _ h => h) (Or.inl ⟨by rfl, ?_⟩) ?_ ?_
  · intro w'
    go_simp
  rotate_left
  · simp only [Act.put, List.setIfInBounds_toArray, List.set_cons_zero, List.set_cons_succ, i64_w, i32_w]
    rfl
  refine pure_ (i := 25) (N := some 84) (v := ?_) (a' := ?_) #[true, true, true, true, true, true, true, true, true, true, true, true, true, true, true, true, true, true, true, true, true, true, true, true, true, true] rfl rfl (by kernel_rfl) (fun _ _ _ h => h) (Or.inl ⟨by rfl, ?_⟩) ?_ ?_
  rotate_left
  · intro w'
    go_simp
    with_reducible rfl
  rotate_left
  · simp only [Act.put, List.setIfInBounds_toArray, List.set_cons_zero, List.set_cons_succ, i64_w, i32_w]
    rfl
  refine done_ (by kernel_rfl) ?_
  have KB2 := Aside0.mk hHeld
  clear hHeld
  go_wp2
  rw [hpow]
  clear hpow hbits hd1 hd2 hd3
  go_loopw [12, 13] (fun v12 i wr => ∃ (k n : Nat), k ≤ q ∧ v12 = .int .i64 n ∧ i = .int .i64 k ∧ Aside0 (n = (ots b z x k).length) ∧ n ≤ 30004 * k ∧ Aside0 (Below w.heap.size w wr ∧ Below w1.heap.size w1 wr)) (fun _ i _ => q - (intOf i).toNat)
  case atStart => exact ⟨0, 0, Nat.zero_le _, rfl, rfl, ⟨rfl⟩, Nat.le_refl _, KB2⟩
  case round =>
    obtain ⟨k, n, hk, rfl, rfl, Kn, hn2, KB⟩ := hrel
    by_cases hlt : k < q
    · have hkz : k * z + z ≤ b.length := by
        have h1 : (k + 1) * z ≤ q * z := Nat.mul_le_mul_right _ hlt
        rw [Nat.add_mul, Nat.one_mul, ← Ht.out] at h1
        omega
      have hbl : (blk b z k).length = z := by unfold blk; rw [List.length_take, List.length_drop]; omega
      have hbb : isB (blk b z k) := fun y hy => Kb.out y (List.mem_of_mem_drop (List.mem_of_mem_take hy))
      obtain ⟨ad, rfl, hcel⟩ := Kd.at_int (KCw.out wr KB.out.2) (k : Int) (by omega) (by omega)
      have hrd := wds_rd b z x q k hlt
      rw [Int.toNat_natCast, hrd] at hcel
      obtain ⟨W, hW⟩ : ∃ W, W = (sto (blk b z k) x).1 := ⟨_, rfl⟩
      have hWb := word_bds hbb (by rw [hbl]; exact hzm) x
      have hW0 := word_zero hbb (by rw [hbl]; exact hzm) x
      have hld := ld_block Kb.out hn z x q k (by omega) hzm hlt (by rw [← Ht.out]; exact hqz)
      have hext := ext_one hbb (by rw [hbl]; exact hzm) (by omega) x
      have hl5 := sto_len (blk b z k) x (by rw [hbl]; omega)
      obtain ⟨n5, hn5⟩ : ∃ n, n = (sto (blk b z k) x).2.length := ⟨_, rfl⟩
      have hnx : n + n5 = (ots b z x (k + 1)).length := by rw [ots, List.length_append, ← Kn.out, hn5]
      rw [← hn5] at hext hl5
      rw [← Kn.out] at hld
      rw [← hW] at hWb hW0 hld hext hcel hrd
      obtain ⟨a, ha⟩ : ∃ a, a = all0 (blk b z k) := ⟨_, rfl⟩
      rw [← ha] at hW0
      have KL := Aside0.mk (rld_any wr (ots b z x q) Ao co n W z (by rw [← Hno.out]; exact KCo.out wr KB.out.2) (by rw [← Hno.out]; exact Kco.out.2) (ots_isB Kb.out hn z x q) (by rw [← Hno.out]; omega) (by omega) (by omega) (by omega) (by omega))
      rw [hld, ← Hno.out] at KL
      simp only at KL
      rw [hbl] at KL
      have hwl := wds_len b z x q
      obtain ⟨xi, hxi, hsi⟩ : ∃ i, Try.prog.info? 3 = some i ∧ i.size = 1 := by
        cases hx : Try.prog.info? 3 with
        | none => have h := infoI; rw [hx] at h; simp at h
        | some i => have h := infoI; rw [hx] at h; simp at h; exact ⟨i, rfl, h.2.1⟩
      obtain ⟨Aq, hq1, hq2, hq3⟩ := print_mid_of (P := Try.prog) (Value.int .i64) (0 : Int) 32 3 .i64 .i64 Try.underlying32 hxi hsi (some ad) cw (wds b z x q) (k : Int) ((k : Int) + 1) (by omega) (by omega) (by rw [hwl]; omega) (by rw [hwl]; exact Kco.out.1)
      have hk1 : ((k : Int) + 1).toNat = k + 1 := by omega
      rw [hk1, Int.toNat_natCast, one_cut _ k (by rw [hwl]; exact hlt), hrd] at hq1 hq2 hq3
      rw [hwl] at hq1
      simp only [List.length_singleton] at hq1 hq3
      have KE : Aside0 (∀ w', Below w1.heap.size w1 w' → Calls Try.prog 21 #[.slice Aq 1 (cw - k)] w' fun e w'' => e = .returned (.tuple #[.int .i64 n5, .int .i64 0]) ∧ Below w'.heap.size w' w'') := ⟨fun w' hB => by
        have h := rextent_any w' [W] Aq (cw - k) (Kd.C_of_reads (h1 := fun _ => rfl) (hq2 w' (Kd.reads_of_C (by rw [hwl]; exact KCw.out w' hB)))) (by exact hq3) (by intro y hy; rw [List.mem_singleton] at hy; subst hy; omega) (by simp)
        rw [hext] at h
        exact h⟩
      obtain ⟨A8, c8, hc8, hcut, hC8⟩ := cut_at A0 c0 b (k * z) z hkz k0
      obtain ⟨t1, ht1⟩ : ∃ t, t = k * z := ⟨_, rfl⟩
      obtain ⟨t2, ht2⟩ : ∃ t, t = k * z + z := ⟨_, rfl⟩
      rw [← ht2, ← ht1] at hcut
      have Km : Aside0 ((k : Int) * (z : Int) = (t1 : Int) ∧ (t1 : Int) + (z : Int) = (t2 : Int) ∧ wrap64 (t1 : Int) = (t1 : Int) ∧ wrap64 (t2 : Int) = (t2 : Int) ∧ (∀ W : World, (Instr.slice 37 (.slice A0 b.length c0) (some (.int .i64 (t1 : Int))) (some (.int .i64 (t2 : Int))) none).run Try.prog W = .ok (.slice A8 z c8) W)) := ⟨⟨by rw [ht1]; norm_cast, by rw [ht1, ht2]; norm_cast, w64b (by omega) (by omega), w64b (by omega) (by omega), hcut⟩⟩
      clear hcut
      have KC8 : Aside0 (∀ w', Below w.heap.size w w' → Kd.C (Kd.int .u8) w' A8 z (blk b z k)) := ⟨fun w' hB => hC8 w' (KC0.out w' hB)⟩
      have KNo : Aside0 (∀ w' (A : Option Addr) (c : Nat), Kd.C (Kd.int .u8) w' A z (blk b z k) → Calls Try.prog 25 #[.slice A z c] w' fun e w'' => e = .returned (.bool a) ∧ w' = w'') := ⟨fun w' A c hC => by
        have h := noughts_any w' (blk b z k) A c (by rw [hbl]; exact hC) (by rw [hbl]; exact Nat.le_trans hzm (by decide))
        rw [hbl, ← ha] at h
        exact h⟩
      have Knx := Aside0.mk hnx
      have KW := Aside0.mk hW
      clear hkz hbl hbb hrd hW hWb hld hext hnx ha hwl hq2 hq3 hk1 hC8 ht1 ht2 hn5 hc8
      go_wp2_with (go_at_call 24; apply Aside0.out)
      refine ⟨?_⟩
      refine KL.out.mono ?_
      rintro e w5 ⟨A5, c5, rfl, hC5, hB5⟩
      have KB5 := Aside0.mk (And.intro (below_then KB.out.1 KB.out.1.size hB5) (below_then KB.out.2 KB.out.2.size hB5))
      have KCel : Aside0 (∀ w', Below w1.heap.size w1 w' → w'.cell? (ad.add k) = some (.int .i64 W)) := ⟨fun w' hB => by
        obtain ⟨ad', he', hcel5⟩ := Kd.at_int (KCw.out w' hB) (k : Int) (by omega) (by omega)
        injection he' with he'
        subst he'
        rw [Int.toNat_natCast, wds_rd b z x q k hlt, ← KW.out] at hcel5
        exact hcel5⟩
      have KC5 : Aside0 (∀ w', Below w5.heap.size w5 w' → Kd.C (Kd.int .u8) w' A5 z (blk b z k)) := ⟨fun w' hB => Kd.C_below hC5 hB⟩
      clear hcel hC5 hB5
      go_wp2
      refine start_ (n := 28) (S := fun w' => Below w.heap.size w w' ∧ Below w1.heap.size w1 w' ∧ Below w5.heap.size w5 w') (ds := []) #[false, false, false, false, false, false, false, false, false, false, false, false, false, false, false, false, false, false, false, false, false, false, false, false, false, false, false, false] (by kernel_rfl) rfl rfl ⟨(show Below w.heap.size w w5.drew from below_drew KB5.out.1), (show Below w1.heap.size w1 w5.drew from below_drew KB5.out.2), (show Below w5.heap.size w5 w5.drew from below_drew (Below.refl _ _))⟩ (fun hHeld => ?_)
      refine pure_ (i := 0) (N := some 102) (v := ?_) (a' := ?_) #[true, false, false, false, false, false, false, false, false, false, false, false, false, false, false, false, false, false, false, false, false, false, false, false, false, false, false, false] rfl rfl (by kernel_rfl) (fun _ _ _ h => h) (Or.inl ⟨by rfl, ?_⟩) ?_ ?_
      rotate_left
      · intro w'
        go_simp
        with_reducible rfl
      rotate_left
      · simp only [Act.put, List.setIfInBounds_toArray, List.set_cons_zero, List.set_cons_succ, i64_w, i32_w]
        rfl
      refine pure_ (i := 1) (N := some 103) (v := ?_) (a' := ?_) #[true, true, false, false, false, false, false, false, false, false, false, false, false, false, false, false, false, false, false, false, false, false, false, false, false, false, false, false] rfl rfl (by kernel_rfl) (fun _ _ _ h => h) (Or.inl ⟨by rfl, ?_⟩) ?_ ?_
      rotate_left
      · intro w'
        go_simp
        with_reducible rfl
      rotate_left
      · simp only [Act.put, List.setIfInBounds_toArray, List.set_cons_zero, List.set_cons_succ, i64_w, i32_w]
        rfl
      refine pure_ (i := 2) (N := some 104) (v := ?_) (a' := ?_) #[true, true, true, false, false, false, false, false, false, false, false, false, false, false, false, false, false, false, false, false, false, false, false, false, false, false, false, false] rfl rfl (by kernel_rfl) (fun _ _ _ h => h) (Or.inl ⟨by rfl, ?_⟩) ?_ ?_
      rotate_left
      · intro w'
        go_simp
        with_reducible rfl
      rotate_left
      · simp only [Act.put, List.setIfInBounds_toArray, List.set_cons_zero, List.set_cons_succ, i64_w, i32_w]
        rfl
      refine pure_ (i := 3) (N := some 105) (v := ?_) (a' := ?_) #[true, true, true, true, false, false, false, false, false, false, false, false, false, false, false, false, false, false, false, false, false, false, false, false, false, false, false, false] rfl rfl (by kernel_rfl) (fun _ _ _ h => h) (Or.inl ⟨by rfl, ?_⟩) ?_ ?_
      rotate_left
      · intro w'
        go_simp
        with_reducible rfl
      rotate_left
      · simp only [Act.put, List.setIfInBounds_toArray, List.set_cons_zero, List.set_cons_succ, i64_w, i32_w]
        rfl
      refine pure_ (i := 5) (N := some 107) (v := ?_) (a' := ?_) #[true, true, true, true, false, true, false, false, false, false, false, false, false, false, false, false, false, false, false, false, false, false, false, false, false, false, false, false] rfl rfl (by kernel_rfl) (fun _ _ _ h => h) (Or.inl ⟨by rfl, ?_⟩) ?_ ?_
      rotate_left
      · intro w'
        go_simp
        with_reducible rfl
      rotate_left
      · simp only [Act.put, List.setIfInBounds_toArray, List.set_cons_zero, List.set_cons_succ, i64_w, i32_w]
        rfl
      refine pure_ (i := 6) (N := some 108) (v := ?_) (a' := ?_) #[true, true, true, true, false, true, true, false, false, false, false, false, false, false, false, false, false, false, false, false, false, false, false, false, false, false, false, false] rfl rfl (by kernel_rfl) (fun _ _ _ h => h) (Or.inl ⟨by rfl, ?_⟩) ?_ ?_
      rotate_left
      · intro w'
        go_simp
        with_reducible rfl
      rotate_left
      · simp only [Act.put, List.setIfInBounds_toArray, List.set_cons_zero, List.set_cons_succ, i64_w, i32_w]
        rfl
      refine pure_ (i := 7) (N := some 109) (v := ?_) (a' := ?_) #[true, true, true, true, false, true, true, true, false, false, false, false, false, false, false, false, false, false, false, false, false, false, false, false, false, false, false, false] rfl rfl (by kernel_rfl) (fun _ _ _ h => h) (Or.inl ⟨by rfl, ?_⟩) ?_ ?_
      rotate_left
      · intro w'
        go_simp
        with_reducible rfl
      rotate_left
      · simp only [Act.put, List.setIfInBounds_toArray, List.set_cons_zero, List.set_cons_succ, i64_w, i32_w]
        rfl
      refine pure_ (i := 8) (N := some 110) (v := .int .i64 t1) (a' := ?_) #[true, true, true, true, false, true, true, true, true, false, false, false, false, false, false, false, false, false, false, false, false, false, false, false, false, false, false, false] rfl rfl (by kernel_rfl) (fun _ _ _ h => h) (Or.inl ⟨by rfl, ?_⟩) ?_ ?_
      · intro w'
        (obtain ⟨m1, m2, e1, e2, hcut⟩ := Km.out)
        go_simp
        (try simp only [i64_w, m1, e1])
        (try rfl)
      rotate_left
      · simp only [Act.put, List.setIfInBounds_toArray, List.set_cons_zero, List.set_cons_succ, i64_w, i32_w]
        rfl
      refine pure_ (i := 9) (N := some 111) (v := ?_) (a' := ?_) #[true, true, true, true, false, true, true, true, true, true, false, false, false, false, false, false, false, false, false, false, false, false, false, false, false, false, false, false] rfl rfl (by kernel_rfl) (fun _ _ _ h => h) (Or.inl ⟨by rfl, ?_⟩) ?_ ?_
      rotate_left
      · intro w'
        go_simp
        with_reducible rfl
      rotate_left
      · simp only [Act.put, List.setIfInBounds_toArray, List.set_cons_zero, List.set_cons_succ, i64_w, i32_w]
        rfl
      refine pure_ (i := 10) (N := some 112) (v := ?_) (a' := ?_) #[true, true, true, true, false, true, true, true, true, true, true, false, false, false, false, false, false, false, false, false, false, false, false, false, false, false, false, false] rfl rfl (by kernel_rfl) (fun _ _ _ h => h) (Or.inl ⟨by rfl, ?_⟩) ?_ ?_
      rotate_left
      · intro w'
        go_simp
        with_reducible rfl
      rotate_left
      · simp only [Act.put, List.setIfInBounds_toArray, List.set_cons_zero, List.set_cons_succ, i64_w, i32_w]
        rfl
      refine pure_ (i := 11) (N := some 113) (v := .int .i64 t1) (a' := ?_) #[true, true, true, true, false, true, true, true, true, true, true, true, false, false, false, false, false, false, false, false, false, false, false, false, false, false, false, false] rfl rfl (by kernel_rfl) (fun _ _ _ h => h) (Or.inl ⟨by rfl, ?_⟩) ?_ ?_
      · intro w'
        (obtain ⟨m1, m2, e1, e2, hcut⟩ := Km.out)
        go_simp
        (try simp only [i64_w, m1, e1])
        (try rfl)
      rotate_left
      · simp only [Act.put, List.setIfInBounds_toArray, List.set_cons_zero, List.set_cons_succ, i64_w, i32_w]
        rfl
      refine pure_ (i := 12) (N := some 114) (v := ?_) (a' := ?_) #[true, true, true, true, false, true, true, true, true, true, true, true, true, false, false, false, false, false, false, false, false, false, false, false, false, false, false, false] rfl rfl (by kernel_rfl) (fun _ _ _ h => h) (Or.inl ⟨by rfl, ?_⟩) ?_ ?_
      rotate_left
      · intro w'
        go_simp
        with_reducible rfl
      rotate_left
      · simp only [Act.put, List.setIfInBounds_toArray, List.set_cons_zero, List.set_cons_succ, i64_w, i32_w]
        rfl
      refine pure_ (i := 13) (N := some 115) (v := .int .i64 t2) (a' := ?_) #[true, true, true, true, false, true, true, true, true, true, true, true, true, true, false, false, false, false, false, false, false, false, false, false, false, false, false, false] rfl rfl (by kernel_rfl) (fun _ _ _ h => h) (Or.inl ⟨by rfl, ?_⟩) ?_ ?_
      · intro w'
        (obtain ⟨m1, m2, e1, e2, hcut⟩ := Km.out)
        go_simp
        (try simp only [i64_w, m2, e2])
        (try rfl)
      rotate_left
      · simp only [Act.put, List.setIfInBounds_toArray, List.set_cons_zero, List.set_cons_succ, i64_w, i32_w]
        rfl
      refine pure_ (i := 14) (N := some 116) (v := .slice A8 z c8) (a' := ?_) #[true, true, true, true, false, true, true, true, true, true, true, true, true, true, true, false, false, false, false, false, false, false, false, false, false, false, false, false] rfl rfl (by kernel_rfl) (fun _ _ _ h => h) (Or.inl ⟨by rfl, ?_⟩) ?_ ?_
      · intro w'
        (obtain ⟨m1, m2, e1, e2, hcut⟩ := Km.out)
        go_simp
        (try simp only [hcut])
        (try rfl)
      rotate_left
      · simp only [Act.put, List.setIfInBounds_toArray, List.set_cons_zero, List.set_cons_succ, i64_w, i32_w]
        rfl
      refine take_ (i := 4) (N := some 106) (v := .string (strOfNums (blk b z k))) (a' := ?_) #[true, true, true, true, true, true, true, true, true, true, true, true, true, true, true, false, false, false, false, false, false, false, false, false, false, false, false, false] rfl rfl (by kernel_rfl) (fun _ _ _ h => h) (Or.inl ⟨by rfl, ?_⟩) hHeld ?_ ?_
      · rintro w' ⟨s0, s1, s2⟩
        exact exec_convert 37 9 (Operand.tmp 105) (by rfl) _ _ (by rfl) (Kd.C_string (P := Try.prog) Try.underlying37 Try.underlying5 Try.underlying9 (KC5.out _ s2))
      rotate_left
      · simp only [Act.put, List.setIfInBounds_toArray, List.set_cons_zero, List.set_cons_succ, i64_w, i32_w]
        rfl
      refine take_ (i := 15) (N := some 117) (v := .string (strOfNums (blk b z k))) (a' := ?_) #[true, true, true, true, true, true, true, true, true, true, true, true, true, true, true, true, false, false, false, false, false, false, false, false, false, false, false, false] rfl rfl (by kernel_rfl) (fun _ _ _ h => h) (Or.inl ⟨by rfl, ?_⟩) hHeld ?_ ?_
      · rintro w' ⟨s0, s1, s2⟩
        exact exec_convert 37 9 (Operand.tmp 116) (by rfl) _ _ (by rfl) (Kd.C_string (P := Try.prog) Try.underlying37 Try.underlying5 Try.underlying9 (KC8.out _ s0))
      rotate_left
      · simp only [Act.put, List.setIfInBounds_toArray, List.set_cons_zero, List.set_cons_succ, i64_w, i32_w]
        rfl
      refine pure_ (i := 16) (N := some 118) (v := .bool false) (a' := ?_) #[true, true, true, true, true, true, true, true, true, true, true, true, true, true, true, true, true, false, false, false, false, false, false, false, false, false, false, false] rfl rfl (by kernel_rfl) (fun _ _ _ h => h) (Or.inl ⟨by rfl, ?_⟩) ?_ ?_
      · intro w'
        go_simp
      rotate_left
      · simp only [Act.put, List.setIfInBounds_toArray, List.set_cons_zero, List.set_cons_succ, i64_w, i32_w]
        rfl
      refine pure_ (i := 17) (N := some 119) (v := ?_) (a' := ?_) #[true, true, true, true, true, true, true, true, true, true, true, true, true, true, true, true, true, true, false, false, false, false, false, false, false, false, false, false] rfl rfl (by kernel_rfl) (fun _ _ _ h => h) (Or.inl ⟨by rfl, ?_⟩) ?_ ?_
      rotate_left
      · intro w'
        go_simp
        with_reducible rfl
      rotate_left
      · simp only [Act.put, List.setIfInBounds_toArray, List.set_cons_zero, List.set_cons_succ, i64_w, i32_w]
        rfl
      refine pure_ (i := 18) (N := some 120) (v := ?_) (a' := ?_) #[true, true, true, true, true, true, true, true, true, true, true, true, true, true, true, true, true, true, true, false, false, false, false, false, false, false, false, false] rfl rfl (by kernel_rfl) (fun _ _ _ h => h) (Or.inl ⟨by rfl, ?_⟩) ?_ ?_
      rotate_left
      · intro w'
        go_simp
        with_reducible rfl
      rotate_left
      · simp only [Act.put, List.setIfInBounds_toArray, List.set_cons_zero, List.set_cons_succ, i64_w, i32_w]
        rfl
      refine pure_ (i := 19) (N := some 121) (v := ?_) (a' := ?_) #[true, true, true, true, true, true, true, true, true, true, true, true, true, true, true, true, true, true, true, true, false, false, false, false, false, false, false, false] rfl rfl (by kernel_rfl) (fun _ _ _ h => h) (Or.inl ⟨by rfl, ?_⟩) ?_ ?_
      rotate_left
      · intro w'
        go_simp
        with_reducible rfl
      rotate_left
      · simp only [Act.put, List.setIfInBounds_toArray, List.set_cons_zero, List.set_cons_succ, i64_w, i32_w]
        rfl
      refine pure_ (i := 20) (N := some 122) (v := ?_) (a' := ?_) #[true, true, true, true, true, true, true, true, true, true, true, true, true, true, true, true, true, true, true, true, true, false, false, false, false, false, false, false] rfl rfl (by kernel_rfl) (fun _ _ _ h => h) (Or.inl ⟨by rfl, ?_⟩) ?_ ?_
      rotate_left
      · intro w'
        go_simp
        with_reducible rfl
      rotate_left
      · simp only [Act.put, List.setIfInBounds_toArray, List.set_cons_zero, List.set_cons_succ, i64_w, i32_w]
        rfl
      refine pure_ (i := 21) (N := some 123) (v := ?_) (a' := ?_) #[true, true, true, true, true, true, true, true, true, true, true, true, true, true, true, true, true, true, true, true, true, true, false, false, false, false, false, false] rfl rfl (by kernel_rfl) (fun _ _ _ h => h) (Or.inl ⟨by rfl, ?_⟩) ?_ ?_
      rotate_left
      · intro w'
        go_simp
        with_reducible rfl
      rotate_left
      · simp only [Act.put, List.setIfInBounds_toArray, List.set_cons_zero, List.set_cons_succ, i64_w, i32_w]
        rfl
      refine pure_ (i := 24) (N := some 126) (v := ?_) (a' := ?_) #[true, true, true, true, true, true, true, true, true, true, true, true, true, true, true, true, true, true, true, true, true, true, false, false, true, false, false, false] rfl rfl (by kernel_rfl) (fun _ _ _ h => h) (Or.inl ⟨by rfl, ?_⟩) ?_ ?_
      rotate_left
      · intro w'
        go_simp
        with_reducible rfl
      rotate_left
      · simp only [Act.put, List.setIfInBounds_toArray, List.set_cons_zero, List.set_cons_succ, i64_w, i32_w]
        rfl
      refine take_ (i := 22) (N := some 124) (v := .int .i64 W) (a' := ?_) #[true, true, true, true, true, true, true, true, true, true, true, true, true, true, true, true, true, true, true, true, true, true, true, false, true, false, false, false] rfl rfl (by kernel_rfl) (fun _ _ _ h => h) (Or.inl ⟨by rfl, ?_⟩) hHeld ?_ ?_
      · rintro w' ⟨s0, s1, s2⟩
        (have hcel := KCel.out _ s1)
        go_simp
        (try rfl)
      rotate_left
      · simp only [Act.put, List.setIfInBounds_toArray, List.set_cons_zero, List.set_cons_succ, i64_w, i32_w]
        rfl
      refine pure_ (i := 23) (N := some 125) (v := .bool a) (a' := ?_) #[true, true, true, true, true, true, true, true, true, true, true, true, true, true, true, true, true, true, true, true, true, true, true, true, true, false, false, false] rfl rfl (by kernel_rfl) (fun _ _ _ h => h) (Or.inl ⟨by rfl, ?_⟩) ?_ ?_
      · intro w'
        go_simp
        (try simp only [hW0])
        (try rfl)
      rotate_left
      · simp only [Act.put, List.setIfInBounds_toArray, List.set_cons_zero, List.set_cons_succ, i64_w, i32_w]
        rfl
      refine one_ (i := 25) (N := some 127) #[true, true, true, true, true, true, true, true, true, true, true, true, true, true, true, true, true, true, true, true, true, true, true, true, true, true, false, false] rfl rfl (by kernel_rfl) (by decide) (fun K hK => ?_)
      refine goes_ Try.func25 (by kernel_rfl) rfl #[.slice A5 z c5] (by rfl) rfl rfl (by simp only [List.map_toArray, List.map_cons, List.map_nil]; rfl) ?_
      with_reducible refine (KNo.out _ _ _ (KC5.out _ hHeld.2.2)).mono ?_
      rintro e w25 ⟨rfl, rfl⟩
      refine ⟨_, rfl, ?_⟩
      refine hK.out _ _ ⟨hHeld.1, hHeld.2.1, hHeld.2.2⟩ (fun hHeld => ?_)
      clear hK K
      refine norm_ (a' := ?_) ?_ ?_
      rotate_left
      · show Act.put _ (some 127) _ = _
        simp only [Act.put, List.setIfInBounds_toArray, List.set_cons_zero, List.set_cons_succ, i64_w, i32_w]
        rfl
      refine pure_ (i := 26) (N := some 128) (v := .bool false) (a' := ?_) #[true, true, true, true, true, true, true, true, true, true, true, true, true, true, true, true, true, true, true, true, true, true, true, true, true, true, true, false] rfl rfl (by kernel_rfl) (fun _ _ _ h => h) (Or.inl ⟨by rfl, ?_⟩) ?_ ?_
      · intro w'
        go_simp
        (try simp)
      rotate_left
      · simp only [Act.put, List.setIfInBounds_toArray, List.set_cons_zero, List.set_cons_succ, i64_w, i32_w]
        rfl
      refine pure_ (i := 27) (N := some 129) (v := ?_) (a' := ?_) #[true, true, true, true, true, true, true, true, true, true, true, true, true, true, true, true, true, true, true, true, true, true, true, true, true, true, true, true] rfl rfl (by kernel_rfl) (fun _ _ _ h => h) (Or.inl ⟨by rfl, ?_⟩) ?_ ?_
      rotate_left
      · intro w'
        go_simp
        with_reducible rfl
      rotate_left
      · simp only [Act.put, List.setIfInBounds_toArray, List.set_cons_zero, List.set_cons_succ, i64_w, i32_w]
        rfl
      refine done_ (by kernel_rfl) ?_
      have KB6 := Aside0.mk hHeld
      clear hHeld
      go_wp2_with (go_at_call 21; apply Aside0.out)
      refine ⟨?_⟩
      refine (KE.out _ KB6.out.2.1).mono ?_
      rintro e w7 ⟨rfl, hB7⟩
      have KB7 := Aside0.mk (And.intro (below_then KB6.out.1 KB6.out.1.size hB7) (below_then KB6.out.2.1 KB6.out.2.1.size hB7))
      clear hB7
      go_wp2
      go_roundw
      case rel => exact ⟨k + 1, n + n5, by omega, by go_num, by go_num, Knx, by omega, KB7⟩
      case measure => simp [intOf]; omega
    · have hkq : k = q := by omega
      subst hkq
      have hnn : n = no := by rw [Kn.out, Hno.out]
      subst hnn
      have hzm' := hzm
      have KE : Aside0 (Calls Try.prog 20 #[.slice Aw k cw] wr fun e w' => e = .returned (.tuple #[.int .i64 n, .int .i64 0]) ∧ Below wr.heap.size wr w') := ⟨by
        have h := extent_any wr (wds b z x k) Aw cw (by rw [wds_len]; exact KCw.out wr KB.out.2) (by rw [wds_len]; exact Kco.out.1) (wds_bds Kb.out hn z x k) (by rw [wds_len]; omega)
        rw [ext_wds Kb.out hn z x hzm k hq5, wds_len, ← Kn.out] at h
        exact h⟩
      go_wp2_with (go_at_call 20; apply Aside0.out)
      refine ⟨?_⟩
      refine KE.out.mono ?_
      rintro e w7 ⟨rfl, hB7⟩
      have KB7 := Aside0.mk (below_then KB.out.1 KB.out.1.size hB7)
      clear hB7
      go_wp2_with (first
        | (go_at_call 17; refine (num_any _ _).mono ?_; rintro e w' ⟨rfl, rfl⟩)
        | (go_at_call 19; refine (live_any _).mono ?_; rintro e w' ⟨rfl, hbel⟩))
      go_ret
      exact ⟨rfl, below_then KB7.out KB7.out.size hbel⟩
theorem walk (w : World) (A0 : Option Addr) (c0 : Nat) (l0 : List Int) (r0 : Kd.C (Kd.int .u8) w A0 l0.length l0) (k0 : l0.length ≤ c0) (g0 : ∀ v ∈ l0, (fun n : Int => (Lit.int .u8 n).wf = true) v) (m0 : l0.length * 1 ≤ 140737488351232) (a1 : Int) (w1 : (Lit.int .i64 a1).wf = true) (a2 : Int) (w2 : (Lit.int .u64 a2).wf = true) :
    Calls Try.prog 5 #[.slice A0 l0.length c0, .int .i64 a1, .int .u64 a2] w fun e w' => e = .returned (.bool true) ∧ Below w.heap.size w w' := by
  have hb : isB l0 := fun x hx => by
    have := g0 x hx
    have e1 : IntKind.u8.min = 0 := by decide
    have e2 : IntKind.u8.max = 255 := by decide
    simp only [Lit.wf, e1, e2, Bool.and_eq_true, decide_eq_true_eq] at this
    omega
  by_cases c1 : (l0.length : Int) > 20000
  · exact big_ w A0 c0 l0.length a1 a2 (decide_eq_true c1)
  by_cases c2 : a1 < 12
  · exact bad_ w A0 c0 l0.length a1 a2 true _ (decide_eq_false c1) (decide_eq_true c2) rfl (Or.inl rfl)
  by_cases c3 : a1 > 20
  · exact bad_ w A0 c0 l0.length a1 a2 false true (decide_eq_false c1) (decide_eq_false c2) (decide_eq_true c3) (Or.inr ⟨rfl, rfl⟩)
  obtain ⟨lg, rfl⟩ := Int.eq_ofNat_of_zero_le (a := a1) (by omega)
  exact main_ w A0 c0 l0 lg _ _ a2 rfl (by omega) (by omega) r0 k0 hb (by omega) rfl
end BlocksSplits
end Go.Proofs.Ytpdggoapjbjmhaa
