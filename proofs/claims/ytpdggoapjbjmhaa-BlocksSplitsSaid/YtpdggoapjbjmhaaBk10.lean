/- Blocks: bytes in blocks: Split: a walk. -/
import Derived.Test.YtpdggoapjbjmhaaBk9
import Derived.Test.YtpdggoapjbjmhaaBk6
set_option linter.unusedVariables false
set_option linter.unusedSimpArgs false
namespace Go.Proofs.Ytpdggoapjbjmhaa.Bk
open Go.RowKit Go.Proofs.Ytpdggoapjbjmhaa.Fd Go.Proofs.Ytpdggoapjbjmhaa.Bg Go.Proofs.Ytpdggoapjbjmhaa.Lz Go.Proofs.Ytpdggoapjbjmhaa.Ma Go.Proofs.YtpdggoapjbjmhaaW.PrintWords Go.Proofs.YtpdggoapjbjmhaaW.PrintLast Go.Proofs.YtpdggoapjbjmhaaW.PrintMore
def blk (b : List Int) (z i : Nat) : List Int := (b.drop (i * z)).take z
def wds (b : List Int) (z x : Nat) : Nat → List Int
  | 0 => []
  | k + 1 => wds b z x k ++ [(sto (blk b z k) x).1]
def ots (b : List Int) (z x : Nat) : Nat → List Int
  | 0 => []
  | k + 1 => ots b z x k ++ (sto (blk b z k) x).2
theorem wds_len (b : List Int) (z x : Nat) : ∀ k, (wds b z x k).length = k
  | 0 => rfl
  | k + 1 => by rw [wds, List.length_append, wds_len b z x k]; rfl
theorem sto_len (b : List Int) (x : Nat) (hn : b.length ≤ 20000) : (sto b x).2.length ≤ 30004 := by
  have h := enc_bound b (Nat.le_trans hn (by decide))
  have h2 : bound b.length ≤ 30000 := by unfold bound; split <;> (try split) <;> omega
  unfold sto
  split
  · exact Nat.zero_le _
  · show (sumd (dat b x)).length ≤ 30004
    rw [sumd_len]
    unfold dat
    split <;> omega
theorem ots_len (b : List Int) (z x : Nat) (hn : b.length ≤ 20000) : ∀ k, (ots b z x k).length ≤ 30004 * k
  | 0 => Nat.le_refl _
  | k + 1 => by
    have h := sto_len (blk b z k) x (by unfold blk; rw [List.length_take, List.length_drop]; omega)
    have h2 := ots_len b z x hn k
    rw [ots, List.length_append]
    omega
theorem app_ints2 {ops : Array Oper} {rest : List Oper} {o : Oper} {a : Act} {Q : Exit → Act → World → Prop} {w0 W : World} (base : Nat) (hgd : o.guard = none) (s x : Operand) (ho : o.op = .call { callee := .builtin .append, args := #[s, x], argTypes := #[32, 32] })
    (v : Value) (xs ys : List Int) (A : Option Addr) (m c : Nat) (hs : a.eval s = v) (hx : a.eval x = .slice A m c) (HO : OwnI W base v xs) (HR : Kd.C (Kd.int .i64) W A m ys)
    (HB : Below base w0 W) (hbase : base ≤ W.heap.size) (hl : xs.length + m ≤ 1000000)
    (h : ∀ (zs : List Int) (A1 : Option Addr) (c1 : Nat) (w1 : World), Aside0 (zs = xs ++ ys) → Aside0 (OwnI w1 base (.slice A1 zs.length c1) zs) → zs.length = xs.length + m → zs.length ≤ c1 → Aside0 (Below base w0 w1) → Aside0 (W.grownBy w1 v.ownBlock) → wpList Try.prog ops Q rest (a.put o.dst (.slice A1 zs.length c1)) w1) : wpList Try.prog ops Q (o :: rest) a W := by
  have hm : ys.length = m := HR.1
  refine Kd.R_append_rows (Kd.int .i64) (w0 := w0) base hgd s x 32 3 (.int .i64 0) 8 ho Try.underlying32 infoI rfl (by decide) (by decide) v xs ys A m c (fun _ => True) (fun _ => False) hs hx HO HR (fun _ _ h => h) (fun _ h => h.elim) (fun _ _ => trivial) HB hbase (by omega) ?_
  intro v1 w1 h1 h2 h3 h4
  obtain ⟨A1, c1, rfl, hle, hC⟩ := Kd.R_reads h1
  exact h (xs ++ ys) A1 c1 w1 ⟨rfl⟩ ⟨h1⟩ (by rw [List.length_append, hm]) hle ⟨h2⟩ ⟨h3⟩
theorem rows_ne {W : World} {base : Nat} {v u : Value} {xs ys : List Int} (h : OwnI W base v xs) (hu : Row.OwnB W base u ys) : v.ownBlock = none ∨ v.ownBlock ≠ u.ownBlock := by
  by_cases hv : v.ownBlock = none
  · exact Or.inl hv
  · refine Or.inr fun he => ?_
    obtain ⟨i, hi⟩ := Option.ne_none_iff_exists'.1 hv
    obtain ⟨inn1, h1⟩ := Kd.R_own h
    obtain ⟨inn2, h2⟩ := Kd.R_own hu
    obtain ⟨c1, e1⟩ := own_typed h1 i hi
    obtain ⟨c2, e2⟩ := own_typed h2 i (by rw [← he]; exact hi)
    rw [e1] at e2
    injection e2 with e2
    injection e2 with _ ht
    exact absurd ht (by decide)
theorem I_grown {W W1 : World} {base : Nat} {v u : Value} {xs ys : List Int} (h : OwnI W base v xs) (hu : Row.OwnB W base u ys) (hg : W.grownBy W1 u.ownBlock) : OwnI W1 base v xs := by
  have hne := rows_ne h hu
  obtain ⟨h0, inner, ho, hr⟩ := h
  exact ⟨h0, inner, own_other ho hg hne, hr⟩
theorem B_grown {W W1 : World} {base : Nat} {v u : Value} {xs ys : List Int} (h : OwnI W base v xs) (hu : Row.OwnB W base u ys) (hg : W.grownBy W1 v.ownBlock) : Row.OwnB W1 base u ys := by
  refine hu.grown hg ?_
  by_cases hn : u.ownBlock = none
  · exact Or.inl hn
  · refine Or.inr fun he => ?_
    rcases rows_ne h hu with h1 | h1
    · rw [h1] at he; exact hn he
    · exact h1 he.symm
theorem _root_.Go.Proofs.Ytpdggoapjbjmhaa.Row.OwnB.slice_C {W : World} {base n c : Nat} {A : Option Addr} {xs : List Int} (h : Row.OwnB W base (.slice A n c) xs) : Kd.C (Kd.int .u8) W A xs.length xs := h.reads.2.2
theorem shr_run (n lg q : Nat) (h : n / 2 ^ lg = q) (hl : lg ≤ 20) (w : World) : (Op.shift BinOp.shr .i64 (n : Int) .i64 (lg : Int)).run Try.prog w = .ok (.int .i64 (q : Int)) w := by
  go_simp
  rw [← h, Int.natCast_ediv]
  norm_cast
theorem shl_run (n lg t : Nat) (h : n * 2 ^ lg = t) (ht : t < 9223372036854775808) (hl : lg ≤ 20) (w : World) : (Op.shift BinOp.shl .i64 (n : Int) .i64 (lg : Int)).run Try.prog w = .ok (.int .i64 (t : Int)) w := by
  go_simp
  rw [i64_w, show ((n : Int) * 2 ^ lg) = ((n * 2 ^ lg : Nat) : Int) by push_cast; rfl, h]
  exact w64b (by omega) (by omega)
set_option maxHeartbeats 1000000 in
set_option maxRecDepth 100000 in
theorem split_any (w : World) (b : List Int) (A : Option Addr) (c x lg z q : Nat) (hz : 2 ^ lg = z) (h12 : 12 ≤ lg) (h20 : lg ≤ 20) (hC : Kd.C (Kd.int .u8) w A b.length b) (hc : b.length ≤ c) (hb : isB b) (hn : b.length ≤ 20000) (hq : q = b.length / z) :
    Calls Try.prog 22 #[.slice A b.length c, .int .i64 lg, .float .f64 x] w fun e w' => ∃ Aw cw Ao co At ct, e = .returned (.tuple #[.slice Aw q cw, .slice Ao (ots b z x q).length co, .slice At (b.drop (q * z)).length ct, .int .i64 0]) ∧ q ≤ cw ∧ (ots b z x q).length ≤ co ∧ Kd.C (Kd.int .i64) w' Aw q (wds b z x q) ∧ Kd.C (Kd.int .u8) w' Ao (ots b z x q).length (ots b z x q) ∧ Kd.C (Kd.int .u8) w' At (b.drop (q * z)).length (b.drop (q * z)) ∧ Below w.heap.size w w' := by
  have KC : Aside0 (∀ w', Below w.heap.size w w' → Kd.C (Kd.int .u8) w' A b.length b) := ⟨fun w' hB => Kd.C_below hC hB⟩
  have Kb := Aside0.mk hb
  have hz4 : 4096 ≤ z := by rw [← hz]; exact Nat.pow_le_pow_right (n := 2) (by decide) h12
  have hzm : z ≤ 1048576 := by rw [← hz]; exact Nat.pow_le_pow_right (n := 2) (by decide) h20
  have hpow : (2 : Int) ^ lg = (z : Int) := by rw [← hz]; norm_cast
  have hqz : q * z ≤ b.length := by rw [hq]; exact Nat.div_mul_le_self _ _
  have hq5 : q ≤ 4 := by have := Nat.mul_le_mul_left q hz4; omega
  have hd1 : decide ((lg : Int) < 12) = false := decide_eq_false (by omega)
  have hd2 : decide ((lg : Int) > 20) = false := decide_eq_false (by omega)
  have hd3 : decide ((b.length : Int) > 8388608) = false := decide_eq_false (by omega)
  have hpn : (2 : Int) ^ lg = (z : Int) := by rw [← hz]; norm_cast
  have hq2 : (b.length : Int) / 2 ^ lg = (q : Int) := by rw [hpn, hq]; norm_cast
  have Kz := Aside0.mk hpn
  clear hC hb hz hpow hpn hq
  go_enter Try.func22, Try.ntmps22
  go_wp2
  go_loopw [6, 7, 29] (fun v6 v7 i wr => ∃ (k n7 : Nat) (A6 : Option Addr) (c6 : Nat) (A7 : Option Addr) (c7 : Nat), i = .int .i64 k ∧ k ≤ q ∧ v6 = .slice A6 k c6 ∧ v7 = .slice A7 n7 c7 ∧ n7 ≤ 30004 * k ∧ Aside0 (n7 = (ots b z x k).length) ∧ Aside0 (OwnI wr w.heap.size (.slice A6 k c6) (wds b z x k)) ∧ Aside0 (Row.OwnB wr w.heap.size (.slice A7 n7 c7) (ots b z x k)) ∧ Aside0 (Below w.heap.size w wr)) (fun _ _ i _ => q - (intOf i).toNat)
  case atStart => exact ⟨0, 0, none, 0, none, 0, rfl, Nat.zero_le _, rfl, rfl, Nat.le_refl _, ⟨rfl⟩, ⟨OwnI.nil _ _⟩, ⟨Row.OwnB.nil _ _⟩, ⟨Below.refl _ _⟩⟩
  case round =>
    obtain ⟨k, n7, A6, c6, A7, c7, rfl, hk, rfl, rfl, hn7, K7, KI, KO, KB⟩ := hrel
    by_cases hlt : k < q
    · have hkz : k * z + z ≤ b.length := by
        have h1 : (k + 1) * z ≤ q * z := Nat.mul_le_mul_right _ hlt
        rw [Nat.add_mul, Nat.one_mul] at h1
        omega
      obtain ⟨A8, c8, hc8, hcut, hC8⟩ := cut_at A c b (k * z) z hkz hc
      have hbl : (blk b z k).length = z := by unfold blk; rw [List.length_take, List.length_drop]; omega
      have hbb : isB (blk b z k) := fun y hy => Kb.out y (List.mem_of_mem_drop (List.mem_of_mem_take hy))
      have KS : Aside0 (∀ w1, Below w.heap.size w w1 → Calls Try.prog 27 #[.slice A8 z c8, .float .f64 x] w1 fun e w' => ∃ v, e = .returned (.tuple #[.int .i64 (sto (blk b z k) x).1, v, .int .i64 0]) ∧ Row.OwnB w' w1.heap.size v (sto (blk b z k) x).2 ∧ Below w1.heap.size w1 w') := ⟨fun w1 hB => by
        have h := bstore_any w1 (blk b z k) A8 c8 x (by rw [hbl]; exact hC8 w1 (KC.out w1 hB)) (by rw [hbl]; exact hc8) hbb (by rw [hbl]; exact hzm)
        rw [hbl] at h
        exact h⟩
      obtain ⟨t1, ht1⟩ : ∃ t, t = k * z := ⟨_, rfl⟩
      obtain ⟨t2, ht2⟩ : ∃ t, t = k * z + z := ⟨_, rfl⟩
      have m1 : (k : Int) * 2 ^ lg = (t1 : Int) := by rw [Kz.out, ht1]; norm_cast
      have m2 : ((k : Int) + 1) * 2 ^ lg = (t2 : Int) := by rw [Kz.out, ht2, Int.add_mul, Int.one_mul]; norm_cast
      have w1 : wrap64 (t1 : Int) = (t1 : Int) := w64b (by omega) (by omega)
      have w2 : wrap64 (t2 : Int) = (t2 : Int) := w64b (by omega) (by omega)
      rw [← ht2, ← ht1] at hcut
      have hk1 : wrap64 ((k : Int) + 1) = (k : Int) + 1 := w64b (by omega) (by omega)
      have Km := Aside0.mk (And.intro m1 (And.intro m2 (And.intro w1 (And.intro w2 (And.intro hk1 hcut)))))
      clear m1 m2 w1 w2 hk1 hcut
      have Kbl := Aside0.mk hbl
      clear hbl hbb hC8 ht1 ht2 hkz
      go_wp2
      refine start_ (n := 18) (S := fun w' => Below w.heap.size w w' ∧ OwnI w' w.heap.size (.slice A6 k c6) (wds b z x k) ∧ Row.OwnB w' w.heap.size (.slice A7 n7 c7) (ots b z x k)) (ds := []) #[false, false, false, false, false, false, false, false, false, false, false, false, false, false, false, false, false, false] (by kernel_rfl) rfl rfl ⟨(show Below w.heap.size w wr.drew from below_drew KB.out), (show OwnI wr.drew w.heap.size (.slice A6 k c6) (wds b z x k) from KI.out.below (below_drew (Below.refl _ _))), (show Row.OwnB wr.drew w.heap.size (.slice A7 n7 c7) (ots b z x k) from KO.out.below (below_drew (Below.refl _ _)))⟩ (fun hHeld => ?_)
      refine pure_ (i := 0) (N := some 33) (v := ?_) (a' := ?_) #[true, false, false, false, false, false, false, false, false, false, false, false, false, false, false, false, false, false] rfl rfl (by kernel_rfl) (fun _ _ _ h => h) (Or.inl ⟨by rfl, ?_⟩) ?_ ?_
      rotate_left
      · intro w'
        go_simp
        with_reducible rfl
      rotate_left
      · simp only [Act.put, List.setIfInBounds_toArray, List.set_cons_zero, List.set_cons_succ, i64_w, i32_w]
        rfl
      refine pure_ (i := 1) (N := some 34) (v := ?_) (a' := ?_) #[true, true, false, false, false, false, false, false, false, false, false, false, false, false, false, false, false, false] rfl rfl (by kernel_rfl) (fun _ _ _ h => h) (Or.inl ⟨by rfl, ?_⟩) ?_ ?_
      rotate_left
      · intro w'
        go_simp
        with_reducible rfl
      rotate_left
      · simp only [Act.put, List.setIfInBounds_toArray, List.set_cons_zero, List.set_cons_succ, i64_w, i32_w]
        rfl
      refine pure_ (i := 2) (N := some 35) (v := ?_) (a' := ?_) #[true, true, true, false, false, false, false, false, false, false, false, false, false, false, false, false, false, false] rfl rfl (by kernel_rfl) (fun _ _ _ h => h) (Or.inl ⟨by rfl, ?_⟩) ?_ ?_
      rotate_left
      · intro w'
        go_simp
        with_reducible rfl
      rotate_left
      · simp only [Act.put, List.setIfInBounds_toArray, List.set_cons_zero, List.set_cons_succ, i64_w, i32_w]
        rfl
      refine pure_ (i := 3) (N := some 36) (v := .int .i64 t1) (a' := ?_) #[true, true, true, true, false, false, false, false, false, false, false, false, false, false, false, false, false, false] rfl rfl (by kernel_rfl) (fun _ _ _ h => h) (Or.inl ⟨by rfl, ?_⟩) ?_ ?_
      · intro w'
        (obtain ⟨m1, m2, w1, w2, hk1, hcut⟩ := Km.out)
        go_simp
        (try simp only [i64_w, m1, w1])
        (try rfl)
      rotate_left
      · simp only [Act.put, List.setIfInBounds_toArray, List.set_cons_zero, List.set_cons_succ, i64_w, i32_w]
        rfl
      refine pure_ (i := 4) (N := some 37) (v := ?_) (a' := ?_) #[true, true, true, true, true, false, false, false, false, false, false, false, false, false, false, false, false, false] rfl rfl (by kernel_rfl) (fun _ _ _ h => h) (Or.inl ⟨by rfl, ?_⟩) ?_ ?_
      rotate_left
      · intro w'
        go_simp
        with_reducible rfl
      rotate_left
      · simp only [Act.put, List.setIfInBounds_toArray, List.set_cons_zero, List.set_cons_succ, i64_w, i32_w]
        rfl
      refine pure_ (i := 5) (N := some 38) (v := ?_) (a' := ?_) #[true, true, true, true, true, true, false, false, false, false, false, false, false, false, false, false, false, false] rfl rfl (by kernel_rfl) (fun _ _ _ h => h) (Or.inl ⟨by rfl, ?_⟩) ?_ ?_
      rotate_left
      · intro w'
        go_simp
        with_reducible rfl
      rotate_left
      · simp only [Act.put, List.setIfInBounds_toArray, List.set_cons_zero, List.set_cons_succ, i64_w, i32_w]
        rfl
      refine pure_ (i := 6) (N := some 39) (v := ?_) (a' := ?_) #[true, true, true, true, true, true, true, false, false, false, false, false, false, false, false, false, false, false] rfl rfl (by kernel_rfl) (fun _ _ _ h => h) (Or.inl ⟨by rfl, ?_⟩) ?_ ?_
      rotate_left
      · intro w'
        go_simp
        with_reducible rfl
      rotate_left
      · simp only [Act.put, List.setIfInBounds_toArray, List.set_cons_zero, List.set_cons_succ, i64_w, i32_w]
        rfl
      refine pure_ (i := 7) (N := some 40) (v := .int .i64 t2) (a' := ?_) #[true, true, true, true, true, true, true, true, false, false, false, false, false, false, false, false, false, false] rfl rfl (by kernel_rfl) (fun _ _ _ h => h) (Or.inl ⟨by rfl, ?_⟩) ?_ ?_
      · intro w'
        (obtain ⟨m1, m2, w1, w2, hk1, hcut⟩ := Km.out)
        go_simp
        (try simp only [i64_w, hk1, m2, w2])
        (try rfl)
      rotate_left
      · simp only [Act.put, List.setIfInBounds_toArray, List.set_cons_zero, List.set_cons_succ, i64_w, i32_w]
        rfl
      refine pure_ (i := 8) (N := some 41) (v := .slice A8 z c8) (a' := ?_) #[true, true, true, true, true, true, true, true, true, false, false, false, false, false, false, false, false, false] rfl rfl (by kernel_rfl) (fun _ _ _ h => h) (Or.inl ⟨by rfl, ?_⟩) ?_ ?_
      · intro w'
        (obtain ⟨m1, m2, w1, w2, hk1, hcut⟩ := Km.out)
        go_simp
        (try simp only [hcut])
        (try rfl)
      rotate_left
      · simp only [Act.put, List.setIfInBounds_toArray, List.set_cons_zero, List.set_cons_succ, i64_w, i32_w]
        rfl
      refine pure_ (i := 9) (N := some 42) (v := ?_) (a' := ?_) #[true, true, true, true, true, true, true, true, true, true, false, false, false, false, false, false, false, false] rfl rfl (by kernel_rfl) (fun _ _ _ h => h) (Or.inl ⟨by rfl, ?_⟩) ?_ ?_
      rotate_left
      · intro w'
        go_simp
        with_reducible rfl
      rotate_left
      · simp only [Act.put, List.setIfInBounds_toArray, List.set_cons_zero, List.set_cons_succ, i64_w, i32_w]
        rfl
      refine one_ (i := 10) (N := some 43) #[true, true, true, true, true, true, true, true, true, true, true, false, false, false, false, false, false, false] rfl rfl (by kernel_rfl) (by decide) (fun K hK => ?_)
      refine goes_ Try.func27 (by kernel_rfl) rfl #[.slice A8 z c8, .float .f64 x] (by rfl) rfl rfl (by simp only [List.map_toArray, List.map_cons, List.map_nil]; rfl) ?_
      with_reducible refine (KS.out _ hHeld.1).mono ?_
      rintro e w5 ⟨v5, rfl, hO5, hb5⟩
      have KV := Aside0.mk (hO5.lower hHeld.1.size)
      obtain ⟨A5, c5, rfl, hle5, -⟩ := hO5.slice
      refine ⟨_, rfl, ?_⟩
      refine hK.out _ _ ⟨(below_then hHeld.1 hHeld.1.size hb5), (hHeld.2.1.below hb5), (hHeld.2.2.below hb5)⟩ (fun hHeld => ?_)
      clear hK K
      refine norm_ (a' := ?_) ?_ ?_
      rotate_left
      · show Act.put _ (some 43) _ = _
        simp only [Act.put, List.setIfInBounds_toArray, List.set_cons_zero, List.set_cons_succ, i64_w, i32_w]
        rfl
      refine pure_ (i := 11) (N := some 32) (v := ?_) (a' := ?_) #[true, true, true, true, true, true, true, true, true, true, true, true, false, false, false, false, false, false] rfl rfl (by kernel_rfl) (fun _ _ _ h => h) (Or.inl ⟨by rfl, ?_⟩) ?_ ?_
      rotate_left
      · intro w'
        go_simp
        with_reducible rfl
      rotate_left
      · simp only [Act.put, List.setIfInBounds_toArray, List.set_cons_zero, List.set_cons_succ, i64_w, i32_w]
        rfl
      refine pure_ (i := 12) (N := some 44) (v := ?_) (a' := ?_) #[true, true, true, true, true, true, true, true, true, true, true, true, true, false, false, false, false, false] rfl rfl (by kernel_rfl) (fun _ _ _ h => h) (Or.inl ⟨by rfl, ?_⟩) ?_ ?_
      rotate_left
      · intro w'
        go_simp
        with_reducible rfl
      rotate_left
      · simp only [Act.put, List.setIfInBounds_toArray, List.set_cons_zero, List.set_cons_succ, i64_w, i32_w]
        rfl
      refine pure_ (i := 13) (N := some 45) (v := ?_) (a' := ?_) #[true, true, true, true, true, true, true, true, true, true, true, true, true, true, false, false, false, false] rfl rfl (by kernel_rfl) (fun _ _ _ h => h) (Or.inl ⟨by rfl, ?_⟩) ?_ ?_
      rotate_left
      · intro w'
        go_simp
        with_reducible rfl
      rotate_left
      · simp only [Act.put, List.setIfInBounds_toArray, List.set_cons_zero, List.set_cons_succ, i64_w, i32_w]
        rfl
      refine pure_ (i := 14) (N := some 46) (v := ?_) (a' := ?_) #[true, true, true, true, true, true, true, true, true, true, true, true, true, true, true, false, false, false] rfl rfl (by kernel_rfl) (fun _ _ _ h => h) (Or.inl ⟨by rfl, ?_⟩) ?_ ?_
      rotate_left
      · intro w'
        go_simp
        with_reducible rfl
      rotate_left
      · simp only [Act.put, List.setIfInBounds_toArray, List.set_cons_zero, List.set_cons_succ, i64_w, i32_w]
        rfl
      refine pure_ (i := 15) (N := some 11) (v := ?_) (a' := ?_) #[true, true, true, true, true, true, true, true, true, true, true, true, true, true, true, true, false, false] rfl rfl (by kernel_rfl) (fun _ _ _ h => h) (Or.inl ⟨by rfl, ?_⟩) ?_ ?_
      rotate_left
      · intro w'
        go_simp
        with_reducible rfl
      rotate_left
      · simp only [Act.put, List.setIfInBounds_toArray, List.set_cons_zero, List.set_cons_succ, i64_w, i32_w]
        rfl
      refine pure_ (i := 16) (N := some 12) (v := ?_) (a' := ?_) #[true, true, true, true, true, true, true, true, true, true, true, true, true, true, true, true, true, false] rfl rfl (by kernel_rfl) (fun _ _ _ h => h) (Or.inl ⟨by rfl, ?_⟩) ?_ ?_
      rotate_left
      · intro w'
        go_simp
        with_reducible rfl
      rotate_left
      · simp only [Act.put, List.setIfInBounds_toArray, List.set_cons_zero, List.set_cons_succ, i64_w, i32_w]
        rfl
      refine pure_ (i := 17) (N := some 13) (v := ?_) (a' := ?_) #[true, true, true, true, true, true, true, true, true, true, true, true, true, true, true, true, true, true] rfl rfl (by kernel_rfl) (fun _ _ _ h => h) (Or.inl ⟨by rfl, ?_⟩) ?_ ?_
      rotate_left
      · intro w'
        go_simp
        with_reducible rfl
      rotate_left
      · simp only [Act.put, List.setIfInBounds_toArray, List.set_cons_zero, List.set_cons_succ, i64_w, i32_w]
        rfl
      refine done_ (by kernel_rfl) ?_
      have KB5 := Aside0.mk hHeld.1
      have KI5 := Aside0.mk hHeld.2.1
      have KO5 := Aside0.mk hHeld.2.2
      have hl5 := sto_len (blk b z k) x (by unfold blk; rw [List.length_take, List.length_drop]; omega)
      obtain ⟨n5, hn5⟩ : ∃ n, n = (sto (blk b z k) x).2.length := ⟨_, rfl⟩
      obtain ⟨W, hW⟩ : ∃ W, W = (sto (blk b z k) x).1 := ⟨_, rfl⟩
      rw [← hn5] at hl5 hle5 KV ⊢
      rw [← hW]
      have K5 := Aside0.mk hn5
      have KW := Aside0.mk hW
      have Khl := Aside0.mk hl5
      clear hHeld hO5 hn5 hW hl5
      go_wp2_with ((with_reducible refine gate_builtin (b := .append) (xs := #[.tmp 47, .tmp 49]) rfl ?_); apply Aside0.out)
      refine ⟨?_⟩
      have hb6 := below_alloc (Below.refl w5.heap.size w5) (.cells #[.int .i64 W] 3)
      have hlit := OwnI.lit w5 w5.heap.size #[.int .i64 W] [W] rfl (Nat.le_refl _) (by simp)
      obtain ⟨A9, c9, he9, -, hC9⟩ := hlit.slice
      injection he9 with h91 h92 h93
      subst h91
      have hBa := below_then KB5.out KB5.out.size hb6
      have hIa := KI5.out.below hb6
      have hOa := KO5.out.below hb6
      have hVa := KV.out.below hb6
      refine app_ints2 (w0 := w) w.heap.size rfl (.tmp 47) (.tmp 49) rfl (.slice A6 k c6) (wds b z x k) [W] _ 1 1 rfl rfl hIa hC9 hBa hBa.size (by rw [wds_len]; omega) ?_
      intro zs A2 c2 w6 e1 e2 e3 h5 e4 e5
      have hzl : zs.length = k + 1 := by rw [e3, wds_len]
      have hzs : zs = wds b z x (k + 1) := by rw [e1.out, KW.out]; rfl
      have KO6 := Aside0.mk (B_grown hIa hOa e5.out)
      have KV6 := Aside0.mk (B_grown hIa hVa e5.out)
      have KB6 := e4
      have KI6 : Aside0 (OwnI w6 w.heap.size (.slice A2 (k + 1) c2) (wds b z x (k + 1))) := ⟨by have h := e2.out; rw [hzl] at h; rwa [hzs] at h⟩
      rw [hzl]
      clear e1 e2 e3 e4 e5 hlit hC9 hb6 hBa hIa hOa hVa hzs hzl
      go_wp2_with ((with_reducible refine gate_builtin (b := .append) (xs := #[.tmp 51, .tmp 52]) rfl ?_); apply Aside0.out)
      refine ⟨?_⟩
      refine Row.app_rows (w0 := w) w.heap.size rfl (.tmp 51) (.tmp 52) rfl (.slice A7 n7 c7) (ots b z x k) (sto (blk b z k) x).2 A5 n5 c5 rfl rfl KO6.out (by rw [K5.out]; exact KV6.out.slice_C) KB6.out KB6.out.size (by rw [← K7.out]; have := Khl.out; omega) ?_
      intro ys A3 c3 w7 e1 e2 e3 h4 h6 e4 hb7 e5 hg7 e7
      have hyl : ys.length = n7 + n5 := by rw [e3.out, ← K7.out]
      have hys : ys = ots b z x (k + 1) := by rw [e1.out]; rfl
      have KI7 := Aside0.mk (I_grown KI6.out KO6.out hg7.out)
      have KO7 : Aside0 (Row.OwnB w7 w.heap.size (.slice A3 (n7 + n5) c3) (ots b z x (k + 1))) := ⟨by have h := e2.out; rw [hyl] at h; rwa [hys] at h⟩
      have KB7 := hb7
      have Kyl : Aside0 (n7 + n5 = (ots b z x (k + 1)).length) := ⟨by rw [← hyl, hys]⟩
      have hn75 : n7 + n5 ≤ 30004 * (k + 1) := by have := Khl.out; omega
      rw [hyl]
      clear e1 e2 e3 h4 h6 e4 hb7 e5 hg7 e7 hyl hys
      go_wp2
      go_roundw
      case rel => exact ⟨k + 1, n7 + n5, A2, c2, A3, c3, by go_num, by omega, rfl, rfl, hn75, Kyl, KI7, KO7, KB7⟩
      case measure => simp [intOf]; omega
    · have hkq : k = q := by omega
      subst hkq
      obtain ⟨t0, ht0⟩ : ∃ t, t = k * z := ⟨_, rfl⟩
      have hT : wrap64 ((k : Int) * 2 ^ lg) = (t0 : Int) := by rw [Kz.out, ht0, w64b (by omega) (by omega)]; norm_cast
      have ht1 : t0 ≤ b.length := by omega
      have ht3 : t0 ≤ c := by omega
      have hdl : (b.drop t0).length = b.length - t0 := List.length_drop
      have KCt : Aside0 (Kd.C (Kd.int .u8) wr (if c = t0 then A else Option.map (fun x => x.add t0) A) (b.length - t0) (b.drop t0)) := ⟨by
        have h := C_part (a := t0) (n := b.length - t0) (KC.out wr KB.out) (by omega) hc
        rw [List.take_of_length_le (by rw [hdl]; exact Nat.le_refl _), hdl] at h
        exact h⟩
      have Kdl := Aside0.mk hdl
      have Kt0 := Aside0.mk ht0
      clear hdl ht0 hqz
      by_cases hct : c = t0
      · have K1 := KCt
        rw [if_pos hct] at K1
        clear KCt
        go_wp2_with (go_at_call 40; apply Aside0.out)
        refine ⟨?_⟩
        refine (Eq_.clone_any wr _ (b.length - t0) _ (b.drop t0) K1.out (by omega)).mono ?_
        rintro e w2 ⟨v, rfl, hO, hB2⟩
        obtain ⟨A9, c9, rfl, -, hC9⟩ := hO.slice
        have KB2 := Aside0.mk (below_then KB.out KB.out.size hB2)
        have KI2 := Aside0.mk (KI.out.below hB2)
        have KO2 := Aside0.mk (KO.out.below hB2)
        have KC9 := Aside0.mk hC9
        clear hO hB2 hC9
        go_wp2
        refine bodyPost_ret (results_list (rs := [.tmp 6, .tmp 7, .tmp 8, .tmp 9]) rfl (by simp) (.tmp (.tmp (.tmp (.tmp .nil))))) rfl ?_
        obtain ⟨-, hi1, hi2⟩ := Kd.R_reads' KI2.out
        obtain ⟨-, ho1, ho2⟩ := KO2.out.reads
        rw [wds_len] at hi2
        have ht9 := KC9.out
        rw [Kdl.out] at ht9
        rw [← Kt0.out, ← K7.out, Kdl.out]
        exact ⟨A6, c6, A7, c7, A9, c9, rfl, hi1, ho1, hi2, by rw [K7.out]; exact ho2, ht9, KB2.out⟩
      · have K1 := KCt
        rw [if_neg hct] at K1
        clear KCt
        go_wp2_with (go_at_call 40; apply Aside0.out)
        refine ⟨?_⟩
        refine (Eq_.clone_any wr _ (b.length - t0) _ (b.drop t0) K1.out (by omega)).mono ?_
        rintro e w2 ⟨v, rfl, hO, hB2⟩
        obtain ⟨A9, c9, rfl, -, hC9⟩ := hO.slice
        have KB2 := Aside0.mk (below_then KB.out KB.out.size hB2)
        have KI2 := Aside0.mk (KI.out.below hB2)
        have KO2 := Aside0.mk (KO.out.below hB2)
        have KC9 := Aside0.mk hC9
        clear hO hB2 hC9
        go_wp2
        refine bodyPost_ret (results_list (rs := [.tmp 6, .tmp 7, .tmp 8, .tmp 9]) rfl (by simp) (.tmp (.tmp (.tmp (.tmp .nil))))) rfl ?_
        obtain ⟨-, hi1, hi2⟩ := Kd.R_reads' KI2.out
        obtain ⟨-, ho1, ho2⟩ := KO2.out.reads
        rw [wds_len] at hi2
        have ht9 := KC9.out
        rw [Kdl.out] at ht9
        rw [← Kt0.out, ← K7.out, Kdl.out]
        exact ⟨A6, c6, A7, c7, A9, c9, rfl, hi1, ho1, hi2, by rw [K7.out]; exact ho2, ht9, KB2.out⟩
end Go.Proofs.Ytpdggoapjbjmhaa.Bk
