/- A stored block with bits of a burst turned: the statement's walk. -/
import Derived.Test.YtpdggoapjbjmhaaBk9
import Derived.Test.YtpdggoapjbjmhaaBk4
set_option linter.unusedVariables false
set_option linter.unusedSimpArgs false
namespace Go.Proofs.Ytpdggoapjbjmhaa
open Go.RowKit Go.Proofs.Ytpdggoapjbjmhaa.Fd Go.Proofs.Ytpdggoapjbjmhaa.Bg Go.Proofs.Ytpdggoapjbjmhaa.Lz Go.Proofs.Ytpdggoapjbjmhaa.Bk Go.Proofs.YtpdggoapjbjmhaaW.PrintWords Go.Proofs.YtpdggoapjbjmhaaW.PrintLast Go.Proofs.YtpdggoapjbjmhaaW.PrintMore
namespace BlocksBursts
theorem dat_short (b : List Int) (hn : b.length ≤ 20000) (x : Nat) : (dat b x).length ≤ 30000 := by
  have h := Ma.enc_bound b (Nat.le_trans hn (by decide))
  have h2 : Ma.bound b.length ≤ 30000 := by unfold Ma.bound; split <;> (try split) <;> omega
  unfold dat
  split <;> omega
theorem sumd_own (d : List Int) : Sum.crc 0 ((sumd d).take d.length) = rdN (sumd d) d.length 4 := by
  have hc := crc_lt d
  have h2 := rd_mid d [] (Sum.crc 0 d) 4 d.length rfl hc (sumd d) (by rw [List.append_nil]; rfl)
  rw [h2, sumd, List.take_left' rfl]
theorem ld_sum (zs : List Int) (W plain : Int) (m : Nat) (pv : Bool) (hp : prt W = ((m : Int), pv, 0)) (hW : W ≠ 0) (h1 : 1 ≤ plain) (h2 : plain ≤ 1048576) (hpl : pv = false → (m : Int) = plain) (hl : zs.length = m + 4) (hne : Sum.crc 0 (zs.take m) ≠ rdN zs m 4) : ldP zs 0 W plain = ([], 140) := by
  have hc : cutx zs 0 (m : Int) = zs.take m := by unfold cutx; rw [Int.toNat_natCast]; rfl
  have hq : ((0 : Int).toNat + ((m : Int)).toNat) = m := by rw [Int.toNat_natCast]; omega
  have Kne := Aside0.mk hne
  clear hne
  unfold ldP
  rw [hp]
  simp only
  rw [hc, hq, if_neg (by omega), if_neg hW, if_neg, if_neg (by rw [hl]; omega), if_pos (fun h => Kne.out h.symm)]
  rintro (h | ⟨h, h3⟩)
  · exact h rfl
  · exact h3 (hpl h)
theorem big_ (w : World) (A0 : Option Addr) (c0 : Nat) (b : List Int) (a1 p u : Int) (hC : Kd.C (Kd.int .u8) w A0 b.length b) (lo mi : Bool) (hd1 : decide ((b.length : Int) > 20000) = lo) (hd2 : (u == 0) = mi) (hm : b.length ≤ 140737488355328) (ho : lo = true ∨ (lo = false ∧ mi = true) ∨ (lo = false ∧ mi = false ∧ all0 b = true)) : Calls Try.prog 8 #[.slice A0 b.length c0, .int .u64 a1, .int .u16 p, .int .u32 u] w fun e w' => e = .returned (.bool true) ∧ Below w.heap.size w w' := by
  have KN := Aside0.mk (noughts_any w b A0 c0 hC hm)
  clear hC hm
  rcases ho with rfl | ⟨rfl, rfl⟩ | ⟨rfl, rfl, hz⟩
  · go_enter Try.func8, Try.ntmps8
    go_wp2_with (go_at_call 19; refine (live_any _).mono ?_; rintro e w' ⟨rfl, hbel⟩)
    go_ret
    exact ⟨rfl, hbel⟩
  · go_enter Try.func8, Try.ntmps8
    go_wp2_with (go_at_call 19; refine (live_any _).mono ?_; rintro e w' ⟨rfl, hbel⟩)
    go_ret
    exact ⟨rfl, hbel⟩
  · rw [hz] at KN
    clear hz
    go_enter Try.func8, Try.ntmps8
    go_wp2_with (first | (go_at_call 25; refine KN.out.mono ?_; rintro e w' ⟨rfl, rfl⟩) | (go_at_call 19; refine (live_any _).mono ?_; rintro e w' ⟨rfl, hbel⟩))
    go_ret
    exact ⟨rfl, hbel⟩
set_option maxHeartbeats 4000000 in
set_option maxRecDepth 100000 in
theorem some_ (w : World) (A0 : Option Addr) (c0 : Nat) (bs : List Int) (a1 : Int) (p b : Nat) (hC : Kd.C (Kd.int .u8) w A0 bs.length bs) (k0 : bs.length ≤ c0) (hbs : isB bs) (hz : all0 bs = false) (hn : bs.length ≤ 20000) (hp16 : p < 65536) (hb0 : b ≠ 0) (hb32 : b < 4294967296) : Calls Try.prog 8 #[.slice A0 bs.length c0, .int .u64 a1, .int .u16 p, .int .u32 b] w fun e w' => e = .returned (.bool true) ∧ Below w.heap.size w w' := by
  have hN : bs.length ≤ 1048576 := Nat.le_trans hn (by decide)
  have hd1 : decide ((bs.length : Int) > 20000) = false := decide_eq_false (by omega)
  have hbits := Ma.bits_any a1
  have KS := Aside0.mk (bstore_any w bs A0 c0 a1.toNat hC k0 hbs hN)
  have hsto : sto bs a1.toNat = ((wrd (dat bs a1.toNat).length (pk bs a1.toNat)).1, sumd (dat bs a1.toNat)) := if_neg (by rw [hz]; decide)
  rw [hsto] at KS
  have KN := Aside0.mk (noughts_any w bs A0 c0 hC (Nat.le_trans hN (by decide)))
  rw [hz] at KN
  obtain ⟨g1, g2⟩ := dat_len hbs hN hz a1.toNat
  have g3 := dat_short bs hn a1.toNat
  have hp := prt_wrd (dat bs a1.toNat).length (pk bs a1.toNat) (by omega) (by omega)
  have hWb : 1 ≤ (wrd ((dat bs a1.toNat).length : Int) (pk bs a1.toNat)).1 ∧ (wrd ((dat bs a1.toNat).length : Int) (pk bs a1.toNat)).1 ≤ 2148532224 := by
    unfold wrd
    rw [if_neg (by omega)]
    split
    · exact ⟨by show (1 : Int) ≤ ((dat bs a1.toNat).length : Int); omega, by show ((dat bs a1.toNat).length : Int) ≤ 2148532224; omega⟩
    · exact ⟨by show (1 : Int) ≤ ((dat bs a1.toNat).length : Int) + 2147483648; omega, by show ((dat bs a1.toNat).length : Int) + 2147483648 ≤ 2148532224; omega⟩
  have hne := all0_ne hz
  have hb1 : 1 ≤ bs.length := Nat.pos_of_ne_zero fun h0 => hne (List.eq_nil_of_length_eq_zero h0)
  have hpl : pk bs a1.toNat = false → ((dat bs a1.toNat).length : Int) = (bs.length : Int) := fun h => by rw [dat_plain h]
  have hSl := sumd_len (dat bs a1.toNat)
  have hSb : isB (sumd (dat bs a1.toNat)) := sumd_isB (dat_isB hbs hN a1.toNat)
  have hSo := sumd_own (dat bs a1.toNat)
  generalize sumd (dat bs a1.toNat) = S at KS hSl hSb hSo
  generalize (wrd ((dat bs a1.toNat).length : Int) (pk bs a1.toNat)).1 = W at KS hp hWb
  generalize pk bs a1.toNat = pv at hp hpl
  generalize (dat bs a1.toNat).length = m at hp hpl hSl hSo g1 g2 g3
  have KSo := Aside0.mk hSo
  obtain ⟨N, hNN⟩ : ∃ N, N = m + 4 := ⟨_, rfl⟩
  have hN3 : N ≤ 30004 := by omega
  have hN4 : 5 ≤ N := by omega
  obtain ⟨nb, hnb⟩ : ∃ nb, nb = bs.length := ⟨_, rfl⟩
  have KL : Aside0 (∀ (wr : World) (zs : List Int) (A : Option Addr) (c : Nat), Kd.C (Kd.int .u8) wr A zs.length zs → zs.length ≤ c → isB zs → zs.length = N → Sum.crc 0 (zs.take m) ≠ rdN zs m 4 → Calls Try.prog 26 #[.slice A N c, .int .i64 0, .int .i64 W, .int .i64 nb] wr fun e w' => ∃ A1 c1, e = .returned (.tuple #[.slice A1 0 c1, .int .i64 140]) ∧ Below wr.heap.size wr w') := ⟨fun wr zs A c hCz hcz hzb hzl hzn => by
    have h := load_any wr zs A c 0 W bs.length hCz hcz hzb (by omega) (by omega) (by omega) (by omega) (by omega)
    rw [ld_sum zs W bs.length m pv hp (by omega) (by omega) (by omega) hpl (by omega) hzn, hzl, ← hnb] at h
    refine h.mono ?_
    rintro e w' ⟨v, rfl, hO, hB⟩
    obtain ⟨A1, c1, rfl, -, -⟩ := hO.slice
    exact ⟨A1, c1, rfl, hB⟩⟩
  have hw8 : wrap64 (8 * (N : Int)) = 8 * (N : Int) := w64b (by omega) (by omega)
  have hbz' : ((b : Int) == 0) = false := by simp; omega
  have hN0 : ((N : Int) == 0) = false := by simp; omega
  have HBZ := Aside0.mk hb0
  rw [← hNN] at hSl
  have KSl := Aside0.mk hSl
  have KSb := Aside0.mk hSb
  have KNN := Aside0.mk hNN
  rw [← hnb] at KS KN hd1 ⊢
  clear hC k0 hbs hz hn hsto hN hp hWb hne hb1 hpl hSb hSo g1 g2 g3 hnb hb0 hNN hSl
  go_enter Try.func8, Try.ntmps8
  go_wp2_with (first
    | (go_at_call 25; refine KN.out.mono ?_; rintro e w' ⟨rfl, rfl⟩)
    | (go_at_call 27; apply Aside0.out))
  refine ⟨?_⟩
  refine KS.out.mono ?_
  rintro e w1 ⟨v1, rfl, hO1, HB1⟩
  obtain ⟨g, d1, rfl, hgb, -, -, -⟩ := Kd.R_form hO1 (by rw [KSl.out]; omega)
  have HH : Held w1 w.heap.size (.slice (some ⟨g, 0, none⟩) S.length d1) S p b 0 w := ⟨⟨S, hO1, rfl, KSb.out, by simp [Nat.mod_one], HB1⟩⟩
  rw [KSl.out] at HH ⊢
  clear hO1 HB1 KS KN
  go_wp2_with (go_at_call 17; refine (num_any _ _).mono ?_; rintro e w' ⟨rfl, rfl⟩)
  go_loopw [12] (fun i wr => ∃ k : Nat, k ≤ 32 ∧ i = .int .i64 k ∧ Held wr w.heap.size (.slice (some ⟨g, 0, none⟩) N d1) S p b k w ∧ Aside0 (p < 8 * N ∨ b % 2 ^ k = 0)) (fun i _ => 32 - (intOf i).toNat)
  case atStart => exact ⟨0, by omega, rfl, HH, ⟨Or.inr (by rw [Nat.pow_zero, Nat.mod_one])⟩⟩
  case round =>
    clear HH
    obtain ⟨k, hk, rfl, HH, HP⟩ := hrel
    by_cases hlt : k < 32
    · have hsb := shift_bit b k hb32
      by_cases hbit : b / 2 ^ k % 2 = 0
      · have HN := next_same HH hbit
        have HP2 : Aside0 (p < 8 * N ∨ b % 2 ^ (k + 1) = 0) := ⟨by rw [Burst.low_same b k hbit]; exact HP.out⟩
        rw [hbit] at hsb
        have hbt : (bits BinOp.and IntKind.u32 ((b : Int) / 2 ^ k) 1 == 0) = true := by rw [hsb]; rfl
        clear hsb hbit HH
        go_wp2
        go_roundw
        case rel => exact ⟨k + 1, by omega, by go_num, HN, HP2⟩
        case measure => simp [intOf]; omega
      · have hb1 : b / 2 ^ k % 2 = 1 := by omega
        rw [hb1] at hsb
        have hbt : (bits BinOp.and IntKind.u32 ((b : Int) / 2 ^ k) 1 == 0) = false := by rw [hsb]; rfl
        have HB1 := Aside0.mk hb1
        clear hsb hbit hb1
        by_cases hq : 8 * N ≤ p + k
        · go_wp2_with (go_at_call 19; refine (live_any _).mono ?_; rintro e w' ⟨rfl, hbel⟩)
          go_ret
          obtain ⟨zs, _, _, _, _, h5⟩ := HH
          exact ⟨rfl, below_then h5 h5.size hbel⟩
        · obtain ⟨q, r, R1, R2, R3, hr8, hqr⟩ := spots (p + k) (by omega)
          have hq68 : q < N := by omega
          have hqn : (q : Int) < (N : Int) := by omega
          have HP2 : Aside0 (p < 8 * N ∨ b % 2 ^ (k + 1) = 0) := ⟨Or.inl (by omega)⟩
          obtain ⟨z, hz1, hz2, hz3, HN⟩ := next_turned (q := q) (r := r) HH hgb HB1.out hq68 hr8 hqr
          have HZ2 := Aside0.mk hz2
          have HZ3 := Aside0.mk hz3
          have R9 := shl_bit r hr8
          have R10 := u8_xor_nat z (2 ^ r) hz1 (by
            have : 2 ^ r < 2 ^ 8 := Nat.pow_lt_pow_right (by omega) hr8
            omega)
          obtain ⟨d, hd⟩ : ∃ d, 2 ^ r = d := ⟨_, rfl⟩
          rw [hd] at R9 R10 HN
          obtain ⟨t, ht⟩ : ∃ t, t = p + k := ⟨_, rfl⟩
          have R0 : (p : Int) + (k : Int) = (t : Int) := by omega
          rw [← ht] at R1 R3
          have ht2 : t < 8 * N := by omega
          have hge : decide ((t : Int) ≥ 8 * (N : Int)) = false := decide_eq_false (by omega)
          have HRR := Aside0.mk (And.intro R1 (And.intro R2 (And.intro R3 (And.intro R9 R10))))
          clear hz2 hz3 HH hd hqr R1 R2 R3 R9 R10 hr8 ht hq
          go_wp2
          obtain ⟨R1, R2, R3, R9, R10⟩ := HRR.out
          refine start_ (n := 11) (S := fun w' => w'.cell? ⟨g, q, none⟩ = some (.int .u8 z) ∧ w'.frozen? ⟨g, q, none⟩ = false) (ds := [10]) #[false, false, false, false, false, false, false, false, false, false, false] (by kernel_rfl) rfl rfl ⟨(show wr.cell? _ = _ from HZ2.out), (show wr.frozen? _ = _ from HZ3.out)⟩ (fun hHeld => ?_)
          refine pure_ (i := 0) (N := some 63) (v := ?_) (a' := ?_) #[true, false, false, false, false, false, false, false, false, false, false] rfl rfl (by kernel_rfl) (fun _ _ _ h => h) (Or.inl ⟨by rfl, ?_⟩) ?_ ?_
          rotate_left
          · intro w'
            go_simp
            with_reducible rfl
          rotate_left
          · simp only [Act.put, List.setIfInBounds_toArray, List.set_cons_zero, List.set_cons_succ, i64_w, i32_w]
            rfl
          refine pure_ (i := 1) (N := some 64) (v := ?_) (a' := ?_) #[true, true, false, false, false, false, false, false, false, false, false] rfl rfl (by kernel_rfl) (fun _ _ _ h => h) (Or.inl ⟨by rfl, ?_⟩) ?_ ?_
          rotate_left
          · intro w'
            go_simp
            with_reducible rfl
          rotate_left
          · simp only [Act.put, List.setIfInBounds_toArray, List.set_cons_zero, List.set_cons_succ, i64_w, i32_w]
            rfl
          refine pure_ (i := 2) (N := some 65) (v := ?_) (a' := ?_) #[true, true, true, false, false, false, false, false, false, false, false] rfl rfl (by kernel_rfl) (fun _ _ _ h => h) (Or.inl ⟨by rfl, ?_⟩) ?_ ?_
          rotate_left
          · intro w'
            go_simp
            with_reducible rfl
          rotate_left
          · simp only [Act.put, List.setIfInBounds_toArray, List.set_cons_zero, List.set_cons_succ, i64_w, i32_w]
            rfl
          refine pure_ (i := 3) (N := some 66) (v := ?_) (a' := ?_) #[true, true, true, true, false, false, false, false, false, false, false] rfl rfl (by kernel_rfl) (fun _ _ _ h => h) (Or.inl ⟨by rfl, ?_⟩) ?_ ?_
          rotate_left
          · intro w'
            go_simp
            with_reducible rfl
          rotate_left
          · simp only [Act.put, List.setIfInBounds_toArray, List.set_cons_zero, List.set_cons_succ, i64_w, i32_w]
            rfl
          refine pure_ (i := 5) (N := some 68) (v := ?_) (a' := ?_) #[true, true, true, true, false, true, false, false, false, false, false] rfl rfl (by kernel_rfl) (fun _ _ _ h => h) (Or.inl ⟨by rfl, ?_⟩) ?_ ?_
          rotate_left
          · intro w'
            go_simp
            with_reducible rfl
          rotate_left
          · simp only [Act.put, List.setIfInBounds_toArray, List.set_cons_zero, List.set_cons_succ, i64_w, i32_w]
            rfl
          refine pure_ (i := 6) (N := some 69) (v := ?_) (a' := ?_) #[true, true, true, true, false, true, true, false, false, false, false] rfl rfl (by kernel_rfl) (fun _ _ _ h => h) (Or.inl ⟨by rfl, ?_⟩) ?_ ?_
          rotate_left
          · intro w'
            go_simp
            with_reducible rfl
          rotate_left
          · simp only [Act.put, List.setIfInBounds_toArray, List.set_cons_zero, List.set_cons_succ, i64_w, i32_w]
            rfl
          refine pure_ (i := 7) (N := some 70) (v := ?_) (a' := ?_) #[true, true, true, true, false, true, true, true, false, false, false] rfl rfl (by kernel_rfl) (fun _ _ _ h => h) (Or.inl ⟨by rfl, ?_⟩) ?_ ?_
          rotate_left
          · intro w'
            go_simp
            with_reducible rfl
          rotate_left
          · simp only [Act.put, List.setIfInBounds_toArray, List.set_cons_zero, List.set_cons_succ, i64_w, i32_w]
            rfl
          refine take_ (i := 4) (N := some 67) (v := ?_) (a' := ?_) #[true, true, true, true, true, true, true, true, false, false, false] rfl rfl (by kernel_rfl) (fun _ _ _ h => h) (Or.inl ⟨by rfl, ?_⟩) hHeld ?_ ?_
          rotate_left
          · rintro w' ⟨s0, s1⟩
            go_simp
            with_reducible rfl
          rotate_left
          · simp only [Act.put, List.setIfInBounds_toArray, List.set_cons_zero, List.set_cons_succ, i64_w, i32_w]
            rfl
          refine pure_ (i := 8) (N := some 71) (v := ?_) (a' := ?_) #[true, true, true, true, true, true, true, true, true, false, false] rfl rfl (by kernel_rfl) (fun _ _ _ h => h) (Or.inl ⟨by rfl, ?_⟩) ?_ ?_
          rotate_left
          · intro w'
            go_simp
            with_reducible rfl
          rotate_left
          · simp only [Act.put, List.setIfInBounds_toArray, List.set_cons_zero, List.set_cons_succ, i64_w, i32_w]
            rfl
          refine pure_ (i := 9) (N := some 72) (v := ?_) (a' := ?_) #[true, true, true, true, true, true, true, true, true, true, false] rfl rfl (by kernel_rfl) (fun _ _ _ h => h) (Or.inl ⟨by rfl, ?_⟩) ?_ ?_
          rotate_left
          · intro w'
            go_simp
            with_reducible rfl
          rotate_left
          · simp only [Act.put, List.setIfInBounds_toArray, List.set_cons_zero, List.set_cons_succ, i64_w, i32_w]
            rfl
          refine last_ (i := 10) (N := none) #[true, true, true, true, true, true, true, true, true, true, true] rfl rfl (by kernel_rfl) (by decide) (fun K hK => ?_)
          refine skip_ (w1 := ?_) (by rfl) rfl ?_ ?_
          rotate_left
          · go_simp
            rfl
          refine hK.out _ _ ?_
          clear hK K
          refine done_ (by kernel_rfl) ?_
          go_wp2
          go_roundw
          case rel => exact ⟨k + 1, by omega, by go_num, HN, HP2⟩
          case measure => simp [intOf]; omega
    · have hk32 : k = 32 := by omega
      subst hk32
      obtain ⟨zs, h1, h2, h3, h4, h5⟩ := HH
      obtain ⟨hzl, hzc, hzr⟩ := Row.OwnB.reads h1
      have hz68 : zs.length = N := by rw [← hzl]
      have hne : Sum.crc 0 (zs.take m) ≠ rdN zs m 4 := by
        by_cases hp : p < 8 * N
        · exact burst_no S zs m p b KSb.out h3 (by rw [KSl.out, KNN.out]) (by rw [hz68, KNN.out]) KSo.out (by have := KNN.out; omega) HBZ.out hb32 h4
        · exact absurd (HP.out.resolve_left hp) (by rw [Nat.mod_eq_of_lt (by omega)]; exact HBZ.out)
      rw [hz68] at hzr
      have KD := Aside0.mk (KL.out wr zs (some ⟨g, 0, none⟩) d1 (by rw [hz68]; exact hzr) (by omega) h3 hz68 hne)
      have KH5 := Aside0.mk h5
      clear h1 h2 h3 h4 h5 hzl hzr hzc hz68 hne
      go_wp2_with (go_at_call 26; apply Aside0.out)
      refine ⟨?_⟩
      refine KD.out.mono ?_
      rintro e w2 ⟨A7, c7, rfl, hB2⟩
      have KB2 := Aside0.mk (below_then KH5.out KH5.out.size hB2)
      clear hB2
      go_wp2_with (first | (go_at_call 17; refine (num_any _ _).mono ?_; rintro e w' ⟨rfl, rfl⟩) | (go_at_call 19; refine (live_any _).mono ?_; rintro e w' ⟨rfl, hbel⟩))
      go_ret
      exact ⟨rfl, below_then KB2.out KB2.out.size hbel⟩
theorem walk (w : World) (A0 : Option Addr) (c0 : Nat) (l0 : List Int) (r0 : Kd.C (Kd.int .u8) w A0 l0.length l0) (k0 : l0.length ≤ c0) (g0 : ∀ v ∈ l0, (fun n : Int => (Lit.int .u8 n).wf = true) v) (m0 : l0.length * 1 ≤ 140737488351232) (a1 : Int) (w1 : (Lit.int .u64 a1).wf = true) (a2 : Int) (w2 : (Lit.int .u16 a2).wf = true) (a3 : Int) (w3 : (Lit.int .u32 a3).wf = true) :
    Calls Try.prog 8 #[.slice A0 l0.length c0, .int .u64 a1, .int .u16 a2, .int .u32 a3] w fun e w' => e = .returned (.bool true) ∧ Below w.heap.size w w' := by
  have hb : isB l0 := fun x hx => by
    have := g0 x hx
    have e1 : IntKind.u8.min = 0 := by decide
    have e2 : IntKind.u8.max = 255 := by decide
    simp only [Lit.wf, e1, e2, Bool.and_eq_true, decide_eq_true_eq] at this
    omega
  have i3 := Go.bounds_u32 w3
  have i2 := Go.bounds_u16 w2
  obtain ⟨u, rfl⟩ := Int.eq_ofNat_of_zero_le i3.1
  obtain ⟨p, rfl⟩ := Int.eq_ofNat_of_zero_le i2.1
  by_cases c1 : (l0.length : Int) > 20000
  · exact big_ w A0 c0 l0 a1 p u r0 true _ (decide_eq_true c1) rfl (by omega) (Or.inl rfl)
  by_cases c2 : u = 0
  · subst c2
    exact big_ w A0 c0 l0 a1 p _ r0 false true (decide_eq_false c1) rfl (by omega) (Or.inr (Or.inl ⟨rfl, rfl⟩))
  cases hz : all0 l0 with
  | true => exact big_ w A0 c0 l0 a1 p u r0 false false (decide_eq_false c1) (by simp; omega) (by omega) (Or.inr (Or.inr ⟨rfl, rfl, hz⟩))
  | false => exact some_ w A0 c0 l0 a1 p u r0 k0 hb hz (by omega) (by omega) c2 (by omega)
end BlocksBursts
end Go.Proofs.Ytpdggoapjbjmhaa
