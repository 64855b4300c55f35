/- A boot record with bits of a burst turned: the statement's walk. -/
import Derived.Test.YtgplpcjlemjabaaBo8
set_option linter.unusedVariables false
set_option linter.unusedSimpArgs false
namespace Go.Proofs.Ytgplpcjlemjabaa
open Go.RowKit Go.Proofs.Ytgplpcjlemjabaa.Fd Go.Proofs.Ytgplpcjlemjabaa.Bg Go.Proofs.Ytgplpcjlemjabaa.Bo Go.Proofs.YtgplpcjlemjabaaW.PrintWords Go.Proofs.YtgplpcjlemjabaaW.PrintLast Go.Proofs.YtgplpcjlemjabaaW.PrintMore
namespace BootBursts
theorem eq_zero (w : World) : (binOp .eql 45 (.agg #[.int .u64 0, .int .i64 0, .int .i64 0, .int .u64 0]) (.agg #[.int .u64 0, .int .i64 0, .int .i64 0, .int .u64 0])).run Try.prog w = .ok (.bool true) w := by kernel_rfl
set_option maxHeartbeats 4000000 in
theorem wrong_ (w : World) (r : Rec) (hr : ¬ right r) (p b : Nat) : Calls Try.prog 11 #[.agg #[.int .u64 r.seq, .int .i64 r.slot, .int .i64 r.len, .int .u64 r.sum], .int .u8 p, .int .u32 b] w fun e w' => e = .returned (.bool true) ∧ Below w.heap.size w w' := by
  have KB0 := Aside0.mk (RB.new w r)
  have KE := Aside0.mk (fun w1 => encode_no r hr w1)
  clear hr
  go_enter Try.func11, Try.ntmps11
  go_wp2_with (go_at_call 24; apply Aside0.out)
  refine ⟨?_⟩
  refine (KE.out _).mono ?_
  rintro e w1 ⟨rfl, hb⟩
  have KB1 := Aside0.mk (RB.then_ KB0.out hb)
  clear hb
  go_wp2_with (go_at_call 26; refine (num_any _ _).mono ?_; rintro e w' ⟨rfl, rfl⟩)
  go_ret
  exact ⟨rfl, KB1.out.2⟩
set_option maxHeartbeats 4000000 in
theorem none_ (w : World) (r : Rec) (hr : right r) (hw : Wf r) (p : Nat) : Calls Try.prog 11 #[.agg #[.int .u64 r.seq, .int .i64 r.slot, .int .i64 r.len, .int .u64 r.sum], .int .u8 p, .int .u32 0] w fun e w' => e = .returned (.bool true) ∧ Below w.heap.size w w' := by
  have KB0 := Aside0.mk (RB.new w r)
  have KE := Aside0.mk (fun w1 => enc_sl r hr hw w1)
  clear hr
  go_enter Try.func11, Try.ntmps11
  go_wp2_with (go_at_call 24; apply Aside0.out)
  refine ⟨?_⟩
  refine (KE.out _).mono ?_
  rintro e w1 ⟨A1, c1, rfl, -, -, hb⟩
  have KB1 := Aside0.mk (RB.then_ KB0.out hb)
  clear hb
  go_wp2_with (first | (go_at_call 26; refine (num_any _ _).mono ?_; rintro e w' ⟨rfl, rfl⟩) | (go_at_call 23; refine (live_any _).mono ?_; rintro e w' ⟨rfl, hbel⟩))
  go_ret
  exact ⟨rfl, below_then KB1.out.2 KB1.out.2.size hbel⟩
set_option maxHeartbeats 8000000 in
set_option maxRecDepth 100000 in
theorem some_ (w : World) (r : Rec) (hr : right r) (hw : Wf r) (p b : Nat) (hp16 : p < 256) (hb0 : b ≠ 0) (hb32 : b < 4294967296) : Calls Try.prog 11 #[.agg #[.int .u64 r.seq, .int .i64 r.slot, .int .i64 r.len, .int .u64 r.sum], .int .u8 p, .int .u32 b] w fun e w' => e = .returned (.bool true) ∧ Below w.heap.size w w' := by
  have KB0 := Aside0.mk (RB.new w r)
  have KE := Aside0.mk (fun w1 => encode_ok r hr hw w1)
  have hbz' : ((b : Int) == 0) = false := by simp; omega
  have HBZ := Aside0.mk hb0
  clear hr hb0
  go_enter Try.func11, Try.ntmps11
  go_wp2_with (go_at_call 24; apply Aside0.out)
  refine ⟨?_⟩
  refine (KE.out _).mono ?_
  rintro e w1 ⟨u, rfl, hO, hb⟩
  have HB1 := below_then KB0.out.2 KB0.out.2.size hb
  have hO1 := hO.lower KB0.out.2.size
  obtain ⟨g, d1, rfl, hgb, -, -, -⟩ := Kd.R_form hO1 (by rw [bytesB_len]; decide)
  have HH : Held w1 w.heap.size (.slice (some ⟨g, 0, none⟩) (bytesB r).length d1) (bytesB r) p b 0 w := ⟨⟨bytesB r, hO1, rfl, bytesB_isB r, by simp [Nat.mod_one], HB1⟩⟩
  rw [bytesB_len] at HH ⊢
  clear hO hb HB1 hO1 KE KB0
  go_wp2_with (go_at_call 26; refine (num_any _ _).mono ?_; rintro e w' ⟨rfl, rfl⟩)
  go_loopw [9] (fun i wr => ∃ k : Nat, k ≤ 32 ∧ i = .int .i64 k ∧ Held wr w.heap.size (.slice (some ⟨g, 0, none⟩) 32 d1) (bytesB r) p b k w ∧ Aside0 (p < 256 ∨ b % 2 ^ k = 0)) (fun i _ => 32 - (intOf i).toNat)
  case atStart => exact ⟨0, by omega, rfl, HH, ⟨Or.inr (by rw [Nat.pow_zero, Nat.mod_one])⟩⟩
  case round =>
    clear HH
    obtain ⟨k, hk, rfl, HH, HP⟩ := hrel
    by_cases hlt : k < 32
    · have hsb := shift_bit b k hb32
      by_cases hbit : b / 2 ^ k % 2 = 0
      · have HN := next_same HH hbit
        have HP2 : Aside0 (p < 256 ∨ b % 2 ^ (k + 1) = 0) := ⟨by rw [Burst.low_same b k hbit]; exact HP.out⟩
        rw [hbit] at hsb
        have hbt : (bits BinOp.and IntKind.u32 ((b : Int) / 2 ^ k) 1 == 0) = true := by rw [hsb]; rfl
        clear hsb hbit HH
        go_wp2
        go_roundw
        case rel => exact ⟨k + 1, by omega, by go_num, HN, HP2⟩
        case measure => simp [intOf]; omega
      · have hb1 : b / 2 ^ k % 2 = 1 := by omega
        rw [hb1] at hsb
        have hbt : (bits BinOp.and IntKind.u32 ((b : Int) / 2 ^ k) 1 == 0) = false := by rw [hsb]; rfl
        have HB1 := Aside0.mk hb1
        clear hsb hbit hb1
        by_cases hq : 256 ≤ p + k
        · go_wp2_with (go_at_call 23; refine (live_any _).mono ?_; rintro e w' ⟨rfl, hbel⟩)
          go_ret
          obtain ⟨zs, _, _, _, _, h5⟩ := HH
          exact ⟨rfl, below_then h5 h5.size hbel⟩
        · obtain ⟨q, r, R1, R2, R3, hr8, hqr⟩ := spots (p + k) (by omega)
          have hq68 : q < 32 := by omega
          have hqn : (q : Int) < 32 := by omega
          have HP2 : Aside0 (p < 256 ∨ b % 2 ^ (k + 1) = 0) := ⟨Or.inl (by omega)⟩
          obtain ⟨z, hz1, hz2, hz3, HN⟩ := next_turned (q := q) (r := r) HH hgb HB1.out hq68 hr8 hqr
          have HZ2 := Aside0.mk hz2
          have HZ3 := Aside0.mk hz3
          have R9 := shl_bit r hr8
          have R10 := u8_xor_nat z (2 ^ r) hz1 (by
            have : 2 ^ r < 2 ^ 8 := Nat.pow_lt_pow_right (by omega) hr8
            omega)
          obtain ⟨d, hd⟩ : ∃ d, 2 ^ r = d := ⟨_, rfl⟩
          rw [hd] at R9 R10 HN
          obtain ⟨t, ht⟩ : ∃ t, t = p + k := ⟨_, rfl⟩
          have R0 : (p : Int) + (k : Int) = (t : Int) := by omega
          rw [← ht] at R1 R3
          have ht2 : t < 256 := by omega
          have HRR := Aside0.mk (And.intro R1 (And.intro R2 (And.intro R3 (And.intro R9 R10))))
          clear hz2 hz3 HH hd hqr R1 R2 R3 R9 R10 hr8 ht hq
          go_wp2
          obtain ⟨R1, R2, R3, R9, R10⟩ := HRR.out
          refine start_ (n := 11) (S := fun w' => w'.cell? ⟨g, q, none⟩ = some (.int .u8 z) ∧ w'.frozen? ⟨g, q, none⟩ = false) (ds := [10]) #[false, false, false, false, false, false, false, false, false, false, false] (by kernel_rfl) rfl rfl ⟨(show wr.cell? _ = _ from HZ2.out), (show wr.frozen? _ = _ from HZ3.out)⟩ (fun hHeld => ?_)
          refine pure_ (i := 0) (N := some 61) (v := ?_) (a' := ?_) #[true, false, false, false, false, false, false, false, false, false, false] rfl rfl (by kernel_rfl) (fun _ _ _ h => h) (Or.inl ⟨by rfl, ?_⟩) ?_ ?_
          rotate_left
          · intro w'
            go_simp
            with_reducible rfl
          rotate_left
          · simp only [Act.put, List.setIfInBounds_toArray, List.set_cons_zero, List.set_cons_succ, i64_w, i32_w]
            rfl
          refine pure_ (i := 1) (N := some 62) (v := ?_) (a' := ?_) #[true, true, false, false, false, false, false, false, false, false, false] rfl rfl (by kernel_rfl) (fun _ _ _ h => h) (Or.inl ⟨by rfl, ?_⟩) ?_ ?_
          rotate_left
          · intro w'
            go_simp
            with_reducible rfl
          rotate_left
          · simp only [Act.put, List.setIfInBounds_toArray, List.set_cons_zero, List.set_cons_succ, i64_w, i32_w]
            rfl
          refine pure_ (i := 2) (N := some 63) (v := ?_) (a' := ?_) #[true, true, true, false, false, false, false, false, false, false, false] rfl rfl (by kernel_rfl) (fun _ _ _ h => h) (Or.inl ⟨by rfl, ?_⟩) ?_ ?_
          rotate_left
          · intro w'
            go_simp
            with_reducible rfl
          rotate_left
          · simp only [Act.put, List.setIfInBounds_toArray, List.set_cons_zero, List.set_cons_succ, i64_w, i32_w]
            rfl
          refine pure_ (i := 3) (N := some 64) (v := ?_) (a' := ?_) #[true, true, true, true, false, false, false, false, false, false, false] rfl rfl (by kernel_rfl) (fun _ _ _ h => h) (Or.inl ⟨by rfl, ?_⟩) ?_ ?_
          rotate_left
          · intro w'
            go_simp
            with_reducible rfl
          rotate_left
          · simp only [Act.put, List.setIfInBounds_toArray, List.set_cons_zero, List.set_cons_succ, i64_w, i32_w]
            rfl
          refine pure_ (i := 5) (N := some 66) (v := ?_) (a' := ?_) #[true, true, true, true, false, true, false, false, false, false, false] rfl rfl (by kernel_rfl) (fun _ _ _ h => h) (Or.inl ⟨by rfl, ?_⟩) ?_ ?_
          rotate_left
          · intro w'
            go_simp
            with_reducible rfl
          rotate_left
          · simp only [Act.put, List.setIfInBounds_toArray, List.set_cons_zero, List.set_cons_succ, i64_w, i32_w]
            rfl
          refine pure_ (i := 6) (N := some 67) (v := ?_) (a' := ?_) #[true, true, true, true, false, true, true, false, false, false, false] rfl rfl (by kernel_rfl) (fun _ _ _ h => h) (Or.inl ⟨by rfl, ?_⟩) ?_ ?_
          rotate_left
          · intro w'
            go_simp
            with_reducible rfl
          rotate_left
          · simp only [Act.put, List.setIfInBounds_toArray, List.set_cons_zero, List.set_cons_succ, i64_w, i32_w]
            rfl
          refine pure_ (i := 7) (N := some 68) (v := ?_) (a' := ?_) #[true, true, true, true, false, true, true, true, false, false, false] rfl rfl (by kernel_rfl) (fun _ _ _ h => h) (Or.inl ⟨by rfl, ?_⟩) ?_ ?_
          rotate_left
          · intro w'
            go_simp
            with_reducible rfl
          rotate_left
          · simp only [Act.put, List.setIfInBounds_toArray, List.set_cons_zero, List.set_cons_succ, i64_w, i32_w]
            rfl
          refine take_ (i := 4) (N := some 65) (v := ?_) (a' := ?_) #[true, true, true, true, true, true, true, true, false, false, false] rfl rfl (by kernel_rfl) (fun _ _ _ h => h) (Or.inl ⟨by rfl, ?_⟩) hHeld ?_ ?_
          rotate_left
          · rintro w' ⟨s0, s1⟩
            go_simp
            with_reducible rfl
          rotate_left
          · simp only [Act.put, List.setIfInBounds_toArray, List.set_cons_zero, List.set_cons_succ, i64_w, i32_w]
            rfl
          refine pure_ (i := 8) (N := some 69) (v := ?_) (a' := ?_) #[true, true, true, true, true, true, true, true, true, false, false] rfl rfl (by kernel_rfl) (fun _ _ _ h => h) (Or.inl ⟨by rfl, ?_⟩) ?_ ?_
          rotate_left
          · intro w'
            go_simp
            with_reducible rfl
          rotate_left
          · simp only [Act.put, List.setIfInBounds_toArray, List.set_cons_zero, List.set_cons_succ, i64_w, i32_w]
            rfl
          refine pure_ (i := 9) (N := some 70) (v := ?_) (a' := ?_) #[true, true, true, true, true, true, true, true, true, true, false] rfl rfl (by kernel_rfl) (fun _ _ _ h => h) (Or.inl ⟨by rfl, ?_⟩) ?_ ?_
          rotate_left
          · intro w'
            go_simp
            with_reducible rfl
          rotate_left
          · simp only [Act.put, List.setIfInBounds_toArray, List.set_cons_zero, List.set_cons_succ, i64_w, i32_w]
            rfl
          refine last_ (i := 10) (N := none) #[true, true, true, true, true, true, true, true, true, true, true] rfl rfl (by kernel_rfl) (by decide) (fun K hK => ?_)
          refine skip_ (w1 := ?_) (by rfl) rfl ?_ ?_
          rotate_left
          · go_simp
            rfl
          refine hK.out _ _ ?_
          clear hK K
          refine done_ (by kernel_rfl) ?_
          go_wp2
          go_roundw
          case rel => exact ⟨k + 1, by omega, by go_num, HN, HP2⟩
          case measure => simp [intOf]; omega
    · have hk32 : k = 32 := by omega
      subst hk32
      obtain ⟨zs, h1, h2, h3, h4, h5⟩ := HH
      obtain ⟨hzl, hzc, hzr⟩ := Row.OwnB.reads h1
      have hz68 : zs.length = 32 := hzl.symm
      have hne : Sum.crc 0 (zs.take 28) ≠ rdN zs 28 4 := by
        by_cases hp : p < 256
        · exact burst_no (bytesB r) zs 28 p b (bytesB_isB r) h3 (bytesB_len r) hz68 (bytesB_own r) (by omega) HBZ.out hb32 h4
        · exact absurd (HP.out.resolve_left hp) (by rw [Nat.mod_eq_of_lt (by omega)]; exact HBZ.out)
      rw [hz68] at hzr
      have hk := decK wr zs (some ⟨g, 0, none⟩) d1 (by rw [hz68]; exact hzr) h3 (by omega) (by omega)
      rw [dec_no hz68 hne, hz68] at hk
      have KD := Aside0.mk (hk wr (Below.refl _ _))
      have KH5 := Aside0.mk h5
      have heq := eq_zero
      clear h1 h2 h3 h4 h5 hzl hzr hzc hz68 hne hk
      go_wp2_with (go_at_call 28; apply Aside0.out)
      refine ⟨?_⟩
      refine KD.out.mono ?_
      rintro e w2 ⟨hB2, rfl⟩
      have KB2 := Aside0.mk (below_then KH5.out KH5.out.size hB2)
      clear hB2
      simp only [zero]
      go_wp2_with (first | (go_at_call 26; refine (num_any _ _).mono ?_; rintro e w' ⟨rfl, rfl⟩) | (go_at_call 23; apply Aside0.out))
      refine ⟨?_⟩
      refine (live_any _).mono ?_
      rintro e w9 ⟨rfl, hb9⟩
      go_wp2
      go_ret
      have hBX := below_alloc KB2.out (.cells #[.int .u64 0, .int .i64 0, .int .i64 0, .int .u64 0] 45)
      exact ⟨rfl, below_then hBX hBX.size hb9⟩
theorem walk (w : World) (cs0 : Array Value) (x0 : Int × Int × Int × Int) (r0 : ∃ c00 c01, cs0.toList = c00 ++ c01 ∧ ((Kd.int .u64).K w x0.1 c00 ∧ (fun n : Int => (Lit.int .u64 n).wf = true) x0.1) ∧ (∃ c10 c11, c01 = c10 ++ c11 ∧ ((Kd.int .i64).K w x0.2.1 c10 ∧ (fun n : Int => (Lit.int .i64 n).wf = true) x0.2.1) ∧ (∃ c20 c21, c11 = c20 ++ c21 ∧ ((Kd.int .i64).K w x0.2.2.1 c20 ∧ (fun n : Int => (Lit.int .i64 n).wf = true) x0.2.2.1) ∧ ((Kd.int .u64).K w x0.2.2.2 c21 ∧ (fun n : Int => (Lit.int .u64 n).wf = true) x0.2.2.2)))) (a1 : Int) (w1 : (Lit.int .u8 a1).wf = true) (a2 : Int) (w2 : (Lit.int .u32 a2).wf = true) :
    Calls Try.prog 11 #[.agg cs0, .int .u8 a1, .int .u32 a2] w fun e w' => e = .returned (.bool true) ∧ Below w.heap.size w w' := by
  obtain ⟨r, rfl, hw⟩ := rec_of r0
  have hb := Go.bounds_u32 w2
  have hp := Go.bounds_u8 w1
  obtain ⟨b, rfl⟩ := Int.eq_ofNat_of_zero_le hb.1
  obtain ⟨p, rfl⟩ := Int.eq_ofNat_of_zero_le hp.1
  by_cases hr : right r
  · by_cases hb0 : b = 0
    · subst hb0
      exact none_ w r hr hw p
    · exact some_ w r hr hw p b (by omega) hb0 (by omega)
  · exact wrong_ w r hr p b
end BootBursts
end Go.Proofs.Ytgplpcjlemjabaa
