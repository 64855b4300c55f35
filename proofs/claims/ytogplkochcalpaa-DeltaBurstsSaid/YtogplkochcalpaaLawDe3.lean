/- Deltas with bits of a burst turned: the statement's walk. -/
import Derived.Test.YtogplkochcalpaaDB
import Derived.Test.YtogplkochcalpaaDC
import Derived.Test.YtogplkochcalpaaDp3
set_option linter.unusedVariables false
set_option linter.unusedSimpArgs false
namespace Go.Proofs.Ytogplkochcalpaa
open Go.RowKit Go.Proofs.Ytogplkochcalpaa.De Go.Proofs.Ytogplkochcalpaa.PD Go.Proofs.Ytogplkochcalpaa.Fd Go.Proofs.Ytogplkochcalpaa.Bg Go.Proofs.YtogplkochcalpaaW.PrintWords Go.Proofs.YtogplkochcalpaaW.PrintLast Go.Proofs.YtogplkochcalpaaW.PrintMore
namespace DeltaBursts
theorem own_sum (d : Dl) (n : Nat) (hn : (bytesB d).length = n + 4) : Sum.crc 0 ((bytesB d).take n) = rdN (bytesB d) n 4 := by
  have hb : (bodyB d).length = n := by have := bodyB_len d; have := bytesB_len d; omega
  have h2 := rd_mid (bodyB d) [] (Sum.crc 0 (bodyB d)) 4 n hb (by have := crc_lt (bodyB d); omega) (bytesB d) (by rw [List.append_nil]; rfl)
  rw [h2, bytesB, List.take_left' hb]
theorem dec_turned {zs : List Int} (h : 32 ≤ zs.length) (hS : Sum.crc 0 (zs.take (zs.length - 4)) ≠ rdN zs (zs.length - 4) 4) : decP zs = (zeroD, 6) ∨ decP zs = (zeroD, 140) := by
  unfold decP
  by_cases hM : zs.take 4 = [80, 77, 68, 49]
  · right
    rw [if_neg (fun h1 => h1.elim (by omega) (fun h2 => h2 hM)), if_pos (fun e => hS e.symm)]
  · left
    rw [if_pos (Or.inr hM)]
set_option maxHeartbeats 4000000 in
set_option maxRecDepth 100000 in
theorem much_ (w : World) (d : Dl) (A : Option Addr) (c p b : Nat) (hC : Kd.C k37 w A d.l.length d.l) (hc : d.l.length ≤ c) (hm : muchB d = true) : Calls Try.prog 9 #[dv d A c, .int .u16 p, .int .u32 b] w fun e w' => e = .returned (.bool true) ∧ Below w.heap.size w w' := by
  have KB0 := Aside0.mk (DB.new w d A c)
  have KM := Aside0.mk (fun w1 (h : Below w.heap.size w w1) => much_any d A c w1 (Kd.C_below hC h) hc)
  rw [hm] at KM
  simp only [dv, DB] at KM KB0 ⊢
  obtain ⟨q0, q1, q2, q3, q4⟩ := dbox_cells KB0.out.1
  obtain ⟨k, hk⟩ : ∃ k, k = d.l.length := ⟨_, rfl⟩
  rw [← hk] at KM KB0 q4 ⊢
  clear hC hc hm hk
  go_enter Try.func9, Try.ntmps9
  go_wp2_with (go_at_call 16; apply Aside0.out)
  refine ⟨?_⟩
  refine (KM.out _ KB0.out.2).mono ?_
  rintro e w1 ⟨rfl, hb⟩
  have KB1 := Aside0.mk (below_then KB0.out.2 KB0.out.2.size hb)
  clear hb
  go_wp2_with (go_at_call 10; refine (live_any _).mono ?_; rintro e w' ⟨rfl, hbel⟩)
  go_ret
  exact ⟨rfl, below_then KB1.out KB1.out.size hbel⟩
set_option maxHeartbeats 4000000 in
set_option maxRecDepth 100000 in
theorem none_ (w : World) (d : Dl) (A : Option Addr) (c p b : Nat) (hC : Kd.C k37 w A d.l.length d.l) (hc : d.l.length ≤ c) (hm : muchB d = false) (hb0 : b = 0) : Calls Try.prog 9 #[dv d A c, .int .u16 p, .int .u32 b] w fun e w' => e = .returned (.bool true) ∧ Below w.heap.size w w' := by
  have KB0 := Aside0.mk (DB.new w d A c)
  have KM := Aside0.mk (fun w1 (h : Below w.heap.size w w1) => much_any d A c w1 (Kd.C_below hC h) hc)
  rw [hm] at KM
  simp only [dv, DB] at KM KB0 ⊢
  obtain ⟨q0, q1, q2, q3, q4⟩ := dbox_cells KB0.out.1
  obtain ⟨k, hk⟩ : ∃ k, k = d.l.length := ⟨_, rfl⟩
  rw [← hk] at KM KB0 q4 ⊢
  subst hb0
  clear hC hc hm hk
  go_enter Try.func9, Try.ntmps9
  go_wp2_with (go_at_call 16; apply Aside0.out)
  refine ⟨?_⟩
  refine (KM.out _ KB0.out.2).mono ?_
  rintro e w1 ⟨rfl, hb⟩
  have KB1 := Aside0.mk (below_then KB0.out.2 KB0.out.2.size hb)
  clear hb
  go_wp2_with (go_at_call 10; refine (live_any _).mono ?_; rintro e w' ⟨rfl, hbel⟩)
  go_ret
  exact ⟨rfl, below_then KB1.out KB1.out.size hbel⟩
set_option maxHeartbeats 4000000 in
set_option maxRecDepth 100000 in
theorem wrong_ (w : World) (d : Dl) (A : Option Addr) (c p b : Nat) (hC : Kd.C k37 w A d.l.length d.l) (hc : d.l.length ≤ c) (hw : WfD d) (hm : muchB d = false) (hb0 : b ≠ 0) (hr : ¬ rightD d = true) : Calls Try.prog 9 #[dv d A c, .int .u16 p, .int .u32 b] w fun e w' => e = .returned (.bool true) ∧ Below w.heap.size w w' := by
  obtain ⟨hl, -⟩ := much_no hm
  have KB0 := Aside0.mk (DB.new w d A c)
  have KM := Aside0.mk (fun w1 (h : Below w.heap.size w w1) => much_any d A c w1 (Kd.C_below hC h) hc)
  have KE := Aside0.mk (fun w1 (h : Below w.heap.size w w1) => encode_no d A c w1 (Kd.C_below hC h) hc hw.ops (by omega) hr)
  have hbz' : ((b : Int) == 0) = false := by simp; omega
  rw [hm] at KM
  simp only [dv, DB] at KM KB0 KE ⊢
  obtain ⟨k, hk⟩ : ∃ k, k = d.l.length := ⟨_, rfl⟩
  rw [← hk] at KM KB0 KE ⊢
  obtain ⟨q0, q1, q2, q3, q4⟩ := dbox_cells KB0.out.1
  clear hC hm hk hl hw hr hc hb0
  go_enter Try.func9, Try.ntmps9
  go_wp2_with (go_at_call 16; apply Aside0.out)
  refine ⟨?_⟩
  refine (KM.out _ KB0.out.2).mono ?_
  rintro e w1 ⟨rfl, hb⟩
  have KB1 := Aside0.mk (And.intro (blk_below KB0.out.1 hb) (below_then KB0.out.2 KB0.out.2.size hb))
  clear hb q0 q1 q2 q3 q4
  obtain ⟨q0, q1, q2, q3, q4⟩ := dbox_cells KB1.out.1
  go_wp2_with (go_at_call 23; apply Aside0.out)
  refine ⟨?_⟩
  refine (KE.out _ KB1.out.2).mono ?_
  rintro e w2 ⟨rfl, hb⟩
  have KB2 := Aside0.mk (below_then KB1.out.2 KB1.out.2.size hb)
  clear hb q0 q1 q2 q3 q4
  go_wp2_with (first | (go_at_call 12; refine (num_any _ _).mono ?_; rintro e w' ⟨rfl, rfl⟩) | (go_at_call 10; refine (live_any _).mono ?_; rintro e w' ⟨rfl, hbel⟩))
  go_ret
  exact ⟨rfl, below_then KB2.out KB2.out.size hbel⟩
set_option maxHeartbeats 8000000 in
set_option maxRecDepth 100000 in
theorem some_ (w : World) (d : Dl) (A : Option Addr) (c p b : Nat) (hC : Kd.C k37 w A d.l.length d.l) (hc : d.l.length ≤ c) (hw : WfD d) (hm : muchB d = false) (hr : rightD d = true) (hp16 : p < 65536) (hb0 : b ≠ 0) (hb32 : b < 4294967296) : Calls Try.prog 9 #[dv d A c, .int .u16 p, .int .u32 b] w fun e w' => e = .returned (.bool true) ∧ Below w.heap.size w w' := by
  obtain ⟨hl, -⟩ := much_no hm
  have hsm := bytes_small hm
  have KB0 := Aside0.mk (DB.new w d A c)
  have KM := Aside0.mk (fun w1 (h : Below w.heap.size w w1) => much_any d A c w1 (Kd.C_below hC h) hc)
  have KE := Aside0.mk (fun w1 (h : Below w.heap.size w w1) => encode_ok d A c w1 (Kd.C_below hC h) hc hw (by omega) hr (by omega))
  have KQ : Aside0 (∀ (w1 : World) B cb, Kd.C k37 w1 B zeroD.l.length zeroD.l → zeroD.l.length ≤ cb → _) := ⟨fun w1 B cb h1 h2 => same_any zeroD B none cb 0 w1 h1 h2 (Kd.C_nil _ _) (Nat.le_refl _) (by decide)⟩
  have hbz' : ((b : Int) == 0) = false := by simp; omega
  have HBZ := Aside0.mk hb0
  rw [hm] at KM
  obtain ⟨n, hn⟩ : ∃ n, (bytesB d).length = n + 4 := ⟨28 + (opsB d.l).length, by rw [bytesB_len]; omega⟩
  have Kown := Aside0.mk (own_sum d n hn)
  have hn28 : 28 ≤ n := by have := bytesB_len d; omega
  have hn2m : n + 4 ≤ 2000000 := by omega
  have KZB := Aside0.mk (bytesB_isB hw)
  simp only [dv, DB, zeroD, List.length_nil] at KM KB0 KE KQ ⊢
  obtain ⟨Z, hZ⟩ : ∃ Z, Z = bytesB d := ⟨_, rfl⟩
  rw [← hZ] at KE hn Kown KZB
  obtain ⟨zn, hzn⟩ : ∃ zn, zn = n + 4 := ⟨_, rfl⟩
  rw [← hzn] at hn
  have Kzn := Aside0.mk hn
  have Kzn4 := Aside0.mk hzn
  have hz32 : 32 ≤ zn := by omega
  have hz2m : zn ≤ 2000000 := by omega
  obtain ⟨k, hk⟩ : ∃ k, k = d.l.length := ⟨_, rfl⟩
  rw [← hk] at KM KB0 KE ⊢
  obtain ⟨q0, q1, q2, q3, q4⟩ := dbox_cells KB0.out.1
  clear hC hm hk hl hw hr hc hb0 hsm hZ hn hzn hn28 hn2m
  go_enter Try.func9, Try.ntmps9
  go_wp2_with (go_at_call 16; apply Aside0.out)
  refine ⟨?_⟩
  refine (KM.out _ KB0.out.2).mono ?_
  rintro e w1 ⟨rfl, hb⟩
  have KB1 := Aside0.mk (And.intro (blk_below KB0.out.1 hb) (below_then KB0.out.2 KB0.out.2.size hb))
  clear hb q0 q1 q2 q3 q4
  obtain ⟨q0, q1, q2, q3, q4⟩ := dbox_cells KB1.out.1
  go_wp2_with (go_at_call 23; apply Aside0.out)
  refine ⟨?_⟩
  refine (KE.out _ KB1.out.2).mono ?_
  rintro e w2 ⟨u, rfl, hO, hb⟩
  have HB1 := below_then KB1.out.2 KB1.out.2.size hb
  have hO1 := hO.lower KB1.out.2.size
  obtain ⟨g, d1, rfl, hgb, -, -, -⟩ := Kd.R_form hO1 (by rw [Kzn.out]; omega)
  have HH : Held w2 w.heap.size (.slice (some ⟨g, 0, none⟩) Z.length d1) Z p b 0 w := ⟨⟨Z, hO1, rfl, KZB.out, by simp [Nat.mod_one], HB1⟩⟩
  rw [Kzn.out] at HH ⊢
  clear hO hb HB1 hO1 KE KB0 KM q0 q1 q2 q3 q4
  go_wp2_with (go_at_call 12; refine (num_any _ _).mono ?_; rintro e w' ⟨rfl, rfl⟩)
  go_loopw [9] (fun i wr => ∃ k : Nat, k ≤ 32 ∧ i = .int .i64 k ∧ Held wr w.heap.size (.slice (some ⟨g, 0, none⟩) zn d1) Z p b k w ∧ Aside0 (p < 8 * zn ∨ b % 2 ^ k = 0)) (fun i _ => 32 - (intOf i).toNat)
  case atStart => exact ⟨0, by omega, rfl, HH, ⟨Or.inr (by rw [Nat.pow_zero, Nat.mod_one])⟩⟩
  case round =>
    clear HH
    obtain ⟨k, hk, rfl, HH, HP⟩ := hrel
    by_cases hlt : k < 32
    · have hsb := shift_bit b k hb32
      by_cases hbit : b / 2 ^ k % 2 = 0
      · have HN := next_same HH hbit
        have HP2 : Aside0 (p < 8 * zn ∨ b % 2 ^ (k + 1) = 0) := ⟨by rw [Burst.low_same b k hbit]; exact HP.out⟩
        rw [hbit] at hsb
        have hbt : (bits BinOp.and IntKind.u32 ((b : Int) / 2 ^ k) 1 == 0) = true := by rw [hsb]; rfl
        clear hsb hbit HH
        go_wp2
        go_roundw
        case rel => exact ⟨k + 1, by omega, by go_num, HN, HP2⟩
        case measure => simp [intOf]; omega
      · have hb1 : b / 2 ^ k % 2 = 1 := by omega
        rw [hb1] at hsb
        have hbt : (bits BinOp.and IntKind.u32 ((b : Int) / 2 ^ k) 1 == 0) = false := by rw [hsb]; rfl
        have HB1 := Aside0.mk hb1
        clear hsb hbit hb1
        by_cases hq : 8 * zn ≤ p + k
        · have hq1 : decide (8 * (zn : Int) ≤ (p : Int) + (k : Int)) = true := decide_eq_true (by omega)
          have hq2 : 8 * (zn : Int) ≤ (p : Int) + (k : Int) := by omega
          go_wp2_with (go_at_call 10; refine (live_any _).mono ?_; rintro e w' ⟨rfl, hbel⟩)
          go_ret
          obtain ⟨zs, _, _, _, _, h5⟩ := HH
          exact ⟨rfl, below_then h5 h5.size hbel⟩
        · obtain ⟨q, r, R1, R2, R3, hr8, hqr⟩ := spots (p + k) (by omega)
          have hq68 : q < zn := by omega
          have hqn : (q : Int) < (zn : Int) := by omega
          have HP2 : Aside0 (p < 8 * zn ∨ b % 2 ^ (k + 1) = 0) := ⟨Or.inl (by omega)⟩
          obtain ⟨z, hz1, hz2, hz3, HN⟩ := next_turned (q := q) (r := r) HH hgb HB1.out hq68 hr8 hqr
          have HZ2 := Aside0.mk hz2
          have HZ3 := Aside0.mk hz3
          have R9 := shl_bit r hr8
          have R10 := u8_xor_nat z (2 ^ r) hz1 (by
            have : 2 ^ r < 2 ^ 8 := Nat.pow_lt_pow_right (by omega) hr8
            omega)
          obtain ⟨d, hd⟩ : ∃ d, 2 ^ r = d := ⟨_, rfl⟩
          rw [hd] at R9 R10 HN
          obtain ⟨t, ht⟩ : ∃ t, t = p + k := ⟨_, rfl⟩
          have R0 : (p : Int) + (k : Int) = (t : Int) := by omega
          rw [← ht] at R1 R3 hq
          have ht2 : (t : Int) < 8 * (zn : Int) := by omega
          have ht3 : decide (8 * (zn : Int) ≤ (t : Int)) = false := decide_eq_false (by omega)
          have ht4 : t < 65600 := by omega
          have HRR := Aside0.mk (And.intro R1 (And.intro R2 (And.intro R3 (And.intro R9 R10))))
          clear hz2 hz3 HH hd hqr R1 R2 R3 R9 R10 hr8 ht hq
          go_wp2
          obtain ⟨R1, R2, R3, R9, R10⟩ := HRR.out
          refine start_ (n := 11) (S := fun w' => w'.cell? ⟨g, q, none⟩ = some (.int .u8 z) ∧ w'.frozen? ⟨g, q, none⟩ = false) (ds := [10]) #[false, false, false, false, false, false, false, false, false, false, false] (by kernel_rfl) rfl rfl ⟨(show wr.cell? _ = _ from HZ2.out), (show wr.frozen? _ = _ from HZ3.out)⟩ (fun hHeld => ?_)
          refine pure_ (i := 0) (N := some 63) (v := ?_) (a' := ?_) #[true, false, false, false, false, false, false, false, false, false, false] rfl rfl (by kernel_rfl) (fun _ _ _ h => h) (Or.inl ⟨by rfl, ?_⟩) ?_ ?_
          rotate_left
          · intro w'
            go_simp
            with_reducible rfl
          rotate_left
          · simp only [Act.put, List.setIfInBounds_toArray, List.set_cons_zero, List.set_cons_succ, i64_w, i32_w]
            rfl
          refine pure_ (i := 1) (N := some 64) (v := ?_) (a' := ?_) #[true, true, false, false, false, false, false, false, false, false, false] rfl rfl (by kernel_rfl) (fun _ _ _ h => h) (Or.inl ⟨by rfl, ?_⟩) ?_ ?_
          rotate_left
          · intro w'
            go_simp
            with_reducible rfl
          rotate_left
          · simp only [Act.put, List.setIfInBounds_toArray, List.set_cons_zero, List.set_cons_succ, i64_w, i32_w]
            rfl
          refine pure_ (i := 2) (N := some 65) (v := ?_) (a' := ?_) #[true, true, true, false, false, false, false, false, false, false, false] rfl rfl (by kernel_rfl) (fun _ _ _ h => h) (Or.inl ⟨by rfl, ?_⟩) ?_ ?_
          rotate_left
          · intro w'
            go_simp
            with_reducible rfl
          rotate_left
          · simp only [Act.put, List.setIfInBounds_toArray, List.set_cons_zero, List.set_cons_succ, i64_w, i32_w]
            rfl
          refine pure_ (i := 3) (N := some 66) (v := ?_) (a' := ?_) #[true, true, true, true, false, false, false, false, false, false, false] rfl rfl (by kernel_rfl) (fun _ _ _ h => h) (Or.inl ⟨by rfl, ?_⟩) ?_ ?_
          rotate_left
          · intro w'
            go_simp
            with_reducible rfl
          rotate_left
          · simp only [Act.put, List.setIfInBounds_toArray, List.set_cons_zero, List.set_cons_succ, i64_w, i32_w]
            rfl
          refine pure_ (i := 5) (N := some 68) (v := ?_) (a' := ?_) #[true, true, true, true, false, true, false, false, false, false, false] rfl rfl (by kernel_rfl) (fun _ _ _ h => h) (Or.inl ⟨by rfl, ?_⟩) ?_ ?_
          rotate_left
          · intro w'
            go_simp
            with_reducible rfl
          rotate_left
          · simp only [Act.put, List.setIfInBounds_toArray, List.set_cons_zero, List.set_cons_succ, i64_w, i32_w]
            rfl
          refine pure_ (i := 6) (N := some 69) (v := ?_) (a' := ?_) #[true, true, true, true, false, true, true, false, false, false, false] rfl rfl (by kernel_rfl) (fun _ _ _ h => h) (Or.inl ⟨by rfl, ?_⟩) ?_ ?_
          rotate_left
          · intro w'
            go_simp
            with_reducible rfl
          rotate_left
          · simp only [Act.put, List.setIfInBounds_toArray, List.set_cons_zero, List.set_cons_succ, i64_w, i32_w]
            rfl
          refine pure_ (i := 7) (N := some 70) (v := ?_) (a' := ?_) #[true, true, true, true, false, true, true, true, false, false, false] rfl rfl (by kernel_rfl) (fun _ _ _ h => h) (Or.inl ⟨by rfl, ?_⟩) ?_ ?_
          rotate_left
          · intro w'
            go_simp
            with_reducible rfl
          rotate_left
          · simp only [Act.put, List.setIfInBounds_toArray, List.set_cons_zero, List.set_cons_succ, i64_w, i32_w]
            rfl
          refine take_ (i := 4) (N := some 67) (v := ?_) (a' := ?_) #[true, true, true, true, true, true, true, true, false, false, false] rfl rfl (by kernel_rfl) (fun _ _ _ h => h) (Or.inl ⟨by rfl, ?_⟩) hHeld ?_ ?_
          rotate_left
          · rintro w' ⟨s0, s1⟩
            go_simp
            with_reducible rfl
          rotate_left
          · simp only [Act.put, List.setIfInBounds_toArray, List.set_cons_zero, List.set_cons_succ, i64_w, i32_w]
            rfl
          refine pure_ (i := 8) (N := some 71) (v := ?_) (a' := ?_) #[true, true, true, true, true, true, true, true, true, false, false] rfl rfl (by kernel_rfl) (fun _ _ _ h => h) (Or.inl ⟨by rfl, ?_⟩) ?_ ?_
          rotate_left
          · intro w'
            go_simp
            with_reducible rfl
          rotate_left
          · simp only [Act.put, List.setIfInBounds_toArray, List.set_cons_zero, List.set_cons_succ, i64_w, i32_w]
            rfl
          refine pure_ (i := 9) (N := some 72) (v := ?_) (a' := ?_) #[true, true, true, true, true, true, true, true, true, true, false] rfl rfl (by kernel_rfl) (fun _ _ _ h => h) (Or.inl ⟨by rfl, ?_⟩) ?_ ?_
          rotate_left
          · intro w'
            go_simp
            with_reducible rfl
          rotate_left
          · simp only [Act.put, List.setIfInBounds_toArray, List.set_cons_zero, List.set_cons_succ, i64_w, i32_w]
            rfl
          refine last_ (i := 10) (N := none) #[true, true, true, true, true, true, true, true, true, true, true] rfl rfl (by kernel_rfl) (by decide) (fun K hK => ?_)
          refine skip_ (w1 := ?_) (by rfl) rfl ?_ ?_
          rotate_left
          · go_simp
            rfl
          refine hK.out _ _ ?_
          clear hK K
          refine done_ (by kernel_rfl) ?_
          go_wp2
          go_roundw
          case rel => exact ⟨k + 1, by omega, by go_num, HN, HP2⟩
          case measure => simp [intOf]; omega
    · have hk32 : k = 32 := by omega
      subst hk32
      obtain ⟨zs, h1, h2, h3, h4, h5⟩ := HH
      obtain ⟨hzl, hzc, hzr⟩ := Row.OwnB.reads h1
      have hz68 : zs.length = zn := hzl.symm
      have hne : Sum.crc 0 (zs.take n) ≠ rdN zs n 4 := by
        by_cases hp : p < 8 * zn
        · exact burst_no Z zs n p b KZB.out h3 (by rw [Kzn.out, Kzn4.out]) (by rw [hz68, Kzn4.out]) Kown.out (by rw [← Kzn4.out]; exact hp) HBZ.out hb32 h4
        · exact absurd (HP.out.resolve_left hp) (by rw [Nat.mod_eq_of_lt (by omega)]; exact HBZ.out)
      have hn4 : n = zs.length - 4 := by rw [hz68, Kzn4.out]; omega
      rw [hn4] at hne
      have hdt := dec_turned (by omega) hne
      rw [hz68] at hzr
      have KD := Aside0.mk (decode_any wr zs (some ⟨g, 0, none⟩) d1 (by rw [hz68]; exact hzr) h3 (by omega) (by omega))
      rw [hz68] at KD
      have KH5 := Aside0.mk h5
      clear h1 h2 h3 h4 h5 hzl hzr hzc hz68 hne hn4
      have KE2 : Aside0 (Calls Try.prog 25 #[.slice (some ⟨g, 0, none⟩) zn d1] wr fun e w' => ∃ E : Int, (E = 6 ∨ E = 140) ∧ DecR wr (zeroD, E) e w') := ⟨by
        rcases hdt with hdt | hdt
        · rw [hdt] at KD
          exact KD.out.mono fun e w' h => ⟨6, Or.inl rfl, h⟩
        · rw [hdt] at KD
          exact KD.out.mono fun e w' h => ⟨140, Or.inr rfl, h⟩⟩
      clear KD hdt
      go_wp2_with (go_at_call 25; apply Aside0.out)
      refine ⟨?_⟩
      refine KE2.out.mono ?_
      rintro e w2 ⟨E, hE, ov, rfl, hN, hB2⟩
      obtain ⟨A4, c4, rfl, hle4, hC4⟩ := N_C hN
      simp only [zeroD, List.length_nil] at hle4 hC4 ⊢
      have hX := heap_alloc_new w2 (.cells #[.int .i64 0, .int .i64 0, .int .u64 0, .int .u64 0, .slice A4 0 c4] 27)
      have hXb := below_alloc (Below.refl w2.heap.size w2) (.cells #[.int .i64 0, .int .i64 0, .int .u64 0, .int .u64 0, .slice A4 0 c4] 27)
      have KQ2 := Aside0.mk (KQ.out _ A4 c4 (Kd.C_below hC4 hXb) hle4)
      have KB2 := Aside0.mk (below_then (below_then KH5.out KH5.out.size hB2) (below_then KH5.out KH5.out.size hB2).size hXb)
      clear hB2 hN hC4 hX hXb KQ
      rcases hE with rfl | rfl
      all_goals
        go_wp2_with (first | (go_at_call 12; refine (num_any _ _).mono ?_; rintro e w' ⟨rfl, rfl⟩) | (go_at_call 13; apply Aside0.out))
        refine ⟨?_⟩
        refine KQ2.out.mono ?_
        rintro e w8 ⟨rfl, hb8⟩
        have KB8 := Aside0.mk (below_then KB2.out KB2.out.size hb8)
        clear hb8
        go_wp2_with (go_at_call 10; refine (live_any _).mono ?_; rintro e w' ⟨rfl, hbel⟩)
        go_ret
        exact ⟨rfl, below_then KB8.out KB8.out.size hbel⟩
theorem walk (w : World) (cs0 : Array Value) (x0 : Int × Int × Int × Int × (List (Int × Int × List Int))) (r0 : ∃ c00 c01, cs0.toList = c00 ++ c01 ∧ ((Kd.int .i64).K w x0.1 c00 ∧ (fun n : Int => (Lit.int .i64 n).wf = true) x0.1) ∧ (∃ c10 c11, c01 = c10 ++ c11 ∧ ((Kd.int .i64).K w x0.2.1 c10 ∧ (fun n : Int => (Lit.int .i64 n).wf = true) x0.2.1) ∧ (∃ c20 c21, c11 = c20 ++ c21 ∧ ((Kd.int .u64).K w x0.2.2.1 c20 ∧ (fun n : Int => (Lit.int .u64 n).wf = true) x0.2.2.1) ∧ (∃ c30 c31, c21 = c30 ++ c31 ∧ ((Kd.int .u64).K w x0.2.2.2.1 c30 ∧ (fun n : Int => (Lit.int .u64 n).wf = true) x0.2.2.2.1) ∧ ((Kd.slice 37 (Kd.pair (Kd.int .i64) (Kd.pair (Kd.int .i64) (Kd.slice 5 (Kd.int .u8))))).K w x0.2.2.2.2 c31 ∧ (fun xs => (∀ v ∈ xs, (fun x : Int × Int × List Int => (fun n : Int => (Lit.int .i64 n).wf = true) x.1 ∧ (fun x : Int × List Int => (fun n : Int => (Lit.int .i64 n).wf = true) x.1 ∧ (fun xs => (∀ v ∈ xs, (fun n : Int => (Lit.int .u8 n).wf = true) v) ∧ xs.length * 1 ≤ 140737488351232) x.2) x.2) v) ∧ xs.length * 40 ≤ 140737488351232) x0.2.2.2.2))))) (a1 : Int) (w1 : (Lit.int .u16 a1).wf = true) (a2 : Int) (w2 : (Lit.int .u32 a2).wf = true) :
    Calls Try.prog 9 #[.agg cs0, .int .u16 a1, .int .u32 a2] w fun e w' => e = .returned (.bool true) ∧ Below w.heap.size w w' := by
  obtain ⟨d, A, c, rfl, hw, hC, hc⟩ := del_of r0
  have hb := Go.bounds_u32 w2
  have hp := Go.bounds_u16 w1
  obtain ⟨b, rfl⟩ := Int.eq_ofNat_of_zero_le hb.1
  obtain ⟨p, rfl⟩ := Int.eq_ofNat_of_zero_le hp.1
  cases hm : muchB d with
  | true => exact much_ w d A c p b hC hc hm
  | false =>
    by_cases hb0 : b = 0
    · exact none_ w d A c p b hC hc hm hb0
    · by_cases hr : rightD d = true
      · exact some_ w d A c p b hC hc hw hm hr (by omega) hb0 (by omega)
      · exact wrong_ w d A c p b hC hc hw hm hb0 hr
end DeltaBursts
end Go.Proofs.Ytogplkochcalpaa
