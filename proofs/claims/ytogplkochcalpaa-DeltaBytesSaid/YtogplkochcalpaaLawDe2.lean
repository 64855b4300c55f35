/- Deltas as bytes: they are told again as they were: the statement's walk. -/
import Derived.Test.YtogplkochcalpaaDB
import Derived.Test.YtogplkochcalpaaDC
import Derived.Test.YtogplkochcalpaaDp2
import Derived.Test.YtogplkochcalpaaDp3
set_option linter.unusedVariables false
set_option linter.unusedSimpArgs false
namespace Go.Proofs.Ytogplkochcalpaa
open Go.RowKit Go.Proofs.Ytogplkochcalpaa.De Go.Proofs.Ytogplkochcalpaa.PD Go.Proofs.Ytogplkochcalpaa.Fd Go.Proofs.Ytogplkochcalpaa.Bg Go.Proofs.YtogplkochcalpaaW.PrintWords Go.Proofs.YtogplkochcalpaaW.PrintLast Go.Proofs.YtogplkochcalpaaW.PrintMore
namespace DeltaBytes
set_option maxHeartbeats 4000000 in
set_option maxRecDepth 100000 in
theorem much_ (w : World) (d : Dl) (A : Option Addr) (c : Nat) (hC : Kd.C k37 w A d.l.length d.l) (hc : d.l.length ≤ c) (hm : muchB d = true) : Calls Try.prog 7 #[dv d A c] w fun e w' => e = .returned (.bool true) ∧ Below w.heap.size w w' := by
  have KB0 := Aside0.mk (DB.new w d A c)
  have KM := Aside0.mk (fun w1 (h : Below w.heap.size w w1) => much_any d A c w1 (Kd.C_below hC h) hc)
  rw [hm] at KM
  simp only [dv, DB] at KM KB0 ⊢
  obtain ⟨q0, q1, q2, q3, q4⟩ := dbox_cells KB0.out.1
  obtain ⟨k, hk⟩ : ∃ k, k = d.l.length := ⟨_, rfl⟩
  rw [← hk] at KM KB0 q4 ⊢
  clear hC hc hm hk
  go_enter Try.func7, Try.ntmps7
  go_wp2_with (go_at_call 16; apply Aside0.out)
  refine ⟨?_⟩
  refine (KM.out _ KB0.out.2).mono ?_
  rintro e w1 ⟨rfl, hb⟩
  have KB1 := Aside0.mk (below_then KB0.out.2 KB0.out.2.size hb)
  clear hb
  go_wp2_with (go_at_call 10; refine (live_any _).mono ?_; rintro e w' ⟨rfl, hbel⟩)
  go_ret
  exact ⟨rfl, below_then KB1.out KB1.out.size hbel⟩
set_option maxHeartbeats 4000000 in
set_option maxRecDepth 100000 in
theorem wrong_ (w : World) (d : Dl) (A : Option Addr) (c : Nat) (hC : Kd.C k37 w A d.l.length d.l) (hc : d.l.length ≤ c) (hw : WfD d) (hm : muchB d = false) (hr : ¬ rightD d = true) : Calls Try.prog 7 #[dv d A c] w fun e w' => e = .returned (.bool true) ∧ Below w.heap.size w w' := by
  obtain ⟨hl, -⟩ := much_no hm
  have hsm := bytes_small hm
  have KB0 := Aside0.mk (DB.new w d A c)
  have KM := Aside0.mk (fun w1 (h : Below w.heap.size w w1) => much_any d A c w1 (Kd.C_below hC h) hc)
  have KE := Aside0.mk (fun w1 (h : Below w.heap.size w w1) => encode_no d A c w1 (Kd.C_below hC h) hc hw.ops (by omega) hr)
  have KS := Aside0.mk (fun w1 (h : Below w.heap.size w w1) => size_any d A c w1 (Kd.C_below hC h) hc hw.ops (by omega) (by omega))
  have KG := Aside0.mk (fun w1 (h : Below w.heap.size w w1) => rright_any d A c w1 (Kd.C_below hC h) hc hw.ops (by omega))
  rw [hm] at KM
  have hrf : rightD d = false := by simpa using hr
  simp only [dv, DB, hrf, if_neg hr] at KM KB0 KE KS KG ⊢
  simp only [Bool.false_eq_true, if_false] at KS
  obtain ⟨k, hk⟩ : ∃ k, k = d.l.length := ⟨_, rfl⟩
  rw [← hk] at KM KB0 KE KS KG ⊢
  obtain ⟨q0, q1, q2, q3, q4⟩ := dbox_cells KB0.out.1
  clear hC hm hk hl hw hr hrf hsm hc
  go_enter Try.func7, Try.ntmps7
  go_wp2_with (go_at_call 16; apply Aside0.out)
  refine ⟨?_⟩
  refine (KM.out _ KB0.out.2).mono ?_
  rintro e w1 ⟨rfl, hb⟩
  have KB1 := Aside0.mk (And.intro (blk_below KB0.out.1 hb) (below_then KB0.out.2 KB0.out.2.size hb))
  clear hb q0 q1 q2 q3 q4
  obtain ⟨q0, q1, q2, q3, q4⟩ := dbox_cells KB1.out.1
  go_wp2_with (go_at_call 23; apply Aside0.out)
  refine ⟨?_⟩
  refine (KE.out _ KB1.out.2).mono ?_
  rintro e w2 ⟨rfl, hb⟩
  have KB2 := Aside0.mk (And.intro (blk_below KB1.out.1 hb) (below_then KB1.out.2 KB1.out.2.size hb))
  clear hb q0 q1 q2 q3 q4
  obtain ⟨q0, q1, q2, q3, q4⟩ := dbox_cells KB2.out.1
  go_wp2_with (go_at_call 18; apply Aside0.out)
  refine ⟨?_⟩
  refine (KG.out _ KB2.out.2).mono ?_
  rintro e w3 ⟨rfl, hb⟩
  have KB3 := Aside0.mk (And.intro (blk_below KB2.out.1 hb) (below_then KB2.out.2 KB2.out.2.size hb))
  clear hb q0 q1 q2 q3 q4
  obtain ⟨q0, q1, q2, q3, q4⟩ := dbox_cells KB3.out.1
  go_wp2_with (first | (go_at_call 12; refine (num_any _ _).mono ?_; rintro e w' ⟨rfl, rfl⟩) | (go_at_call 24; apply Aside0.out))
  refine ⟨?_⟩
  refine (KS.out _ KB3.out.2).mono ?_
  rintro e w5 ⟨rfl, hb⟩
  have KB5 := Aside0.mk (below_then KB3.out.2 KB3.out.2.size hb)
  clear hb q0 q1 q2 q3 q4
  go_wp2_with (go_at_call 10; refine (live_any _).mono ?_; rintro e w' ⟨rfl, hbel⟩)
  go_ret
  exact ⟨rfl, below_then KB5.out KB5.out.size hbel⟩
set_option maxHeartbeats 8000000 in
set_option maxRecDepth 100000 in
theorem main_ (w : World) (d : Dl) (A : Option Addr) (c : Nat) (hC : Kd.C k37 w A d.l.length d.l) (hc : d.l.length ≤ c) (hw : WfD d) (hm : muchB d = false) (hr : rightD d = true) : Calls Try.prog 7 #[dv d A c] w fun e w' => e = .returned (.bool true) ∧ Below w.heap.size w w' := by
  obtain ⟨hl, -⟩ := much_no hm
  have hsm := bytes_small hm
  have KB0 := Aside0.mk (DB.new w d A c)
  have KM := Aside0.mk (fun w1 (h : Below w.heap.size w w1) => much_any d A c w1 (Kd.C_below hC h) hc)
  have KE := Aside0.mk (fun w1 (h : Below w.heap.size w w1) => encode_ok d A c w1 (Kd.C_below hC h) hc hw (by omega) hr (by omega))
  have KS := Aside0.mk (fun w1 (h : Below w.heap.size w w1) => size_any d A c w1 (Kd.C_below hC h) hc hw.ops (by omega) (by omega))
  have KG := Aside0.mk (fun w1 (h : Below w.heap.size w w1) => rright_any d A c w1 (Kd.C_below hC h) hc hw.ops (by omega))
  have KY : Aside0 (∀ w1, Below w.heap.size w w1 → Calls Try.prog 15 #[dv d A c] w1 fun e w' => ∃ A7 c7, e = .returned (.slice A7 (bytesB d).length c7) ∧ Kd.C (Kd.int .u8) w' A7 (bytesB d).length (bytesB d) ∧ Below w1.heap.size w1 w') := ⟨fun w1 h => (rbytes_any d A c w1 (Kd.C_below hC h) hc hr hw (by omega)).mono fun e w' ⟨v, he, hO, hb⟩ => by
    obtain ⟨A7, c7, rfl, -, hC7⟩ := hO.slice
    exact ⟨A7, c7, he, hC7, hb⟩⟩
  have KD : Aside0 (∀ (w1 : World) A1 c1, Kd.C (Kd.int .u8) w1 A1 (bytesB d).length (bytesB d) → (bytesB d).length ≤ c1 → _) := ⟨fun w1 A1 c1 h1 h2 => decode_any w1 (bytesB d) A1 c1 h1 (bytesB_isB hw) (by omega) h2⟩
  rw [decode_back d hr hw] at KD
  have KQ : Aside0 (∀ (w1 : World) B cb, Below w.heap.size w w1 → Kd.C k37 w1 B d.l.length d.l → d.l.length ≤ cb → _) := ⟨fun w1 B cb h h1 h2 => same_any d A B c cb w1 (Kd.C_below hC h) hc h1 h2 (by omega)⟩
  rw [hm] at KM
  simp only [dv, DB, hr, if_pos, DecR] at KM KB0 KE KS KG KY KD KQ ⊢
  obtain ⟨Z, hZ⟩ : ∃ Z, Z = bytesB d := ⟨_, rfl⟩
  obtain ⟨zn, hzn⟩ : ∃ zn, zn = (bytesB d).length := ⟨_, rfl⟩
  rw [← hzn] at KS KY KD hsm
  rw [← hZ] at KE KY KD
  have Kzn : Aside0 (Z.length = zn) := ⟨by rw [hZ, hzn]⟩
  obtain ⟨k, hk⟩ : ∃ k, k = d.l.length := ⟨_, rfl⟩
  rw [← hk] at KM KB0 KE KS KG KY KQ ⊢
  obtain ⟨q0, q1, q2, q3, q4⟩ := dbox_cells KB0.out.1
  have Kk := Aside0.mk hk
  clear hC hm hk hl hw hr hc hZ hzn
  go_enter Try.func7, Try.ntmps7
  go_wp2_with (go_at_call 16; apply Aside0.out)
  refine ⟨?_⟩
  refine (KM.out _ KB0.out.2).mono ?_
  rintro e w1 ⟨rfl, hb⟩
  have KB1 := Aside0.mk (And.intro (blk_below KB0.out.1 hb) (below_then KB0.out.2 KB0.out.2.size hb))
  clear hb q0 q1 q2 q3 q4
  obtain ⟨q0, q1, q2, q3, q4⟩ := dbox_cells KB1.out.1
  go_wp2_with (go_at_call 23; apply Aside0.out)
  refine ⟨?_⟩
  refine (KE.out _ KB1.out.2).mono ?_
  rintro e w2 ⟨v2, rfl, hO2, hb⟩
  obtain ⟨A2, c2, rfl, hle2, hC2⟩ := hO2.slice
  rw [Kzn.out] at hle2 hC2 ⊢
  have KC2 := Aside0.mk hC2
  have KB2 := Aside0.mk (And.intro (blk_below KB1.out.1 hb) (below_then KB1.out.2 KB1.out.2.size hb))
  clear hb q0 q1 q2 q3 q4 hO2 hC2
  obtain ⟨q0, q1, q2, q3, q4⟩ := dbox_cells KB2.out.1
  go_wp2_with (go_at_call 18; apply Aside0.out)
  refine ⟨?_⟩
  refine (KG.out _ KB2.out.2).mono ?_
  rintro e w3 ⟨rfl, hb⟩
  have KB3 := Aside0.mk (And.intro (blk_below KB2.out.1 hb) (below_then KB2.out.2 KB2.out.2.size hb))
  have KC3 := Aside0.mk (Kd.C_below KC2.out hb)
  clear hb q0 q1 q2 q3 q4
  go_wp2_with (go_at_call 25; apply Aside0.out)
  refine ⟨?_⟩
  refine (KD.out w3 A2 c2 KC3.out hle2).mono ?_
  rintro e w4 ⟨ov, rfl, hN, hb⟩
  obtain ⟨A4, c4, rfl, hle4, hC4⟩ := N_C hN
  rw [← Kk.out] at hle4 hC4 ⊢
  have hX := heap_alloc_new w4 (.cells #[.int .i64 d.a, .int .i64 d.b, .int .u64 d.c, .int .u64 d.d, .slice A4 k c4] 27)
  have hXb := below_alloc (Below.refl w4.heap.size w4) (.cells #[.int .i64 d.a, .int .i64 d.b, .int .u64 d.c, .int .u64 d.d, .slice A4 k c4] 27)
  have KX5 := Aside0.mk hX
  have KB5 := Aside0.mk (And.intro (blk_below (blk_below KB3.out.1 hb) hXb) (below_then (below_then KB3.out.2 KB3.out.2.size hb) (below_then KB3.out.2 KB3.out.2.size hb).size hXb))
  have KC5 := Aside0.mk (Kd.C_below (Kd.C_below KC3.out hb) hXb)
  have KD5 := Aside0.mk (Kd.C_below hC4 hXb)
  clear hN hb hC4 hX hXb KM KE KG KD
  go_wp2
  obtain ⟨w5, hw5⟩ : ∃ w5, w5 = w4.alloc (.cells #[.int .i64 d.a, .int .i64 d.b, .int .u64 d.c, .int .u64 d.d, .slice A4 k c4] 27) := ⟨_, rfl⟩
  rw [← hw5] at KX5 KB5 KC5 KD5
  rw [← hw5]
  clear hw5
  refine start_ (n := 30) (S := fun w' => Below w.heap.size w w' ∧ Below w5.heap.size w5 w') (ds := []) #[false, false, false, false, false, false, false, false, false, false, false, false, false, false, false, false, false, false, false, false, false, false, false, false, false, false, false, false, false, false] (by kernel_rfl) rfl rfl ⟨(show Below w.heap.size w w5.drew from below_drew KB5.out.2), (show Below w5.heap.size w5 w5.drew from below_drew (Below.refl _ _))⟩ (fun hHeld => ?_)
  refine pure_ (i := 0) (N := some 39) (v := ?_) (a' := ?_) #[true, false, false, false, false, false, false, false, false, false, false, false, false, false, false, false, false, false, false, false, false, false, false, false, false, false, false, false, false, false] rfl rfl (by kernel_rfl) (fun _ _ _ h => h) (Or.inl ⟨by rfl, ?_⟩) ?_ ?_
  rotate_left
  · intro w'
    go_simp
    with_reducible rfl
  rotate_left
  · simp only [Act.put, List.setIfInBounds_toArray, List.set_cons_zero, List.set_cons_succ, i64_w, i32_w]
    rfl
  refine pure_ (i := 2) (N := some 41) (v := ?_) (a' := ?_) #[true, false, true, false, false, false, false, false, false, false, false, false, false, false, false, false, false, false, false, false, false, false, false, false, false, false, false, false, false, false] rfl rfl (by kernel_rfl) (fun _ _ _ h => h) (Or.inl ⟨by rfl, ?_⟩) ?_ ?_
  rotate_left
  · intro w'
    go_simp
    with_reducible rfl
  rotate_left
  · simp only [Act.put, List.setIfInBounds_toArray, List.set_cons_zero, List.set_cons_succ, i64_w, i32_w]
    rfl
  refine one_ (i := 1) (N := some 40) #[true, true, true, false, false, false, false, false, false, false, false, false, false, false, false, false, false, false, false, false, false, false, false, false, false, false, false, false, false, false] rfl rfl (by kernel_rfl) (by decide) (fun K hK => ?_)
  refine goes_ Try.func12 (by kernel_rfl) rfl #[.int .i64 0] (by rfl) rfl rfl (by simp only [List.map_toArray, List.map_cons, List.map_nil]; rfl) ?_
  with_reducible refine (num_any _ _).mono ?_
  rintro e w11 ⟨rfl, rfl⟩
  refine ⟨_, rfl, ?_⟩
  refine hK.out _ _ ⟨hHeld.1, hHeld.2⟩ (fun hHeld => ?_)
  clear hK K
  refine norm_ (a' := ?_) ?_ ?_
  rotate_left
  · show Act.put _ (some 40) _ = _
    simp only [Act.put, List.setIfInBounds_toArray, List.set_cons_zero, List.set_cons_succ, i64_w, i32_w]
    rfl
  refine one_ (i := 3) (N := some 42) #[true, true, true, true, false, false, false, false, false, false, false, false, false, false, false, false, false, false, false, false, false, false, false, false, false, false, false, false, false, false] rfl rfl (by kernel_rfl) (by decide) (fun K hK => ?_)
  refine goes_ Try.func12 (by kernel_rfl) rfl #[.int .i64 0] (by rfl) rfl rfl (by simp only [List.map_toArray, List.map_cons, List.map_nil]; rfl) ?_
  with_reducible refine (num_any _ _).mono ?_
  rintro e w13 ⟨rfl, rfl⟩
  refine ⟨_, rfl, ?_⟩
  refine hK.out _ _ ⟨hHeld.1, hHeld.2⟩ (fun hHeld => ?_)
  clear hK K
  refine norm_ (a' := ?_) ?_ ?_
  rotate_left
  · show Act.put _ (some 42) _ = _
    simp only [Act.put, List.setIfInBounds_toArray, List.set_cons_zero, List.set_cons_succ, i64_w, i32_w]
    rfl
  refine pure_ (i := 4) (N := some 43) (v := .int .i64 0) (a' := ?_) #[true, true, true, true, true, false, false, false, false, false, false, false, false, false, false, false, false, false, false, false, false, false, false, false, false, false, false, false, false, false] rfl rfl (by kernel_rfl) (fun _ _ _ h => h) (Or.inl ⟨by rfl, ?_⟩) ?_ ?_
  · intro w'
    go_simp
    (try rfl)
  rotate_left
  · simp only [Act.put, List.setIfInBounds_toArray, List.set_cons_zero, List.set_cons_succ, i64_w, i32_w]
    rfl
  refine pure_ (i := 5) (N := some 44) (v := .bool true) (a' := ?_) #[true, true, true, true, true, true, false, false, false, false, false, false, false, false, false, false, false, false, false, false, false, false, false, false, false, false, false, false, false, false] rfl rfl (by kernel_rfl) (fun _ _ _ h => h) (Or.inl ⟨by rfl, ?_⟩) ?_ ?_
  · intro w'
    go_simp
    (try rfl)
  rotate_left
  · simp only [Act.put, List.setIfInBounds_toArray, List.set_cons_zero, List.set_cons_succ, i64_w, i32_w]
    rfl
  refine pure_ (i := 6) (N := some 45) (v := ?_) (a' := ?_) #[true, true, true, true, true, true, true, false, false, false, false, false, false, false, false, false, false, false, false, false, false, false, false, false, false, false, false, false, false, false] rfl rfl (by kernel_rfl) (fun _ _ _ h => h) (Or.inl ⟨by rfl, ?_⟩) ?_ ?_
  rotate_left
  · intro w'
    go_simp
    with_reducible rfl
  rotate_left
  · simp only [Act.put, List.setIfInBounds_toArray, List.set_cons_zero, List.set_cons_succ, i64_w, i32_w]
    rfl
  refine pure_ (i := 7) (N := some 46) (v := ?_) (a' := ?_) #[true, true, true, true, true, true, true, true, false, false, false, false, false, false, false, false, false, false, false, false, false, false, false, false, false, false, false, false, false, false] rfl rfl (by kernel_rfl) (fun _ _ _ h => h) (Or.inl ⟨by rfl, ?_⟩) ?_ ?_
  rotate_left
  · intro w'
    go_simp
    with_reducible rfl
  rotate_left
  · simp only [Act.put, List.setIfInBounds_toArray, List.set_cons_zero, List.set_cons_succ, i64_w, i32_w]
    rfl
  refine take_ (i := 8) (N := some 47) (v := .string (strOfNums Z)) (a' := ?_) #[true, true, true, true, true, true, true, true, true, false, false, false, false, false, false, false, false, false, false, false, false, false, false, false, false, false, false, false, false, false] rfl rfl (by kernel_rfl) (fun _ _ _ h => h) (Or.inl ⟨by rfl, ?_⟩) hHeld ?_ ?_
  · rintro w' ⟨s0, s1⟩
    exact exec_convert 22 9 (Operand.tmp 46) (by rfl) _ _ (by rfl) (str_atE (Kd.C_below KC5.out s1))
  rotate_left
  · simp only [Act.put, List.setIfInBounds_toArray, List.set_cons_zero, List.set_cons_succ, i64_w, i32_w]
    rfl
  refine take_ (i := 9) (N := some 48) (v := .agg #[.int .i64 d.a, .int .i64 d.b, .int .u64 d.c, .int .u64 d.d, .slice A k c]) (a' := ?_) #[true, true, true, true, true, true, true, true, true, true, false, false, false, false, false, false, false, false, false, false, false, false, false, false, false, false, false, false, false, false] rfl rfl (by kernel_rfl) (fun _ _ _ h => h) (Or.inl ⟨by rfl, ?_⟩) hHeld ?_ ?_
  · rintro w' ⟨s0, s1⟩
    (obtain ⟨z0, z1, z2, z3, z4⟩ := dbox_cells (blk_below KB5.out.1 s1))
    go_simp
    (try rfl)
  rotate_left
  · simp only [Act.put, List.setIfInBounds_toArray, List.set_cons_zero, List.set_cons_succ, i64_w, i32_w]
    rfl
  refine one_ (i := 10) (N := some 49) #[true, true, true, true, true, true, true, true, true, true, true, false, false, false, false, false, false, false, false, false, false, false, false, false, false, false, false, false, false, false] rfl rfl (by kernel_rfl) (by decide) (fun K hK => ?_)
  refine goes_ Try.func15 (by kernel_rfl) rfl #[.agg #[.int .i64 d.a, .int .i64 d.b, .int .u64 d.c, .int .u64 d.d, .slice A k c]] (by rfl) rfl rfl (by simp only [List.map_toArray, List.map_cons, List.map_nil]; rfl) ?_
  with_reducible refine (KY.out _ hHeld.1).mono ?_
  rintro e w20 ⟨A7, c7, rfl, hC7, hb20⟩
  refine ⟨_, rfl, ?_⟩
  refine hK.out _ _ ⟨below_then hHeld.1 hHeld.1.size hb20, below_then hHeld.2 hHeld.2.size hb20⟩ (fun hHeld => ?_)
  clear hK K
  refine norm_ (a' := ?_) ?_ ?_
  rotate_left
  · show Act.put _ (some 49) _ = _
    simp only [Act.put, List.setIfInBounds_toArray, List.set_cons_zero, List.set_cons_succ, i64_w, i32_w]
    rfl
  refine one_ (i := 11) (N := some 50) #[true, true, true, true, true, true, true, true, true, true, true, true, false, false, false, false, false, false, false, false, false, false, false, false, false, false, false, false, false, false] rfl rfl (by kernel_rfl) (by decide) (fun K hK => ?_)
  refine value_ (w1 := w20) (v := .string (strOfNums Z)) (by rfl) rfl (exec_convert 22 9 (Operand.tmp 49) (by rfl) _ _ (by rfl) (str_atE hC7)) ?_
  refine hK.out _ _ ⟨hHeld.1, hHeld.2⟩ (fun hHeld => ?_)
  clear hK K
  refine norm_ (a' := ?_) ?_ ?_
  rotate_left
  · show Act.put _ (some 50) _ = _
    simp only [Act.put, List.setIfInBounds_toArray, List.set_cons_zero, List.set_cons_succ, i64_w, i32_w]
    rfl
  refine pure_ (i := 12) (N := some 51) (v := .bool true) (a' := ?_) #[true, true, true, true, true, true, true, true, true, true, true, true, true, false, false, false, false, false, false, false, false, false, false, false, false, false, false, false, false, false] rfl rfl (by kernel_rfl) (fun _ _ _ h => h) (Or.inl ⟨by rfl, ?_⟩) ?_ ?_
  · intro w'
    go_simp
  rotate_left
  · simp only [Act.put, List.setIfInBounds_toArray, List.set_cons_zero, List.set_cons_succ, i64_w, i32_w]
    rfl
  refine pure_ (i := 13) (N := some 52) (v := ?_) (a' := ?_) #[true, true, true, true, true, true, true, true, true, true, true, true, true, true, false, false, false, false, false, false, false, false, false, false, false, false, false, false, false, false] rfl rfl (by kernel_rfl) (fun _ _ _ h => h) (Or.inl ⟨by rfl, ?_⟩) ?_ ?_
  rotate_left
  · intro w'
    go_simp
    with_reducible rfl
  rotate_left
  · simp only [Act.put, List.setIfInBounds_toArray, List.set_cons_zero, List.set_cons_succ, i64_w, i32_w]
    rfl
  refine pure_ (i := 14) (N := some 53) (v := ?_) (a' := ?_) #[true, true, true, true, true, true, true, true, true, true, true, true, true, true, true, false, false, false, false, false, false, false, false, false, false, false, false, false, false, false] rfl rfl (by kernel_rfl) (fun _ _ _ h => h) (Or.inl ⟨by rfl, ?_⟩) ?_ ?_
  rotate_left
  · intro w'
    go_simp
    with_reducible rfl
  rotate_left
  · simp only [Act.put, List.setIfInBounds_toArray, List.set_cons_zero, List.set_cons_succ, i64_w, i32_w]
    rfl
  refine pure_ (i := 17) (N := some 56) (v := ?_) (a' := ?_) #[true, true, true, true, true, true, true, true, true, true, true, true, true, true, true, false, false, true, false, false, false, false, false, false, false, false, false, false, false, false] rfl rfl (by kernel_rfl) (fun _ _ _ h => h) (Or.inl ⟨by rfl, ?_⟩) ?_ ?_
  rotate_left
  · intro w'
    go_simp
    with_reducible rfl
  rotate_left
  · simp only [Act.put, List.setIfInBounds_toArray, List.set_cons_zero, List.set_cons_succ, i64_w, i32_w]
    rfl
  refine pure_ (i := 18) (N := some 57) (v := ?_) (a' := ?_) #[true, true, true, true, true, true, true, true, true, true, true, true, true, true, true, false, false, true, true, false, false, false, false, false, false, false, false, false, false, false] rfl rfl (by kernel_rfl) (fun _ _ _ h => h) (Or.inl ⟨by rfl, ?_⟩) ?_ ?_
  rotate_left
  · intro w'
    go_simp
    with_reducible rfl
  rotate_left
  · simp only [Act.put, List.setIfInBounds_toArray, List.set_cons_zero, List.set_cons_succ, i64_w, i32_w]
    rfl
  refine take_ (i := 15) (N := some 54) (v := .agg #[.int .i64 d.a, .int .i64 d.b, .int .u64 d.c, .int .u64 d.d, .slice A k c]) (a' := ?_) #[true, true, true, true, true, true, true, true, true, true, true, true, true, true, true, true, false, true, true, false, false, false, false, false, false, false, false, false, false, false] rfl rfl (by kernel_rfl) (fun _ _ _ h => h) (Or.inl ⟨by rfl, ?_⟩) hHeld ?_ ?_
  · rintro w' ⟨s0, s1⟩
    (obtain ⟨z0, z1, z2, z3, z4⟩ := dbox_cells (blk_below KB5.out.1 s1))
    go_simp
    (try rfl)
  rotate_left
  · simp only [Act.put, List.setIfInBounds_toArray, List.set_cons_zero, List.set_cons_succ, i64_w, i32_w]
    rfl
  refine one_ (i := 16) (N := some 55) #[true, true, true, true, true, true, true, true, true, true, true, true, true, true, true, true, true, true, true, false, false, false, false, false, false, false, false, false, false, false] rfl rfl (by kernel_rfl) (by decide) (fun K hK => ?_)
  refine goes_ Try.func24 (by kernel_rfl) rfl #[.agg #[.int .i64 d.a, .int .i64 d.b, .int .u64 d.c, .int .u64 d.d, .slice A k c]] (by rfl) rfl rfl (by simp only [List.map_toArray, List.map_cons, List.map_nil]; rfl) ?_
  with_reducible refine (KS.out _ hHeld.1).mono ?_
  rintro e w26 ⟨rfl, hb26⟩
  refine ⟨_, rfl, ?_⟩
  refine hK.out _ _ ⟨below_then hHeld.1 hHeld.1.size hb26, below_then hHeld.2 hHeld.2.size hb26⟩ (fun hHeld => ?_)
  clear hK K
  refine norm_ (a' := ?_) ?_ ?_
  rotate_left
  · show Act.put _ (some 55) _ = _
    simp only [Act.put, List.setIfInBounds_toArray, List.set_cons_zero, List.set_cons_succ, i64_w, i32_w]
    rfl
  refine pure_ (i := 19) (N := some 58) (v := .bool true) (a' := ?_) #[true, true, true, true, true, true, true, true, true, true, true, true, true, true, true, true, true, true, true, true, false, false, false, false, false, false, false, false, false, false] rfl rfl (by kernel_rfl) (fun _ _ _ h => h) (Or.inl ⟨by rfl, ?_⟩) ?_ ?_
  · intro w'
    go_simp
  rotate_left
  · simp only [Act.put, List.setIfInBounds_toArray, List.set_cons_zero, List.set_cons_succ, i64_w, i32_w]
    rfl
  refine pure_ (i := 20) (N := some 59) (v := ?_) (a' := ?_) #[true, true, true, true, true, true, true, true, true, true, true, true, true, true, true, true, true, true, true, true, true, false, false, false, false, false, false, false, false, false] rfl rfl (by kernel_rfl) (fun _ _ _ h => h) (Or.inl ⟨by rfl, ?_⟩) ?_ ?_
  rotate_left
  · intro w'
    go_simp
    with_reducible rfl
  rotate_left
  · simp only [Act.put, List.setIfInBounds_toArray, List.set_cons_zero, List.set_cons_succ, i64_w, i32_w]
    rfl
  refine pure_ (i := 21) (N := some 60) (v := ?_) (a' := ?_) #[true, true, true, true, true, true, true, true, true, true, true, true, true, true, true, true, true, true, true, true, true, true, false, false, false, false, false, false, false, false] rfl rfl (by kernel_rfl) (fun _ _ _ h => h) (Or.inl ⟨by rfl, ?_⟩) ?_ ?_
  rotate_left
  · intro w'
    go_simp
    with_reducible rfl
  rotate_left
  · simp only [Act.put, List.setIfInBounds_toArray, List.set_cons_zero, List.set_cons_succ, i64_w, i32_w]
    rfl
  refine take_ (i := 22) (N := some 61) (v := .agg #[.int .i64 d.a, .int .i64 d.b, .int .u64 d.c, .int .u64 d.d, .slice A k c]) (a' := ?_) #[true, true, true, true, true, true, true, true, true, true, true, true, true, true, true, true, true, true, true, true, true, true, true, false, false, false, false, false, false, false] rfl rfl (by kernel_rfl) (fun _ _ _ h => h) (Or.inl ⟨by rfl, ?_⟩) hHeld ?_ ?_
  · rintro w' ⟨s0, s1⟩
    (obtain ⟨z0, z1, z2, z3, z4⟩ := dbox_cells (blk_below KB5.out.1 s1))
    go_simp
    (try rfl)
  rotate_left
  · simp only [Act.put, List.setIfInBounds_toArray, List.set_cons_zero, List.set_cons_succ, i64_w, i32_w]
    rfl
  refine take_ (i := 23) (N := some 62) (v := .agg #[.int .i64 d.a, .int .i64 d.b, .int .u64 d.c, .int .u64 d.d, .slice A4 k c4]) (a' := ?_) #[true, true, true, true, true, true, true, true, true, true, true, true, true, true, true, true, true, true, true, true, true, true, true, true, false, false, false, false, false, false] rfl rfl (by kernel_rfl) (fun _ _ _ h => h) (Or.inl ⟨by rfl, ?_⟩) hHeld ?_ ?_
  · rintro w' ⟨s0, s1⟩
    (obtain ⟨z0, z1, z2, z3, z4⟩ := dbox_cells (blk_below KX5.out s1))
    go_simp
    (try rfl)
  rotate_left
  · simp only [Act.put, List.setIfInBounds_toArray, List.set_cons_zero, List.set_cons_succ, i64_w, i32_w]
    rfl
  refine one_ (i := 24) (N := some 63) #[true, true, true, true, true, true, true, true, true, true, true, true, true, true, true, true, true, true, true, true, true, true, true, true, true, false, false, false, false, false] rfl rfl (by kernel_rfl) (by decide) (fun K hK => ?_)
  refine goes_ Try.func13 (by kernel_rfl) rfl #[.agg #[.int .i64 d.a, .int .i64 d.b, .int .u64 d.c, .int .u64 d.d, .slice A k c], .agg #[.int .i64 d.a, .int .i64 d.b, .int .u64 d.c, .int .u64 d.d, .slice A4 k c4]] (by rfl) rfl rfl (by simp only [List.map_toArray, List.map_cons, List.map_nil]; rfl) ?_
  with_reducible refine (KQ.out _ A4 c4 hHeld.1 (Kd.C_below KD5.out hHeld.2) hle4).mono ?_
  rintro e w34 ⟨rfl, hb34⟩
  refine ⟨_, rfl, ?_⟩
  refine hK.out _ _ ⟨below_then hHeld.1 hHeld.1.size hb34, below_then hHeld.2 hHeld.2.size hb34⟩ (fun hHeld => ?_)
  clear hK K
  refine norm_ (a' := ?_) ?_ ?_
  rotate_left
  · show Act.put _ (some 63) _ = _
    simp only [Act.put, List.setIfInBounds_toArray, List.set_cons_zero, List.set_cons_succ, i64_w, i32_w]
    rfl
  refine pure_ (i := 25) (N := some 64) (v := ?_) (a' := ?_) #[true, true, true, true, true, true, true, true, true, true, true, true, true, true, true, true, true, true, true, true, true, true, true, true, true, true, false, false, false, false] rfl rfl (by kernel_rfl) (fun _ _ _ h => h) (Or.inl ⟨by rfl, ?_⟩) ?_ ?_
  rotate_left
  · intro w'
    go_simp
    with_reducible rfl
  rotate_left
  · simp only [Act.put, List.setIfInBounds_toArray, List.set_cons_zero, List.set_cons_succ, i64_w, i32_w]
    rfl
  refine pure_ (i := 26) (N := some 65) (v := ?_) (a' := ?_) #[true, true, true, true, true, true, true, true, true, true, true, true, true, true, true, true, true, true, true, true, true, true, true, true, true, true, true, false, false, false] rfl rfl (by kernel_rfl) (fun _ _ _ h => h) (Or.inl ⟨by rfl, ?_⟩) ?_ ?_
  rotate_left
  · intro w'
    go_simp
    with_reducible rfl
  rotate_left
  · simp only [Act.put, List.setIfInBounds_toArray, List.set_cons_zero, List.set_cons_succ, i64_w, i32_w]
    rfl
  refine one_ (i := 27) (N := some 66) #[true, true, true, true, true, true, true, true, true, true, true, true, true, true, true, true, true, true, true, true, true, true, true, true, true, true, true, true, false, false] rfl rfl (by kernel_rfl) (by decide) (fun K hK => ?_)
  refine goes_ Try.func10 (by kernel_rfl) rfl #[] (by rfl) rfl rfl (by simp) ?_
  with_reducible refine (live_any _).mono ?_
  rintro e w37 ⟨rfl, hb37⟩
  refine ⟨_, rfl, ?_⟩
  refine hK.out _ _ ⟨below_then hHeld.1 hHeld.1.size hb37, below_then hHeld.2 hHeld.2.size hb37⟩ (fun hHeld => ?_)
  clear hK K
  refine norm_ (a' := ?_) ?_ ?_
  rotate_left
  · show Act.put _ (some 66) _ = _
    simp only [Act.put, List.setIfInBounds_toArray, List.set_cons_zero, List.set_cons_succ, i64_w, i32_w]
    rfl
  refine pure_ (i := 28) (N := some 67) (v := ?_) (a' := ?_) #[true, true, true, true, true, true, true, true, true, true, true, true, true, true, true, true, true, true, true, true, true, true, true, true, true, true, true, true, true, false] rfl rfl (by kernel_rfl) (fun _ _ _ h => h) (Or.inl ⟨by rfl, ?_⟩) ?_ ?_
  rotate_left
  · intro w'
    go_simp
    with_reducible rfl
  rotate_left
  · simp only [Act.put, List.setIfInBounds_toArray, List.set_cons_zero, List.set_cons_succ, i64_w, i32_w]
    rfl
  refine pure_ (i := 29) (N := some 2) (v := ?_) (a' := ?_) #[true, true, true, true, true, true, true, true, true, true, true, true, true, true, true, true, true, true, true, true, true, true, true, true, true, true, true, true, true, true] rfl rfl (by kernel_rfl) (fun _ _ _ h => h) (Or.inl ⟨by rfl, ?_⟩) ?_ ?_
  rotate_left
  · intro w'
    go_simp
    with_reducible rfl
  rotate_left
  · simp only [Act.put, List.setIfInBounds_toArray, List.set_cons_zero, List.set_cons_succ, i64_w, i32_w]
    rfl
  refine done_ (by kernel_rfl) ?_
  have KB9 := Aside0.mk hHeld.1
  clear hHeld
  go_wp2
  go_ret
  exact ⟨rfl, KB9.out⟩
theorem walk (w : World) (cs0 : Array Value) (x0 : Int × Int × Int × Int × (List (Int × Int × List Int))) (r0 : ∃ c00 c01, cs0.toList = c00 ++ c01 ∧ ((Kd.int .i64).K w x0.1 c00 ∧ (fun n : Int => (Lit.int .i64 n).wf = true) x0.1) ∧ (∃ c10 c11, c01 = c10 ++ c11 ∧ ((Kd.int .i64).K w x0.2.1 c10 ∧ (fun n : Int => (Lit.int .i64 n).wf = true) x0.2.1) ∧ (∃ c20 c21, c11 = c20 ++ c21 ∧ ((Kd.int .u64).K w x0.2.2.1 c20 ∧ (fun n : Int => (Lit.int .u64 n).wf = true) x0.2.2.1) ∧ (∃ c30 c31, c21 = c30 ++ c31 ∧ ((Kd.int .u64).K w x0.2.2.2.1 c30 ∧ (fun n : Int => (Lit.int .u64 n).wf = true) x0.2.2.2.1) ∧ ((Kd.slice 37 (Kd.pair (Kd.int .i64) (Kd.pair (Kd.int .i64) (Kd.slice 5 (Kd.int .u8))))).K w x0.2.2.2.2 c31 ∧ (fun xs => (∀ v ∈ xs, (fun x : Int × Int × List Int => (fun n : Int => (Lit.int .i64 n).wf = true) x.1 ∧ (fun x : Int × List Int => (fun n : Int => (Lit.int .i64 n).wf = true) x.1 ∧ (fun xs => (∀ v ∈ xs, (fun n : Int => (Lit.int .u8 n).wf = true) v) ∧ xs.length * 1 ≤ 140737488351232) x.2) x.2) v) ∧ xs.length * 40 ≤ 140737488351232) x0.2.2.2.2))))) :
    Calls Try.prog 7 #[.agg cs0] w fun e w' => e = .returned (.bool true) ∧ Below w.heap.size w w' := by
  obtain ⟨d, A, c, rfl, hw, hC, hc⟩ := del_of r0
  cases hm : muchB d with
  | true => exact much_ w d A c hC hc hm
  | false =>
    by_cases hr : rightD d = true
    · exact main_ w d A c hC hc hw hm hr
    · exact wrong_ w d A c hC hc hw hm hr
end DeltaBytes
end Go.Proofs.Ytogplkochcalpaa
