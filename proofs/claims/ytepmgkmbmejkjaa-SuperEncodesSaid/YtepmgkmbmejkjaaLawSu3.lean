/- An image's head as bytes: the statement's walk. -/
import Derived.Test.YtepmgkmbmejkjaaSu9
import Derived.Test.YtepmgkmbmejkjaaWEqStruct
set_option linter.unusedVariables false
set_option linter.unusedSimpArgs false
namespace Go.Proofs.Ytepmgkmbmejkjaa
open Go.RowKit Go.Proofs.Ytepmgkmbmejkjaa.Fd Go.Proofs.Ytepmgkmbmejkjaa.Su Go.Proofs.YtepmgkmbmejkjaaW.PrintWords Go.Proofs.YtepmgkmbmejkjaaW.PrintLast Go.Proofs.YtepmgkmbmejkjaaW.PrintMore
namespace SuperEncodes
theorem exec_convert {o : Oper} {a : Act} {w : World} (s d : TypeId) (x : Operand) (ho : o.op = .convert s d x) (v u : Value) (hx : a.eval x = v) (hrun : (convert s d v).run Try.prog w = .ok u w) : (execOp a.eval o).run Try.prog w = .ok (.value u) w := by
  unfold execOp
  simp [ho, hx, hrun, Result.andThen]
theorem shl_run (s : Sup) (h0 : 12 ≤ s.log) (h1 : s.log ≤ 20) (w : World) : (Op.shift BinOp.shl .i64 1 .i64 s.log).run Try.prog w = .ok (.int .i64 (wrap64 (2 ^ s.log.toNat))) w := by
  go_simp
  exact i64_w _
theorem el_self (x y : Int) (w : World) : (Op.equalIn 9998 62 (.agg #[.int .i64 x, .int .i64 y]) (.agg #[.int .i64 x, .int .i64 y])).run Try.prog w = .ok true w := by
  have h := Try.underlying62
  go_simp
theorem sz62 (w : World) : (sizeOf 62).run Try.prog w = .ok 2 w := by kernel_rfl
set_option maxHeartbeats 1000000 in
theorem arr_self (a b c d e f g h i j k l : Int) (w : World) : (Op.equalIn 9999 63 (.agg #[.int .i64 a, .int .i64 b, .int .i64 c, .int .i64 d, .int .i64 e, .int .i64 f, .int .i64 g, .int .i64 h, .int .i64 i, .int .i64 j, .int .i64 k, .int .i64 l]) (.agg #[.int .i64 a, .int .i64 b, .int .i64 c, .int .i64 d, .int .i64 e, .int .i64 f, .int .i64 g, .int .i64 h, .int .i64 i, .int .i64 j, .int .i64 k, .int .i64 l])).run Try.prog w = .ok true w := by
  have hu : ∀ w, (underlying 63).run Try.prog w = .ok (.array 6 62) w := by intro w; kernel_rfl
  have p : ∀ (x : Array Value) (n : Nat) (w : World), (part 62 x n).run Try.prog w = .ok (.agg (x.extract n (n + 2))) w := by intro x n w; kernel_rfl
  show (Op.equalIn (9998 + 1) 63 _ _).run Try.prog w = _
  unfold Op.equalIn
  simp only [Sem.run_bind, hu, Result.andThen_ok, sz62]
  simp [Std.Legacy.Range.forIn_eq_forIn_range', Std.Legacy.Range.size, List.range', Sem.run_bind, p, el_self]
set_option maxHeartbeats 1000000 in
theorem eq_self (s : Sup) (w : World) : (binOp .eql 65 (.agg #[.int .i64 s.log, .int .i64 s.ino, .int .i64 s.len, .int .i64 (s.a 0), .int .i64 (s.z 0), .int .i64 (s.a 1), .int .i64 (s.z 1), .int .i64 (s.a 2), .int .i64 (s.z 2), .int .i64 (s.a 3), .int .i64 (s.z 3), .int .i64 (s.a 4), .int .i64 (s.z 4), .int .i64 (s.a 5), .int .i64 (s.z 5)]) (.agg #[.int .i64 s.log, .int .i64 s.ino, .int .i64 s.len, .int .i64 (s.a 0), .int .i64 (s.z 0), .int .i64 (s.a 1), .int .i64 (s.z 1), .int .i64 (s.a 2), .int .i64 (s.z 2), .int .i64 (s.a 3), .int .i64 (s.z 3), .int .i64 (s.a 4), .int .i64 (s.z 4), .int .i64 (s.a 5), .int .i64 (s.z 5)])).run Try.prog w = .ok (.bool true) w := by
  have h := arr_self (s.a 0) (s.z 0) (s.a 1) (s.z 1) (s.a 2) (s.z 2) (s.a 3) (s.z 3) (s.a 4) (s.z 4) (s.a 5) (s.z 5) w
  go_simp
theorem rbytes_sl (s : Sup) (hr : right s) (w : World) : Calls Try.prog 39 #[.agg #[.int .i64 s.log, .int .i64 s.ino, .int .i64 s.len, .int .i64 (s.a 0), .int .i64 (s.z 0), .int .i64 (s.a 1), .int .i64 (s.z 1), .int .i64 (s.a 2), .int .i64 (s.z 2), .int .i64 (s.a 3), .int .i64 (s.z 3), .int .i64 (s.a 4), .int .i64 (s.z 4), .int .i64 (s.a 5), .int .i64 (s.z 5)]] w fun e w' => ∃ A c, e = .returned (.slice A 68 c) ∧ Kd.C (Kd.int .u8) w' A 68 (bytesB s) ∧ Below w.heap.size w w' := by
  refine (rbytes_any13 s hr w).mono fun e w' ⟨v, he, hO, hB⟩ => ?_
  obtain ⟨A, c, rfl, -, hC⟩ := hO.slice
  rw [bytesB_len] at he hC
  exact ⟨A, c, he, hC, hB⟩
set_option maxHeartbeats 8000000 in
set_option maxRecDepth 100000 in
theorem big_ (w : World) (s : Sup) (A0 : Option Addr) (c0 n : Nat) (hn : 300 < n) : Calls Try.prog 9 #[.agg #[.int .i64 s.log, .int .i64 s.ino, .int .i64 s.len, .int .i64 (s.a 0), .int .i64 (s.z 0), .int .i64 (s.a 1), .int .i64 (s.z 1), .int .i64 (s.a 2), .int .i64 (s.z 2), .int .i64 (s.a 3), .int .i64 (s.z 3), .int .i64 (s.a 4), .int .i64 (s.z 4), .int .i64 (s.a 5), .int .i64 (s.z 5)], .slice A0 n c0] w fun e w' => e = .returned (.bool true) ∧ Below w.heap.size w w' := by
  have KB0 : Aside0 (Below w.heap.size w (w.alloc (.cells #[.int .i64 s.log, .int .i64 s.ino, .int .i64 s.len, .int .i64 (s.a 0), .int .i64 (s.z 0), .int .i64 (s.a 1), .int .i64 (s.z 1), .int .i64 (s.a 2), .int .i64 (s.z 2), .int .i64 (s.a 3), .int .i64 (s.z 3), .int .i64 (s.a 4), .int .i64 (s.z 4), .int .i64 (s.a 5), .int .i64 (s.z 5)] 65))) := ⟨below_alloc (Below.refl _ _) _⟩
  go_enter Try.func9, Try.ntmps9
  go_wp2_with (go_at_call 35; refine (live_any _).mono ?_; rintro e w' ⟨rfl, hbel⟩)
  go_ret
  exact ⟨rfl, below_then KB0.out KB0.out.size hbel⟩
set_option maxHeartbeats 8000000 in
set_option maxRecDepth 100000 in
theorem wrong_ (w : World) (s : Sup) (hr : ¬ right s) (A0 : Option Addr) (c0 n : Nat) (hn : n ≤ 300) : Calls Try.prog 9 #[.agg #[.int .i64 s.log, .int .i64 s.ino, .int .i64 s.len, .int .i64 (s.a 0), .int .i64 (s.z 0), .int .i64 (s.a 1), .int .i64 (s.z 1), .int .i64 (s.a 2), .int .i64 (s.z 2), .int .i64 (s.a 3), .int .i64 (s.z 3), .int .i64 (s.a 4), .int .i64 (s.z 4), .int .i64 (s.a 5), .int .i64 (s.z 5)], .slice A0 n c0] w fun e w' => e = .returned (.bool true) ∧ Below w.heap.size w w' := by
  have KB0 : Aside0 (SB w s (w.alloc (.cells #[.int .i64 s.log, .int .i64 s.ino, .int .i64 s.len, .int .i64 (s.a 0), .int .i64 (s.z 0), .int .i64 (s.a 1), .int .i64 (s.z 1), .int .i64 (s.a 2), .int .i64 (s.z 2), .int .i64 (s.a 3), .int .i64 (s.z 3), .int .i64 (s.a 4), .int .i64 (s.z 4), .int .i64 (s.a 5), .int .i64 (s.z 5)] 65))) := ⟨heap_alloc_new _ _, below_alloc (Below.refl _ _) _⟩
  have KE := Aside0.mk (fun w1 => encode_no s hr w1)
  have KR := Aside0.mk (fun w1 => rright_any s w1)
  rw [decide_eq_false hr] at KR
  have KC := Aside0.mk (fun w1 => check_any s w1)
  unfold chk at KC
  rw [if_neg hr] at KC
  have KK := Aside0.mk (fun w1 => block_any s w1)
  rw [if_neg hr] at KK
  clear hr
  go_enter Try.func9, Try.ntmps9
  go_wp2_with (go_at_call 36; apply Aside0.out)
  refine ⟨?_⟩
  refine (KE.out _).mono ?_
  rintro e w1 ⟨rfl, hb⟩
  have KB1 : Aside0 (SB w s w1) := ⟨⟨blk_below KB0.out.1 hb, below_then KB0.out.2 KB0.out.2.size hb⟩⟩
  clear hb
  obtain ⟨z0, z1, z2, z3, z4, z5, z6, z7, z8, z9, z10, z11, z12, z13, z14⟩ := box_cells KB1.out.1
  go_wp2_with (go_at_call 33; apply Aside0.out)
  refine ⟨?_⟩
  refine (KR.out _).mono ?_
  rintro e w2 ⟨rfl, hb⟩
  have KB2 : Aside0 (SB w s w2) := ⟨⟨blk_below KB1.out.1 hb, below_then KB1.out.2 KB1.out.2.size hb⟩⟩
  clear hb z0 z1 z2 z3 z4 z5 z6 z7 z8 z9 z10 z11 z12 z13 z14
  obtain ⟨z0, z1, z2, z3, z4, z5, z6, z7, z8, z9, z10, z11, z12, z13, z14⟩ := box_cells KB2.out.1
  go_wp2_with (first | (go_at_call 34; refine (num_any _ _).mono ?_; rintro e w' ⟨rfl, rfl⟩) | (go_at_call 37; apply Aside0.out))
  refine ⟨?_⟩
  refine (KC.out _).mono ?_
  rintro e w3 ⟨rfl, hb⟩
  have KB3 : Aside0 (SB w s w3) := ⟨⟨blk_below KB2.out.1 hb, below_then KB2.out.2 KB2.out.2.size hb⟩⟩
  clear hb z0 z1 z2 z3 z4 z5 z6 z7 z8 z9 z10 z11 z12 z13 z14
  obtain ⟨z0, z1, z2, z3, z4, z5, z6, z7, z8, z9, z10, z11, z12, z13, z14⟩ := box_cells KB3.out.1
  go_wp2_with (first | (go_at_call 34; refine (num_any _ _).mono ?_; rintro e w' ⟨rfl, rfl⟩) | (go_at_call 38; apply Aside0.out))
  refine ⟨?_⟩
  refine (KK.out _).mono ?_
  rintro e w4 ⟨rfl, hb⟩
  have KB4 : Aside0 (SB w s w4) := ⟨⟨blk_below KB3.out.1 hb, below_then KB3.out.2 KB3.out.2.size hb⟩⟩
  clear hb z0 z1 z2 z3 z4 z5 z6 z7 z8 z9 z10 z11 z12 z13 z14
  go_wp2_with (go_at_call 35; refine (live_any _).mono ?_; rintro e w' ⟨rfl, hbel⟩)
  go_ret
  exact ⟨rfl, below_then KB4.out.2 KB4.out.2.size hbel⟩
set_option maxHeartbeats 8000000 in
set_option maxRecDepth 100000 in
theorem ok_ (w : World) (s : Sup) (hr : right s) (A0 : Option Addr) (c0 : Nat) (l0 : List Int) (r0 : Kd.C (Kd.int .u8) w A0 l0.length l0) (k0 : l0.length ≤ c0) (hl0 : ∀ x ∈ l0, 0 ≤ x ∧ x < 256) (hn : l0.length ≤ 300) : Calls Try.prog 9 #[.agg #[.int .i64 s.log, .int .i64 s.ino, .int .i64 s.len, .int .i64 (s.a 0), .int .i64 (s.z 0), .int .i64 (s.a 1), .int .i64 (s.z 1), .int .i64 (s.a 2), .int .i64 (s.z 2), .int .i64 (s.a 3), .int .i64 (s.z 3), .int .i64 (s.a 4), .int .i64 (s.z 4), .int .i64 (s.a 5), .int .i64 (s.z 5)], .slice A0 l0.length c0] w fun e w' => e = .returned (.bool true) ∧ Below w.heap.size w w' := by
  have KB0 : Aside0 (SB w s (w.alloc (.cells #[.int .i64 s.log, .int .i64 s.ino, .int .i64 s.len, .int .i64 (s.a 0), .int .i64 (s.z 0), .int .i64 (s.a 1), .int .i64 (s.z 1), .int .i64 (s.a 2), .int .i64 (s.z 2), .int .i64 (s.a 3), .int .i64 (s.z 3), .int .i64 (s.a 4), .int .i64 (s.z 4), .int .i64 (s.a 5), .int .i64 (s.z 5)] 65))) := ⟨heap_alloc_new _ _, below_alloc (Below.refl _ _) _⟩
  have Kr := Aside0.mk hr
  have KM : Aside0 (∀ w', Below w.heap.size w w' → Kd.C (Kd.int .u8) w' A0 l0.length l0) := ⟨fun w' hB => Kd.C_below r0 hB⟩
  have Kl := Aside0.mk hl0
  have KE := Aside0.mk (fun w1 => encode_ok s hr w1)
  have KR := Aside0.mk (fun w1 => rright_any s w1)
  rw [decide_eq_true hr] at KR
  have KC := Aside0.mk (fun w1 => check_any s w1)
  unfold chk at KC
  rw [if_pos hr] at KC
  have KK := Aside0.mk (fun w1 => block_any s w1)
  rw [if_pos hr] at KK
  have KY := Aside0.mk (fun w1 => rbytes_sl s hr w1)
  clear hr r0 hl0
  go_enter Try.func9, Try.ntmps9
  go_wp2_with (go_at_call 36; apply Aside0.out)
  refine ⟨?_⟩
  refine (KE.out _).mono ?_
  rintro e w1 ⟨v1, rfl, hO, hb⟩
  obtain ⟨A1, c1, rfl, -, -⟩ := hO.slice
  rw [bytesB_len] at hO ⊢
  have KB1 : Aside0 (SB w s w1) := ⟨⟨blk_below KB0.out.1 hb, below_then KB0.out.2 KB0.out.2.size hb⟩⟩
  have KO1 := Aside0.mk (hO.lower KB0.out.2.size)
  clear hb hO
  obtain ⟨z0, z1, z2, z3, z4, z5, z6, z7, z8, z9, z10, z11, z12, z13, z14⟩ := box_cells KB1.out.1
  go_wp2_with (go_at_call 33; apply Aside0.out)
  refine ⟨?_⟩
  refine (KR.out _).mono ?_
  rintro e w2 ⟨rfl, hb⟩
  have KB2 : Aside0 (SB w s w2) := ⟨⟨blk_below KB1.out.1 hb, below_then KB1.out.2 KB1.out.2.size hb⟩⟩
  have KO2 := Aside0.mk (KO1.out.below hb)
  clear hb z0 z1 z2 z3 z4 z5 z6 z7 z8 z9 z10 z11 z12 z13 z14
  have hsh := shl_run s Kr.out.1.1.1 Kr.out.1.1.2
  go_wp2
  refine start_ (n := 25) (S := fun w' => SB w s w' ∧ Row.OwnB w' w.heap.size (.slice A1 68 c1) (bytesB s)) (ds := []) #[false, false, false, false, false, false, false, false, false, false, false, false, false, false, false, false, false, false, false, false, false, false, false, false, false] (by kernel_rfl) rfl rfl ⟨(show SB w s _ from ⟨KB2.out.1, below_drew KB2.out.2⟩), (show Row.OwnB _ w.heap.size (.slice A1 68 c1) (bytesB s) from KO2.out.below (below_drew (Below.refl _ _)))⟩ (fun hHeld => ?_)
  refine pure_ (i := 0) (N := some 43) (v := ?_) (a' := ?_) #[true, false, false, false, false, false, false, false, false, false, false, false, false, false, false, false, false, false, false, false, false, false, false, false, false] rfl rfl (by kernel_rfl) (fun _ _ _ h => h) (Or.inl ⟨by rfl, ?_⟩) ?_ ?_
  rotate_left
  · intro w'
    go_simp
    with_reducible rfl
  rotate_left
  · simp only [Act.put, List.setIfInBounds_toArray, List.set_cons_zero, List.set_cons_succ, i64_w, i32_w]
    rfl
  refine one_ (i := 1) (N := some 44) #[true, true, false, false, false, false, false, false, false, false, false, false, false, false, false, false, false, false, false, false, false, false, false, false, false] rfl rfl (by kernel_rfl) (by decide) (fun K hK => ?_)
  refine goes_ Try.func34 (by kernel_rfl) rfl #[.int .i64 0] (by rfl) rfl rfl (by simp only [List.map_toArray, List.map_cons, List.map_nil]; rfl) ?_
  with_reducible refine (num_any _ _).mono ?_
  rintro e w11 ⟨rfl, rfl⟩
  refine ⟨_, rfl, ?_⟩
  refine hK.out _ _ ⟨hHeld.1, hHeld.2⟩ (fun hHeld => ?_)
  clear hK K
  refine norm_ (a' := ?_) ?_ ?_
  rotate_left
  · show Act.put _ (some 44) _ = _
    simp only [Act.put, List.setIfInBounds_toArray, List.set_cons_zero, List.set_cons_succ, i64_w, i32_w]
    rfl
  refine pure_ (i := 2) (N := some 45) (v := ?_) (a' := ?_) #[true, true, true, false, false, false, false, false, false, false, false, false, false, false, false, false, false, false, false, false, false, false, false, false, false] rfl rfl (by kernel_rfl) (fun _ _ _ h => h) (Or.inl ⟨by rfl, ?_⟩) ?_ ?_
  rotate_left
  · intro w'
    go_simp
    with_reducible rfl
  rotate_left
  · simp only [Act.put, List.setIfInBounds_toArray, List.set_cons_zero, List.set_cons_succ, i64_w, i32_w]
    rfl
  refine pure_ (i := 3) (N := some 46) (v := ?_) (a' := ?_) #[true, true, true, true, false, false, false, false, false, false, false, false, false, false, false, false, false, false, false, false, false, false, false, false, false] rfl rfl (by kernel_rfl) (fun _ _ _ h => h) (Or.inl ⟨by rfl, ?_⟩) ?_ ?_
  rotate_left
  · intro w'
    go_simp
    with_reducible rfl
  rotate_left
  · simp only [Act.put, List.setIfInBounds_toArray, List.set_cons_zero, List.set_cons_succ, i64_w, i32_w]
    rfl
  refine pure_ (i := 4) (N := some 47) (v := ?_) (a' := ?_) #[true, true, true, true, true, false, false, false, false, false, false, false, false, false, false, false, false, false, false, false, false, false, false, false, false] rfl rfl (by kernel_rfl) (fun _ _ _ h => h) (Or.inl ⟨by rfl, ?_⟩) ?_ ?_
  rotate_left
  · intro w'
    go_simp
    with_reducible rfl
  rotate_left
  · simp only [Act.put, List.setIfInBounds_toArray, List.set_cons_zero, List.set_cons_succ, i64_w, i32_w]
    rfl
  as_aux_lemma =>
    refine take_ (i := 5) (N := some 48) (v := .string (strOfNums (bytesB s))) (a' := ?_) #[true, true, true, true, true, true, false, false, false, false, false, false, false, false, false, false, false, false, false, false, false, false, false, false, false] rfl rfl (by kernel_rfl) (fun _ _ _ h => h) (Or.inl ⟨by rfl, ?_⟩) hHeld ?_ ?_
    · rintro w' ⟨s0, s1⟩
      exact exec_convert 30 9 (Operand.tmp 47) (by rfl) _ _ (by rfl) (Kd.C_string (P := Try.prog) Try.underlying30 Try.underlying5 Try.underlying9 s1.reads.2.2)
    rotate_left
    · simp only [Act.put, List.setIfInBounds_toArray, List.set_cons_zero, List.set_cons_succ, i64_w, i32_w]
      rfl
    refine take_ (i := 6) (N := some 49) (v := .agg #[.int .i64 s.log, .int .i64 s.ino, .int .i64 s.len, .int .i64 (s.a 0), .int .i64 (s.z 0), .int .i64 (s.a 1), .int .i64 (s.z 1), .int .i64 (s.a 2), .int .i64 (s.z 2), .int .i64 (s.a 3), .int .i64 (s.z 3), .int .i64 (s.a 4), .int .i64 (s.z 4), .int .i64 (s.a 5), .int .i64 (s.z 5)]) (a' := ?_) #[true, true, true, true, true, true, true, false, false, false, false, false, false, false, false, false, false, false, false, false, false, false, false, false, false] rfl rfl (by kernel_rfl) (fun _ _ _ h => h) (Or.inl ⟨by rfl, ?_⟩) hHeld ?_ ?_
    · rintro w' ⟨s0, s1⟩
      (obtain ⟨z0, z1, z2, z3, z4, z5, z6, z7, z8, z9, z10, z11, z12, z13, z14⟩ := box_cells s0.1)
      go_simp
      (try rfl)
    rotate_left
    · simp only [Act.put, List.setIfInBounds_toArray, List.set_cons_zero, List.set_cons_succ, i64_w, i32_w]
      rfl
    refine one_ (i := 7) (N := some 50) #[true, true, true, true, true, true, true, true, false, false, false, false, false, false, false, false, false, false, false, false, false, false, false, false, false] rfl rfl (by kernel_rfl) (by decide) (fun K hK => ?_)
    refine goes_ Try.func39 (by kernel_rfl) rfl #[.agg #[.int .i64 s.log, .int .i64 s.ino, .int .i64 s.len, .int .i64 (s.a 0), .int .i64 (s.z 0), .int .i64 (s.a 1), .int .i64 (s.z 1), .int .i64 (s.a 2), .int .i64 (s.z 2), .int .i64 (s.a 3), .int .i64 (s.z 3), .int .i64 (s.a 4), .int .i64 (s.z 4), .int .i64 (s.a 5), .int .i64 (s.z 5)]] (by rfl) rfl rfl (by simp only [List.map_toArray, List.map_cons, List.map_nil]; rfl) ?_
    with_reducible refine (KY.out _).mono ?_
    rintro e w17 ⟨A7, c7, rfl, hC7, hb17⟩
    refine ⟨_, rfl, ?_⟩
    refine hK.out _ _ ⟨(show SB w s w17 from ⟨blk_below hHeld.1.1 hb17, below_then hHeld.1.2 hHeld.1.2.size hb17⟩), hHeld.2.below hb17⟩ (fun hHeld => ?_)
    clear hK K
    refine norm_ (a' := ?_) ?_ ?_
    rotate_left
    · show Act.put _ (some 50) _ = _
      simp only [Act.put, List.setIfInBounds_toArray, List.set_cons_zero, List.set_cons_succ, i64_w, i32_w]
      rfl
    refine one_ (i := 8) (N := some 51) #[true, true, true, true, true, true, true, true, true, false, false, false, false, false, false, false, false, false, false, false, false, false, false, false, false] rfl rfl (by kernel_rfl) (by decide) (fun K hK => ?_)
    refine value_ (w1 := w17) (v := .string (strOfNums (bytesB s))) (by rfl) rfl (exec_convert 30 9 (Operand.tmp 50) (by rfl) _ _ (by rfl) (Kd.C_string (P := Try.prog) Try.underlying30 Try.underlying5 Try.underlying9 hC7)) ?_
    refine hK.out _ _ ⟨hHeld.1, hHeld.2⟩ (fun hHeld => ?_)
    clear hK K
    refine norm_ (a' := ?_) ?_ ?_
    rotate_left
    · show Act.put _ (some 51) _ = _
      simp only [Act.put, List.setIfInBounds_toArray, List.set_cons_zero, List.set_cons_succ, i64_w, i32_w]
      rfl
    refine pure_ (i := 9) (N := some 52) (v := ?_) (a' := ?_) #[true, true, true, true, true, true, true, true, true, true, false, false, false, false, false, false, false, false, false, false, false, false, false, false, false] rfl rfl (by kernel_rfl) (fun _ _ _ h => h) (Or.inl ⟨by rfl, ?_⟩) ?_ ?_
    rotate_left
    · intro w'
      go_simp
      with_reducible rfl
    rotate_left
    · simp only [Act.put, List.setIfInBounds_toArray, List.set_cons_zero, List.set_cons_succ, i64_w, i32_w]
      rfl
    refine pure_ (i := 10) (N := some 53) (v := ?_) (a' := ?_) #[true, true, true, true, true, true, true, true, true, true, true, false, false, false, false, false, false, false, false, false, false, false, false, false, false] rfl rfl (by kernel_rfl) (fun _ _ _ h => h) (Or.inl ⟨by rfl, ?_⟩) ?_ ?_
    rotate_left
    · intro w'
      go_simp
      with_reducible rfl
    rotate_left
    · simp only [Act.put, List.setIfInBounds_toArray, List.set_cons_zero, List.set_cons_succ, i64_w, i32_w]
      rfl
    as_aux_lemma =>
      refine pure_ (i := 11) (N := some 54) (v := ?_) (a' := ?_) #[true, true, true, true, true, true, true, true, true, true, true, true, false, false, false, false, false, false, false, false, false, false, false, false, false] rfl rfl (by kernel_rfl) (fun _ _ _ h => h) (Or.inl ⟨by rfl, ?_⟩) ?_ ?_
      rotate_left
      · intro w'
        go_simp
        with_reducible rfl
      rotate_left
      · simp only [Act.put, List.setIfInBounds_toArray, List.set_cons_zero, List.set_cons_succ, i64_w, i32_w]
        rfl
      refine take_ (i := 12) (N := some 55) (v := .agg #[.int .i64 s.log, .int .i64 s.ino, .int .i64 s.len, .int .i64 (s.a 0), .int .i64 (s.z 0), .int .i64 (s.a 1), .int .i64 (s.z 1), .int .i64 (s.a 2), .int .i64 (s.z 2), .int .i64 (s.a 3), .int .i64 (s.z 3), .int .i64 (s.a 4), .int .i64 (s.z 4), .int .i64 (s.a 5), .int .i64 (s.z 5)]) (a' := ?_) #[true, true, true, true, true, true, true, true, true, true, true, true, true, false, false, false, false, false, false, false, false, false, false, false, false] rfl rfl (by kernel_rfl) (fun _ _ _ h => h) (Or.inl ⟨by rfl, ?_⟩) hHeld ?_ ?_
      · rintro w' ⟨s0, s1⟩
        (obtain ⟨z0, z1, z2, z3, z4, z5, z6, z7, z8, z9, z10, z11, z12, z13, z14⟩ := box_cells s0.1)
        go_simp
        (try rfl)
      rotate_left
      · simp only [Act.put, List.setIfInBounds_toArray, List.set_cons_zero, List.set_cons_succ, i64_w, i32_w]
        rfl
      refine one_ (i := 13) (N := some 56) #[true, true, true, true, true, true, true, true, true, true, true, true, true, true, false, false, false, false, false, false, false, false, false, false, false] rfl rfl (by kernel_rfl) (by decide) (fun K hK => ?_)
      refine goes_ Try.func37 (by kernel_rfl) rfl #[.agg #[.int .i64 s.log, .int .i64 s.ino, .int .i64 s.len, .int .i64 (s.a 0), .int .i64 (s.z 0), .int .i64 (s.a 1), .int .i64 (s.z 1), .int .i64 (s.a 2), .int .i64 (s.z 2), .int .i64 (s.a 3), .int .i64 (s.z 3), .int .i64 (s.a 4), .int .i64 (s.z 4), .int .i64 (s.a 5), .int .i64 (s.z 5)]] (by rfl) rfl rfl (by simp only [List.map_toArray, List.map_cons, List.map_nil]; rfl) ?_
      with_reducible refine (KC.out _).mono ?_
      rintro e w12 ⟨rfl, hb12⟩
      refine ⟨_, rfl, ?_⟩
      refine hK.out _ _ ⟨(show SB w s w12 from ⟨blk_below hHeld.1.1 hb12, below_then hHeld.1.2 hHeld.1.2.size hb12⟩), hHeld.2.below hb12⟩ (fun hHeld => ?_)
      clear hK K
      refine norm_ (a' := ?_) ?_ ?_
      rotate_left
      · show Act.put _ (some 56) _ = _
        simp only [Act.put, List.setIfInBounds_toArray, List.set_cons_zero, List.set_cons_succ, i64_w, i32_w]
        rfl
      refine one_ (i := 14) (N := some 57) #[true, true, true, true, true, true, true, true, true, true, true, true, true, true, true, false, false, false, false, false, false, false, false, false, false] rfl rfl (by kernel_rfl) (by decide) (fun K hK => ?_)
      refine goes_ Try.func34 (by kernel_rfl) rfl #[.int .i64 0] (by rfl) rfl rfl (by simp only [List.map_toArray, List.map_cons, List.map_nil]; rfl) ?_
      with_reducible refine (num_any _ _).mono ?_
      rintro e w13 ⟨rfl, rfl⟩
      refine ⟨_, rfl, ?_⟩
      refine hK.out _ _ ⟨hHeld.1, hHeld.2⟩ (fun hHeld => ?_)
      clear hK K
      refine norm_ (a' := ?_) ?_ ?_
      rotate_left
      · show Act.put _ (some 57) _ = _
        simp only [Act.put, List.setIfInBounds_toArray, List.set_cons_zero, List.set_cons_succ, i64_w, i32_w]
        rfl
      refine pure_ (i := 15) (N := some 58) (v := ?_) (a' := ?_) #[true, true, true, true, true, true, true, true, true, true, true, true, true, true, true, true, false, false, false, false, false, false, false, false, false] rfl rfl (by kernel_rfl) (fun _ _ _ h => h) (Or.inl ⟨by rfl, ?_⟩) ?_ ?_
      rotate_left
      · intro w'
        go_simp
        with_reducible rfl
      rotate_left
      · simp only [Act.put, List.setIfInBounds_toArray, List.set_cons_zero, List.set_cons_succ, i64_w, i32_w]
        rfl
      refine pure_ (i := 16) (N := some 59) (v := ?_) (a' := ?_) #[true, true, true, true, true, true, true, true, true, true, true, true, true, true, true, true, true, false, false, false, false, false, false, false, false] rfl rfl (by kernel_rfl) (fun _ _ _ h => h) (Or.inl ⟨by rfl, ?_⟩) ?_ ?_
      rotate_left
      · intro w'
        go_simp
        with_reducible rfl
      rotate_left
      · simp only [Act.put, List.setIfInBounds_toArray, List.set_cons_zero, List.set_cons_succ, i64_w, i32_w]
        rfl
      as_aux_lemma =>
        refine pure_ (i := 17) (N := some 60) (v := ?_) (a' := ?_) #[true, true, true, true, true, true, true, true, true, true, true, true, true, true, true, true, true, true, false, false, false, false, false, false, false] rfl rfl (by kernel_rfl) (fun _ _ _ h => h) (Or.inl ⟨by rfl, ?_⟩) ?_ ?_
        rotate_left
        · intro w'
          go_simp
          with_reducible rfl
        rotate_left
        · simp only [Act.put, List.setIfInBounds_toArray, List.set_cons_zero, List.set_cons_succ, i64_w, i32_w]
          rfl
        refine pure_ (i := 20) (N := some 63) (v := ?_) (a' := ?_) #[true, true, true, true, true, true, true, true, true, true, true, true, true, true, true, true, true, true, false, false, true, false, false, false, false] rfl rfl (by kernel_rfl) (fun _ _ _ h => h) (Or.inl ⟨by rfl, ?_⟩) ?_ ?_
        rotate_left
        · intro w'
          go_simp
          with_reducible rfl
        rotate_left
        · simp only [Act.put, List.setIfInBounds_toArray, List.set_cons_zero, List.set_cons_succ, i64_w, i32_w]
          rfl
        refine take_ (i := 18) (N := some 61) (v := .agg #[.int .i64 s.log, .int .i64 s.ino, .int .i64 s.len, .int .i64 (s.a 0), .int .i64 (s.z 0), .int .i64 (s.a 1), .int .i64 (s.z 1), .int .i64 (s.a 2), .int .i64 (s.z 2), .int .i64 (s.a 3), .int .i64 (s.z 3), .int .i64 (s.a 4), .int .i64 (s.z 4), .int .i64 (s.a 5), .int .i64 (s.z 5)]) (a' := ?_) #[true, true, true, true, true, true, true, true, true, true, true, true, true, true, true, true, true, true, true, false, true, false, false, false, false] rfl rfl (by kernel_rfl) (fun _ _ _ h => h) (Or.inl ⟨by rfl, ?_⟩) hHeld ?_ ?_
        · rintro w' ⟨s0, s1⟩
          (obtain ⟨z0, z1, z2, z3, z4, z5, z6, z7, z8, z9, z10, z11, z12, z13, z14⟩ := box_cells s0.1)
          go_simp
          (try rfl)
        rotate_left
        · simp only [Act.put, List.setIfInBounds_toArray, List.set_cons_zero, List.set_cons_succ, i64_w, i32_w]
          rfl
        refine take_ (i := 21) (N := some 64) (v := .int .i64 s.log) (a' := ?_) #[true, true, true, true, true, true, true, true, true, true, true, true, true, true, true, true, true, true, true, false, true, true, false, false, false] rfl rfl (by kernel_rfl) (fun _ _ _ h => h) (Or.inl ⟨by rfl, ?_⟩) hHeld ?_ ?_
        · rintro w' ⟨s0, s1⟩
          (obtain ⟨z0, z1, z2, z3, z4, z5, z6, z7, z8, z9, z10, z11, z12, z13, z14⟩ := box_cells s0.1)
          go_simp
          (try rfl)
        rotate_left
        · simp only [Act.put, List.setIfInBounds_toArray, List.set_cons_zero, List.set_cons_succ, i64_w, i32_w]
          rfl
        refine pure_ (i := 22) (N := some 65) (v := .int .i64 (wrap64 (2 ^ s.log.toNat))) (a' := ?_) #[true, true, true, true, true, true, true, true, true, true, true, true, true, true, true, true, true, true, true, false, true, true, true, false, false] rfl rfl (by kernel_rfl) (fun _ _ _ h => h) (Or.inl ⟨by rfl, ?_⟩) ?_ ?_
        · intro w'
          go_simp
          (try simp only [hsh])
          (try rfl)
        rotate_left
        · simp only [Act.put, List.setIfInBounds_toArray, List.set_cons_zero, List.set_cons_succ, i64_w, i32_w]
          rfl
        refine one_ (i := 19) (N := some 62) #[true, true, true, true, true, true, true, true, true, true, true, true, true, true, true, true, true, true, true, true, true, true, true, false, false] rfl rfl (by kernel_rfl) (by decide) (fun K hK => ?_)
        refine goes_ Try.func38 (by kernel_rfl) rfl #[.agg #[.int .i64 s.log, .int .i64 s.ino, .int .i64 s.len, .int .i64 (s.a 0), .int .i64 (s.z 0), .int .i64 (s.a 1), .int .i64 (s.z 1), .int .i64 (s.a 2), .int .i64 (s.z 2), .int .i64 (s.a 3), .int .i64 (s.z 3), .int .i64 (s.a 4), .int .i64 (s.z 4), .int .i64 (s.a 5), .int .i64 (s.z 5)]] (by rfl) rfl rfl (by simp only [List.map_toArray, List.map_cons, List.map_nil]; rfl) ?_
        with_reducible refine (KK.out _).mono ?_
        rintro e w14 ⟨rfl, hb14⟩
        refine ⟨_, rfl, ?_⟩
        refine hK.out _ _ ⟨(show SB w s w14 from ⟨blk_below hHeld.1.1 hb14, below_then hHeld.1.2 hHeld.1.2.size hb14⟩), hHeld.2.below hb14⟩ (fun hHeld => ?_)
        clear hK K
        refine norm_ (a' := ?_) ?_ ?_
        rotate_left
        · show Act.put _ (some 62) _ = _
          simp only [Act.put, List.setIfInBounds_toArray, List.set_cons_zero, List.set_cons_succ, i64_w, i32_w]
          rfl
        as_aux_lemma =>
          refine pure_ (i := 23) (N := some 66) (v := ?_) (a' := ?_) #[true, true, true, true, true, true, true, true, true, true, true, true, true, true, true, true, true, true, true, true, true, true, true, true, false] rfl rfl (by kernel_rfl) (fun _ _ _ h => h) (Or.inl ⟨by rfl, ?_⟩) ?_ ?_
          rotate_left
          · intro w'
            go_simp
            with_reducible rfl
          rotate_left
          · simp only [Act.put, List.setIfInBounds_toArray, List.set_cons_zero, List.set_cons_succ, i64_w, i32_w]
            rfl
          refine pure_ (i := 24) (N := some 67) (v := ?_) (a' := ?_) #[true, true, true, true, true, true, true, true, true, true, true, true, true, true, true, true, true, true, true, true, true, true, true, true, true] rfl rfl (by kernel_rfl) (fun _ _ _ h => h) (Or.inl ⟨by rfl, ?_⟩) ?_ ?_
          rotate_left
          · intro w'
            go_simp
            with_reducible rfl
          rotate_left
          · simp only [Act.put, List.setIfInBounds_toArray, List.set_cons_zero, List.set_cons_succ, i64_w, i32_w]
            rfl
          refine done_ (by kernel_rfl) ?_
          have KB3 := Aside0.mk hHeld.1
          have KO3 := Aside0.mk hHeld.2
          try clear hHeld
          clear hsh KB0 KB1 KB2 KO1 KO2 KE KR KC KK KY
          go_wp2_with ((with_reducible refine gate_builtin (b := .append) (xs := #[.tmp 69, .tmp 70]) rfl ?_); apply Aside0.out)
          refine ⟨?_⟩
          refine Row.app_rows (w0 := w) w.heap.size rfl (.tmp 69) (.tmp 70) rfl (.slice A1 68 c1) (bytesB s) l0 A0 l0.length c0 rfl rfl KO3.out (KM.out _ KB3.out.2) KB3.out.2 KB3.out.2.size (by rw [bytesB_len]; omega) ?_
          intro zs A5 c5 w5 e1 e2 e3 h4 h5 e4 hb5 e5 hg7 e7
          have hzl : zs.length = 68 + l0.length := by rw [e3.out, bytesB_len]
          have KD := Aside0.mk (decode_back s Kr.out l0 w5 A5 zs.length c5 (by rw [e1.out]) (by rw [← e1.out]; exact e4.out) Kl.out (by omega) h5)
          have KS5 := Aside0.mk (SB.grown KB3.out KO3.out hb5.out hg7.out)
          obtain ⟨n, hn5⟩ : ∃ n, n = zs.length := ⟨_, rfl⟩
          rw [← hn5] at KD ⊢
          clear e1 e2 e3 h4 h5 e4 hb5 e5 hg7 e7 hzl KB3 KO3 hn5
          go_wp2_with (go_at_call 40; apply Aside0.out)
          refine ⟨?_⟩
          refine KD.out.mono ?_
          rintro e w6 ⟨rfl, hb⟩
          have KS6 : Aside0 (SB w s w6) := ⟨⟨blk_below KS5.out.1 hb, below_then KS5.out.2 KS5.out.2.size hb⟩⟩
          clear hb KD KS5
          have hsz : w.heap.size < w6.heap.size := blk_lt KS6.out.1
          have heq := eq_self s
          obtain ⟨z0, z1, z2, z3, z4, z5, z6, z7, z8, z9, z10, z11, z12, z13, z14⟩ := box_cells KS6.out.1
          go_wp2_with (first | (go_at_call 34; refine (num_any _ _).mono ?_; rintro e w' ⟨rfl, rfl⟩) | (go_at_call 35; apply Aside0.out))
          refine ⟨?_⟩
          refine (live_any _).mono ?_
          rintro e w9 ⟨rfl, hb9⟩
          go_wp2
          go_ret
          have hBX := below_alloc KS6.out.2 (.cells #[.int .i64 s.log, .int .i64 s.ino, .int .i64 s.len, .int .i64 (s.a 0), .int .i64 (s.z 0), .int .i64 (s.a 1), .int .i64 (s.z 1), .int .i64 (s.a 2), .int .i64 (s.z 2), .int .i64 (s.a 3), .int .i64 (s.z 3), .int .i64 (s.a 4), .int .i64 (s.z 4), .int .i64 (s.a 5), .int .i64 (s.z 5)] 65)
          exact ⟨rfl, below_then hBX hBX.size hb9⟩
theorem walk (w : World) (cs0 : Array Value) (x0 : Int × Int × Int × (List (Int × Int))) (r0 : ∃ c00 c01, cs0.toList = c00 ++ c01 ∧ ((Kd.int .i64).K w x0.1 c00 ∧ (fun n : Int => (Lit.int .i64 n).wf = true) x0.1) ∧ (∃ c10 c11, c01 = c10 ++ c11 ∧ ((Kd.int .i64).K w x0.2.1 c10 ∧ (fun n : Int => (Lit.int .i64 n).wf = true) x0.2.1) ∧ (∃ c20 c21, c11 = c20 ++ c21 ∧ ((Kd.int .i64).K w x0.2.2.1 c20 ∧ (fun n : Int => (Lit.int .i64 n).wf = true) x0.2.2.1) ∧ (Open.InLine (Kd.pair (Kd.int .i64) (Kd.int .i64)) (fun x : Int × Int => (fun n : Int => (Lit.int .i64 n).wf = true) x.1 ∧ (fun n : Int => (Lit.int .i64 n).wf = true) x.2) 6 w x0.2.2.2 c21)))) (A1 : Option Addr) (c1 : Nat) (l1 : List Int) (r1 : Kd.C (Kd.int .u8) w A1 l1.length l1) (k1 : l1.length ≤ c1) (g1 : ∀ v ∈ l1, (fun n : Int => (Lit.int .u8 n).wf = true) v) (m1 : l1.length * 1 ≤ 140737488351232) :
    Calls Try.prog 9 #[.agg cs0, .slice A1 l1.length c1] w fun e w' => e = .returned (.bool true) ∧ Below w.heap.size w w' := by
  obtain ⟨s, rfl⟩ := sup_of r0
  have hb : ∀ x ∈ l1, 0 ≤ x ∧ x < 256 := fun x hx => by
    have := g1 x hx
    have e1 : IntKind.u8.min = 0 := by decide
    have e2 : IntKind.u8.max = 255 := by decide
    simp only [Lit.wf, e1, e2, Bool.and_eq_true, decide_eq_true_eq] at this
    omega
  by_cases hn : 300 < l1.length
  · exact big_ w s A1 c1 l1.length hn
  · by_cases hr : right s
    · exact ok_ w s hr A1 c1 l1 r1 k1 hb (by omega)
    · exact wrong_ w s hr A1 c1 l1.length (by omega)
end SuperEncodes
end Go.Proofs.Ytepmgkmbmejkjaa
