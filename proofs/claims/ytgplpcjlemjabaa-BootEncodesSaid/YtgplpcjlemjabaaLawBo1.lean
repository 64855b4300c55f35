/- Boot records as bytes: the statement's walk. -/
import Derived.Test.YtgplpcjlemjabaaBo8
set_option linter.unusedVariables false
set_option linter.unusedSimpArgs false
namespace Go.Proofs.Ytgplpcjlemjabaa
open Go.RowKit Go.Proofs.Ytgplpcjlemjabaa.Fd Go.Proofs.Ytgplpcjlemjabaa.Bg Go.Proofs.Ytgplpcjlemjabaa.Bo Go.Proofs.YtgplpcjlemjabaaW.PrintWords Go.Proofs.YtgplpcjlemjabaaW.PrintLast Go.Proofs.YtgplpcjlemjabaaW.PrintMore
namespace BootEncodes
theorem big_ (w : World) (r : Rec) (A0 : Option Addr) (c0 n : Nat) (hn : 300 < n) : Calls Try.prog 8 #[.agg #[.int .u64 r.seq, .int .i64 r.slot, .int .i64 r.len, .int .u64 r.sum], .slice A0 n c0] w fun e w' => e = .returned (.bool true) ∧ Below w.heap.size w w' := by
  have KB0 : Aside0 (Below w.heap.size w (w.alloc (.cells #[.int .u64 r.seq, .int .i64 r.slot, .int .i64 r.len, .int .u64 r.sum] 45))) := ⟨below_alloc (Below.refl _ _) _⟩
  go_enter Try.func8, Try.ntmps8
  go_wp2_with (go_at_call 23; refine (live_any _).mono ?_; rintro e w' ⟨rfl, hbel⟩)
  go_ret
  exact ⟨rfl, below_then KB0.out KB0.out.size hbel⟩
set_option maxHeartbeats 4000000 in
theorem wrong_ (w : World) (r : Rec) (hr : ¬ right r) (A0 : Option Addr) (c0 n : Nat) (hn : n ≤ 300) : Calls Try.prog 8 #[.agg #[.int .u64 r.seq, .int .i64 r.slot, .int .i64 r.len, .int .u64 r.sum], .slice A0 n c0] w fun e w' => e = .returned (.bool true) ∧ Below w.heap.size w w' := by
  have KB0 := Aside0.mk (RB.new w r)
  have KE := Aside0.mk (fun w1 => encode_no r hr w1)
  have KR := Aside0.mk (fun w1 => rright_any r w1)
  rw [decide_eq_false hr] at KR
  clear hr
  go_enter Try.func8, Try.ntmps8
  go_wp2_with (go_at_call 24; apply Aside0.out)
  refine ⟨?_⟩
  refine (KE.out _).mono ?_
  rintro e w1 ⟨rfl, hb⟩
  have KB1 := Aside0.mk (RB.then_ KB0.out hb)
  clear hb
  obtain ⟨z0, z1, z2, z3⟩ := box_cells KB1.out.1
  go_wp2_with (go_at_call 25; apply Aside0.out)
  refine ⟨?_⟩
  refine (KR.out _).mono ?_
  rintro e w2 ⟨rfl, hb⟩
  have KB2 := Aside0.mk (RB.then_ KB1.out hb)
  clear hb z0 z1 z2 z3
  go_wp2_with (first | (go_at_call 26; refine (num_any _ _).mono ?_; rintro e w' ⟨rfl, rfl⟩) | (go_at_call 23; refine (live_any _).mono ?_; rintro e w' ⟨rfl, hbel⟩))
  go_ret
  exact ⟨rfl, below_then KB2.out.2 KB2.out.2.size hbel⟩
set_option maxHeartbeats 4000000 in
set_option maxRecDepth 100000 in
theorem ok_ (w : World) (r : Rec) (hr : right r) (hw : Wf r) (A0 : Option Addr) (c0 : Nat) (l0 : List Int) (r0 : Kd.C (Kd.int .u8) w A0 l0.length l0) (k0 : l0.length ≤ c0) (hl0 : ∀ x ∈ l0, 0 ≤ x ∧ x < 256) (hn : l0.length ≤ 300) : Calls Try.prog 8 #[.agg #[.int .u64 r.seq, .int .i64 r.slot, .int .i64 r.len, .int .u64 r.sum], .slice A0 l0.length c0] w fun e w' => e = .returned (.bool true) ∧ Below w.heap.size w w' := by
  have KB0 := Aside0.mk (RB.new w r)
  have KM : Aside0 (∀ w', Below w.heap.size w w' → Kd.C (Kd.int .u8) w' A0 l0.length l0) := ⟨fun w' hB => Kd.C_below r0 hB⟩
  have Kl := Aside0.mk hl0
  have KE := Aside0.mk (fun w1 => encode_ok r hr hw w1)
  have KR := Aside0.mk (fun w1 => rright_any r w1)
  rw [decide_eq_true hr] at KR
  have KY := Aside0.mk (fun w1 => rbytes_any8 r hr hw w1)
  have KDK := Aside0.mk (dec_back r hr hw l0)
  clear hr hw r0 hl0
  go_enter Try.func8, Try.ntmps8
  go_wp2_with (go_at_call 24; apply Aside0.out)
  refine ⟨?_⟩
  refine (KE.out _).mono ?_
  rintro e w1 ⟨v1, rfl, hO, hb⟩
  obtain ⟨A1, c1, rfl, -, -⟩ := hO.slice
  rw [bytesB_len] at hO ⊢
  have KB1 := Aside0.mk (RB.then_ KB0.out hb)
  have KO1 := Aside0.mk (hO.lower KB0.out.2.size)
  clear hb hO
  obtain ⟨z0, z1, z2, z3⟩ := box_cells KB1.out.1
  go_wp2_with (go_at_call 25; apply Aside0.out)
  refine ⟨?_⟩
  refine (KR.out _).mono ?_
  rintro e w2 ⟨rfl, hb⟩
  have KB2 := Aside0.mk (RB.then_ KB1.out hb)
  have KO2 := Aside0.mk (KO1.out.below hb)
  clear hb z0 z1 z2 z3
  go_wp2
  refine start_ (n := 11) (S := fun w' => RB w r w' ∧ Row.OwnB w' w.heap.size (.slice A1 32 c1) (bytesB r)) (ds := []) #[false, false, false, false, false, false, false, false, false, false, false] (by kernel_rfl) rfl rfl ⟨(show RB w r _ from ⟨KB2.out.1, below_drew KB2.out.2⟩), (show Row.OwnB _ w.heap.size (.slice A1 32 c1) (bytesB r) from KO2.out.below (below_drew (Below.refl _ _)))⟩ (fun hHeld => ?_)
  refine pure_ (i := 0) (N := some 32) (v := ?_) (a' := ?_) #[true, false, false, false, false, false, false, false, false, false, false] rfl rfl (by kernel_rfl) (fun _ _ _ h => h) (Or.inl ⟨by rfl, ?_⟩) ?_ ?_
  rotate_left
  · intro w'
    go_simp
    with_reducible rfl
  rotate_left
  · simp only [Act.put, List.setIfInBounds_toArray, List.set_cons_zero, List.set_cons_succ, i64_w, i32_w]
    rfl
  refine one_ (i := 1) (N := some 33) #[true, true, false, false, false, false, false, false, false, false, false] rfl rfl (by kernel_rfl) (by decide) (fun K hK => ?_)
  refine goes_ Try.func26 (by kernel_rfl) rfl #[.int .i64 0] (by rfl) rfl rfl (by simp only [List.map_toArray, List.map_cons, List.map_nil]; rfl) ?_
  with_reducible refine (num_any _ _).mono ?_
  rintro e w11 ⟨rfl, rfl⟩
  refine ⟨_, rfl, ?_⟩
  refine hK.out _ _ ⟨hHeld.1, hHeld.2⟩ (fun hHeld => ?_)
  clear hK K
  refine norm_ (a' := ?_) ?_ ?_
  rotate_left
  · show Act.put _ (some 33) _ = _
    simp only [Act.put, List.setIfInBounds_toArray, List.set_cons_zero, List.set_cons_succ, i64_w, i32_w]
    rfl
  refine pure_ (i := 2) (N := some 34) (v := ?_) (a' := ?_) #[true, true, true, false, false, false, false, false, false, false, false] rfl rfl (by kernel_rfl) (fun _ _ _ h => h) (Or.inl ⟨by rfl, ?_⟩) ?_ ?_
  rotate_left
  · intro w'
    go_simp
    with_reducible rfl
  rotate_left
  · simp only [Act.put, List.setIfInBounds_toArray, List.set_cons_zero, List.set_cons_succ, i64_w, i32_w]
    rfl
  refine pure_ (i := 3) (N := some 35) (v := ?_) (a' := ?_) #[true, true, true, true, false, false, false, false, false, false, false] rfl rfl (by kernel_rfl) (fun _ _ _ h => h) (Or.inl ⟨by rfl, ?_⟩) ?_ ?_
  rotate_left
  · intro w'
    go_simp
    with_reducible rfl
  rotate_left
  · simp only [Act.put, List.setIfInBounds_toArray, List.set_cons_zero, List.set_cons_succ, i64_w, i32_w]
    rfl
  refine pure_ (i := 4) (N := some 36) (v := ?_) (a' := ?_) #[true, true, true, true, true, false, false, false, false, false, false] rfl rfl (by kernel_rfl) (fun _ _ _ h => h) (Or.inl ⟨by rfl, ?_⟩) ?_ ?_
  rotate_left
  · intro w'
    go_simp
    with_reducible rfl
  rotate_left
  · simp only [Act.put, List.setIfInBounds_toArray, List.set_cons_zero, List.set_cons_succ, i64_w, i32_w]
    rfl
  refine take_ (i := 5) (N := some 37) (v := .string (strOfNums (bytesB r))) (a' := ?_) #[true, true, true, true, true, true, false, false, false, false, false] rfl rfl (by kernel_rfl) (fun _ _ _ h => h) (Or.inl ⟨by rfl, ?_⟩) hHeld ?_ ?_
  · rintro w' ⟨s0, s1⟩
    exact exec_convert 22 9 (Operand.tmp 36) (by rfl) _ _ (by rfl) (Kd.C_string (P := Try.prog) Try.underlying22 Try.underlying5 Try.underlying9 (by have hs1 := s1.reads.2.2; rwa [bytesB_len] at hs1))
  rotate_left
  · simp only [Act.put, List.setIfInBounds_toArray, List.set_cons_zero, List.set_cons_succ, i64_w, i32_w]
    rfl
  refine take_ (i := 6) (N := some 38) (v := .agg #[.int .u64 r.seq, .int .i64 r.slot, .int .i64 r.len, .int .u64 r.sum]) (a' := ?_) #[true, true, true, true, true, true, true, false, false, false, false] rfl rfl (by kernel_rfl) (fun _ _ _ h => h) (Or.inl ⟨by rfl, ?_⟩) hHeld ?_ ?_
  · rintro w' ⟨s0, s1⟩
    (obtain ⟨z0, z1, z2, z3⟩ := box_cells s0.1)
    go_simp
    (try rfl)
  rotate_left
  · simp only [Act.put, List.setIfInBounds_toArray, List.set_cons_zero, List.set_cons_succ, i64_w, i32_w]
    rfl
  refine one_ (i := 7) (N := some 39) #[true, true, true, true, true, true, true, true, false, false, false] rfl rfl (by kernel_rfl) (by decide) (fun K hK => ?_)
  refine goes_ Try.func27 (by kernel_rfl) rfl #[.agg #[.int .u64 r.seq, .int .i64 r.slot, .int .i64 r.len, .int .u64 r.sum]] (by rfl) rfl rfl (by simp only [List.map_toArray, List.map_cons, List.map_nil]; rfl) ?_
  with_reducible refine (KY.out _).mono ?_
  rintro e w17 ⟨A7, c7, rfl, hC7, hb17⟩
  refine ⟨_, rfl, ?_⟩
  refine hK.out _ _ ⟨(RB.then_ hHeld.1 hb17), hHeld.2.below hb17⟩ (fun hHeld => ?_)
  clear hK K
  refine norm_ (a' := ?_) ?_ ?_
  rotate_left
  · show Act.put _ (some 39) _ = _
    simp only [Act.put, List.setIfInBounds_toArray, List.set_cons_zero, List.set_cons_succ, i64_w, i32_w]
    rfl
  refine one_ (i := 8) (N := some 40) #[true, true, true, true, true, true, true, true, true, false, false] rfl rfl (by kernel_rfl) (by decide) (fun K hK => ?_)
  refine value_ (w1 := w17) (v := .string (strOfNums (bytesB r))) (by rfl) rfl (exec_convert 22 9 (Operand.tmp 39) (by rfl) _ _ (by rfl) (Kd.C_string (P := Try.prog) Try.underlying22 Try.underlying5 Try.underlying9 hC7)) ?_
  refine hK.out _ _ ⟨hHeld.1, hHeld.2⟩ (fun hHeld => ?_)
  clear hK K
  refine norm_ (a' := ?_) ?_ ?_
  rotate_left
  · show Act.put _ (some 40) _ = _
    simp only [Act.put, List.setIfInBounds_toArray, List.set_cons_zero, List.set_cons_succ, i64_w, i32_w]
    rfl
  refine pure_ (i := 9) (N := some 41) (v := ?_) (a' := ?_) #[true, true, true, true, true, true, true, true, true, true, false] rfl rfl (by kernel_rfl) (fun _ _ _ h => h) (Or.inl ⟨by rfl, ?_⟩) ?_ ?_
  rotate_left
  · intro w'
    go_simp
    with_reducible rfl
  rotate_left
  · simp only [Act.put, List.setIfInBounds_toArray, List.set_cons_zero, List.set_cons_succ, i64_w, i32_w]
    rfl
  refine pure_ (i := 10) (N := some 42) (v := ?_) (a' := ?_) #[true, true, true, true, true, true, true, true, true, true, true] rfl rfl (by kernel_rfl) (fun _ _ _ h => h) (Or.inl ⟨by rfl, ?_⟩) ?_ ?_
  rotate_left
  · intro w'
    go_simp
    with_reducible rfl
  rotate_left
  · simp only [Act.put, List.setIfInBounds_toArray, List.set_cons_zero, List.set_cons_succ, i64_w, i32_w]
    rfl
  refine done_ (by kernel_rfl) ?_
  have KB3 := Aside0.mk hHeld.1
  have KO3 := Aside0.mk hHeld.2
  try clear hHeld
  clear KB0 KB1 KB2 KO1 KO2 KE KR KY
  go_wp2_with ((with_reducible refine gate_builtin (b := .append) (xs := #[.tmp 44, .tmp 45]) rfl ?_); apply Aside0.out)
  refine ⟨?_⟩
  refine Row.app_rows (w0 := w) w.heap.size rfl (.tmp 44) (.tmp 45) rfl (.slice A1 32 c1) (bytesB r) l0 A0 l0.length c0 rfl rfl KO3.out (KM.out _ KB3.out.2) KB3.out.2 KB3.out.2.size (by rw [bytesB_len]; omega) ?_
  intro zs A5 c5 w5 e1 e2 e3 h4 h5 e4 hb5 e5 hg7 e7
  have hzl : zs.length = 32 + l0.length := by rw [e3.out, bytesB_len]
  have hk := decK w5 zs A5 c5 e4.out (by rw [e1.out]; exact isB_app (bytesB_isB r) Kl.out) (by omega) h5
  rw [e1.out, KDK.out] at hk
  have KD := Aside0.mk (hk w5 (Below.refl _ _))
  rw [← e1.out] at KD
  have KS5 := Aside0.mk (RB.grown KB3.out KO3.out hb5.out hg7.out)
  obtain ⟨n, hn5⟩ : ∃ n, n = zs.length := ⟨_, rfl⟩
  rw [← hn5] at KD ⊢
  clear e1 e2 e3 h4 h5 e4 hb5 e5 hg7 e7 hzl KB3 KO3 hn5 hk
  go_wp2_with (go_at_call 28; apply Aside0.out)
  refine ⟨?_⟩
  refine KD.out.mono ?_
  rintro e w6 ⟨hb, rfl⟩
  have KS6 := Aside0.mk (RB.then_ KS5.out hb)
  clear hb KD KS5
  have hsz : w.heap.size < w6.heap.size := blk_lt KS6.out.1
  have heq := Bo.eq_self r
  obtain ⟨z0, z1, z2, z3⟩ := box_cells KS6.out.1
  go_wp2_with (first | (go_at_call 26; refine (num_any _ _).mono ?_; rintro e w' ⟨rfl, rfl⟩) | (go_at_call 23; apply Aside0.out))
  refine ⟨?_⟩
  refine (live_any _).mono ?_
  rintro e w9 ⟨rfl, hb9⟩
  go_wp2
  go_ret
  have hBX := below_alloc KS6.out.2 (.cells #[.int .u64 r.seq, .int .i64 r.slot, .int .i64 r.len, .int .u64 r.sum] 45)
  exact ⟨rfl, below_then hBX hBX.size hb9⟩
theorem walk (w : World) (cs0 : Array Value) (x0 : Int × Int × Int × Int) (r0 : ∃ c00 c01, cs0.toList = c00 ++ c01 ∧ ((Kd.int .u64).K w x0.1 c00 ∧ (fun n : Int => (Lit.int .u64 n).wf = true) x0.1) ∧ (∃ c10 c11, c01 = c10 ++ c11 ∧ ((Kd.int .i64).K w x0.2.1 c10 ∧ (fun n : Int => (Lit.int .i64 n).wf = true) x0.2.1) ∧ (∃ c20 c21, c11 = c20 ++ c21 ∧ ((Kd.int .i64).K w x0.2.2.1 c20 ∧ (fun n : Int => (Lit.int .i64 n).wf = true) x0.2.2.1) ∧ ((Kd.int .u64).K w x0.2.2.2 c21 ∧ (fun n : Int => (Lit.int .u64 n).wf = true) x0.2.2.2)))) (A1 : Option Addr) (c1 : Nat) (l1 : List Int) (r1 : Kd.C (Kd.int .u8) w A1 l1.length l1) (k1 : l1.length ≤ c1) (g1 : ∀ v ∈ l1, (fun n : Int => (Lit.int .u8 n).wf = true) v) (m1 : l1.length * 1 ≤ 140737488351232) :
    Calls Try.prog 8 #[.agg cs0, .slice A1 l1.length c1] w fun e w' => e = .returned (.bool true) ∧ Below w.heap.size w w' := by
  obtain ⟨r, rfl, hw⟩ := rec_of r0
  by_cases hn : 300 < l1.length
  · exact big_ w r A1 c1 l1.length hn
  · by_cases hr : right r
    · exact ok_ w r hr hw A1 c1 l1 r1 k1 (isB_of g1) (by omega)
    · exact wrong_ w r hr A1 c1 l1.length (by omega)
end BootEncodes
end Go.Proofs.Ytgplpcjlemjabaa
