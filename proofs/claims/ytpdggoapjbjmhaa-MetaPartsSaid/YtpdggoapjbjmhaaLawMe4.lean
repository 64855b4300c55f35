/- A part of an encoded stream: the plain law and the statement's walk. -/
import Derived.Test.YtpdggoapjbjmhaaMe9
set_option linter.unusedVariables false
set_option linter.unusedSimpArgs false
namespace Go.Proofs.Ytpdggoapjbjmhaa
open Go.RowKit Go.Proofs.Ytpdggoapjbjmhaa.Fd Go.Proofs.Ytpdggoapjbjmhaa.Bg Go.Proofs.Ytpdggoapjbjmhaa.Lz Go.Proofs.Ytpdggoapjbjmhaa.Ma Go.Proofs.Ytpdggoapjbjmhaa.Bk Go.Proofs.Ytpdggoapjbjmhaa.Me Go.Proofs.YtpdggoapjbjmhaaW.PrintWords Go.Proofs.YtpdggoapjbjmhaaW.PrintLast Go.Proofs.YtpdggoapjbjmhaaW.PrintMore
namespace MetaParts
theorem exec_convert {o : Oper} {a : Act} {w : World} (s d : TypeId) (x : Operand) (ho : o.op = .convert s d x) (v u : Value) (hx : a.eval x = v) (hrun : (convert s d v).run Try.prog w = .ok u w) : (execOp a.eval o).run Try.prog w = .ok (.value u) w := by
  unfold execOp
  simp [ho, hx, hrun, Result.andThen]
theorem piece_app (b : List Int) (k : Nat) : b.drop (8192 * k) = piece b k ++ b.drop (8192 * (k + 1)) := by
  unfold piece
  rw [show 8192 * (k + 1) = 8192 * k + 8192 by omega, ← List.drop_drop, List.take_append_drop]
theorem pl_hd (b : List Int) (x k : Nat) : pl (hd b x k) = (piece b k).length := Int.toNat_natCast _
theorem sl_enc {b : List Int} (hb : isB b) (x : Nat) : ∀ (j k a n : Nat), k + j = cnt b.length → sl (encM b x (cnt b.length)) ((List.range' k j).map (hd b x)) a n = (((b.drop (8192 * k)).drop a).take n, 0)
  | 0, k, a, n, h => by
    rw [List.drop_eq_nil_of_le (show b.length ≤ 8192 * k by unfold cnt at h; omega), List.drop_nil, List.take_nil]
    rfl
  | j + 1, k, a, n, h => by
    have e : (List.range' k (j + 1)).map (hd b x) = hd b x k :: (List.range' (k + 1) j).map (hd b x) := rfl
    rw [e, sl, piece_app b k, List.drop_append, pl_hd]
    by_cases h0 : n = 0
    · rw [if_pos h0, h0, List.take_zero]
    rw [if_neg h0]
    by_cases h1 : (piece b k).length ≤ a
    · rw [if_pos h1, sl_enc hb x j (k + 1) _ _ (by omega), List.drop_eq_nil_of_le h1, List.nil_append]
    rw [if_neg h1, chunk_enc hb x _ k (by omega) rfl, if_neg (by simp), sl_enc hb x j (k + 1) _ _ (by omega), List.drop_zero, List.take_append, show a - (piece b k).length = 0 by omega, List.drop_zero]
    unfold pre
    rw [if_pos rfl]
    have e2 : n - (((piece b k).drop a).take n).length = n - ((piece b k).drop a).length := by rw [List.length_take]; omega
    rw [e2]
theorem psm_enc (b : List Int) (x : Nat) : ∀ (j k : Nat), k + j = cnt b.length → psm ((List.range' k j).map (hd b x)) = b.length - 8192 * k
  | 0, k, h => by
    show 0 = _
    unfold cnt at h
    omega
  | j + 1, k, h => by
    have e : (List.range' k (j + 1)).map (hd b x) = hd b x k :: (List.range' (k + 1) j).map (hd b x) := rfl
    have hk : k < cnt b.length := by omega
    obtain ⟨h1, h2⟩ := piece_length b k hk
    rw [e, psm, psm_enc b x j (k + 1) (by omega), pl_hd]
    unfold cnt at hk
    omega
theorem slice_enc {b : List Int} (hb : isB b) (x a n : Nat) (h : a + n ≤ b.length) : slice (encM b x (cnt b.length)) (heads b x) (a : Int) (n : Int) = ((b.drop a).take n, 0) := by
  have h1 := psm_enc b x (cnt b.length) 0 (by omega)
  have h2 := sl_enc hb x (cnt b.length) 0 a n (by omega)
  rw [Nat.mul_zero, List.drop_zero] at h2
  unfold slice heads
  rw [h1, if_neg (by omega), Int.toNat_natCast, Int.toNat_natCast, h2]
theorem heads_bds (b : List Int) (hn : b.length ≤ 40000) (x : Nat) : ∀ c ∈ heads b x, c.f1 ≤ 16777216 ∧ c.f0 ≤ 9223372036854775807 := by
  intro c hc
  unfold heads at hc
  obtain ⟨k, hk, rfl⟩ := List.mem_map.1 hc
  have hk2 : k < cnt b.length := by have := List.mem_range'.1 hk; omega
  have h1 := piece_len b k
  have h2 := encM_bound b x k
  have h3 : (b.take (8192 * k)).length ≤ b.length := by rw [List.length_take]; omega
  have h4 : cnt b.length ≤ 5 := by unfold cnt; omega
  constructor
  · show ((piece b k).length : Int) ≤ _; omega
  · show ((encM b x k).length : Int) ≤ _; omega
theorem encM_short (b : List Int) (hn : b.length ≤ 40000) (x : Nat) : (encM b x (cnt b.length)).length ≤ 41000 ∧ cnt b.length ≤ 5 := by
  have h := encM_bound b x (cnt b.length)
  have h2 : (b.take (8192 * cnt b.length)).length ≤ b.length := by rw [List.length_take]; omega
  have h3 : cnt b.length ≤ 5 := by unfold cnt; omega
  omega
theorem bad_ (w : World) (A0 : Option Addr) (n0 c0 : Nat) (a1 a2 a3 : Int) (hn0 : n0 ≤ 140737488351232) (hi2 : a2 ≤ 9223372036854775807) (hi3 : a3 ≤ 9223372036854775807) (h : (40000 : Int) < n0 ∨ a2 < 0 ∨ a3 < 0 ∨ (n0 : Int) < a2 ∨ (n0 : Int) - a2 < a3) : Calls Try.prog 14 #[.slice A0 n0 c0, .int .u64 a1, .int .i64 a2, .int .i64 a3] w fun e w' => e = .returned (.bool true) ∧ Below w.heap.size w w' := by
  by_cases b1 : n0 > 40000
  · have Kx := Aside0.mk (And.intro hn0 (And.intro hi2 hi3))
    clear h hn0 hi2 hi3
    go_enter Try.func14, Try.ntmps14
    go_wp2_with (go_at_call 28; refine (Me.live_any _).mono ?_; rintro e w' ⟨rfl, hbel⟩)
    go_ret
    exact ⟨rfl, hbel⟩
  by_cases b2 : a2 < 0
  · have f2 : decide (a2 < 0) = true := decide_eq_true b2
    clear h hn0 hi2 hi3
    go_enter Try.func14, Try.ntmps14
    go_wp2_with (go_at_call 28; refine (Me.live_any _).mono ?_; rintro e w' ⟨rfl, hbel⟩)
    go_ret
    exact ⟨rfl, hbel⟩
  by_cases b3 : a3 < 0
  · have f2 : decide (a2 < 0) = false := decide_eq_false b2
    have f3 : decide (a3 < 0) = true := decide_eq_true b3
    clear h hn0 hi2 hi3
    go_enter Try.func14, Try.ntmps14
    go_wp2_with (go_at_call 28; refine (Me.live_any _).mono ?_; rintro e w' ⟨rfl, hbel⟩)
    go_ret
    exact ⟨rfl, hbel⟩
  obtain ⟨a, rfl⟩ := Int.eq_ofNat_of_zero_le (a := a2) (by omega)
  obtain ⟨m, rfl⟩ := Int.eq_ofNat_of_zero_le (a := a3) (by omega)
  by_cases b4 : n0 < a
  · clear h
    go_enter Try.func14, Try.ntmps14
    go_wp2_with (go_at_call 28; refine (Me.live_any _).mono ?_; rintro e w' ⟨rfl, hbel⟩)
    go_ret
    exact ⟨rfl, hbel⟩
  have b5 : (n0 : Int) - (a : Int) < (m : Int) := by omega
  clear h
  go_enter Try.func14, Try.ntmps14
  go_wp2_with (go_at_call 28; refine (Me.live_any _).mono ?_; rintro e w' ⟨rfl, hbel⟩)
  go_ret
  exact ⟨rfl, hbel⟩
set_option maxHeartbeats 2000000 in
set_option maxRecDepth 100000 in
theorem main_ (w : World) (A0 : Option Addr) (c0 : Nat) (l0 : List Int) (r0 : Kd.C (Kd.int .u8) w A0 l0.length l0) (k0 : l0.length ≤ c0) (hl0 : isB l0) (a1 : Int) (a m : Nat) (hn : l0.length ≤ 40000) (ham : a + m ≤ l0.length) : Calls Try.prog 14 #[.slice A0 l0.length c0, .int .u64 a1, .int .i64 a, .int .i64 m] w fun e w' => e = .returned (.bool true) ∧ Below w.heap.size w w' := by
  obtain ⟨x, hx⟩ : ∃ x, x = a1.toNat := ⟨_, rfl⟩
  have hbits := Ma.bits_any a1
  rw [← hx] at hbits
  have KM : Aside0 (∀ w', Below w.heap.size w w' → Kd.C (Kd.int .u8) w' A0 l0.length l0) := ⟨fun w' hB => Kd.C_below r0 hB⟩
  obtain ⟨m1, m2⟩ := encM_short l0 hn x
  have hX := encM_isB hl0 x (cnt l0.length)
  have hhl := heads_len l0 x
  have hhb := heads_bds l0 hn x
  have KL := Aside0.mk (fun (w1 : World) (hb : Below w.heap.size w w1) => encode_any w1 l0 A0 c0 x (Kd.C_below r0 hb) k0 hl0 hn)
  have KD := Aside0.mk (fun (w1 : World) (A : Option Addr) (c : Nat) (hC : Kd.C (Kd.int .u8) w1 A (encM l0 x (cnt l0.length)).length (encM l0 x (cnt l0.length))) (hc : (encM l0 x (cnt l0.length)).length ≤ c) => Me.decode_any w1 (encM l0 x (cnt l0.length)) A c 0 ((encM l0 x (cnt l0.length)).length : Int) (l0.length : Int) hC hc hX (by omega))
  have KH := Aside0.mk (fun (w1 : World) (A : Option Addr) (c : Nat) (hC : Kd.C (Kd.int .u8) w1 A (encM l0 x (cnt l0.length)).length (encM l0 x (cnt l0.length))) (hc : (encM l0 x (cnt l0.length)).length ≤ c) => Me.chunks_any w1 (encM l0 x (cnt l0.length)) A c 0 ((encM l0 x (cnt l0.length)).length : Int) (l0.length : Int) hC hc hX (by omega))
  have KS := Aside0.mk (fun (w1 : World) (A Al : Option Addr) (c cl : Nat) (hC : Kd.C (Kd.int .u8) w1 A (encM l0 x (cnt l0.length)).length (encM l0 x (cnt l0.length))) (hc : (encM l0 x (cnt l0.length)).length ≤ c) (hCl : Kd.C kC w1 Al (heads l0 x).length (heads l0 x)) => slice_go w1 (encM l0 x (cnt l0.length)) A Al c cl (heads l0 x) (a : Int) (m : Int) hC hc hX (by omega) hCl hhb (by omega) _ rfl (by omega))
  rw [decode_enc hl0 hn x] at KD
  rw [chunks_enc hl0 hn x] at KH
  rw [slice_enc hl0 x a m ham] at KS
  simp only at KD KH KS
  obtain ⟨V, hV⟩ : ∃ V, V = (l0.drop a).take m := ⟨_, rfl⟩
  have hVl : V.length = m := by rw [hV, List.length_take, List.length_drop]; omega
  obtain ⟨A8, c8, -, h82, h83⟩ := cut_at A0 c0 l0 a m ham k0
  rw [← hV] at KS h83
  rw [show ((a + m : Nat) : Int) = (a : Int) + (m : Int) by norm_cast] at h82
  have K8 : Aside0 (∀ w', Below w.heap.size w w' → Kd.C (Kd.int .u8) w' A8 m V) := ⟨fun w' hB => h83 w' (KM.out w' hB)⟩
  obtain ⟨H, hH⟩ : ∃ H, H = heads l0 x := ⟨_, rfl⟩
  rw [← hH] at KH KS hhl hhb
  obtain ⟨X, hX2⟩ : ∃ X, X = encM l0 x (cnt l0.length) := ⟨_, rfl⟩
  rw [← hX2] at m1 KL KD KH KS
  obtain ⟨nx, hnx⟩ : ∃ n, n = X.length := ⟨_, rfl⟩
  obtain ⟨n0, hn0⟩ : ∃ n, n = l0.length := ⟨_, rfl⟩
  obtain ⟨nh, hnh⟩ : ∃ n, n = H.length := ⟨_, rfl⟩
  have hnh5 : nh ≤ 5 := by omega
  rw [← hn0] at KL KM KD KH hn ham h82 ⊢
  rw [← hnx] at KD KH KS m1
  rw [← hnh] at KS
  have Kn0 := Aside0.mk (And.intro hn0 (And.intro hnx (And.intro hnh hVl)))
  have Kcut := Aside0.mk h82
  have Ksum : Aside0 (wrap64 ((a : Int) + (m : Int)) = (a : Int) + (m : Int)) := ⟨w64b (by omega) (by omega)⟩
  have b1 : decide ((n0 : Int) > 40000) = false := decide_eq_false (by omega)
  have b4 : ¬ n0 < a := by omega
  have b5 : ¬ (n0 : Int) - (a : Int) < (m : Int) := by omega
  clear r0 hl0 hn0 hX hX2 hH hnx hx hhl hnh hV hVl h83 h82 hhb m2 k0
  go_enter Try.func14, Try.ntmps14
  go_wp2_with (go_at_call 29; apply Aside0.out)
  clear b1 b4 b5
  refine ⟨?_⟩
  refine (KL.out w (Below.refl _ _)).mono ?_
  rintro e w2 ⟨v, rfl, hO, hB2⟩
  have KB2 := Aside0.mk hB2
  obtain ⟨A2, c2, rfl, hc2, hC2⟩ := hO.slice
  rw [← Kn0.out.2.1] at hc2 hC2 ⊢
  have Kc2 := Aside0.mk hc2
  have KX : Aside0 (∀ w', Below w2.heap.size w2 w' → Kd.C (Kd.int .u8) w' A2 nx X) := ⟨fun w' hB => Kd.C_below hC2 hB⟩
  clear hO hB2 hC2 hc2
  go_wp2_with (go_at_call 35; apply Aside0.out)
  refine ⟨?_⟩
  refine (KH.out w2 A2 c2 (KX.out _ (Below.refl _ _)) Kc2.out).mono ?_
  rintro e w3 ⟨v3, rfl, hO3, hB3⟩
  have KB3 := Aside0.mk hB3
  obtain ⟨A3, c3, rfl, -, hC3⟩ := hO3.slice
  rw [← Kn0.out.2.2.1] at hC3 ⊢
  have KHl := Aside0.mk hC3
  clear hO3 hB3 hC3
  go_wp2_with (go_at_call 33; apply Aside0.out)
  refine ⟨?_⟩
  refine (KS.out w3 A2 A3 c2 c3 (KX.out _ KB3.out) Kc2.out KHl.out).mono ?_
  rintro e w4 ⟨v4, rfl, hO4, hB4⟩
  have KB4 := Aside0.mk (below_then KB3.out KB3.out.size hB4)
  obtain ⟨A4, c4, rfl, -, hC4⟩ := hO4.slice
  rw [Kn0.out.2.2.2] at hC4 ⊢
  have KV := Aside0.mk hC4
  clear hO4 hB4 hC4
  go_wp2_with (go_at_call 39; apply Aside0.out)
  refine ⟨?_⟩
  refine (KD.out w4 A2 c2 (KX.out _ KB4.out) Kc2.out).mono ?_
  rintro e w5 ⟨v5, rfl, hO5, hB5⟩
  have KB5 : Aside0 (Below w.heap.size w w5) := ⟨below_then KB2.out KB2.out.size (below_then KB4.out KB4.out.size hB5)⟩
  obtain ⟨A5, c5, rfl, -, hC5⟩ := hO5.slice
  rw [← Kn0.out.1] at hC5 ⊢
  have KY : Aside0 (∀ w', Below w5.heap.size w5 w' → Kd.C (Kd.int .u8) w' A4 m V ∧ Kd.C (Kd.int .u8) w' A5 n0 l0) := ⟨fun w' hB => ⟨Kd.C_below (Kd.C_below KV.out hB5) hB, Kd.C_below hC5 hB⟩⟩
  clear hO5 hB5 hC5
  go_wp2
  refine start_ (n := 32) (S := fun w' => Below w.heap.size w w' ∧ Below w5.heap.size w5 w') (ds := []) #[false, false, false, false, false, false, false, false, false, false, false, false, false, false, false, false, false, false, false, false, false, false, false, false, false, false, false, false, false, false, false, false] (by kernel_rfl) rfl rfl ⟨(show Below w.heap.size w w5.drew from below_drew KB5.out), (show Below w5.heap.size w5 w5.drew from below_drew (Below.refl _ _))⟩ (fun hHeld => ?_)
  refine pure_ (i := 0) (N := some 76) (v := ?_) (a' := ?_) #[true, false, false, false, false, false, false, false, false, false, false, false, false, false, false, false, false, false, false, false, false, false, false, false, false, false, false, false, false, false, false, false] rfl rfl (by kernel_rfl) (fun _ _ _ h => h) (Or.inl ⟨by rfl, ?_⟩) ?_ ?_
  rotate_left
  · intro w'
    go_simp
    with_reducible rfl
  rotate_left
  · simp only [Act.put, List.setIfInBounds_toArray, List.set_cons_zero, List.set_cons_succ, i64_w, i32_w]
    rfl
  refine pure_ (i := 2) (N := some 78) (v := ?_) (a' := ?_) #[true, false, true, false, false, false, false, false, false, false, false, false, false, false, false, false, false, false, false, false, false, false, false, false, false, false, false, false, false, false, false, false] rfl rfl (by kernel_rfl) (fun _ _ _ h => h) (Or.inl ⟨by rfl, ?_⟩) ?_ ?_
  rotate_left
  · intro w'
    go_simp
    with_reducible rfl
  rotate_left
  · simp only [Act.put, List.setIfInBounds_toArray, List.set_cons_zero, List.set_cons_succ, i64_w, i32_w]
    rfl
  refine pure_ (i := 5) (N := some 81) (v := ?_) (a' := ?_) #[true, false, true, false, false, true, false, false, false, false, false, false, false, false, false, false, false, false, false, false, false, false, false, false, false, false, false, false, false, false, false, false] rfl rfl (by kernel_rfl) (fun _ _ _ h => h) (Or.inl ⟨by rfl, ?_⟩) ?_ ?_
  rotate_left
  · intro w'
    go_simp
    with_reducible rfl
  rotate_left
  · simp only [Act.put, List.setIfInBounds_toArray, List.set_cons_zero, List.set_cons_succ, i64_w, i32_w]
    rfl
  refine one_ (i := 1) (N := some 77) #[true, true, true, false, false, true, false, false, false, false, false, false, false, false, false, false, false, false, false, false, false, false, false, false, false, false, false, false, false, false, false, false] rfl rfl (by kernel_rfl) (by decide) (fun K hK => ?_)
  refine goes_ Try.func32 (by kernel_rfl) rfl #[.int .i64 0] (by rfl) rfl rfl (by simp only [List.map_toArray, List.map_cons, List.map_nil]; rfl) ?_
  with_reducible refine (Me.num_any _ _).mono ?_
  rintro e w11 ⟨rfl, rfl⟩
  refine ⟨_, rfl, ?_⟩
  refine hK.out _ _ ⟨hHeld.1, hHeld.2⟩ (fun hHeld => ?_)
  clear hK K
  refine norm_ (a' := ?_) ?_ ?_
  rotate_left
  · show Act.put _ (some 77) _ = _
    simp only [Act.put, List.setIfInBounds_toArray, List.set_cons_zero, List.set_cons_succ, i64_w, i32_w]
    rfl
  refine one_ (i := 3) (N := some 79) #[true, true, true, true, false, true, false, false, false, false, false, false, false, false, false, false, false, false, false, false, false, false, false, false, false, false, false, false, false, false, false, false] rfl rfl (by kernel_rfl) (by decide) (fun K hK => ?_)
  refine goes_ Try.func32 (by kernel_rfl) rfl #[.int .i64 0] (by rfl) rfl rfl (by simp only [List.map_toArray, List.map_cons, List.map_nil]; rfl) ?_
  with_reducible refine (Me.num_any _ _).mono ?_
  rintro e w13 ⟨rfl, rfl⟩
  refine ⟨_, rfl, ?_⟩
  refine hK.out _ _ ⟨hHeld.1, hHeld.2⟩ (fun hHeld => ?_)
  clear hK K
  refine norm_ (a' := ?_) ?_ ?_
  rotate_left
  · show Act.put _ (some 79) _ = _
    simp only [Act.put, List.setIfInBounds_toArray, List.set_cons_zero, List.set_cons_succ, i64_w, i32_w]
    rfl
  refine pure_ (i := 4) (N := some 80) (v := .int .i64 0) (a' := ?_) #[true, true, true, true, true, true, false, false, false, false, false, false, false, false, false, false, false, false, false, false, false, false, false, false, false, false, false, false, false, false, false, false] rfl rfl (by kernel_rfl) (fun _ _ _ h => h) (Or.inl ⟨by rfl, ?_⟩) ?_ ?_
  · intro w'
    go_simp
    (try rfl)
  rotate_left
  · simp only [Act.put, List.setIfInBounds_toArray, List.set_cons_zero, List.set_cons_succ, i64_w, i32_w]
    rfl
  refine one_ (i := 6) (N := some 82) #[true, true, true, true, true, true, true, false, false, false, false, false, false, false, false, false, false, false, false, false, false, false, false, false, false, false, false, false, false, false, false, false] rfl rfl (by kernel_rfl) (by decide) (fun K hK => ?_)
  refine goes_ Try.func32 (by kernel_rfl) rfl #[.int .i64 0] (by rfl) rfl rfl (by simp only [List.map_toArray, List.map_cons, List.map_nil]; rfl) ?_
  with_reducible refine (Me.num_any _ _).mono ?_
  rintro e w16 ⟨rfl, rfl⟩
  refine ⟨_, rfl, ?_⟩
  refine hK.out _ _ ⟨hHeld.1, hHeld.2⟩ (fun hHeld => ?_)
  clear hK K
  refine norm_ (a' := ?_) ?_ ?_
  rotate_left
  · show Act.put _ (some 82) _ = _
    simp only [Act.put, List.setIfInBounds_toArray, List.set_cons_zero, List.set_cons_succ, i64_w, i32_w]
    rfl
  refine pure_ (i := 7) (N := some 83) (v := .int .i64 0) (a' := ?_) #[true, true, true, true, true, true, true, true, false, false, false, false, false, false, false, false, false, false, false, false, false, false, false, false, false, false, false, false, false, false, false, false] rfl rfl (by kernel_rfl) (fun _ _ _ h => h) (Or.inl ⟨by rfl, ?_⟩) ?_ ?_
  · intro w'
    go_simp
    (try rfl)
  rotate_left
  · simp only [Act.put, List.setIfInBounds_toArray, List.set_cons_zero, List.set_cons_succ, i64_w, i32_w]
    rfl
  refine pure_ (i := 8) (N := some 84) (v := .bool true) (a' := ?_) #[true, true, true, true, true, true, true, true, true, false, false, false, false, false, false, false, false, false, false, false, false, false, false, false, false, false, false, false, false, false, false, false] rfl rfl (by kernel_rfl) (fun _ _ _ h => h) (Or.inl ⟨by rfl, ?_⟩) ?_ ?_
  · intro w'
    go_simp
    (try rfl)
  rotate_left
  · simp only [Act.put, List.setIfInBounds_toArray, List.set_cons_zero, List.set_cons_succ, i64_w, i32_w]
    rfl
  refine pure_ (i := 9) (N := some 85) (v := ?_) (a' := ?_) #[true, true, true, true, true, true, true, true, true, true, false, false, false, false, false, false, false, false, false, false, false, false, false, false, false, false, false, false, false, false, false, false] rfl rfl (by kernel_rfl) (fun _ _ _ h => h) (Or.inl ⟨by rfl, ?_⟩) ?_ ?_
  rotate_left
  · intro w'
    go_simp
    with_reducible rfl
  rotate_left
  · simp only [Act.put, List.setIfInBounds_toArray, List.set_cons_zero, List.set_cons_succ, i64_w, i32_w]
    rfl
  refine pure_ (i := 10) (N := some 86) (v := ?_) (a' := ?_) #[true, true, true, true, true, true, true, true, true, true, true, false, false, false, false, false, false, false, false, false, false, false, false, false, false, false, false, false, false, false, false, false] rfl rfl (by kernel_rfl) (fun _ _ _ h => h) (Or.inl ⟨by rfl, ?_⟩) ?_ ?_
  rotate_left
  · intro w'
    go_simp
    with_reducible rfl
  rotate_left
  · simp only [Act.put, List.setIfInBounds_toArray, List.set_cons_zero, List.set_cons_succ, i64_w, i32_w]
    rfl
  refine pure_ (i := 12) (N := some 88) (v := ?_) (a' := ?_) #[true, true, true, true, true, true, true, true, true, true, true, false, true, false, false, false, false, false, false, false, false, false, false, false, false, false, false, false, false, false, false, false] rfl rfl (by kernel_rfl) (fun _ _ _ h => h) (Or.inl ⟨by rfl, ?_⟩) ?_ ?_
  rotate_left
  · intro w'
    go_simp
    with_reducible rfl
  rotate_left
  · simp only [Act.put, List.setIfInBounds_toArray, List.set_cons_zero, List.set_cons_succ, i64_w, i32_w]
    rfl
  refine pure_ (i := 13) (N := some 89) (v := ?_) (a' := ?_) #[true, true, true, true, true, true, true, true, true, true, true, false, true, true, false, false, false, false, false, false, false, false, false, false, false, false, false, false, false, false, false, false] rfl rfl (by kernel_rfl) (fun _ _ _ h => h) (Or.inl ⟨by rfl, ?_⟩) ?_ ?_
  rotate_left
  · intro w'
    go_simp
    with_reducible rfl
  rotate_left
  · simp only [Act.put, List.setIfInBounds_toArray, List.set_cons_zero, List.set_cons_succ, i64_w, i32_w]
    rfl
  refine pure_ (i := 14) (N := some 90) (v := ?_) (a' := ?_) #[true, true, true, true, true, true, true, true, true, true, true, false, true, true, true, false, false, false, false, false, false, false, false, false, false, false, false, false, false, false, false, false] rfl rfl (by kernel_rfl) (fun _ _ _ h => h) (Or.inl ⟨by rfl, ?_⟩) ?_ ?_
  rotate_left
  · intro w'
    go_simp
    with_reducible rfl
  rotate_left
  · simp only [Act.put, List.setIfInBounds_toArray, List.set_cons_zero, List.set_cons_succ, i64_w, i32_w]
    rfl
  refine pure_ (i := 15) (N := some 91) (v := ?_) (a' := ?_) #[true, true, true, true, true, true, true, true, true, true, true, false, true, true, true, true, false, false, false, false, false, false, false, false, false, false, false, false, false, false, false, false] rfl rfl (by kernel_rfl) (fun _ _ _ h => h) (Or.inl ⟨by rfl, ?_⟩) ?_ ?_
  rotate_left
  · intro w'
    go_simp
    with_reducible rfl
  rotate_left
  · simp only [Act.put, List.setIfInBounds_toArray, List.set_cons_zero, List.set_cons_succ, i64_w, i32_w]
    rfl
  refine pure_ (i := 16) (N := some 92) (v := .int .i64 ((a : Int) + (m : Int))) (a' := ?_) #[true, true, true, true, true, true, true, true, true, true, true, false, true, true, true, true, true, false, false, false, false, false, false, false, false, false, false, false, false, false, false, false] rfl rfl (by kernel_rfl) (fun _ _ _ h => h) (Or.inl ⟨by rfl, ?_⟩) ?_ ?_
  · intro w'
    (have hw := Ksum.out)
    go_simp
    (try simp only [i64_w, hw])
    (try rfl)
  rotate_left
  · simp only [Act.put, List.setIfInBounds_toArray, List.set_cons_zero, List.set_cons_succ, i64_w, i32_w]
    rfl
  refine pure_ (i := 17) (N := some 93) (v := .slice A8 m c8) (a' := ?_) #[true, true, true, true, true, true, true, true, true, true, true, false, true, true, true, true, true, true, false, false, false, false, false, false, false, false, false, false, false, false, false, false] rfl rfl (by kernel_rfl) (fun _ _ _ h => h) (Or.inl ⟨by rfl, ?_⟩) ?_ ?_
  · intro w'
    (have hcut := Kcut.out)
    go_simp
    (try simp only [hcut])
    (try rfl)
  rotate_left
  · simp only [Act.put, List.setIfInBounds_toArray, List.set_cons_zero, List.set_cons_succ, i64_w, i32_w]
    rfl
  refine take_ (i := 11) (N := some 87) (v := .string (strOfNums V)) (a' := ?_) #[true, true, true, true, true, true, true, true, true, true, true, true, true, true, true, true, true, true, false, false, false, false, false, false, false, false, false, false, false, false, false, false] rfl rfl (by kernel_rfl) (fun _ _ _ h => h) (Or.inl ⟨by rfl, ?_⟩) hHeld ?_ ?_
  · rintro w' ⟨s0, s1⟩
    exact exec_convert 37 9 (Operand.tmp 86) (by rfl) _ _ (by rfl) (Kd.C_string (P := Try.prog) Try.underlying37 Try.underlying5 Try.underlying9 (KY.out _ s1).1)
  rotate_left
  · simp only [Act.put, List.setIfInBounds_toArray, List.set_cons_zero, List.set_cons_succ, i64_w, i32_w]
    rfl
  refine take_ (i := 18) (N := some 94) (v := .string (strOfNums V)) (a' := ?_) #[true, true, true, true, true, true, true, true, true, true, true, true, true, true, true, true, true, true, true, false, false, false, false, false, false, false, false, false, false, false, false, false] rfl rfl (by kernel_rfl) (fun _ _ _ h => h) (Or.inl ⟨by rfl, ?_⟩) hHeld ?_ ?_
  · rintro w' ⟨s0, s1⟩
    exact exec_convert 37 9 (Operand.tmp 93) (by rfl) _ _ (by rfl) (Kd.C_string (P := Try.prog) Try.underlying37 Try.underlying5 Try.underlying9 (K8.out _ s0))
  rotate_left
  · simp only [Act.put, List.setIfInBounds_toArray, List.set_cons_zero, List.set_cons_succ, i64_w, i32_w]
    rfl
  refine pure_ (i := 19) (N := some 95) (v := .bool true) (a' := ?_) #[true, true, true, true, true, true, true, true, true, true, true, true, true, true, true, true, true, true, true, true, false, false, false, false, false, false, false, false, false, false, false, false] rfl rfl (by kernel_rfl) (fun _ _ _ h => h) (Or.inl ⟨by rfl, ?_⟩) ?_ ?_
  · intro w'
    go_simp
  rotate_left
  · simp only [Act.put, List.setIfInBounds_toArray, List.set_cons_zero, List.set_cons_succ, i64_w, i32_w]
    rfl
  refine pure_ (i := 20) (N := some 96) (v := ?_) (a' := ?_) #[true, true, true, true, true, true, true, true, true, true, true, true, true, true, true, true, true, true, true, true, true, false, false, false, false, false, false, false, false, false, false, false] rfl rfl (by kernel_rfl) (fun _ _ _ h => h) (Or.inl ⟨by rfl, ?_⟩) ?_ ?_
  rotate_left
  · intro w'
    go_simp
    with_reducible rfl
  rotate_left
  · simp only [Act.put, List.setIfInBounds_toArray, List.set_cons_zero, List.set_cons_succ, i64_w, i32_w]
    rfl
  refine pure_ (i := 21) (N := some 97) (v := ?_) (a' := ?_) #[true, true, true, true, true, true, true, true, true, true, true, true, true, true, true, true, true, true, true, true, true, true, false, false, false, false, false, false, false, false, false, false] rfl rfl (by kernel_rfl) (fun _ _ _ h => h) (Or.inl ⟨by rfl, ?_⟩) ?_ ?_
  rotate_left
  · intro w'
    go_simp
    with_reducible rfl
  rotate_left
  · simp only [Act.put, List.setIfInBounds_toArray, List.set_cons_zero, List.set_cons_succ, i64_w, i32_w]
    rfl
  refine pure_ (i := 22) (N := some 98) (v := ?_) (a' := ?_) #[true, true, true, true, true, true, true, true, true, true, true, true, true, true, true, true, true, true, true, true, true, true, true, false, false, false, false, false, false, false, false, false] rfl rfl (by kernel_rfl) (fun _ _ _ h => h) (Or.inl ⟨by rfl, ?_⟩) ?_ ?_
  rotate_left
  · intro w'
    go_simp
    with_reducible rfl
  rotate_left
  · simp only [Act.put, List.setIfInBounds_toArray, List.set_cons_zero, List.set_cons_succ, i64_w, i32_w]
    rfl
  refine pure_ (i := 24) (N := some 100) (v := ?_) (a' := ?_) #[true, true, true, true, true, true, true, true, true, true, true, true, true, true, true, true, true, true, true, true, true, true, true, false, true, false, false, false, false, false, false, false] rfl rfl (by kernel_rfl) (fun _ _ _ h => h) (Or.inl ⟨by rfl, ?_⟩) ?_ ?_
  rotate_left
  · intro w'
    go_simp
    with_reducible rfl
  rotate_left
  · simp only [Act.put, List.setIfInBounds_toArray, List.set_cons_zero, List.set_cons_succ, i64_w, i32_w]
    rfl
  refine take_ (i := 23) (N := some 99) (v := .string (strOfNums l0)) (a' := ?_) #[true, true, true, true, true, true, true, true, true, true, true, true, true, true, true, true, true, true, true, true, true, true, true, true, true, false, false, false, false, false, false, false] rfl rfl (by kernel_rfl) (fun _ _ _ h => h) (Or.inl ⟨by rfl, ?_⟩) hHeld ?_ ?_
  · rintro w' ⟨s0, s1⟩
    exact exec_convert 37 9 (Operand.tmp 98) (by rfl) _ _ (by rfl) (Kd.C_string (P := Try.prog) Try.underlying37 Try.underlying5 Try.underlying9 (KY.out _ s1).2)
  rotate_left
  · simp only [Act.put, List.setIfInBounds_toArray, List.set_cons_zero, List.set_cons_succ, i64_w, i32_w]
    rfl
  refine take_ (i := 25) (N := some 101) (v := .string (strOfNums l0)) (a' := ?_) #[true, true, true, true, true, true, true, true, true, true, true, true, true, true, true, true, true, true, true, true, true, true, true, true, true, true, false, false, false, false, false, false] rfl rfl (by kernel_rfl) (fun _ _ _ h => h) (Or.inl ⟨by rfl, ?_⟩) hHeld ?_ ?_
  · rintro w' ⟨s0, s1⟩
    exact exec_convert 37 9 (Operand.tmp 100) (by rfl) _ _ (by rfl) (Kd.C_string (P := Try.prog) Try.underlying37 Try.underlying5 Try.underlying9 (KM.out _ s0))
  rotate_left
  · simp only [Act.put, List.setIfInBounds_toArray, List.set_cons_zero, List.set_cons_succ, i64_w, i32_w]
    rfl
  refine pure_ (i := 26) (N := some 102) (v := .bool true) (a' := ?_) #[true, true, true, true, true, true, true, true, true, true, true, true, true, true, true, true, true, true, true, true, true, true, true, true, true, true, true, false, false, false, false, false] rfl rfl (by kernel_rfl) (fun _ _ _ h => h) (Or.inl ⟨by rfl, ?_⟩) ?_ ?_
  · intro w'
    go_simp
  rotate_left
  · simp only [Act.put, List.setIfInBounds_toArray, List.set_cons_zero, List.set_cons_succ, i64_w, i32_w]
    rfl
  refine pure_ (i := 27) (N := some 103) (v := ?_) (a' := ?_) #[true, true, true, true, true, true, true, true, true, true, true, true, true, true, true, true, true, true, true, true, true, true, true, true, true, true, true, true, false, false, false, false] rfl rfl (by kernel_rfl) (fun _ _ _ h => h) (Or.inl ⟨by rfl, ?_⟩) ?_ ?_
  rotate_left
  · intro w'
    go_simp
    with_reducible rfl
  rotate_left
  · simp only [Act.put, List.setIfInBounds_toArray, List.set_cons_zero, List.set_cons_succ, i64_w, i32_w]
    rfl
  refine pure_ (i := 28) (N := some 104) (v := ?_) (a' := ?_) #[true, true, true, true, true, true, true, true, true, true, true, true, true, true, true, true, true, true, true, true, true, true, true, true, true, true, true, true, true, false, false, false] rfl rfl (by kernel_rfl) (fun _ _ _ h => h) (Or.inl ⟨by rfl, ?_⟩) ?_ ?_
  rotate_left
  · intro w'
    go_simp
    with_reducible rfl
  rotate_left
  · simp only [Act.put, List.setIfInBounds_toArray, List.set_cons_zero, List.set_cons_succ, i64_w, i32_w]
    rfl
  refine one_ (i := 29) (N := some 105) #[true, true, true, true, true, true, true, true, true, true, true, true, true, true, true, true, true, true, true, true, true, true, true, true, true, true, true, true, true, true, false, false] rfl rfl (by kernel_rfl) (by decide) (fun K hK => ?_)
  refine goes_ Try.func28 (by kernel_rfl) rfl #[] (by rfl) rfl rfl (by simp) ?_
  with_reducible refine (Me.live_any _).mono ?_
  rintro e w39 ⟨rfl, hb9⟩
  refine ⟨_, rfl, ?_⟩
  refine hK.out _ _ ⟨below_then hHeld.1 hHeld.1.size hb9, below_then hHeld.2 hHeld.2.size hb9⟩ (fun hHeld => ?_)
  clear hK K
  refine norm_ (a' := ?_) ?_ ?_
  rotate_left
  · show Act.put _ (some 105) _ = _
    simp only [Act.put, List.setIfInBounds_toArray, List.set_cons_zero, List.set_cons_succ, i64_w, i32_w]
    rfl
  refine pure_ (i := 30) (N := some 106) (v := ?_) (a' := ?_) #[true, true, true, true, true, true, true, true, true, true, true, true, true, true, true, true, true, true, true, true, true, true, true, true, true, true, true, true, true, true, true, false] rfl rfl (by kernel_rfl) (fun _ _ _ h => h) (Or.inl ⟨by rfl, ?_⟩) ?_ ?_
  rotate_left
  · intro w'
    go_simp
    with_reducible rfl
  rotate_left
  · simp only [Act.put, List.setIfInBounds_toArray, List.set_cons_zero, List.set_cons_succ, i64_w, i32_w]
    rfl
  refine pure_ (i := 31) (N := some 8) (v := ?_) (a' := ?_) #[true, true, true, true, true, true, true, true, true, true, true, true, true, true, true, true, true, true, true, true, true, true, true, true, true, true, true, true, true, true, true, true] rfl rfl (by kernel_rfl) (fun _ _ _ h => h) (Or.inl ⟨by rfl, ?_⟩) ?_ ?_
  rotate_left
  · intro w'
    go_simp
    with_reducible rfl
  rotate_left
  · simp only [Act.put, List.setIfInBounds_toArray, List.set_cons_zero, List.set_cons_succ, i64_w, i32_w]
    rfl
  refine done_ (by kernel_rfl) ?_
  have KB9 := Aside0.mk hHeld.1
  clear hHeld
  go_wp2
  go_ret
  exact ⟨rfl, KB9.out⟩
theorem walk (w : World) (A0 : Option Addr) (c0 : Nat) (l0 : List Int) (r0 : Kd.C (Kd.int .u8) w A0 l0.length l0) (k0 : l0.length ≤ c0) (g0 : ∀ v ∈ l0, (fun n : Int => (Lit.int .u8 n).wf = true) v) (m0 : l0.length * 1 ≤ 140737488351232) (a1 : Int) (w1 : (Lit.int .u64 a1).wf = true) (a2 : Int) (w2 : (Lit.int .i64 a2).wf = true) (a3 : Int) (w3 : (Lit.int .i64 a3).wf = true) :
    Calls Try.prog 14 #[.slice A0 l0.length c0, .int .u64 a1, .int .i64 a2, .int .i64 a3] w fun e w' => e = .returned (.bool true) ∧ Below w.heap.size w w' := by
  have hb : isB l0 := fun x hx => by
    have := g0 x hx
    have e1 : IntKind.u8.min = 0 := by decide
    have e2 : IntKind.u8.max = 255 := by decide
    simp only [Lit.wf, e1, e2, Bool.and_eq_true, decide_eq_true_eq] at this
    omega
  have i2 := Go.bounds_i64 w2
  have i3 := Go.bounds_i64 w3
  by_cases h : (40000 : Int) < l0.length ∨ a2 < 0 ∨ a3 < 0 ∨ (l0.length : Int) < a2 ∨ (l0.length : Int) - a2 < a3
  · exact bad_ w A0 l0.length c0 a1 a2 a3 (by omega) (by omega) (by omega) h
  · obtain ⟨a, rfl⟩ := Int.eq_ofNat_of_zero_le (a := a2) (by omega)
    obtain ⟨m, rfl⟩ := Int.eq_ofNat_of_zero_le (a := a3) (by omega)
    exact main_ w A0 c0 l0 r0 k0 hb a1 a m (by omega) (by omega)
end MetaParts
end Go.Proofs.Ytpdggoapjbjmhaa
