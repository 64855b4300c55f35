/- A chunk's stored bytes with bits of a burst turned: the statement's walk. -/
import Derived.Test.YtpdggoapjbjmhaaMeD
set_option linter.unusedVariables false
set_option linter.unusedSimpArgs false
namespace Go.Proofs.Ytpdggoapjbjmhaa
open Go.RowKit Go.Proofs.Ytpdggoapjbjmhaa.Fd Go.Proofs.Ytpdggoapjbjmhaa.Bg Go.Proofs.Ytpdggoapjbjmhaa.Lz Go.Proofs.Ytpdggoapjbjmhaa.Ma Go.Proofs.Ytpdggoapjbjmhaa.Bk Go.Proofs.Ytpdggoapjbjmhaa.Me Go.Proofs.YtpdggoapjbjmhaaW.PrintWords Go.Proofs.YtpdggoapjbjmhaaW.PrintLast Go.Proofs.YtpdggoapjbjmhaaW.PrintMore
namespace MetaBursts
theorem encM_short (b : List Int) (hn : b.length ≤ 40000) (x : Nat) : (encM b x (cnt b.length)).length ≤ 41000 ∧ cnt b.length ≤ 5 := by
  have h := encM_bound b x (cnt b.length)
  have h2 : (b.take (8192 * cnt b.length)).length ≤ b.length := by rw [List.length_take]; omega
  have h3 : cnt b.length ≤ 5 := by unfold cnt; omega
  omega
theorem big_ (w : World) (A0 : Option Addr) (c0 n0 : Nat) (a1 a2 a3 : Int) (u : Nat) (h : n0 > 40000 ∨ u = 0) : Calls Try.prog 13 #[.slice A0 n0 c0, .int .u64 a1, .int .u8 a2, .int .u16 a3, .int .u32 u] w fun e w' => e = .returned (.bool true) ∧ Below w.heap.size w w' := by
  by_cases b1 : n0 > 40000
  · clear h
    go_enter Try.func13, Try.ntmps13
    go_wp2_with (go_at_call 28; refine (Me.live_any _).mono ?_; rintro e w' ⟨rfl, hbel⟩)
    go_ret
    exact ⟨rfl, hbel⟩
  · have b2 : u = 0 := by omega
    subst b2
    clear h
    go_enter Try.func13, Try.ntmps13
    go_wp2_with (go_at_call 28; refine (Me.live_any _).mono ?_; rintro e w' ⟨rfl, hbel⟩)
    go_ret
    exact ⟨rfl, hbel⟩
set_option maxHeartbeats 4000000 in
set_option maxRecDepth 100000 in
theorem main_ (w : World) (A0 : Option Addr) (c0 : Nat) (l0 : List Int) (r0 : Kd.C (Kd.int .u8) w A0 l0.length l0) (k0 : l0.length ≤ c0) (hl0 : isB l0) (a1 : Int) (wh p b : Nat) (hn : l0.length ≤ 40000) (hwh : wh < 256) (hp16 : p < 65536) (hb0 : b ≠ 0) (hb32 : b < 4294967296) : Calls Try.prog 13 #[.slice A0 l0.length c0, .int .u64 a1, .int .u8 wh, .int .u16 p, .int .u32 b] w fun e w' => e = .returned (.bool true) ∧ Below w.heap.size w w' := by
  obtain ⟨x, hx⟩ : ∃ x, x = a1.toNat := ⟨_, rfl⟩
  have hbits := Ma.bits_any a1
  rw [← hx] at hbits
  obtain ⟨m1, m2⟩ := encM_short l0 hn x
  have hge := encM_ge l0 x (cnt l0.length)
  have hX := encM_isB hl0 x (cnt l0.length)
  have hhl := heads_len l0 x
  have hcn : cnt l0.length = 0 → l0.length = 0 := fun h => by unfold cnt at h; omega
  have KL := Aside0.mk (fun (w1 : World) (hb : Below w.heap.size w w1) => encode_any w1 l0 A0 c0 x (Kd.C_below r0 hb) k0 hl0 hn)
  have KH := Aside0.mk (fun (w1 : World) (A : Option Addr) (c : Nat) (hC : Kd.C (Kd.int .u8) w1 A (encM l0 x (cnt l0.length)).length (encM l0 x (cnt l0.length))) (hc : (encM l0 x (cnt l0.length)).length ≤ c) => rchunks_any w1 (encM l0 x (cnt l0.length)) A c 0 ((encM l0 x (cnt l0.length)).length : Int) (l0.length : Int) hC hc hX (by omega))
  rw [chunks_enc hl0 hn x] at KH
  simp only at KH
  have Kget : Aside0 (∀ k, k < cnt l0.length → (heads l0 x).drop k = hd l0 x k :: (heads l0 x).drop (k + 1)) := ⟨heads_get l0 x⟩
  have Ksp : Aside0 (∀ k, k < cnt l0.length → ∃ (at0 nd o : Nat) (pr D po : List Int), encM l0 x (cnt l0.length) = pr ++ D ++ po ∧ pr.length = o ∧ D.length = nd ∧ o = at0 + 8 ∧ at0 + 8 + nd ≤ 41000 ∧ (hd l0 x k).f0 = (at0 : Int) ∧ (hd l0 x k).f2 = (nd : Int) ∧ isB D ∧ 1 ≤ nd ∧ ∀ (es : List Int) (wr : World) (A : Option Addr) (c : Nat), es.length = nd → isB es → Sum.crc 0 es ≠ Sum.crc 0 D → Kd.C (Kd.int .u8) wr A (encM l0 x (cnt l0.length)).length (pr ++ es ++ po) → (encM l0 x (cnt l0.length)).length ≤ c → Calls Try.prog 37 #[.slice A (encM l0 x (cnt l0.length)).length c, .agg #[.int .i64 (hd l0 x k).f0, .int .i64 (hd l0 x k).f1, .int .i64 (hd l0 x k).f2, .bool (hd l0 x k).f3, .int .u32 (hd l0 x k).f4]] wr (fun e w' => ∃ A1 c1, e = .returned (.tuple #[.slice A1 0 c1, .int .i64 140]) ∧ Below wr.heap.size wr w') ∧ Calls Try.prog 39 #[.slice A (encM l0 x (cnt l0.length)).length c, .int .i64 0, .int .i64 ((encM l0 x (cnt l0.length)).length : Int), .int .i64 (l0.length : Int)] wr (fun e w' => ∃ A1 c1, e = .returned (.tuple #[.slice A1 0 c1, .int .i64 140]) ∧ Below wr.heap.size wr w')) := ⟨fun k hk => by
    obtain ⟨pr, po, h1, h2⟩ := split_enc (b := l0) x k hk
    have h3 := piece_len l0 k
    have g3 := encM_next l0 x k
    have g4 := encM_mono l0 x (k + 1) (cnt l0.length - (k + 1))
    rw [show k + 1 + (cnt l0.length - (k + 1)) = cnt l0.length by omega] at g4
    refine ⟨(encM l0 x k).length, (dtm (piece l0 k) x).length, pr.length, pr, dtm (piece l0 k) x, po, h1, rfl, rfl, h2, by omega, rfl, rfl, dtm_isB (piece_isB hl0 k) h3 x, dtm_pos (piece_isB hl0 k) h3 x (piece_length l0 k hk).2, ?_⟩
    intro es wr A c hel hes hne hC hc
    have ht := turned_enc hl0 hn x k hk h1 h2 hel hne
    have hzl : (pr ++ es ++ po).length = (encM l0 x (cnt l0.length)).length := by rw [h1]; simp only [List.length_append, hel]
    have hzb : isB (pr ++ es ++ po) := by
      rw [h1] at hX
      exact isB_app (isB_app (fun y hy => hX y (by simp [hy])) hes) (fun y hy => hX y (by simp [hy]))
    have q1 := chunk_any wr (pr ++ es ++ po) A c (hd l0 x k) (by rw [hzl]; exact hC) (by rw [hzl]; exact hc) hzb (by rw [hzl]; omega) (by show ((encM l0 x k).length : Int) ≤ _; omega)
    have q2 := Me.decode_any wr (pr ++ es ++ po) A c 0 ((pr ++ es ++ po).length : Int) (l0.length : Int) (by rw [hzl]; exact hC) (by rw [hzl]; exact hc) hzb (by rw [hzl]; omega)
    rw [ht.1, hzl] at q1
    rw [ht.2, hzl] at q2
    refine ⟨q1.mono ?_, q2.mono ?_⟩
    · rintro e w' ⟨v, rfl, hO, hB⟩
      obtain ⟨A1, c1, rfl, -, -⟩ := hO.slice
      exact ⟨A1, c1, rfl, hB⟩
    · rintro e w' ⟨v, rfl, hO, hB⟩
      obtain ⟨A1, c1, rfl, -, -⟩ := hO.slice
      exact ⟨A1, c1, rfl, hB⟩⟩
  obtain ⟨q, hq⟩ : ∃ q, q = cnt l0.length := ⟨_, rfl⟩
  rw [← hq] at m1 m2 hge hX hhl hcn KL KH Kget Ksp
  obtain ⟨X, hX2⟩ : ∃ X, X = encM l0 x q := ⟨_, rfl⟩
  rw [← hX2] at m1 hge hX KL KH Ksp
  obtain ⟨H, hH⟩ : ∃ H, H = heads l0 x := ⟨_, rfl⟩
  rw [← hH] at KH hhl Kget
  obtain ⟨nx, hnx⟩ : ∃ n, n = X.length := ⟨_, rfl⟩
  obtain ⟨n0, hn0⟩ : ∃ n, n = l0.length := ⟨_, rfl⟩
  rw [← hn0] at KL KH Ksp hn hcn ⊢
  rw [← hnx] at KH Ksp m1 hge
  have Kn := Aside0.mk (And.intro hn0 (And.intro hnx hhl))
  have KXb := Aside0.mk hX
  have b1 : ¬ n0 > 40000 := by omega
  have b2 : ((b : Int) == 0) = false := by simp; omega
  have HBZ := Aside0.mk hb0
  clear r0 hl0 hn0 hX hX2 hH hq hnx hx hhl hb0 k0
  go_enter Try.func13, Try.ntmps13
  go_wp2_with (go_at_call 29; apply Aside0.out)
  refine ⟨?_⟩
  refine (KL.out w (Below.refl _ _)).mono ?_
  rintro e w2 ⟨v, rfl, hO, hB2⟩
  have KB2 := Aside0.mk hB2
  have KO2 := Aside0.mk hO
  obtain ⟨A2, c2, rfl, hc2, hC2⟩ := hO.slice
  rw [← Kn.out.2.1] at hc2 hC2 KO2 ⊢
  have KX := Aside0.mk hC2
  have Kc2 := Aside0.mk hc2
  clear hO hB2 hC2 hc2
  go_wp2_with (go_at_call 31; apply Aside0.out)
  refine ⟨?_⟩
  refine (KH.out w2 A2 c2 KX.out Kc2.out).mono ?_
  rintro e w3 ⟨v3, rfl, hO3, hB3⟩
  obtain ⟨A3, c3, rfl, -, hC3⟩ := hO3.slice
  rw [Kn.out.2.2] at hC3 ⊢
  have KO3 := Aside0.mk (KO2.out.below hB3)
  have KB3 := Aside0.mk (below_then KB2.out KB2.out.size hB3)
  have KHl := Aside0.mk hC3
  have Khc := Aside0.mk hB3.size
  clear hO3 hB3 hC3
  by_cases hq0 : q = 0
  · subst hq0
    have hz := hcn rfl
    subst hz
    clear hcn
    go_wp2_with (go_at_call 28; refine (Me.live_any _).mono ?_; rintro e w' ⟨rfl, hbel⟩)
    go_ret
    exact ⟨rfl, below_then KB3.out KB3.out.size hbel⟩
  have f1 : ((q : Int) == 0) = false := by simp; omega
  have f2 : ((nx : Int) == 0) = false := by simp; omega
  obtain ⟨k0, hk0⟩ : ∃ k, k = wh % q := ⟨_, rfl⟩
  have hkq : k0 < q := by rw [hk0]; exact Nat.mod_lt _ (by omega)
  have hrem : (wh : Int).tmod (q : Int) = (k0 : Int) := by rw [hk0, Int.tmod_eq_emod_of_nonneg (by omega)]; norm_cast
  obtain ⟨at0, nd, o, pr, D, po, hXe, hpr, hDl, hoe, hfit, e0, e2, hDb, hnd, hturn⟩ := Ksp.out k0 hkq
  obtain ⟨ad, c, r, hd1, hd2, hmem, rfl, x0, x1, x2, x3, x4⟩ := at_C KHl.out k0 hkq
  have hcc : c = hd l0 x k0 := by
    have h := Kget.out k0 hkq
    rw [hd1] at h
    injection h
  rw [← hcc] at e0 e2 hturn
  rw [e0, e2] at hturn
  rw [e0] at x0
  rw [e2] at x2
  obtain ⟨g, d1, hsl, hgb, hcells, -, -⟩ := Kd.R_form KO3.out (by rw [← Kn.out.2.1]; omega)
  have Kturn := Aside0.mk hturn
  have hg3 : g < w3.heap.size := by
    have h := (Me.own_lt KO3.out g (by rw [hsl]; rfl)).2
    exact h
  injection hsl with h1 h2 h3
  subst h1
  have KO4 := Aside0.mk (KO3.out.below (below_alloc (Below.refl w3.heap.size w3) (.cells #[.int .i64 at0, .int .i64 c.f1, .int .i64 nd, .bool c.f3, .int .u32 c.f4] 62)))
  have KB4 := Aside0.mk (below_then KB3.out KB3.out.size (below_alloc (Below.refl w3.heap.size w3) (.cells #[.int .i64 at0, .int .i64 c.f1, .int .i64 nd, .bool c.f3, .int .u32 c.f4] 62)))
  have Kx4 := Aside0.mk (heap_alloc_new w3 (.cells #[.int .i64 at0, .int .i64 c.f1, .int .i64 nd, .bool c.f3, .int .u32 c.f4] 62))
  rw [hXe] at KO4
  have HH : Hel2 (w3.alloc (.cells #[.int .i64 at0, .int .i64 c.f1, .int .i64 nd, .bool c.f3, .int .u32 c.f4] 62)) w.heap.size (.slice (some ⟨g, 0, none⟩) nx c2) pr D po p b 0 w := ⟨⟨D, KO4.out, rfl, hDb, by rw [Nat.pow_zero, Nat.mod_one, Nat.mul_zero, Nat.xor_self], KB4.out⟩⟩
  have Kf := Aside0.mk (And.intro hpr (And.intro hDl (And.intro hoe (And.intro hfit (And.intro hDb (And.intro hkq hgb))))))
  clear hXe hpr hDl hDb hd1 hd2 hmem hcc e0 e2 hturn hk0 hcells h2 h3 KO4 hcn hge hoe
  go_wp2
  clear x0 x1 x2 x3 x4 f1 f2 hrem
  go_loopw [16] (fun i wr => ∃ k : Nat, k ≤ 32 ∧ i = .int .i64 k ∧ Hel2 wr w.heap.size (.slice (some ⟨g, 0, none⟩) nx c2) pr D po p b k w ∧ Aside0 (p < 8 * nd ∨ b % 2 ^ k = 0) ∧ Aside0 (wr.heap[w3.heap.size]? = some (.cells #[.int .i64 at0, .int .i64 c.f1, .int .i64 nd, .bool c.f3, .int .u32 c.f4] 62))) (fun i _ => 32 - (intOf i).toNat)
  case atStart => exact ⟨0, by omega, rfl, HH, ⟨Or.inr (by rw [Nat.pow_zero, Nat.mod_one])⟩, Kx4⟩
  case round =>
    clear HH
    obtain ⟨k, hk, rfl, HH, HP, KBx⟩ := hrel
    obtain ⟨x0, x1, x2, x3, x4⟩ := bx_cells KBx.out
    by_cases hlt : k < 32
    · have hsb := shift_bit b k hb32
      by_cases hbit : b / 2 ^ k % 2 = 0
      · have HN := same2 HH hbit
        have HP2 : Aside0 (p < 8 * nd ∨ b % 2 ^ (k + 1) = 0) := ⟨by rw [Burst.low_same b k hbit]; exact HP.out⟩
        rw [hbit] at hsb
        have hbt : (bits BinOp.and IntKind.u32 ((b : Int) / 2 ^ k) 1 == 0) = true := by rw [hsb]; rfl
        clear hsb hbit HH x0 x1 x2 x3 x4
        go_wp2
        go_roundw
        case rel => exact ⟨k + 1, by omega, by go_num, HN, HP2, KBx⟩
        case measure => simp [intOf]; omega
      · have hb1 : b / 2 ^ k % 2 = 1 := by omega
        rw [hb1] at hsb
        have hbt : (bits BinOp.and IntKind.u32 ((b : Int) / 2 ^ k) 1 == 0) = false := by rw [hsb]; rfl
        have HB1 := Aside0.mk hb1
        clear hsb hbit hb1
        have hnd4 : nd ≤ 41000 := by omega
        by_cases hqq : 8 * nd ≤ p + k
        · go_wp2_with (go_at_call 28; refine (Me.live_any _).mono ?_; rintro e w' ⟨rfl, hbel⟩)
          go_ret
          obtain ⟨zs, _, _, _, _, h5⟩ := HH
          exact ⟨rfl, below_then h5 h5.size hbel⟩
        · obtain ⟨t, ht⟩ : ∃ t, t = p + k := ⟨_, rfl⟩
          have R0 : (p : Int) + (k : Int) = (t : Int) := by omega
          have ht2 : t < 8 * nd := by omega
          obtain ⟨qq, r, R1, R2, R3, hr8, hqr⟩ := spots t (by omega)
          have HR := Aside0.mk (And.intro R1 (And.intro R2 R3))
          clear R1 R2 R3
          have HP2 : Aside0 (p < 8 * nd ∨ b % 2 ^ (k + 1) = 0) := ⟨Or.inl (by omega)⟩
          have hqd : qq < nd := by omega
          obtain ⟨z, hz1, hz2, hz3, HN⟩ := turned2 (q := qq) (r := r) HH Kf.out.2.2.2.2.2.2 HB1.out (by rw [Kf.out.2.1]; exact hqd) hr8 (by rw [← ht]; exact hqr)
          rw [Kf.out.1] at hz2 hz3 HN
          obtain ⟨Q, hQ⟩ : ∃ Q, Q = o + qq := ⟨_, rfl⟩
          rw [← hQ] at hz2 hz3 HN
          have hQn : Q < nx := by
            obtain ⟨ds, h1, h2, _⟩ := HH
            have h3 := (Row.OwnB.reads h1).1
            rw [List.length_append, List.length_append, h2, Kf.out.1, Kf.out.2.1] at h3
            omega
          have HZ2 := Aside0.mk hz2
          have HZ3 := Aside0.mk hz3
          have HX0 := Aside0.mk x0
          have hr2 : 2 ^ r < 256 := by
            have h7 : 2 ^ r < 2 ^ 8 := Nat.pow_lt_pow_right (by decide) hr8
            exact h7
          have HE : Aside0 ((at0 : Int) + 8 = (o : Int) ∧ wrap64 (o : Int) = (o : Int) ∧ (o : Int) + (qq : Int) = (Q : Int) ∧ wrap64 (Q : Int) = (Q : Int)) := ⟨by
            have h8 := Kf.out.2.2.1
            have h9 := Kf.out.2.2.2.1
            exact ⟨by omega, w64b (by omega) (by omega), by omega, w64b (by omega) (by omega)⟩⟩
          obtain ⟨d, hd⟩ : ∃ d, 2 ^ r = d := ⟨_, rfl⟩
          have HD : Aside0 (IntKind.u8.wrap (2 ^ min r 8) = (d : Int) ∧ _) := ⟨⟨by rw [← hd]; exact shl_bit r hr8, u8_xor_nat z d hz1 (by omega)⟩⟩
          rw [hd] at HN
          have hge : decide ((t : Int) ≥ 8 * (nd : Int)) = false := decide_eq_false (by omega)
          have KBx2 : Aside0 (((wr.drew).setCell ⟨g, Q, none⟩ (.int .u8 ((z ^^^ d : Nat) : Int))).heap[w3.heap.size]? = some (.cells #[.int .i64 at0, .int .i64 c.f1, .int .i64 nd, .bool c.f3, .int .u32 c.f4] 62)) := ⟨by
            rw [Below.heap_setCell _ _ _ _ (by show w3.heap.size ≠ g; omega)]
            exact KBx.out⟩
          have hQi : (Q : Int) < (nx : Int) := by omega
          clear hz2 hz3 HH hd hqr hr8 ht hqq hQ hqd hr2 hfit
          go_wp2
          obtain ⟨R1, R2, R3⟩ := HR.out
          obtain ⟨E1, E2, E3, E4⟩ := HE.out
          obtain ⟨R9, R10⟩ := HD.out
          refine start_ (n := 15) (S := fun w' => w'.cell? ⟨g, Q, none⟩ = some (.int .u8 z) ∧ w'.frozen? ⟨g, Q, none⟩ = false ∧ w'.cell? ⟨w3.heap.size, 0, none⟩ = some (.int .i64 at0)) (ds := [14]) #[false, false, false, false, false, false, false, false, false, false, false, false, false, false, false] (by kernel_rfl) rfl rfl ⟨(show wr.cell? _ = _ from HZ2.out), (show wr.frozen? _ = _ from HZ3.out), (show wr.cell? _ = _ from HX0.out)⟩ (fun hHeld => ?_)
          refine pure_ (i := 0) (N := some 95) (v := ?_) (a' := ?_) #[true, false, false, false, false, false, false, false, false, false, false, false, false, false, false] rfl rfl (by kernel_rfl) (fun _ _ _ h => h) (Or.inl ⟨by rfl, ?_⟩) ?_ ?_
          rotate_left
          · intro w'
            go_simp
            with_reducible rfl
          rotate_left
          · simp only [Act.put, List.setIfInBounds_toArray, List.set_cons_zero, List.set_cons_succ, i64_w, i32_w]
            rfl
          refine pure_ (i := 1) (N := some 96) (v := ?_) (a' := ?_) #[true, true, false, false, false, false, false, false, false, false, false, false, false, false, false] rfl rfl (by kernel_rfl) (fun _ _ _ h => h) (Or.inl ⟨by rfl, ?_⟩) ?_ ?_
          rotate_left
          · intro w'
            go_simp
            with_reducible rfl
          rotate_left
          · simp only [Act.put, List.setIfInBounds_toArray, List.set_cons_zero, List.set_cons_succ, i64_w, i32_w]
            rfl
          refine pure_ (i := 4) (N := some 99) (v := ?_) (a' := ?_) #[true, true, false, false, true, false, false, false, false, false, false, false, false, false, false] rfl rfl (by kernel_rfl) (fun _ _ _ h => h) (Or.inl ⟨by rfl, ?_⟩) ?_ ?_
          rotate_left
          · intro w'
            go_simp
            with_reducible rfl
          rotate_left
          · simp only [Act.put, List.setIfInBounds_toArray, List.set_cons_zero, List.set_cons_succ, i64_w, i32_w]
            rfl
          refine pure_ (i := 5) (N := some 100) (v := ?_) (a' := ?_) #[true, true, false, false, true, true, false, false, false, false, false, false, false, false, false] rfl rfl (by kernel_rfl) (fun _ _ _ h => h) (Or.inl ⟨by rfl, ?_⟩) ?_ ?_
          rotate_left
          · intro w'
            go_simp
            with_reducible rfl
          rotate_left
          · simp only [Act.put, List.setIfInBounds_toArray, List.set_cons_zero, List.set_cons_succ, i64_w, i32_w]
            rfl
          refine pure_ (i := 9) (N := some 104) (v := ?_) (a' := ?_) #[true, true, false, false, true, true, false, false, false, true, false, false, false, false, false] rfl rfl (by kernel_rfl) (fun _ _ _ h => h) (Or.inl ⟨by rfl, ?_⟩) ?_ ?_
          rotate_left
          · intro w'
            go_simp
            with_reducible rfl
          rotate_left
          · simp only [Act.put, List.setIfInBounds_toArray, List.set_cons_zero, List.set_cons_succ, i64_w, i32_w]
            rfl
          refine pure_ (i := 10) (N := some 105) (v := ?_) (a' := ?_) #[true, true, false, false, true, true, false, false, false, true, true, false, false, false, false] rfl rfl (by kernel_rfl) (fun _ _ _ h => h) (Or.inl ⟨by rfl, ?_⟩) ?_ ?_
          rotate_left
          · intro w'
            go_simp
            with_reducible rfl
          rotate_left
          · simp only [Act.put, List.setIfInBounds_toArray, List.set_cons_zero, List.set_cons_succ, i64_w, i32_w]
            rfl
          refine pure_ (i := 11) (N := some 106) (v := ?_) (a' := ?_) #[true, true, false, false, true, true, false, false, false, true, true, true, false, false, false] rfl rfl (by kernel_rfl) (fun _ _ _ h => h) (Or.inl ⟨by rfl, ?_⟩) ?_ ?_
          rotate_left
          · intro w'
            go_simp
            with_reducible rfl
          rotate_left
          · simp only [Act.put, List.setIfInBounds_toArray, List.set_cons_zero, List.set_cons_succ, i64_w, i32_w]
            rfl
          refine take_ (i := 2) (N := some 97) (v := ?_) (a' := ?_) #[true, true, true, false, true, true, false, false, false, true, true, true, false, false, false] rfl rfl (by kernel_rfl) (fun _ _ _ h => h) (Or.inl ⟨by rfl, ?_⟩) hHeld ?_ ?_
          rotate_left
          · rintro w' ⟨s0, s1, s2⟩
            go_simp
            with_reducible rfl
          rotate_left
          · simp only [Act.put, List.setIfInBounds_toArray, List.set_cons_zero, List.set_cons_succ, i64_w, i32_w]
            rfl
          refine pure_ (i := 3) (N := some 98) (v := ?_) (a' := ?_) #[true, true, true, true, true, true, false, false, false, true, true, true, false, false, false] rfl rfl (by kernel_rfl) (fun _ _ _ h => h) (Or.inl ⟨by rfl, ?_⟩) ?_ ?_
          rotate_left
          · intro w'
            go_simp
            with_reducible rfl
          rotate_left
          · simp only [Act.put, List.setIfInBounds_toArray, List.set_cons_zero, List.set_cons_succ, i64_w, i32_w]
            rfl
          refine pure_ (i := 6) (N := some 101) (v := ?_) (a' := ?_) #[true, true, true, true, true, true, true, false, false, true, true, true, false, false, false] rfl rfl (by kernel_rfl) (fun _ _ _ h => h) (Or.inl ⟨by rfl, ?_⟩) ?_ ?_
          rotate_left
          · intro w'
            go_simp
            with_reducible rfl
          rotate_left
          · simp only [Act.put, List.setIfInBounds_toArray, List.set_cons_zero, List.set_cons_succ, i64_w, i32_w]
            rfl
          refine pure_ (i := 7) (N := some 102) (v := ?_) (a' := ?_) #[true, true, true, true, true, true, true, true, false, true, true, true, false, false, false] rfl rfl (by kernel_rfl) (fun _ _ _ h => h) (Or.inl ⟨by rfl, ?_⟩) ?_ ?_
          rotate_left
          · intro w'
            go_simp
            with_reducible rfl
          rotate_left
          · simp only [Act.put, List.setIfInBounds_toArray, List.set_cons_zero, List.set_cons_succ, i64_w, i32_w]
            rfl
          refine take_ (i := 8) (N := some 103) (v := ?_) (a' := ?_) #[true, true, true, true, true, true, true, true, true, true, true, true, false, false, false] rfl rfl (by kernel_rfl) (fun _ _ _ h => h) (Or.inl ⟨by rfl, ?_⟩) hHeld ?_ ?_
          rotate_left
          · rintro w' ⟨s0, s1, s2⟩
            go_simp
            with_reducible rfl
          rotate_left
          · simp only [Act.put, List.setIfInBounds_toArray, List.set_cons_zero, List.set_cons_succ, i64_w, i32_w]
            rfl
          refine pure_ (i := 12) (N := some 107) (v := ?_) (a' := ?_) #[true, true, true, true, true, true, true, true, true, true, true, true, true, false, false] rfl rfl (by kernel_rfl) (fun _ _ _ h => h) (Or.inl ⟨by rfl, ?_⟩) ?_ ?_
          rotate_left
          · intro w'
            go_simp
            with_reducible rfl
          rotate_left
          · simp only [Act.put, List.setIfInBounds_toArray, List.set_cons_zero, List.set_cons_succ, i64_w, i32_w]
            rfl
          refine pure_ (i := 13) (N := some 108) (v := ?_) (a' := ?_) #[true, true, true, true, true, true, true, true, true, true, true, true, true, true, false] rfl rfl (by kernel_rfl) (fun _ _ _ h => h) (Or.inl ⟨by rfl, ?_⟩) ?_ ?_
          rotate_left
          · intro w'
            go_simp
            with_reducible rfl
          rotate_left
          · simp only [Act.put, List.setIfInBounds_toArray, List.set_cons_zero, List.set_cons_succ, i64_w, i32_w]
            rfl
          refine last_ (i := 14) (N := none) #[true, true, true, true, true, true, true, true, true, true, true, true, true, true, true] rfl rfl (by kernel_rfl) (by decide) (fun K hK => ?_)
          refine skip_ (w1 := ?_) (by rfl) rfl ?_ ?_
          rotate_left
          · go_simp
            rfl
          refine hK.out _ _ ?_
          clear hK K
          refine done_ (by kernel_rfl) ?_
          go_wp2
          go_roundw
          case rel => exact ⟨k + 1, by omega, by go_num, HN, HP2, KBx2⟩
          case measure => simp [intOf]; omega
    · have hk32 : k = 32 := by omega
      subst hk32
      obtain ⟨ds, h1, h2, h3, h4, h5⟩ := HH
      obtain ⟨hzl, hzc, hzr⟩ := Row.OwnB.reads h1
      have hpn : p < 8 * nd := by
        by_cases hp : p < 8 * nd
        · exact hp
        · exact absurd (HP.out.resolve_left hp) (by rw [Nat.mod_eq_of_lt (by omega)]; exact HBZ.out)
      have hne : Sum.crc 0 ds ≠ Sum.crc 0 D := sum_no Kf.out.2.2.2.2.1 h3 h2 (by rw [Kf.out.2.1]; exact hpn) HBZ.out hb32 h4
      have KT : Aside0 (∀ W, Below wr.heap.size wr W → _) := ⟨fun W hB => Kturn.out ds W (some ⟨g, 0, none⟩) c2 (by rw [h2]; exact Kf.out.2.1) h3 hne (by rw [hzl]; exact Kd.C_below hzr hB) hzc⟩
      have KH5 := Aside0.mk h5
      clear h1 h2 h3 h4 h5 hzl hzr hzc hne
      go_wp2_with (go_at_call 37; apply Aside0.out)
      refine ⟨?_⟩
      refine (KT.out wr (Below.refl _ _)).1.mono ?_
      rintro e w6 ⟨A6, c6, rfl, hB6⟩
      have KB6 := Aside0.mk hB6
      clear hB6 x0 x1 x2 x3 x4
      go_wp2_with (go_at_call 39; apply Aside0.out)
      refine ⟨?_⟩
      refine (KT.out w6 KB6.out).2.mono ?_
      rintro e w7 ⟨A7, c7, rfl, hB7⟩
      have KB7 := Aside0.mk (below_then KH5.out KH5.out.size (below_then KB6.out KB6.out.size hB7))
      clear hB7
      go_wp2_with (first | (go_at_call 32; refine (Me.num_any _ _).mono ?_; rintro e w' ⟨rfl, rfl⟩) | (go_at_call 28; refine (Me.live_any _).mono ?_; rintro e w' ⟨rfl, hbel⟩))
      go_ret
      exact ⟨rfl, below_then KB7.out KB7.out.size hbel⟩
theorem walk (w : World) (A0 : Option Addr) (c0 : Nat) (l0 : List Int) (r0 : Kd.C (Kd.int .u8) w A0 l0.length l0) (k0 : l0.length ≤ c0) (g0 : ∀ v ∈ l0, (fun n : Int => (Lit.int .u8 n).wf = true) v) (m0 : l0.length * 1 ≤ 140737488351232) (a1 : Int) (w1 : (Lit.int .u64 a1).wf = true) (a2 : Int) (w2 : (Lit.int .u8 a2).wf = true) (a3 : Int) (w3 : (Lit.int .u16 a3).wf = true) (a4 : Int) (w4 : (Lit.int .u32 a4).wf = true) :
    Calls Try.prog 13 #[.slice A0 l0.length c0, .int .u64 a1, .int .u8 a2, .int .u16 a3, .int .u32 a4] w fun e w' => e = .returned (.bool true) ∧ Below w.heap.size w w' := by
  have hb : isB l0 := fun x hx => by
    have := g0 x hx
    have e1 : IntKind.u8.min = 0 := by decide
    have e2 : IntKind.u8.max = 255 := by decide
    simp only [Lit.wf, e1, e2, Bool.and_eq_true, decide_eq_true_eq] at this
    omega
  have i4 := Go.bounds_u32 w4
  have i3 := Go.bounds_u16 w3
  have i2 := Go.bounds_u8 w2
  obtain ⟨u, rfl⟩ := Int.eq_ofNat_of_zero_le i4.1
  obtain ⟨p, rfl⟩ := Int.eq_ofNat_of_zero_le i3.1
  obtain ⟨wh, rfl⟩ := Int.eq_ofNat_of_zero_le i2.1
  by_cases h : l0.length > 40000 ∨ u = 0
  · exact big_ w A0 c0 l0.length a1 wh p u h
  · exact main_ w A0 c0 l0 r0 k0 hb a1 wh p u (by omega) (by omega) (by omega) (by omega) (by omega)
end MetaBursts
end Go.Proofs.Ytpdggoapjbjmhaa
