/- Blocks are unpacked: copies that overlap. -/
import Derived.Test.YtbnkglcgblhjeaaLawLz6
set_option linter.unusedVariables false
set_option linter.unusedSimpArgs false
namespace Go.Proofs.Ytbnkglcgblhjeaa
open Go.RowKit Go.Proofs.YtbnkglcgblhjeaaW.PrintWords Go.Proofs.YtbnkglcgblhjeaaW.PrintLast Go.Proofs.YtbnkglcgblhjeaaW.PrintMore
namespace Lz
theorem lit2S {w : World} {A : Option Addr} {c : Nat} {l : List Int} (hC : Kd.C (Kd.int .u8) w A l.length l) (hc : l.length ≤ c) (off len : Int) : Kd.C kS (w.alloc (.cells #[.slice A l.length c, .int .i64 off, .int .i64 len, .slice none 0 0, .int .i64 0, .int .i64 0] 44)) (some ⟨w.heap.size, 0, none⟩) 2 [(l, off, len), ([], 0, 0)] := by
  have hb := heap_alloc_new w (.cells #[.slice A l.length c, .int .i64 off, .int .i64 len, .slice none 0 0, .int .i64 0, .int .i64 0] 44)
  refine ⟨rfl, by decide, fun _ => ⟨_, rfl, fun j p hj => ?_⟩⟩
  have hc2 := Kd.C_below hC (below_alloc (Below.refl _ _) (.cells #[.slice A l.length c, .int .i64 off, .int .i64 len, .slice none 0 0, .int .i64 0, .int .i64 0] 44))
  match j, hj with
  | 0, hj =>
    obtain rfl : (l, off, len) = p := by simpa using hj
    refine ⟨[.slice A l.length c, .int .i64 off, .int .i64 len], rfl, ⟨[_], [_, _], rfl, ⟨_, _, rfl, hc, hc2⟩, ⟨[_], [_], rfl, rfl, rfl⟩⟩, fun i u hu => ?_⟩
    rw [add_plain, cell_of_row _ _ _ _ _ _ hb]
    match i, hu with
    | 0, hu => exact hu
    | 1, hu => exact hu
    | 2, hu => exact hu
    | i + 3, hu => simp at hu
  | 1, hj =>
    obtain rfl : (([] : List Int), (0 : Int), (0 : Int)) = p := by simpa using hj
    refine ⟨[.slice none 0 0, .int .i64 0, .int .i64 0], rfl, ⟨[_], [_, _], rfl, ⟨none, 0, rfl, Nat.le_refl _, Kd.C_nil _ _⟩, ⟨[_], [_], rfl, rfl, rfl⟩⟩, fun i u hu => ?_⟩
    rw [add_plain, cell_of_row _ _ _ _ _ _ hb]
    match i, hu with
    | 0, hu => exact hu
    | 1, hu => exact hu
    | 2, hu => exact hu
    | i + 3, hu => simp at hu
  | j + 2, hj => simp at hj
theorem runs_right {l : List Int} {n : Int} (h1 : 1 ≤ l.length) (h2 : l.length ≤ 14) (h3 : 4 ≤ n) (h4 : n ≤ 5000) : RightL 0 [(l, (l.length : Int), n), ([], 0, 0)] := by
  refine ⟨?_, ?_, trivial⟩
  · unfold wrongP
    rw [if_neg (by simp; omega), if_neg (by simp), if_neg (by simp; omega)]
  · unfold wrongP
    rw [if_neg (by simp), if_neg (by simp; omega), if_neg (by simp; omega)]
theorem runs_outs (l : List Int) (n : Int) : outs [] [(l, (l.length : Int), n), ([], 0, 0)] = cp l l.length n.toNat := by
  simp [outs, cp]
theorem cp_rep {l : List Int} (h : 1 ≤ l.length) : ∀ (k i : Nat), i < l.length + k → (cp l l.length k).getD i 0 = l.getD (i % l.length) 0
  | 0, i, hi => by rw [cp, Nat.mod_eq_of_lt (by omega)]
  | k + 1, i, hi => by
    have hl := cp_length l l.length k
    rw [cp]
    by_cases hlt : i < l.length + k
    · rw [List.getD_eq_getElem?_getD, List.getElem?_append_left (by omega), ← List.getD_eq_getElem?_getD]
      exact cp_rep h k i hlt
    · obtain rfl : i = l.length + k := by omega
      rw [List.getD_eq_getElem?_getD, List.getElem?_append_right (by omega), hl]
      simp only [Nat.sub_self, List.getElem?_cons_zero, Option.getD_some]
      rw [show l.length + k - l.length = k by omega, cp_rep h k k (by omega)]
      congr 1
      rw [Nat.add_mod_left]
end Lz
namespace LzRuns
set_option maxHeartbeats 2000000 in
set_option maxRecDepth 100000 in
theorem walk (w : World) (A0 : Option Addr) (c0 : Nat) (l0 : List Int) (r0 : Kd.C (Kd.int .u8) w A0 l0.length l0) (k0 : l0.length ≤ c0) (g0 : ∀ v ∈ l0, (fun n : Int => (Lit.int .u8 n).wf = true) v) (m0 : l0.length * 1 ≤ 140737488351232) (a1 : Int) (w1 : (Lit.int .i64 a1).wf = true) :
    Calls Try.prog 8 #[.slice A0 l0.length c0, .int .i64 a1] w fun e w' => e = .returned (.bool true) ∧ Below w.heap.size w w' := by
  have hb := Aside0.mk (Lz.u8B g0)
  have KC := Aside0.mk r0
  clear g0 w1 r0
  by_cases hbig : l0.length < 1 ∨ (1 ≤ l0.length ∧ 14 < l0.length) ∨ (1 ≤ l0.length ∧ l0.length ≤ 14 ∧ a1 < 4) ∨ (1 ≤ l0.length ∧ l0.length ≤ 14 ∧ 4 ≤ a1 ∧ 5000 < a1)
  · clear KC hb
    rcases hbig with h | ⟨h, h2⟩ | ⟨h, h2, h3⟩ | ⟨h, h2, h3, h4⟩
    all_goals
      go_enter Try.func8, Try.ntmps8
      go_wp2_with (go_at_call 14; refine (Lz.live_any _).mono ?_; rintro e w' ⟨rfl, hbel⟩)
      go_ret
      exact ⟨rfl, hbel⟩
  obtain ⟨h1, h2, h3, h4⟩ : 1 ≤ l0.length ∧ l0.length ≤ 14 ∧ 4 ≤ a1 ∧ a1 ≤ 5000 := by omega
  clear hbig
  obtain ⟨n, rfl⟩ := Int.eq_ofNat_of_zero_le (show 0 ≤ a1 by omega)
  have hR := Lz.runs_right h1 h2 h3 h4
  have hal : Below w.heap.size w (w.alloc (.cells #[.slice A0 l0.length c0, .int .i64 l0.length, .int .i64 n, .slice none 0 0, .int .i64 0, .int .i64 0] 44)) := below_alloc (Below.refl _ _) _
  obtain ⟨S, hS⟩ : ∃ S, S = [(l0, (l0.length : Int), (n : Int)), (([] : List Int), (0 : Int), (0 : Int))] := ⟨_, rfl⟩
  have hJ := Lz.join_any (w.alloc (.cells #[.slice A0 l0.length c0, .int .i64 l0.length, .int .i64 n, .slice none 0 0, .int .i64 0, .int .i64 0] 44)) S (some ⟨w.heap.size, 0, none⟩) 2 (by rw [hS]; exact Lz.lit2S KC.out k0 _ _) (by rw [hS]; simp) (by
    rw [hS]
    intro s hs
    simp only [List.mem_cons, List.mem_nil_iff, or_false] at hs
    rcases hs with rfl | rfl
    · exact ⟨by simp only; omega, hb.out, by simp only; omega, by simp only; omega⟩
    · exact ⟨by simp, by simp [Lz.isB], by simp, by simp⟩) (by rw [hS]; simp)
  rw [Lz.joinA_right (by rw [hS]; simp) (by rw [hS]; exact hR)] at hJ
  have hlen := Lz.segs_len S 0 (by rw [hS]; exact hR) (by decide) (by decide) (by
    rw [hS]
    intro s hs
    simp only [List.mem_cons, List.mem_nil_iff, or_false] at hs
    rcases hs with rfl | rfl
    · simp only; omega
    · simp)
  have hlS : S.length = 2 := by rw [hS]; rfl
  rw [hlS] at hlen hJ
  have hD : ∀ (w' : World) (A : Option Addr) (c : Nat), Kd.C (Kd.int .u8) w' A (Lz.segs S).length (Lz.segs S) → (Lz.segs S).length ≤ c → _ := fun w' A c hC hc => Lz.decode_any w' (Lz.segs S) A c 1048576 (fun w'' hB2 => Kd.C_below hC hB2) (Lz.segs_isB S 0 (by
    rw [hS]
    intro s hs
    simp only [List.mem_cons, List.mem_nil_iff, or_false] at hs
    rcases hs with rfl | rfl
    · exact hb.out
    · simp [Lz.isB]) (by rw [hS]; exact hR) (by decide)) (by omega) hc
  rw [(Lz.segs_told (by rw [hS]; simp) (by rw [hS]; exact hR)).2] at hD
  simp only at hD hJ
  rw [show Lz.outs [] S = Lz.cp l0 l0.length n by rw [hS, Lz.runs_outs]; simp] at hD
  obtain ⟨Z, hZ⟩ : ∃ Z, Z = Lz.segs S := ⟨_, rfl⟩
  rw [← hZ] at hD hJ
  obtain ⟨Y, hY⟩ : ∃ Y, Y = Lz.cp l0 l0.length n := ⟨_, rfl⟩
  rw [← hY] at hD
  have hYl : Y.length = l0.length + n := by rw [hY, Lz.cp_length]
  have KY : Aside0 (∀ i, i < l0.length + n → rd Y (i : Int) = rd l0 ((i % l0.length : Nat) : Int)) := ⟨fun i hi => by unfold rd; rw [Int.toNat_natCast, Int.toNat_natCast, hY]; exact Lz.cp_rep h1 n i hi⟩
  have KYl := Aside0.mk hYl
  have KJ := Aside0.mk hJ
  have KD := Aside0.mk hD
  have Kal := Aside0.mk hal
  obtain ⟨nb, hnb⟩ : ∃ nb, nb = l0.length := ⟨_, rfl⟩
  rw [← hnb] at KY KYl KC KJ h1 h2 k0 Kal ⊢
  clear hJ hD hY hYl hZ hlS hlen hR hal hS hnb m0
  go_enter Try.func8, Try.ntmps8
  go_wp2_with (first | (go_at_call 16; refine (Lz.num_any _ _).mono ?_; rintro e w' ⟨rfl, rfl⟩) | (go_at_call 22; refine KJ.out.mono ?_; rintro e w2 ⟨v2, rfl, ho2, hb2⟩; obtain ⟨A2, c2, rfl, hle2, hC2⟩ := Row.OwnB.slice ho2; have KC2 := Aside0.mk hC2; have Kl2 := Aside0.mk hle2; have Kb2 := Aside0.mk (below_then Kal.out Kal.out.size hb2); clear hC2 hb2 ho2 hle2) | (go_at_call 15; refine (KD.out w2 A2 c2 KC2.out Kl2.out).mono ?_; rintro e w3 ⟨v3, rfl, ho3, hb3⟩; obtain ⟨A3, c3, rfl, hle3, hC3⟩ := Row.OwnB.slice ho3; rw [KYl.out] at hC3 ⊢; have KC3 := Aside0.mk hC3; have Kb3 := Aside0.mk (below_then Kb2.out Kb2.out.size hb3); clear hC3 hb3 ho3 hle3))
  go_loopw [10] (fun i wr => ∃ k m : Nat, k ≤ nb + n ∧ i = .int .i64 k ∧ wr = w3.drewN m) (fun i _ => nb + n - (intOf i).toNat)
  case atStart => exact ⟨0, 0, Nat.zero_le _, rfl, rfl⟩
  case round =>
    obtain ⟨k, m, hk, rfl, rfl⟩ := hrel
    by_cases hlt : k < nb + n
    · obtain ⟨q, hq⟩ : ∃ q, q = k % nb := ⟨_, rfl⟩
      have hqb : q < nb := by rw [hq]; exact Nat.mod_lt _ (by omega)
      have htm : (k : Int).tmod (nb : Int) = (q : Int) := by rw [hq]; rfl
      have hnz : ((nb : Int) = 0) = False := by simp; omega
      obtain ⟨a3, e, hx⟩ := Kd.at_int KC3.out (k : Int) (by omega) (by omega)
      subst e
      obtain ⟨a0, e, hy⟩ := Kd.at_int (Kd.C_below KC.out Kb3.out) (q : Int) (by omega) (by omega)
      subst e
      rw [Int.toNat_natCast, KY.out k hlt, ← hq] at hx
      rw [Int.toNat_natCast] at hy
      have hltI : (k : Int) < (nb : Int) + (n : Int) := by omega
      have hqI : (q : Int) < (nb : Int) := by omega
      have hq0 : (0 : Int) ≤ (q : Int) := by omega
      clear hq
      go_wp2
      go_quiet (fail)
      go_wp2
      refine ⟨⟨k + 1, _, by omega, by go_num, rfl⟩, by simp [intOf]; omega⟩
    · obtain rfl : k = nb + n := by omega
      go_wp2_with (go_at_call 14; refine (Lz.live_any _).mono ?_; rintro e w' ⟨rfl, hbel⟩)
      go_ret
      exact ⟨rfl, below_then (pw_below_drewN Kb3.out _) Kb3.out.size hbel⟩
end LzRuns
end Go.Proofs.Ytbnkglcgblhjeaa
