/- Deltas: how they come in; any delta to any bytes: the statement's walk. -/
import Derived.Test.YtogplkochcalpaaDe8
set_option linter.unusedVariables false
set_option linter.unusedSimpArgs false
namespace Go.Proofs.Ytogplkochcalpaa
open Go.RowKit Go.Proofs.Ytogplkochcalpaa.PD Go.Proofs.Ytogplkochcalpaa.Fd Go.Proofs.Ytogplkochcalpaa.Bg Go.Proofs.YtogplkochcalpaaW.PrintWords Go.Proofs.YtogplkochcalpaaW.PrintLast Go.Proofs.YtogplkochcalpaaW.PrintMore
namespace De
def ofT (t : Int × Int × List Int) : S37 := ⟨t.1, t.2.1, t.2.2⟩
theorem C_iso {w : World} {A : Option Addr} {n : Nat} {xs : List (Int × Int × List Int)} (h : Kd.C (Kd.pair (Kd.int .i64) (Kd.pair (Kd.int .i64) (Kd.slice 5 (Kd.int .u8)))) w A n xs) : Kd.C k37 w A n (xs.map ofT) := by
  obtain ⟨h1, h2, h3⟩ := h
  refine ⟨by rw [List.length_map]; exact h1, h2, fun hn => ?_⟩
  obtain ⟨ad, e, hc⟩ := h3 hn
  refine ⟨ad, e, fun j p hj => ?_⟩
  rw [List.getElem?_map, Option.map_eq_some_iff] at hj
  obtain ⟨q, hq, rfl⟩ := hj
  exact hc j q hq
theorem i64_b {n : Int} (h : (Lit.int .i64 n).wf = true) : -9223372036854775808 ≤ n ∧ n ≤ 9223372036854775807 := by
  have e1 : IntKind.i64.min = -9223372036854775808 := by decide
  have e2 : IntKind.i64.max = 9223372036854775807 := by decide
  simp only [Lit.wf, e1, e2, Bool.and_eq_true, decide_eq_true_eq] at h
  exact h
theorem u8_b {l : List Int} (h : ∀ v ∈ l, (fun n : Int => (Lit.int .u8 n).wf = true) v) : ∀ x ∈ l, 0 ≤ x ∧ x < 256 := fun x hx => by
  have h1 := h x hx
  have e1 : IntKind.u8.min = 0 := by decide
  have e2 : IntKind.u8.max = 255 := by decide
  simp only [Lit.wf, e1, e2, Bool.and_eq_true, decide_eq_true_eq] at h1
  omega
theorem del_of {w : World} {cs0 : Array Value} {x0 : Int × Int × Int × Int × (List (Int × Int × List Int))} (r0 : ∃ c00 c01, cs0.toList = c00 ++ c01 ∧ ((Kd.int .i64).K w x0.1 c00 ∧ (fun n : Int => (Lit.int .i64 n).wf = true) x0.1) ∧ (∃ c10 c11, c01 = c10 ++ c11 ∧ ((Kd.int .i64).K w x0.2.1 c10 ∧ (fun n : Int => (Lit.int .i64 n).wf = true) x0.2.1) ∧ (∃ c20 c21, c11 = c20 ++ c21 ∧ ((Kd.int .u64).K w x0.2.2.1 c20 ∧ (fun n : Int => (Lit.int .u64 n).wf = true) x0.2.2.1) ∧ (∃ c30 c31, c21 = c30 ++ c31 ∧ ((Kd.int .u64).K w x0.2.2.2.1 c30 ∧ (fun n : Int => (Lit.int .u64 n).wf = true) x0.2.2.2.1) ∧ ((Kd.slice 37 (Kd.pair (Kd.int .i64) (Kd.pair (Kd.int .i64) (Kd.slice 5 (Kd.int .u8))))).K w x0.2.2.2.2 c31 ∧ (fun xs => (∀ v ∈ xs, (fun x : Int × Int × List Int => (fun n : Int => (Lit.int .i64 n).wf = true) x.1 ∧ (fun x : Int × List Int => (fun n : Int => (Lit.int .i64 n).wf = true) x.1 ∧ (fun xs => (∀ v ∈ xs, (fun n : Int => (Lit.int .u8 n).wf = true) v) ∧ xs.length * 1 ≤ 140737488351232) x.2) x.2) v) ∧ xs.length * 40 ≤ 140737488351232) x0.2.2.2.2))))) :
    ∃ (d : Dl) (A : Option Addr) (c : Nat), cs0 = #[.int .i64 d.a, .int .i64 d.b, .int .u64 d.c, .int .u64 d.d, .slice A d.l.length c] ∧ WfD d ∧ Kd.C k37 w A d.l.length d.l ∧ d.l.length ≤ c := by
  obtain ⟨c00, c01, h, ⟨h1, f1⟩, c10, c11, h2, ⟨h3, f2⟩, c20, c21, h4, ⟨h5, f3⟩, c30, c31, h6, ⟨h7, f4⟩, ⟨A, c, h8, hc, hC⟩, g, m⟩ := r0
  have e0 : c00 = [Value.int .i64 x0.1] := h1
  have e1 : c10 = [Value.int .i64 x0.2.1] := h3
  have e2 : c20 = [Value.int .u64 x0.2.2.1] := h5
  have e3 : c30 = [Value.int .u64 x0.2.2.2.1] := h7
  have b1 := Go.bounds_u64 f3
  have b6 := Go.bounds_u64 f4
  refine ⟨⟨x0.1, x0.2.1, x0.2.2.1, x0.2.2.2.1, x0.2.2.2.2.map ofT⟩, A, c, Array.toList_inj.1 ?_, ⟨fun o ho => ?_, fun o ho => ?_, by show (0 : Int) ≤ x0.2.2.1; omega, by show x0.2.2.1 < 18446744073709551616; omega, by show (0 : Int) ≤ x0.2.2.2.1; omega, by show x0.2.2.2.1 < 18446744073709551616; omega⟩, ?_, by show (x0.2.2.2.2.map ofT).length ≤ c; rw [List.length_map]; exact hc⟩
  · rw [h, h2, h4, h6, e0, e1, e2, e3, h8]
    simp
  · obtain ⟨t, ht, rfl⟩ := List.mem_map.1 ho
    obtain ⟨k1, k2, k3, k4⟩ := g t ht
    exact ⟨i64_b k1, i64_b k2, by have : t.2.2.length * 1 ≤ 140737488351232 := k4; show t.2.2.length ≤ _; omega⟩
  · obtain ⟨t, ht, rfl⟩ := List.mem_map.1 ho
    obtain ⟨k1, k2, k3, k4⟩ := g t ht
    exact u8_b k3
  · show Kd.C k37 w A (x0.2.2.2.2.map ofT).length (x0.2.2.2.2.map ofT)
    rw [List.length_map]
    exact C_iso hC
def muchB (d : Dl) : Bool := decide (200 < d.l.length) || d.l.any (fun o => decide (5000 < o.f2.length))
theorem much_l0 (l : List S37) (a0 a1 a2 a3 : Int) (hl : l.length ≤ 200) : ∀ (m i k : Nat), m + i = l.length → m < k → portmanteaulaw30_much.l0 k (i : Int) a0 a1 a2 a3 l = some ((l.drop i).any (fun o => decide (5000 < o.f2.length))) := by
  intro m
  induction m with
  | zero =>
    intro i k hm hk
    obtain ⟨k, rfl⟩ : ∃ q, k = q + 1 := ⟨k - 1, by omega⟩
    rw [portmanteaulaw30_much.l0]
    rw [if_neg (by omega), List.drop_eq_nil_of_le (by omega)]; rfl
  | succ m ih =>
    intro i k hm hk
    obtain ⟨k, rfl⟩ : ∃ q, k = q + 1 := ⟨k - 1, by omega⟩
    obtain ⟨o, e1, e2, e3⟩ := rd_drop (l := l) (i := i) (by omega)
    rw [portmanteaulaw30_much.l0]
    rw [if_pos (by omega), if_pos (by omega), e1, e2, List.any_cons]
    by_cases c : (o.f2.length : Int) > 5000
    · rw [if_pos c, show decide (5000 < o.f2.length) = true from decide_eq_true (by omega)]; rfl
    · rw [if_neg c, wrap_in (by omega), show ((i : Int) + 1) = ((i + 1 : Nat) : Int) by omega, ih (i + 1) k (by omega) (by omega), show decide (5000 < o.f2.length) = false from decide_eq_false (by omega)]; rfl
theorem much_f (d : Dl) : portmanteaulaw30_much.f (d.l.length + 1) d.a d.b d.c d.d d.l = some (muchB d) := by
  unfold portmanteaulaw30_much.f muchB
  by_cases c : (d.l.length : Int) > 200
  · rw [if_pos c, show decide (200 < d.l.length) = true from decide_eq_true (by omega)]; rfl
  · have := much_l0 d.l d.a d.b d.c d.d (by omega) d.l.length 0 (d.l.length + 1) (by omega) (by omega)
    rw [show ((0 : Nat) : Int) = 0 from rfl, List.drop_zero] at this
    rw [if_neg c, this, show decide (200 < d.l.length) = false from decide_eq_false (by omega)]; rfl
theorem much_any (d : Dl) (A : Option Addr) (c : Nat) (w : World) (hC : Kd.C k37 w A d.l.length d.l) (hc : d.l.length ≤ c) : Calls Try.prog 16 #[dv d A c] w fun e w' => e = .returned (.bool (muchB d)) ∧ Below w.heap.size w w' :=
  portmanteaulaw30_much.calls (d.l.length + 1) d.a d.b d.c d.d A c d.l _ w hC hc (much_f d)
theorem much_no {d : Dl} (h : muchB d = false) : d.l.length ≤ 200 ∧ ∀ o ∈ d.l, o.f2.length ≤ 5000 := by
  unfold muchB at h
  rw [Bool.or_eq_false_iff, decide_eq_false_iff_not, List.any_eq_false] at h
  exact ⟨by omega, fun o ho => by have := h.2 o ho; simpa using this⟩
theorem ops_small {l : List S37} (h : ∀ o ∈ l, o.f2.length ≤ 5000) : (opsB l).length ≤ 5005 * l.length := by
  induction l with
  | nil => simp [opsB]
  | cons o l ih =>
    have h1 := ih (fun p hp => h p (by simp [hp]))
    have h2 := h o (by simp)
    have e : opsB (o :: l) = opB o ++ opsB l := by simp [opsB]
    rw [e, List.length_append, opB_len, List.length_cons]
    split <;> omega
theorem bytes_small {d : Dl} (h : muchB d = false) : (bytesB d).length ≤ 2000000 := by
  obtain ⟨h1, h2⟩ := much_no h
  have := ops_small h2
  rw [bytesB_len]; omega
end De
open De
namespace DeltaApplies
theorem big_ (w : World) (d : Dl) (A0 A : Option Addr) (c0 c n : Nat) (hn : 5000 < n) : Calls Try.prog 4 #[.slice A0 n c0, dv d A c] w fun e w' => e = .returned (.bool true) ∧ Below w.heap.size w w' := by
  have KB0 := Aside0.mk (DB.new w d A c).2
  unfold dv
  go_enter Try.func4, Try.ntmps4
  go_wp2_with (go_at_call 10; refine (live_any _).mono ?_; rintro e w' ⟨rfl, hbel⟩)
  go_ret
  exact ⟨rfl, below_then KB0.out KB0.out.size hbel⟩
set_option maxHeartbeats 4000000 in
set_option maxRecDepth 100000 in
theorem much_ (w : World) (d : Dl) (A0 A : Option Addr) (c0 c n : Nat) (hn : n ≤ 5000) (hC : Kd.C k37 w A d.l.length d.l) (hc : d.l.length ≤ c) (hm : muchB d = true) : Calls Try.prog 4 #[.slice A0 n c0, dv d A c] w fun e w' => e = .returned (.bool true) ∧ Below w.heap.size w w' := by
  have KB0 := Aside0.mk (DB.new w d A c)
  have KM := Aside0.mk (fun w1 (h : Below w.heap.size w w1) => much_any d A c w1 (Kd.C_below hC h) hc)
  rw [hm] at KM
  simp only [dv, DB] at KM KB0 ⊢
  obtain ⟨q0, q1, q2, q3, q4⟩ := dbox_cells KB0.out.1
  obtain ⟨k, hk⟩ : ∃ k, k = d.l.length := ⟨_, rfl⟩
  rw [← hk] at KM KB0 q4 ⊢
  clear hC hc hm hk
  go_enter Try.func4, Try.ntmps4
  go_wp2_with (go_at_call 16; apply Aside0.out)
  refine ⟨?_⟩
  refine (KM.out _ KB0.out.2).mono ?_
  rintro e w1 ⟨rfl, hb⟩
  have KB1 := Aside0.mk (below_then KB0.out.2 KB0.out.2.size hb)
  clear hb
  go_wp2_with (go_at_call 10; refine (live_any _).mono ?_; rintro e w' ⟨rfl, hbel⟩)
  go_ret
  exact ⟨rfl, below_then KB1.out KB1.out.size hbel⟩
set_option maxHeartbeats 4000000 in
set_option maxRecDepth 100000 in
theorem main_ (w : World) (d : Dl) (A0 A : Option Addr) (c0 c : Nat) (l0 : List Int) (hn : l0.length ≤ 5000) (h0 : Kd.C (Kd.int .u8) w A0 l0.length l0) (hc0 : l0.length ≤ c0) (hC : Kd.C k37 w A d.l.length d.l) (hc : d.l.length ≤ c) (hw : WfD d) (hm : muchB d = false) : Calls Try.prog 4 #[.slice A0 l0.length c0, dv d A c] w fun e w' => e = .returned (.bool true) ∧ Below w.heap.size w w' := by
  obtain ⟨hl, -⟩ := much_no hm
  have KB0 := Aside0.mk (DB.new w d A c)
  have KM := Aside0.mk (fun w1 (h : Below w.heap.size w w1) => much_any d A c w1 (Kd.C_below hC h) hc)
  have KA := Aside0.mk (fun w1 (h : Below w.heap.size w w1) => apply_any l0 A0 c0 d A c w1 (Kd.C_below h0 h) hc0 (Kd.C_below hC h) hc hw.ops (by omega) (by omega))
  have KR := Aside0.mk (fun w1 (h : Below w.heap.size w w1) => rapply_any l0 A0 c0 d A c w1 (Kd.C_below h0 h) hc0 (Kd.C_below hC h) hc hw.ops (by omega) (by omega))
  have KK := Aside0.mk (fun w1 (h : Below w.heap.size w w1) => check_any d A c w1 (Kd.C_below hC h) hc hw.ops (by omega))
  have KG := Aside0.mk (fun w1 (h : Below w.heap.size w w1) => rright_any d A c w1 (Kd.C_below hC h) hc hw.ops (by omega))
  rw [hm] at KM
  obtain ⟨Z, E, hz⟩ : ∃ Z E, applyP l0 d = (Z, E) := ⟨_, _, rfl⟩
  rw [hz] at KA KR
  obtain ⟨r, hr⟩ : ∃ r, rightD d = r := ⟨_, rfl⟩
  rw [hr] at KK KG
  simp only [dv, DB] at KM KB0 KA KR KK KG ⊢
  obtain ⟨k, hk⟩ : ∃ k, k = d.l.length := ⟨_, rfl⟩
  obtain ⟨n, hnn⟩ : ∃ n, n = l0.length := ⟨_, rfl⟩
  rw [← hk] at KM KB0 KA KR KK KG hc ⊢
  rw [← hnn] at KA KR hn hc0 ⊢
  obtain ⟨q0, q1, q2, q3, q4⟩ := dbox_cells KB0.out.1
  clear hC hm hk hl h0 hw hz hr hnn
  go_enter Try.func4, Try.ntmps4
  go_wp2_with (go_at_call 16; apply Aside0.out)
  refine ⟨?_⟩
  refine (KM.out _ KB0.out.2).mono ?_
  rintro e w1 ⟨rfl, hb⟩
  have KB1 := Aside0.mk (And.intro (blk_below KB0.out.1 hb) (below_then KB0.out.2 KB0.out.2.size hb))
  clear hb q0 q1 q2 q3 q4
  obtain ⟨q0, q1, q2, q3, q4⟩ := dbox_cells KB1.out.1
  go_wp2_with (go_at_call 17; apply Aside0.out)
  refine ⟨?_⟩
  refine (KA.out _ KB1.out.2).mono ?_
  rintro e w2 ⟨v2, rfl, hO2, hb⟩
  obtain ⟨A2, c2, rfl, hle2, hC2⟩ := hO2.slice
  have KC2 := Aside0.mk hC2
  have KB2 := Aside0.mk (And.intro (blk_below KB1.out.1 hb) (below_then KB1.out.2 KB1.out.2.size hb))
  clear hb q0 q1 q2 q3 q4 hO2 hC2
  obtain ⟨q0, q1, q2, q3, q4⟩ := dbox_cells KB2.out.1
  go_wp2_with (go_at_call 14; apply Aside0.out)
  refine ⟨?_⟩
  refine (KR.out _ KB2.out.2).mono ?_
  rintro e w3 ⟨v3, rfl, hO3, hb⟩
  obtain ⟨A3, c3, rfl, hle3, hC3⟩ := hO3.slice
  have KC3 := Aside0.mk (And.intro (Kd.C_below KC2.out hb) hC3)
  have KB3 := Aside0.mk (And.intro (blk_below KB2.out.1 hb) (below_then KB2.out.2 KB2.out.2.size hb))
  clear hb q0 q1 q2 q3 q4 hO3 hC3
  obtain ⟨q0, q1, q2, q3, q4⟩ := dbox_cells KB3.out.1
  go_wp2_with (go_at_call 18; apply Aside0.out)
  refine ⟨?_⟩
  refine (KG.out _ KB3.out.2).mono ?_
  rintro e w4 ⟨rfl, hb⟩
  have hs2 := str_atE (c := c2) (Kd.C_below KC3.out.1 hb)
  have hs3 := str_atE (c := c3) (Kd.C_below KC3.out.2 hb)
  have KB4 := Aside0.mk (And.intro (blk_below KB3.out.1 hb) (below_then KB3.out.2 KB3.out.2.size hb))
  clear hb q0 q1 q2 q3 q4
  obtain ⟨q0, q1, q2, q3, q4⟩ := dbox_cells KB4.out.1
  cases r
  all_goals
    go_wp2_with (first | (go_at_call 12; refine (num_any _ _).mono ?_; rintro e w' ⟨rfl, rfl⟩) | (go_at_call 19; apply Aside0.out))
    refine ⟨?_⟩
    refine (KK.out _ KB4.out.2).mono ?_
    rintro e w5 ⟨rfl, hb⟩
    have KB5 := Aside0.mk (below_then KB4.out.2 KB4.out.2.size hb)
    clear hb q0 q1 q2 q3 q4
    go_wp2_with (first | (go_at_call 12; refine (num_any _ _).mono ?_; rintro e w' ⟨rfl, rfl⟩) | (go_at_call 10; refine (live_any _).mono ?_; rintro e w' ⟨rfl, hbel⟩))
    go_ret
    exact ⟨rfl, below_then KB5.out KB5.out.size hbel⟩
theorem walk (w : World) (A0 : Option Addr) (c0 : Nat) (l0 : List Int) (r0 : Kd.C (Kd.int .u8) w A0 l0.length l0) (k0 : l0.length ≤ c0) (g0 : ∀ v ∈ l0, (fun n : Int => (Lit.int .u8 n).wf = true) v) (m0 : l0.length * 1 ≤ 140737488351232) (cs1 : Array Value) (x1 : Int × Int × Int × Int × (List (Int × Int × List Int))) (r1 : ∃ c00 c01, cs1.toList = c00 ++ c01 ∧ ((Kd.int .i64).K w x1.1 c00 ∧ (fun n : Int => (Lit.int .i64 n).wf = true) x1.1) ∧ (∃ c10 c11, c01 = c10 ++ c11 ∧ ((Kd.int .i64).K w x1.2.1 c10 ∧ (fun n : Int => (Lit.int .i64 n).wf = true) x1.2.1) ∧ (∃ c20 c21, c11 = c20 ++ c21 ∧ ((Kd.int .u64).K w x1.2.2.1 c20 ∧ (fun n : Int => (Lit.int .u64 n).wf = true) x1.2.2.1) ∧ (∃ c30 c31, c21 = c30 ++ c31 ∧ ((Kd.int .u64).K w x1.2.2.2.1 c30 ∧ (fun n : Int => (Lit.int .u64 n).wf = true) x1.2.2.2.1) ∧ ((Kd.slice 37 (Kd.pair (Kd.int .i64) (Kd.pair (Kd.int .i64) (Kd.slice 5 (Kd.int .u8))))).K w x1.2.2.2.2 c31 ∧ (fun xs => (∀ v ∈ xs, (fun x : Int × Int × List Int => (fun n : Int => (Lit.int .i64 n).wf = true) x.1 ∧ (fun x : Int × List Int => (fun n : Int => (Lit.int .i64 n).wf = true) x.1 ∧ (fun xs => (∀ v ∈ xs, (fun n : Int => (Lit.int .u8 n).wf = true) v) ∧ xs.length * 1 ≤ 140737488351232) x.2) x.2) v) ∧ xs.length * 40 ≤ 140737488351232) x1.2.2.2.2))))) :
    Calls Try.prog 4 #[.slice A0 l0.length c0, .agg cs1] w fun e w' => e = .returned (.bool true) ∧ Below w.heap.size w w' := by
  obtain ⟨d, A, c, rfl, hw, hC, hc⟩ := del_of r1
  by_cases hn : 5000 < l0.length
  · exact big_ w d A0 A c0 c l0.length hn
  · cases hm : muchB d with
    | true => exact much_ w d A0 A c0 c l0.length (by omega) hC hc hm
    | false => exact main_ w d A0 A c0 c l0 (by omega) r0 k0 hC hc hw hm
end DeltaApplies
end Go.Proofs.Ytogplkochcalpaa
