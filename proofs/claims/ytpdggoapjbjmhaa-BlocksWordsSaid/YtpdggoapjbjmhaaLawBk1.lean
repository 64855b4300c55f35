/- Any word's parts, any parts' word: the statement's walk. -/
import Derived.Test.YtpdggoapjbjmhaaBk4
set_option linter.unusedVariables false
set_option linter.unusedSimpArgs false
namespace Go.Proofs.Ytpdggoapjbjmhaa
open Go.RowKit Go.Proofs.Ytpdggoapjbjmhaa.Bk Go.Proofs.YtpdggoapjbjmhaaW.PrintWords Go.Proofs.YtpdggoapjbjmhaaW.PrintLast Go.Proofs.YtpdggoapjbjmhaaW.PrintMore
namespace BlocksWords
theorem words_ (w : World) (a0 : Int) (h0 : -9223372036854775808 ≤ a0) (h1 : a0 ≤ 9223372036854775807) (a1 : Int) (a2 : Bool) (hb : 1 ≤ a1) (hb2 : a1 ≤ 1048576) : Calls Try.prog 3 #[.int .i64 a0, .int .i64 a1, .bool a2] w fun e w' => e = .returned (.bool true) ∧ Below w.heap.size w w' := by
  have KP := Aside0.mk (fun w1 => parts_any a0 h0 h1 w1)
  have KR := Aside0.mk (fun w1 => rparts_any a0 h0 h1 w1)
  have KW := Aside0.mk (fun w1 => word_any a1 a2 w1)
  have hpw := prt_wrd a1 a2 hb hb2
  have hw2 : (wrd a1 a2).2 = 0 := by unfold wrd; rw [if_neg (by omega)]; split <;> rfl
  have hwb : -9223372036854775808 ≤ (wrd a1 a2).1 ∧ (wrd a1 a2).1 ≤ 9223372036854775807 := by unfold wrd; rw [if_neg (by omega)]; split <;> simp <;> omega
  rw [hw2] at KW
  have KQ := Aside0.mk (fun w1 => parts_any (wrd a1 a2).1 hwb.1 hwb.2 w1)
  rw [hpw] at KQ
  generalize wrd a1 a2 = wd at KW KQ
  obtain ⟨⟨n, p, e0⟩, hp⟩ : ∃ t, t = prt a0 := ⟨_, rfl⟩
  rw [← hp] at KP KR
  have hlo : decide (a1 < 1) = false := decide_eq_false (by omega)
  have hhi : decide (a1 > 1048576) = false := decide_eq_false (by omega)
  clear hpw hw2 hwb hp h0 h1 hb hb2
  go_enter Try.func3, Try.ntmps3
  go_wp2_with (go_at_call 15; apply Aside0.out)
  refine ⟨?_⟩
  refine (KP.out _).mono ?_
  rintro e w1 ⟨rfl, hB1⟩
  go_wp2_with (go_at_call 16; apply Aside0.out)
  refine ⟨?_⟩
  refine (KR.out _).mono ?_
  rintro e w2 ⟨rfl, hB2⟩
  have KB2 := Aside0.mk (below_then hB1 hB1.size hB2)
  clear hB1 hB2
  go_wp2_with (first | (go_at_call 17; refine (num_any _ _).mono ?_; rintro e w' ⟨rfl, rfl⟩) | (go_at_call 18; apply Aside0.out))
  refine ⟨?_⟩
  refine (KW.out _).mono ?_
  rintro e w3 ⟨rfl, hB3⟩
  have KB3 := Aside0.mk (below_then KB2.out KB2.out.size hB3)
  clear hB3
  go_wp2_with (go_at_call 15; apply Aside0.out)
  refine ⟨?_⟩
  refine (KQ.out _).mono ?_
  rintro e w4 ⟨rfl, hB4⟩
  have KB4 := Aside0.mk (below_then KB3.out KB3.out.size hB4)
  clear hB4
  go_wp2_with (first | (go_at_call 17; refine (num_any _ _).mono ?_; rintro e w' ⟨rfl, rfl⟩) | (go_at_call 19; refine (live_any _).mono ?_; rintro e w' ⟨rfl, hbel⟩))
  go_ret
  exact ⟨rfl, below_then KB4.out KB4.out.size hbel⟩
theorem out_ (w : World) (a0 : Int) (h0 : -9223372036854775808 ≤ a0) (h1 : a0 ≤ 9223372036854775807) (a1 : Int) (a2 : Bool) (lo hi : Bool) (hlo : decide (a1 < 1) = lo) (hhi : decide (a1 > 1048576) = hi) (ho : lo = true ∨ (lo = false ∧ hi = true)) : Calls Try.prog 3 #[.int .i64 a0, .int .i64 a1, .bool a2] w fun e w' => e = .returned (.bool true) ∧ Below w.heap.size w w' := by
  have KP := Aside0.mk (fun w1 => parts_any a0 h0 h1 w1)
  have KR := Aside0.mk (fun w1 => rparts_any a0 h0 h1 w1)
  have KW := Aside0.mk (fun w1 => word_any a1 a2 w1)
  have hw : wrd a1 a2 = (0, 1) := by
    unfold wrd
    rw [if_pos]
    rcases ho with rfl | ⟨-, rfl⟩
    · exact Or.inl (of_decide_eq_true hlo)
    · exact Or.inr (of_decide_eq_true hhi)
  rw [hw] at KW
  obtain ⟨⟨n, p, e0⟩, hp⟩ : ∃ t, t = prt a0 := ⟨_, rfl⟩
  rw [← hp] at KP KR
  clear hp h0 h1 hw
  rcases ho with rfl | ⟨rfl, rfl⟩
  all_goals
    go_enter Try.func3, Try.ntmps3
    go_wp2_with (go_at_call 15; apply Aside0.out)
    refine ⟨?_⟩
    refine (KP.out _).mono ?_
    rintro e w1 ⟨rfl, hB1⟩
    go_wp2_with (go_at_call 16; apply Aside0.out)
    refine ⟨?_⟩
    refine (KR.out _).mono ?_
    rintro e w2 ⟨rfl, hB2⟩
    have KB2 := Aside0.mk (below_then hB1 hB1.size hB2)
    clear hB1 hB2
    go_wp2_with (first | (go_at_call 17; refine (num_any _ _).mono ?_; rintro e w' ⟨rfl, rfl⟩) | (go_at_call 18; apply Aside0.out))
    refine ⟨?_⟩
    refine (KW.out _).mono ?_
    rintro e w3 ⟨rfl, hB3⟩
    have KB3 := Aside0.mk (below_then KB2.out KB2.out.size hB3)
    clear hB3
    go_wp2_with (first | (go_at_call 17; refine (num_any _ _).mono ?_; rintro e w' ⟨rfl, rfl⟩) | (go_at_call 19; refine (live_any _).mono ?_; rintro e w' ⟨rfl, hbel⟩))
    go_ret
    exact ⟨rfl, below_then KB3.out KB3.out.size hbel⟩
theorem walk (w : World) (a0 : Int) (w0 : (Lit.int .i64 a0).wf = true) (a1 : Int) (w1 : (Lit.int .i64 a1).wf = true) (a2 : Bool) :
    Calls Try.prog 3 #[.int .i64 a0, .int .i64 a1, .bool a2] w fun e w' => e = .returned (.bool true) ∧ Below w.heap.size w w' := by
  have hb := Go.bounds_i64 w0
  by_cases h1 : a1 < 1
  · exact out_ w a0 (by omega) (by omega) a1 a2 true _ (decide_eq_true h1) rfl (Or.inl rfl)
  · by_cases h2 : a1 > 1048576
    · exact out_ w a0 (by omega) (by omega) a1 a2 false true (decide_eq_false h1) (decide_eq_true h2) (Or.inr ⟨rfl, rfl⟩)
    · exact words_ w a0 (by omega) (by omega) a1 a2 (by omega) (by omega)
end BlocksWords
end Go.Proofs.Ytpdggoapjbjmhaa
