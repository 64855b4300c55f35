/- A flash memory: the laws' sizes; what a law on bytes asks of a flash. -/
import Derived.Test.YtepmgkmbmejkjaaFl9
set_option linter.unusedVariables false
set_option linter.unusedSimpArgs false
namespace Go.Proofs.Ytepmgkmbmejkjaa.Fl
open Go.RowKit Go.Proofs.YtepmgkmbmejkjaaW.PrintWords Go.Proofs.YtepmgkmbmejkjaaW.PrintLast Go.Proofs.YtepmgkmbmejkjaaW.PrintMore
def smallP (S P B : Int) : Bool := if chk S P B = 0 then (decide (S ≤ 16) && decide (P ≤ 16) && decide (B ≤ 64)) else true
set_option maxHeartbeats 1000000 in
theorem small_any (S P B : Int) (w : World) : Calls Try.prog 15 #[.agg #[.int .i64 S, .int .i64 P, .int .i64 B]] w fun e w' => e = .returned (.bool (smallP S P B)) ∧ Below w.heap.size w w' := by
  have hal : Below w.heap.size w (w.alloc (.cells #[.int .i64 S, .int .i64 P, .int .i64 B] 23)) := below_alloc (Below.refl _ _) _
  have hX : (w.alloc (.cells #[.int .i64 S, .int .i64 P, .int .i64 B] 23)).heap[w.heap.size]? = some (.cells #[.int .i64 S, .int .i64 P, .int .i64 B] 23 (0, 0)) := heap_alloc_new w _
  have Kal := Aside0.mk hal
  have KX := Aside0.mk hX
  have hchk := fun w => rcheck_any S P B w
  unfold smallP
  clear hal hX
  obtain ⟨g, hg⟩ : ∃ g, w.heap.size = g := ⟨_, rfl⟩
  by_cases h0 : chk S P B = 0
  · rw [if_pos h0]
    rw [h0] at hchk
    have Kc := Aside0.mk hchk
    clear hchk h0
    by_cases h1 : S ≤ 16
    · rw [decide_eq_true h1, Bool.true_and]
      by_cases h2 : P ≤ 16
      · rw [decide_eq_true h2, Bool.true_and]
        go_enter Try.func15, Try.ntmps15
        go_wp2_with (go_at_call 13; refine (Kc.out _).mono ?_; rintro e w1 ⟨rfl, hb1⟩; have hX1 := blk_below KX.out hb1; rw [hg] at hX1; have d0 : w1.cell? ⟨g, 0, none⟩ = some (.int .i64 S) := (cell_of_row _ _ _ _ _ _ hX1).trans rfl; have d1 : w1.cell? ⟨g, 1, none⟩ = some (.int .i64 P) := (cell_of_row _ _ _ _ _ _ hX1).trans rfl; have d2 : w1.cell? ⟨g, 2, none⟩ = some (.int .i64 B) := (cell_of_row _ _ _ _ _ _ hX1).trans rfl; have Kb1 := Aside0.mk hb1; clear hb1 hX1)
        go_ret
        exact ⟨rfl, below_then Kal.out Kal.out.size Kb1.out⟩
      · rw [decide_eq_false h2, Bool.false_and]
        have h2' : decide (P ≤ 16) = false := decide_eq_false h2
        go_enter Try.func15, Try.ntmps15
        go_wp2_with (go_at_call 13; refine (Kc.out _).mono ?_; rintro e w1 ⟨rfl, hb1⟩; have hX1 := blk_below KX.out hb1; rw [hg] at hX1; have d0 : w1.cell? ⟨g, 0, none⟩ = some (.int .i64 S) := (cell_of_row _ _ _ _ _ _ hX1).trans rfl; have d1 : w1.cell? ⟨g, 1, none⟩ = some (.int .i64 P) := (cell_of_row _ _ _ _ _ _ hX1).trans rfl; have d2 : w1.cell? ⟨g, 2, none⟩ = some (.int .i64 B) := (cell_of_row _ _ _ _ _ _ hX1).trans rfl; have Kb1 := Aside0.mk hb1; clear hb1 hX1)
        go_ret
        exact ⟨rfl, below_then Kal.out Kal.out.size Kb1.out⟩
    · rw [decide_eq_false h1, Bool.false_and, Bool.false_and]
      have h1' : decide (S ≤ 16) = false := decide_eq_false h1
      go_enter Try.func15, Try.ntmps15
      go_wp2_with (go_at_call 13; refine (Kc.out _).mono ?_; rintro e w1 ⟨rfl, hb1⟩; have hX1 := blk_below KX.out hb1; rw [hg] at hX1; have d0 : w1.cell? ⟨g, 0, none⟩ = some (.int .i64 S) := (cell_of_row _ _ _ _ _ _ hX1).trans rfl; have d1 : w1.cell? ⟨g, 1, none⟩ = some (.int .i64 P) := (cell_of_row _ _ _ _ _ _ hX1).trans rfl; have d2 : w1.cell? ⟨g, 2, none⟩ = some (.int .i64 B) := (cell_of_row _ _ _ _ _ _ hX1).trans rfl; have Kb1 := Aside0.mk hb1; clear hb1 hX1)
      go_ret
      exact ⟨rfl, below_then Kal.out Kal.out.size Kb1.out⟩
  · rw [if_neg h0]
    obtain ⟨q, hq⟩ : ∃ q, q = chk S P B := ⟨_, rfl⟩
    rw [← hq] at hchk h0
    have hne : (q != 0) = true := by simpa using h0
    have Kc := Aside0.mk hchk
    clear hchk h0 hq
    go_enter Try.func15, Try.ntmps15
    go_wp2_with (go_at_call 13; refine (Kc.out _).mono ?_; rintro e w1 ⟨rfl, hb1⟩; have Kb1 := Aside0.mk hb1; clear hb1)
    go_ret
    exact ⟨rfl, below_then Kal.out Kal.out.size Kb1.out⟩
theorem small_of {S P B : Int} (h : smallP S P B = true) (h0 : chk S P B = 0) : (1 ≤ S ∧ S ≤ 16) ∧ (1 ≤ P ∧ P ≤ 16) ∧ (16 ≤ B ∧ B ≤ 64) := by
  unfold smallP at h
  rw [if_pos h0] at h
  simp only [Bool.and_eq_true, decide_eq_true_eq] at h
  obtain ⟨⟨h1, h2, h3⟩, h4⟩ := chk_ok h0
  omega
end Go.Proofs.Ytepmgkmbmejkjaa.Fl
