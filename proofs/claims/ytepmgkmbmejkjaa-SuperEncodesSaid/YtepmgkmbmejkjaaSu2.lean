/- An image's head: the document's Right; Block, Area: walks. -/
import Derived.Test.YtepmgkmbmejkjaaSu1
import Derived.Deep.QuietTactic
import Derived.BigQuiet
set_option linter.unusedVariables false
set_option linter.unusedSimpArgs false
namespace Go.Proofs.Ytepmgkmbmejkjaa.Su
open Go.RowKit Go.Proofs.YtepmgkmbmejkjaaW.PrintWords Go.Proofs.YtepmgkmbmejkjaaW.PrintLast Go.Proofs.YtepmgkmbmejkjaaW.PrintMore
theorem SB.all' {w wr : World} {s : Sup} (h : SB w s wr) : wr.cell? ⟨w.heap.size, 0, none⟩ = some (.int .i64 s.log) ∧ wr.cell? ⟨w.heap.size, 1, none⟩ = some (.int .i64 s.ino) ∧ wr.cell? ⟨w.heap.size, 2, none⟩ = some (.int .i64 s.len) := ⟨(cell_of_row _ _ _ _ _ _ h.1).trans rfl, (cell_of_row _ _ _ _ _ _ h.1).trans rfl, (cell_of_row _ _ _ _ _ _ h.1).trans rfl⟩
theorem SB.c0' {w wr : World} {s : Sup} (h : SB w s wr) : wr.cell? ⟨w.heap.size, 3, none⟩ = some (.int .i64 (s.a 0)) ∧ wr.cell? ⟨w.heap.size, 4, none⟩ = some (.int .i64 (s.z 0)) := ⟨(cell_of_row _ _ _ _ _ _ h.1).trans rfl, (cell_of_row _ _ _ _ _ _ h.1).trans rfl⟩
theorem SB.c1' {w wr : World} {s : Sup} (h : SB w s wr) : wr.cell? ⟨w.heap.size, 5, none⟩ = some (.int .i64 (s.a 1)) ∧ wr.cell? ⟨w.heap.size, 6, none⟩ = some (.int .i64 (s.z 1)) := ⟨(cell_of_row _ _ _ _ _ _ h.1).trans rfl, (cell_of_row _ _ _ _ _ _ h.1).trans rfl⟩
theorem SB.c2' {w wr : World} {s : Sup} (h : SB w s wr) : wr.cell? ⟨w.heap.size, 7, none⟩ = some (.int .i64 (s.a 2)) ∧ wr.cell? ⟨w.heap.size, 8, none⟩ = some (.int .i64 (s.z 2)) := ⟨(cell_of_row _ _ _ _ _ _ h.1).trans rfl, (cell_of_row _ _ _ _ _ _ h.1).trans rfl⟩
theorem SB.c3' {w wr : World} {s : Sup} (h : SB w s wr) : wr.cell? ⟨w.heap.size, 9, none⟩ = some (.int .i64 (s.a 3)) ∧ wr.cell? ⟨w.heap.size, 10, none⟩ = some (.int .i64 (s.z 3)) := ⟨(cell_of_row _ _ _ _ _ _ h.1).trans rfl, (cell_of_row _ _ _ _ _ _ h.1).trans rfl⟩
theorem SB.c4' {w wr : World} {s : Sup} (h : SB w s wr) : wr.cell? ⟨w.heap.size, 11, none⟩ = some (.int .i64 (s.a 4)) ∧ wr.cell? ⟨w.heap.size, 12, none⟩ = some (.int .i64 (s.z 4)) := ⟨(cell_of_row _ _ _ _ _ _ h.1).trans rfl, (cell_of_row _ _ _ _ _ _ h.1).trans rfl⟩
theorem SB.c5' {w wr : World} {s : Sup} (h : SB w s wr) : wr.cell? ⟨w.heap.size, 13, none⟩ = some (.int .i64 (s.a 5)) ∧ wr.cell? ⟨w.heap.size, 14, none⟩ = some (.int .i64 (s.z 5)) := ⟨(cell_of_row _ _ _ _ _ _ h.1).trans rfl, (cell_of_row _ _ _ _ _ _ h.1).trans rfl⟩
theorem bel2 (w : World) (o : Obj) (k : Nat) : Below w.heap.size w ((w.alloc o).drewN k) := pw_below_drewN (below_alloc (Below.refl _ _) o) k
theorem last68 {s : Sup} {k : Nat} (hk : k ≤ 6) (h : ∀ j, j < k → spanOk s j) : 68 ≤ lastOf s k := by
  have : ∀ j, j ≤ k → 68 ≤ lastOf s j := by
    intro j
    induction j with
    | zero => intro _; exact Int.le_refl _
    | succ j ih =>
      intro hj
      have h1 := ih (by omega)
      have h2 := (h j (by omega)).1.1
      show 68 ≤ s.a (j + 1 - 1)
      rw [Nat.add_sub_cancel]
      omega
  exact this k (Nat.le_refl _)
set_option maxHeartbeats 8000000 in
set_option maxRecDepth 100000 in
theorem rright_any (s : Sup) (w : World) : Calls Try.prog 33 #[.agg #[.int .i64 s.log, .int .i64 s.ino, .int .i64 s.len, .int .i64 (s.a 0), .int .i64 (s.z 0), .int .i64 (s.a 1), .int .i64 (s.z 1), .int .i64 (s.a 2), .int .i64 (s.z 2), .int .i64 (s.a 3), .int .i64 (s.z 3), .int .i64 (s.a 4), .int .i64 (s.z 4), .int .i64 (s.a 5), .int .i64 (s.z 5)]] w fun e w' => e = .returned (.bool (decide (right s))) ∧ Below w.heap.size w w' := by
  have hal : Below w.heap.size w (w.alloc (.cells #[.int .i64 s.log, .int .i64 s.ino, .int .i64 s.len, .int .i64 (s.a 0), .int .i64 (s.z 0), .int .i64 (s.a 1), .int .i64 (s.z 1), .int .i64 (s.a 2), .int .i64 (s.z 2), .int .i64 (s.a 3), .int .i64 (s.z 3), .int .i64 (s.a 4), .int .i64 (s.z 4), .int .i64 (s.a 5), .int .i64 (s.z 5)] 65)) := below_alloc (Below.refl _ _) _
  have Kal := Aside0.mk hal
  have KS : Aside0 (SB w s (w.alloc (.cells #[.int .i64 s.log, .int .i64 s.ino, .int .i64 s.len, .int .i64 (s.a 0), .int .i64 (s.z 0), .int .i64 (s.a 1), .int .i64 (s.z 1), .int .i64 (s.a 2), .int .i64 (s.z 2), .int .i64 (s.a 3), .int .i64 (s.z 3), .int .i64 (s.a 4), .int .i64 (s.z 4), .int .i64 (s.a 5), .int .i64 (s.z 5)] 65))) := ⟨heap_alloc_new _ _, hal⟩
  clear hal
  by_cases hh : headOk s
  · have hk := hh
    obtain ⟨⟨a1, a2⟩, ⟨a3, a4⟩, ⟨a5, a6⟩⟩ := hk
    have Kh := Aside0.mk hh
    clear hh
    go_enter Try.func33, Try.ntmps33
    go_wp2
    clear a1 a2 a3 a4
    go_loopw [3] (fun i wr => ∃ k : Nat, k ≤ 6 ∧ i = .int .i64 k ∧ Aside0 (∀ j, j < k → spanOk s j) ∧ Aside0 (SB w s wr)) (fun i _ => 6 - (intOf i).toNat)
    case atStart => exact ⟨0, by omega, rfl, ⟨fun j hj => absurd hj (Nat.not_lt_zero _)⟩, KS⟩
    case round =>
      obtain ⟨k, hk, rfl, Kj, KB⟩ := hrel
      have hl68 := last68 hk Kj.out
      obtain ⟨q0, q1, q2⟩ := KB.out.all'
      clear q0 q1
      have hsz : w.heap.size < wr.heap.size := blk_lt KB.out.1
      by_cases hlt : k < 6
      · have Kn : Aside0 (∀ wr1 : World, Below wr.heap.size wr wr1 → SB w s wr1) := ⟨fun wr1 hb => ⟨blk_below KB.out.1 hb, below_then KB.out.2 KB.out.2.size hb⟩⟩
        by_cases ho : spanOk s k
        · have Ks : Aside0 (∀ j, j < k + 1 → spanOk s j) := ⟨fun j hj => by
            rcases Nat.lt_succ_iff_lt_or_eq.1 hj with h | h
            · exact Kj.out j h
            · subst h; exact ho⟩
          obtain ⟨⟨o1, o2⟩, o3, o4⟩ := ho
          have o5 : 68 ≤ s.a k := by omega
          have hkc : k = 0 ∨ k = 1 ∨ k = 2 ∨ k = 3 ∨ k = 4 ∨ k = 5 := by omega
          rcases hkc with rfl | rfl | rfl | rfl | rfl | rfl
          · simp only [lo0] at o1 hl68
            obtain ⟨p1, p2⟩ := KB.out.c0'
            have d1 : decide (s.a 0 < 68) = false := decide_eq_false (by omega)
            have d2 : decide (s.len < s.a 0) = false := decide_eq_false (by omega)
            have d4 : decide (s.z 0 < 0) = false := decide_eq_false (by omega)
            have d5 : decide (16777216 < s.z 0) = false := decide_eq_false (by omega)
            clear o1 o2 o3 o4 o5 hl68
            go_wp2
            go_quiet (fail)
            go_wp2
            exact ⟨⟨1, by decide, rfl, Ks, ⟨Kn.out _ (bel2 _ _ _)⟩⟩, by simp [intOf]⟩
          · simp only [lo1] at o1 hl68
            obtain ⟨p1, p2⟩ := KB.out.c1'
            have p0 := KB.out.c0'.1
            have d1 : decide (s.a 1 < 68) = false := decide_eq_false (by omega)
            have d2 : decide (s.len < s.a 1) = false := decide_eq_false (by omega)
            have d3 : decide (s.a 1 < s.a 0) = false := decide_eq_false (by omega)
            have d4 : decide (s.z 1 < 0) = false := decide_eq_false (by omega)
            have d5 : decide (16777216 < s.z 1) = false := decide_eq_false (by omega)
            clear o1 o2 o3 o4 o5 hl68
            go_wp2
            go_quiet (fail)
            go_wp2
            exact ⟨⟨2, by decide, rfl, Ks, ⟨Kn.out _ (bel2 _ _ _)⟩⟩, by simp [intOf]⟩
          · simp only [lo2] at o1 hl68
            obtain ⟨p1, p2⟩ := KB.out.c2'
            have p0 := KB.out.c1'.1
            have d1 : decide (s.a 2 < 68) = false := decide_eq_false (by omega)
            have d2 : decide (s.len < s.a 2) = false := decide_eq_false (by omega)
            have d3 : decide (s.a 2 < s.a 1) = false := decide_eq_false (by omega)
            have d4 : decide (s.z 2 < 0) = false := decide_eq_false (by omega)
            have d5 : decide (16777216 < s.z 2) = false := decide_eq_false (by omega)
            clear o1 o2 o3 o4 o5 hl68
            go_wp2
            go_quiet (fail)
            go_wp2
            exact ⟨⟨3, by decide, rfl, Ks, ⟨Kn.out _ (bel2 _ _ _)⟩⟩, by simp [intOf]⟩
          · simp only [lo3] at o1 hl68
            obtain ⟨p1, p2⟩ := KB.out.c3'
            have p0 := KB.out.c2'.1
            have d1 : decide (s.a 3 < 68) = false := decide_eq_false (by omega)
            have d2 : decide (s.len < s.a 3) = false := decide_eq_false (by omega)
            have d3 : decide (s.a 3 < s.a 2) = false := decide_eq_false (by omega)
            have d4 : decide (s.z 3 < 0) = false := decide_eq_false (by omega)
            have d5 : decide (16777216 < s.z 3) = false := decide_eq_false (by omega)
            clear o1 o2 o3 o4 o5 hl68
            go_wp2
            go_quiet (fail)
            go_wp2
            exact ⟨⟨4, by decide, rfl, Ks, ⟨Kn.out _ (bel2 _ _ _)⟩⟩, by simp [intOf]⟩
          · simp only [lo4] at o1 hl68
            obtain ⟨p1, p2⟩ := KB.out.c4'
            have p0 := KB.out.c3'.1
            have d1 : decide (s.a 4 < 68) = false := decide_eq_false (by omega)
            have d2 : decide (s.len < s.a 4) = false := decide_eq_false (by omega)
            have d3 : decide (s.a 4 < s.a 3) = false := decide_eq_false (by omega)
            have d4 : decide (s.z 4 < 0) = false := decide_eq_false (by omega)
            have d5 : decide (16777216 < s.z 4) = false := decide_eq_false (by omega)
            clear o1 o2 o3 o4 o5 hl68
            go_wp2
            go_quiet (fail)
            go_wp2
            exact ⟨⟨5, by decide, rfl, Ks, ⟨Kn.out _ (bel2 _ _ _)⟩⟩, by simp [intOf]⟩
          · simp only [lo5] at o1 hl68
            obtain ⟨p1, p2⟩ := KB.out.c5'
            have p0 := KB.out.c4'.1
            have d1 : decide (s.a 5 < 68) = false := decide_eq_false (by omega)
            have d2 : decide (s.len < s.a 5) = false := decide_eq_false (by omega)
            have d3 : decide (s.a 5 < s.a 4) = false := decide_eq_false (by omega)
            have d4 : decide (s.z 5 < 0) = false := decide_eq_false (by omega)
            have d5 : decide (16777216 < s.z 5) = false := decide_eq_false (by omega)
            clear o1 o2 o3 o4 o5 hl68
            go_wp2
            go_quiet (fail)
            go_wp2
            exact ⟨⟨6, by decide, rfl, Ks, ⟨Kn.out _ (bel2 _ _ _)⟩⟩, by simp [intOf]⟩
        · have Kr : Aside0 (decide (right s) = false) := ⟨decide_eq_false (right_span hlt ho)⟩
          have h5 : s.a k < 68 ∨ (68 ≤ s.a k ∧ s.len < s.a k) ∨ (68 ≤ s.a k ∧ s.a k ≤ s.len ∧ s.a k < lastOf s k) ∨ (68 ≤ s.a k ∧ s.a k ≤ s.len ∧ lastOf s k ≤ s.a k ∧ s.z k < 0) ∨ (68 ≤ s.a k ∧ s.a k ≤ s.len ∧ lastOf s k ≤ s.a k ∧ 0 ≤ s.z k ∧ 16777216 < s.z k) := by unfold spanOk at ho; omega
          clear ho
          have hkc : k = 0 ∨ k = 1 ∨ k = 2 ∨ k = 3 ∨ k = 4 ∨ k = 5 := by omega
          rcases hkc with rfl | rfl | rfl | rfl | rfl | rfl
          · simp only [lo0] at h5 hl68
            obtain ⟨p1, p2⟩ := KB.out.c0'
            rcases h5 with h5 | ⟨h5, h6⟩ | ⟨h5, h6, h7⟩ | ⟨h5, h6, h7, h8⟩ | ⟨h5, h6, h7, h8, h9⟩
            rotate_left 2
            · exact absurd h5 (by omega)
            all_goals
              have d1 : Aside0 True := ⟨trivial⟩
              try (have e1 : decide (s.a 0 < 68) = false := decide_eq_false (by omega))
              try (have f1 : decide (s.a 0 < 68) = true := decide_eq_true (by omega))
              try (have e2 : decide (s.len < s.a 0) = false := decide_eq_false (by omega))
              try (have f2 : decide (s.len < s.a 0) = true := decide_eq_true (by omega))
              try (have e3 : decide (s.z 0 < 0) = false := decide_eq_false (by omega))
              try (have f3 : decide (s.z 0 < 0) = true := decide_eq_true (by omega))
              try (have e4 : decide (16777216 < s.z 0) = false := decide_eq_false (by omega))
              try (have f4 : decide (16777216 < s.z 0) = true := decide_eq_true (by omega))
              clear hl68
              try clear h5
              try clear h6
              try clear h7
              try clear h8
              try clear h9
              go_wp2
              go_quiet (fail)
              go_wp2
              go_ret
              exact ⟨by rw [Kr.out]; rfl, (Kn.out _ (bel2 _ _ _)).2⟩
          · simp only [lo1] at h5 hl68
            obtain ⟨p1, p2⟩ := KB.out.c1'
            have p0 := KB.out.c0'.1
            rcases h5 with h5 | ⟨h5, h6⟩ | ⟨h5, h6, h7⟩ | ⟨h5, h6, h7, h8⟩ | ⟨h5, h6, h7, h8, h9⟩
            all_goals
              have d1 : Aside0 True := ⟨trivial⟩
              try (have e1 : decide (s.a 1 < 68) = false := decide_eq_false (by omega))
              try (have f1 : decide (s.a 1 < 68) = true := decide_eq_true (by omega))
              try (have e2 : decide (s.len < s.a 1) = false := decide_eq_false (by omega))
              try (have f2 : decide (s.len < s.a 1) = true := decide_eq_true (by omega))
              try (have e3 : decide (s.a 1 < s.a 0) = false := decide_eq_false (by omega))
              try (have f3 : decide (s.a 1 < s.a 0) = true := decide_eq_true (by omega))
              try (have e4 : decide (s.z 1 < 0) = false := decide_eq_false (by omega))
              try (have f4 : decide (s.z 1 < 0) = true := decide_eq_true (by omega))
              try (have e5 : decide (16777216 < s.z 1) = false := decide_eq_false (by omega))
              try (have f5 : decide (16777216 < s.z 1) = true := decide_eq_true (by omega))
              clear hl68
              try clear h5
              try clear h6
              try clear h7
              try clear h8
              try clear h9
              go_wp2
              go_quiet (fail)
              go_wp2
              go_ret
              exact ⟨by rw [Kr.out]; rfl, (Kn.out _ (bel2 _ _ _)).2⟩
          · simp only [lo2] at h5 hl68
            obtain ⟨p1, p2⟩ := KB.out.c2'
            have p0 := KB.out.c1'.1
            rcases h5 with h5 | ⟨h5, h6⟩ | ⟨h5, h6, h7⟩ | ⟨h5, h6, h7, h8⟩ | ⟨h5, h6, h7, h8, h9⟩
            all_goals
              have d1 : Aside0 True := ⟨trivial⟩
              try (have e1 : decide (s.a 2 < 68) = false := decide_eq_false (by omega))
              try (have f1 : decide (s.a 2 < 68) = true := decide_eq_true (by omega))
              try (have e2 : decide (s.len < s.a 2) = false := decide_eq_false (by omega))
              try (have f2 : decide (s.len < s.a 2) = true := decide_eq_true (by omega))
              try (have e3 : decide (s.a 2 < s.a 1) = false := decide_eq_false (by omega))
              try (have f3 : decide (s.a 2 < s.a 1) = true := decide_eq_true (by omega))
              try (have e4 : decide (s.z 2 < 0) = false := decide_eq_false (by omega))
              try (have f4 : decide (s.z 2 < 0) = true := decide_eq_true (by omega))
              try (have e5 : decide (16777216 < s.z 2) = false := decide_eq_false (by omega))
              try (have f5 : decide (16777216 < s.z 2) = true := decide_eq_true (by omega))
              clear hl68
              try clear h5
              try clear h6
              try clear h7
              try clear h8
              try clear h9
              go_wp2
              go_quiet (fail)
              go_wp2
              go_ret
              exact ⟨by rw [Kr.out]; rfl, (Kn.out _ (bel2 _ _ _)).2⟩
          · simp only [lo3] at h5 hl68
            obtain ⟨p1, p2⟩ := KB.out.c3'
            have p0 := KB.out.c2'.1
            rcases h5 with h5 | ⟨h5, h6⟩ | ⟨h5, h6, h7⟩ | ⟨h5, h6, h7, h8⟩ | ⟨h5, h6, h7, h8, h9⟩
            all_goals
              have d1 : Aside0 True := ⟨trivial⟩
              try (have e1 : decide (s.a 3 < 68) = false := decide_eq_false (by omega))
              try (have f1 : decide (s.a 3 < 68) = true := decide_eq_true (by omega))
              try (have e2 : decide (s.len < s.a 3) = false := decide_eq_false (by omega))
              try (have f2 : decide (s.len < s.a 3) = true := decide_eq_true (by omega))
              try (have e3 : decide (s.a 3 < s.a 2) = false := decide_eq_false (by omega))
              try (have f3 : decide (s.a 3 < s.a 2) = true := decide_eq_true (by omega))
              try (have e4 : decide (s.z 3 < 0) = false := decide_eq_false (by omega))
              try (have f4 : decide (s.z 3 < 0) = true := decide_eq_true (by omega))
              try (have e5 : decide (16777216 < s.z 3) = false := decide_eq_false (by omega))
              try (have f5 : decide (16777216 < s.z 3) = true := decide_eq_true (by omega))
              clear hl68
              try clear h5
              try clear h6
              try clear h7
              try clear h8
              try clear h9
              go_wp2
              go_quiet (fail)
              go_wp2
              go_ret
              exact ⟨by rw [Kr.out]; rfl, (Kn.out _ (bel2 _ _ _)).2⟩
          · simp only [lo4] at h5 hl68
            obtain ⟨p1, p2⟩ := KB.out.c4'
            have p0 := KB.out.c3'.1
            rcases h5 with h5 | ⟨h5, h6⟩ | ⟨h5, h6, h7⟩ | ⟨h5, h6, h7, h8⟩ | ⟨h5, h6, h7, h8, h9⟩
            all_goals
              have d1 : Aside0 True := ⟨trivial⟩
              try (have e1 : decide (s.a 4 < 68) = false := decide_eq_false (by omega))
              try (have f1 : decide (s.a 4 < 68) = true := decide_eq_true (by omega))
              try (have e2 : decide (s.len < s.a 4) = false := decide_eq_false (by omega))
              try (have f2 : decide (s.len < s.a 4) = true := decide_eq_true (by omega))
              try (have e3 : decide (s.a 4 < s.a 3) = false := decide_eq_false (by omega))
              try (have f3 : decide (s.a 4 < s.a 3) = true := decide_eq_true (by omega))
              try (have e4 : decide (s.z 4 < 0) = false := decide_eq_false (by omega))
              try (have f4 : decide (s.z 4 < 0) = true := decide_eq_true (by omega))
              try (have e5 : decide (16777216 < s.z 4) = false := decide_eq_false (by omega))
              try (have f5 : decide (16777216 < s.z 4) = true := decide_eq_true (by omega))
              clear hl68
              try clear h5
              try clear h6
              try clear h7
              try clear h8
              try clear h9
              go_wp2
              go_quiet (fail)
              go_wp2
              go_ret
              exact ⟨by rw [Kr.out]; rfl, (Kn.out _ (bel2 _ _ _)).2⟩
          · simp only [lo5] at h5 hl68
            obtain ⟨p1, p2⟩ := KB.out.c5'
            have p0 := KB.out.c4'.1
            rcases h5 with h5 | ⟨h5, h6⟩ | ⟨h5, h6, h7⟩ | ⟨h5, h6, h7, h8⟩ | ⟨h5, h6, h7, h8, h9⟩
            all_goals
              have d1 : Aside0 True := ⟨trivial⟩
              try (have e1 : decide (s.a 5 < 68) = false := decide_eq_false (by omega))
              try (have f1 : decide (s.a 5 < 68) = true := decide_eq_true (by omega))
              try (have e2 : decide (s.len < s.a 5) = false := decide_eq_false (by omega))
              try (have f2 : decide (s.len < s.a 5) = true := decide_eq_true (by omega))
              try (have e3 : decide (s.a 5 < s.a 4) = false := decide_eq_false (by omega))
              try (have f3 : decide (s.a 5 < s.a 4) = true := decide_eq_true (by omega))
              try (have e4 : decide (s.z 5 < 0) = false := decide_eq_false (by omega))
              try (have f4 : decide (s.z 5 < 0) = true := decide_eq_true (by omega))
              try (have e5 : decide (16777216 < s.z 5) = false := decide_eq_false (by omega))
              try (have f5 : decide (16777216 < s.z 5) = true := decide_eq_true (by omega))
              clear hl68
              try clear h5
              try clear h6
              try clear h7
              try clear h8
              try clear h9
              go_wp2
              go_quiet (fail)
              go_wp2
              go_ret
              exact ⟨by rw [Kr.out]; rfl, (Kn.out _ (bel2 _ _ _)).2⟩
      · obtain rfl : k = 6 := by omega
        have Kr : Aside0 (decide (right s) = true) := ⟨decide_eq_true ⟨Kh.out, Kj.out⟩⟩
        go_wp2
        go_ret
        exact ⟨by rw [Kr.out]; rfl, KB.out.2⟩
  · have Kr : Aside0 (decide (right s) = false) := ⟨decide_eq_false (right_head hh)⟩
    have h6 : s.log < 12 ∨ (12 ≤ s.log ∧ 20 < s.log) ∨ (12 ≤ s.log ∧ s.log ≤ 20 ∧ s.ino < 1) ∨ (12 ≤ s.log ∧ s.log ≤ 20 ∧ 1 ≤ s.ino ∧ 16385 < s.ino) ∨ (12 ≤ s.log ∧ s.log ≤ 20 ∧ 1 ≤ s.ino ∧ s.ino ≤ 16385 ∧ s.len < 68) ∨ (12 ≤ s.log ∧ s.log ≤ 20 ∧ 1 ≤ s.ino ∧ s.ino ≤ 16385 ∧ 68 ≤ s.len ∧ 8388608 < s.len) := by unfold headOk at hh; omega
    clear hh
    rcases h6 with h | ⟨h, h2⟩ | ⟨h, h2, h3⟩ | ⟨h, h2, h3, h4⟩ | ⟨h, h2, h3, h4, h5⟩ | ⟨h, h2, h3, h4, h5, h6⟩
    all_goals
      go_enter Try.func33, Try.ntmps33
      go_wp2
      go_ret
      exact ⟨by rw [Kr.out]; rfl, Kal.out⟩
set_option maxRecDepth 100000 in
theorem block_any (s : Sup) (w : World) : Calls Try.prog 38 #[.agg #[.int .i64 s.log, .int .i64 s.ino, .int .i64 s.len, .int .i64 (s.a 0), .int .i64 (s.z 0), .int .i64 (s.a 1), .int .i64 (s.z 1), .int .i64 (s.a 2), .int .i64 (s.z 2), .int .i64 (s.a 3), .int .i64 (s.z 3), .int .i64 (s.a 4), .int .i64 (s.z 4), .int .i64 (s.a 5), .int .i64 (s.z 5)]] w fun e w' => e = .returned (.int .i64 (if right s then wrap64 (2 ^ s.log.toNat) else 0)) ∧ Below w.heap.size w w' := by
  have hal : Below w.heap.size w (w.alloc (.cells #[.int .i64 s.log, .int .i64 s.ino, .int .i64 s.len, .int .i64 (s.a 0), .int .i64 (s.z 0), .int .i64 (s.a 1), .int .i64 (s.z 1), .int .i64 (s.a 2), .int .i64 (s.z 2), .int .i64 (s.a 3), .int .i64 (s.z 3), .int .i64 (s.a 4), .int .i64 (s.z 4), .int .i64 (s.a 5), .int .i64 (s.z 5)] 65)) := below_alloc (Below.refl _ _) _
  have Kal := Aside0.mk hal
  have KB0 : Aside0 (SB w s (w.alloc (.cells #[.int .i64 s.log, .int .i64 s.ino, .int .i64 s.len, .int .i64 (s.a 0), .int .i64 (s.z 0), .int .i64 (s.a 1), .int .i64 (s.z 1), .int .i64 (s.a 2), .int .i64 (s.z 2), .int .i64 (s.a 3), .int .i64 (s.z 3), .int .i64 (s.a 4), .int .i64 (s.z 4), .int .i64 (s.a 5), .int .i64 (s.z 5)] 65))) := ⟨heap_alloc_new _ _, hal⟩
  have KC := Aside0.mk (fun w1 => check_any s w1)
  clear hal
  by_cases hr : right s
  · rw [if_pos hr]
    have hlog := hr.1.1
    unfold chk at KC
    rw [if_pos hr] at KC
    obtain ⟨hl1, hl2⟩ := hlog
    clear hr
    go_enter Try.func38, Try.ntmps38
    go_wp2_with (go_at_call 37; refine (KC.out _).mono ?_; rintro e w1 ⟨rfl, hb⟩; have KB1 : Aside0 (SB w s w1) := ⟨⟨blk_below KB0.out.1 hb, below_then KB0.out.2 KB0.out.2.size hb⟩⟩; have q0 := KB1.out.all'.1; clear hb)
    go_ret
    exact ⟨rfl, KB1.out.2⟩
  · rw [if_neg hr]
    unfold chk at KC
    rw [if_neg hr] at KC
    clear hr
    go_enter Try.func38, Try.ntmps38
    go_wp2_with (go_at_call 37; refine (KC.out _).mono ?_; rintro e w1 ⟨rfl, hb⟩; have KB1 : Aside0 (SB w s w1) := ⟨⟨blk_below KB0.out.1 hb, below_then KB0.out.2 KB0.out.2.size hb⟩⟩; clear hb)
    go_ret
    exact ⟨rfl, KB1.out.2⟩
end Go.Proofs.Ytepmgkmbmejkjaa.Su
