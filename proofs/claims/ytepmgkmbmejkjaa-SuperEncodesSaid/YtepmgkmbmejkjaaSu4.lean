/- An image's head: Area; the page's example: walks. -/
import Derived.Test.YtepmgkmbmejkjaaSu2
import Derived.Test.YtepmgkmbmejkjaaSu3
import Derived.Deep.QuietTactic
import Derived.BigQuiet
set_option linter.unusedVariables false
set_option linter.unusedSimpArgs false
namespace Go.Proofs.Ytepmgkmbmejkjaa.Su
open Go.RowKit Go.Proofs.Ytepmgkmbmejkjaa.Fd Go.Proofs.YtepmgkmbmejkjaaW.PrintWords Go.Proofs.YtepmgkmbmejkjaaW.PrintLast Go.Proofs.YtepmgkmbmejkjaaW.PrintMore
/-- A head's box: its cells. -/
theorem box_cells {w : World} {g : Nat} {s : Sup} (h : w.heap[g]? = some (.cells #[.int .i64 s.log, .int .i64 s.ino, .int .i64 s.len, .int .i64 (s.a 0), .int .i64 (s.z 0), .int .i64 (s.a 1), .int .i64 (s.z 1), .int .i64 (s.a 2), .int .i64 (s.z 2), .int .i64 (s.a 3), .int .i64 (s.z 3), .int .i64 (s.a 4), .int .i64 (s.z 4), .int .i64 (s.a 5), .int .i64 (s.z 5)] 65 (0, 0))) : w.cell? ⟨g, 0, none⟩ = some (.int .i64 s.log) ∧ w.cell? ⟨g, 1, none⟩ = some (.int .i64 s.ino) ∧ w.cell? ⟨g, 2, none⟩ = some (.int .i64 s.len) ∧ w.cell? ⟨g, 3, none⟩ = some (.int .i64 (s.a 0)) ∧ w.cell? ⟨g, 4, none⟩ = some (.int .i64 (s.z 0)) ∧ w.cell? ⟨g, 5, none⟩ = some (.int .i64 (s.a 1)) ∧ w.cell? ⟨g, 6, none⟩ = some (.int .i64 (s.z 1)) ∧ w.cell? ⟨g, 7, none⟩ = some (.int .i64 (s.a 2)) ∧ w.cell? ⟨g, 8, none⟩ = some (.int .i64 (s.z 2)) ∧ w.cell? ⟨g, 9, none⟩ = some (.int .i64 (s.a 3)) ∧ w.cell? ⟨g, 10, none⟩ = some (.int .i64 (s.z 3)) ∧ w.cell? ⟨g, 11, none⟩ = some (.int .i64 (s.a 4)) ∧ w.cell? ⟨g, 12, none⟩ = some (.int .i64 (s.z 4)) ∧ w.cell? ⟨g, 13, none⟩ = some (.int .i64 (s.a 5)) ∧ w.cell? ⟨g, 14, none⟩ = some (.int .i64 (s.z 5)) :=
  ⟨(cell_of_row _ _ _ _ _ _ h).trans rfl, (cell_of_row _ _ _ _ _ _ h).trans rfl, (cell_of_row _ _ _ _ _ _ h).trans rfl, (cell_of_row _ _ _ _ _ _ h).trans rfl, (cell_of_row _ _ _ _ _ _ h).trans rfl, (cell_of_row _ _ _ _ _ _ h).trans rfl, (cell_of_row _ _ _ _ _ _ h).trans rfl, (cell_of_row _ _ _ _ _ _ h).trans rfl, (cell_of_row _ _ _ _ _ _ h).trans rfl, (cell_of_row _ _ _ _ _ _ h).trans rfl, (cell_of_row _ _ _ _ _ _ h).trans rfl, (cell_of_row _ _ _ _ _ _ h).trans rfl, (cell_of_row _ _ _ _ _ _ h).trans rfl, (cell_of_row _ _ _ _ _ _ h).trans rfl, (cell_of_row _ _ _ _ _ _ h).trans rfl⟩
theorem area_wrong (s : Sup) (hr : ¬ right s) (i : Int) (w : World) : Calls Try.prog 32 #[.agg #[.int .i64 s.log, .int .i64 s.ino, .int .i64 s.len, .int .i64 (s.a 0), .int .i64 (s.z 0), .int .i64 (s.a 1), .int .i64 (s.z 1), .int .i64 (s.a 2), .int .i64 (s.z 2), .int .i64 (s.a 3), .int .i64 (s.z 3), .int .i64 (s.a 4), .int .i64 (s.z 4), .int .i64 (s.a 5), .int .i64 (s.z 5)], .int .i64 i] w fun e w' => e = .returned (.tuple #[.int .i64 0, .int .i64 0, .int .i64 1]) ∧ Below w.heap.size w w' := by
  have hal : Below w.heap.size w (w.alloc (.cells #[.int .i64 s.log, .int .i64 s.ino, .int .i64 s.len, .int .i64 (s.a 0), .int .i64 (s.z 0), .int .i64 (s.a 1), .int .i64 (s.z 1), .int .i64 (s.a 2), .int .i64 (s.z 2), .int .i64 (s.a 3), .int .i64 (s.z 3), .int .i64 (s.a 4), .int .i64 (s.z 4), .int .i64 (s.a 5), .int .i64 (s.z 5)] 65)) := below_alloc (Below.refl _ _) _
  have KB0 : Aside0 (SB w s (w.alloc (.cells #[.int .i64 s.log, .int .i64 s.ino, .int .i64 s.len, .int .i64 (s.a 0), .int .i64 (s.z 0), .int .i64 (s.a 1), .int .i64 (s.z 1), .int .i64 (s.a 2), .int .i64 (s.z 2), .int .i64 (s.a 3), .int .i64 (s.z 3), .int .i64 (s.a 4), .int .i64 (s.z 4), .int .i64 (s.a 5), .int .i64 (s.z 5)] 65))) := ⟨heap_alloc_new _ _, hal⟩
  have KC := Aside0.mk (fun w1 => check_any s w1)
  unfold chk at KC
  rw [if_neg hr] at KC
  clear hal hr
  go_enter Try.func32, Try.ntmps32
  go_wp2_with (go_at_call 37; refine (KC.out _).mono ?_; rintro e w1 ⟨rfl, hb⟩; have KB1 : Aside0 (SB w s w1) := ⟨⟨blk_below KB0.out.1 hb, below_then KB0.out.2 KB0.out.2.size hb⟩⟩; clear hb)
  go_ret3
  exact ⟨rfl, KB1.out.2⟩
theorem area_range (s : Sup) (hr : right s) (i : Int) (hi : i < 0 ∨ 5 < i) (w : World) : Calls Try.prog 32 #[.agg #[.int .i64 s.log, .int .i64 s.ino, .int .i64 s.len, .int .i64 (s.a 0), .int .i64 (s.z 0), .int .i64 (s.a 1), .int .i64 (s.z 1), .int .i64 (s.a 2), .int .i64 (s.z 2), .int .i64 (s.a 3), .int .i64 (s.z 3), .int .i64 (s.a 4), .int .i64 (s.z 4), .int .i64 (s.a 5), .int .i64 (s.z 5)], .int .i64 i] w fun e w' => e = .returned (.tuple #[.int .i64 0, .int .i64 0, .int .i64 9]) ∧ Below w.heap.size w w' := by
  have hal : Below w.heap.size w (w.alloc (.cells #[.int .i64 s.log, .int .i64 s.ino, .int .i64 s.len, .int .i64 (s.a 0), .int .i64 (s.z 0), .int .i64 (s.a 1), .int .i64 (s.z 1), .int .i64 (s.a 2), .int .i64 (s.z 2), .int .i64 (s.a 3), .int .i64 (s.z 3), .int .i64 (s.a 4), .int .i64 (s.z 4), .int .i64 (s.a 5), .int .i64 (s.z 5)] 65)) := below_alloc (Below.refl _ _) _
  have KB0 : Aside0 (SB w s (w.alloc (.cells #[.int .i64 s.log, .int .i64 s.ino, .int .i64 s.len, .int .i64 (s.a 0), .int .i64 (s.z 0), .int .i64 (s.a 1), .int .i64 (s.z 1), .int .i64 (s.a 2), .int .i64 (s.z 2), .int .i64 (s.a 3), .int .i64 (s.z 3), .int .i64 (s.a 4), .int .i64 (s.z 4), .int .i64 (s.a 5), .int .i64 (s.z 5)] 65))) := ⟨heap_alloc_new _ _, hal⟩
  have KC := Aside0.mk (fun w1 => check_any s w1)
  unfold chk at KC
  rw [if_pos hr] at KC
  have hb0 : btw i 0 5 = false := btw_no hi
  clear hal hr hi
  go_enter Try.func32, Try.ntmps32
  go_wp2_with (first | (go_at_call 37; refine (KC.out _).mono ?_; rintro e w1 ⟨rfl, hb⟩; have KB1 : Aside0 (SB w s w1) := ⟨⟨blk_below KB0.out.1 hb, below_then KB0.out.2 KB0.out.2.size hb⟩⟩; clear hb) | (go_at_call 51; refine (between_any _ _ _ _).mono ?_; rintro e w' ⟨rfl, rfl⟩))
  go_ret3
  exact ⟨rfl, KB1.out.2⟩
def endOf (s : Sup) (k : Nat) : Int := if k = 5 then s.len else s.a (k + 1)
theorem en0 (s : Sup) : endOf s 0 = s.a 1 := rfl
theorem en1 (s : Sup) : endOf s 1 = s.a 2 := rfl
theorem en2 (s : Sup) : endOf s 2 = s.a 3 := rfl
theorem en3 (s : Sup) : endOf s 3 = s.a 4 := rfl
theorem en4 (s : Sup) : endOf s 4 = s.a 5 := rfl
theorem en5 (s : Sup) : endOf s 5 = s.len := rfl
set_option maxHeartbeats 4000000 in
set_option maxRecDepth 100000 in
theorem area_ok (s : Sup) (hr : right s) (k : Nat) (hk : k < 6) (w : World) : Calls Try.prog 32 #[.agg #[.int .i64 s.log, .int .i64 s.ino, .int .i64 s.len, .int .i64 (s.a 0), .int .i64 (s.z 0), .int .i64 (s.a 1), .int .i64 (s.z 1), .int .i64 (s.a 2), .int .i64 (s.z 2), .int .i64 (s.a 3), .int .i64 (s.z 3), .int .i64 (s.a 4), .int .i64 (s.z 4), .int .i64 (s.a 5), .int .i64 (s.z 5)], .int .i64 k] w fun e w' => e = .returned (.tuple #[.int .i64 (s.a k), .int .i64 (endOf s k), .int .i64 0]) ∧ Below w.heap.size w w' := by
  have hal : Below w.heap.size w (w.alloc (.cells #[.int .i64 s.log, .int .i64 s.ino, .int .i64 s.len, .int .i64 (s.a 0), .int .i64 (s.z 0), .int .i64 (s.a 1), .int .i64 (s.z 1), .int .i64 (s.a 2), .int .i64 (s.z 2), .int .i64 (s.a 3), .int .i64 (s.z 3), .int .i64 (s.a 4), .int .i64 (s.z 4), .int .i64 (s.a 5), .int .i64 (s.z 5)] 65)) := below_alloc (Below.refl _ _) _
  have KB0 : Aside0 (SB w s (w.alloc (.cells #[.int .i64 s.log, .int .i64 s.ino, .int .i64 s.len, .int .i64 (s.a 0), .int .i64 (s.z 0), .int .i64 (s.a 1), .int .i64 (s.z 1), .int .i64 (s.a 2), .int .i64 (s.z 2), .int .i64 (s.a 3), .int .i64 (s.z 3), .int .i64 (s.a 4), .int .i64 (s.z 4), .int .i64 (s.a 5), .int .i64 (s.z 5)] 65))) := ⟨heap_alloc_new _ _, hal⟩
  have KC := Aside0.mk (fun w1 => check_any s w1)
  unfold chk at KC
  rw [if_pos hr] at KC
  have hb0 : btw (k : Int) 0 5 = true := btw_yes (by omega) (by omega)
  clear hal hr
  have hkc : k = 0 ∨ k = 1 ∨ k = 2 ∨ k = 3 ∨ k = 4 ∨ k = 5 := by omega
  rcases hkc with rfl | rfl | rfl | rfl | rfl | rfl
  · rw [en0]
    have hb0 : btw (0 : Int) 0 5 = true := hb0
    go_enter Try.func32, Try.ntmps32
    go_wp2_with (first | (go_at_call 37; refine (KC.out _).mono ?_; rintro e w1 ⟨rfl, hb⟩; have KB1 : Aside0 (SB w s w1) := ⟨⟨blk_below KB0.out.1 hb, below_then KB0.out.2 KB0.out.2.size hb⟩⟩; clear hb; have q0 := KB1.out.all.2.2; have q1 := KB1.out.c0.1; have q2 := KB1.out.c1.1) | (go_at_call 51; refine (between_any _ _ _ _).mono ?_; rintro e w' ⟨rfl, rfl⟩))
    go_quiet (fail)
    go_wp2
    go_ret3
    refine ⟨rfl, below_then KB1.out.2 KB1.out.2.size ?_⟩
    exact pw_below_drewN (Below.refl _ _) _
  · rw [en1]
    have hb0 : btw (1 : Int) 0 5 = true := hb0
    go_enter Try.func32, Try.ntmps32
    go_wp2_with (first | (go_at_call 37; refine (KC.out _).mono ?_; rintro e w1 ⟨rfl, hb⟩; have KB1 : Aside0 (SB w s w1) := ⟨⟨blk_below KB0.out.1 hb, below_then KB0.out.2 KB0.out.2.size hb⟩⟩; clear hb; have q0 := KB1.out.all.2.2; have q1 := KB1.out.c1.1; have q2 := KB1.out.c2.1) | (go_at_call 51; refine (between_any _ _ _ _).mono ?_; rintro e w' ⟨rfl, rfl⟩))
    go_quiet (fail)
    go_wp2
    go_ret3
    refine ⟨rfl, below_then KB1.out.2 KB1.out.2.size ?_⟩
    exact pw_below_drewN (Below.refl _ _) _
  · rw [en2]
    have hb0 : btw (2 : Int) 0 5 = true := hb0
    go_enter Try.func32, Try.ntmps32
    go_wp2_with (first | (go_at_call 37; refine (KC.out _).mono ?_; rintro e w1 ⟨rfl, hb⟩; have KB1 : Aside0 (SB w s w1) := ⟨⟨blk_below KB0.out.1 hb, below_then KB0.out.2 KB0.out.2.size hb⟩⟩; clear hb; have q0 := KB1.out.all.2.2; have q1 := KB1.out.c2.1; have q2 := KB1.out.c3.1) | (go_at_call 51; refine (between_any _ _ _ _).mono ?_; rintro e w' ⟨rfl, rfl⟩))
    go_quiet (fail)
    go_wp2
    go_ret3
    refine ⟨rfl, below_then KB1.out.2 KB1.out.2.size ?_⟩
    exact pw_below_drewN (Below.refl _ _) _
  · rw [en3]
    have hb0 : btw (3 : Int) 0 5 = true := hb0
    go_enter Try.func32, Try.ntmps32
    go_wp2_with (first | (go_at_call 37; refine (KC.out _).mono ?_; rintro e w1 ⟨rfl, hb⟩; have KB1 : Aside0 (SB w s w1) := ⟨⟨blk_below KB0.out.1 hb, below_then KB0.out.2 KB0.out.2.size hb⟩⟩; clear hb; have q0 := KB1.out.all.2.2; have q1 := KB1.out.c3.1; have q2 := KB1.out.c4.1) | (go_at_call 51; refine (between_any _ _ _ _).mono ?_; rintro e w' ⟨rfl, rfl⟩))
    go_quiet (fail)
    go_wp2
    go_ret3
    refine ⟨rfl, below_then KB1.out.2 KB1.out.2.size ?_⟩
    exact pw_below_drewN (Below.refl _ _) _
  · rw [en4]
    have hb0 : btw (4 : Int) 0 5 = true := hb0
    go_enter Try.func32, Try.ntmps32
    go_wp2_with (first | (go_at_call 37; refine (KC.out _).mono ?_; rintro e w1 ⟨rfl, hb⟩; have KB1 : Aside0 (SB w s w1) := ⟨⟨blk_below KB0.out.1 hb, below_then KB0.out.2 KB0.out.2.size hb⟩⟩; clear hb; have q0 := KB1.out.all.2.2; have q1 := KB1.out.c4.1; have q2 := KB1.out.c5.1) | (go_at_call 51; refine (between_any _ _ _ _).mono ?_; rintro e w' ⟨rfl, rfl⟩))
    go_quiet (fail)
    go_wp2
    go_ret3
    refine ⟨rfl, below_then KB1.out.2 KB1.out.2.size ?_⟩
    exact pw_below_drewN (Below.refl _ _) _
  · rw [en5]
    have hb0 : btw (5 : Int) 0 5 = true := hb0
    go_enter Try.func32, Try.ntmps32
    go_wp2_with (first | (go_at_call 37; refine (KC.out _).mono ?_; rintro e w1 ⟨rfl, hb⟩; have KB1 : Aside0 (SB w s w1) := ⟨⟨blk_below KB0.out.1 hb, below_then KB0.out.2 KB0.out.2.size hb⟩⟩; clear hb; have q0 := KB1.out.all.2.2; have q1 := KB1.out.c5.1; have q2 := KB1.out.c5.1) | (go_at_call 51; refine (between_any _ _ _ _).mono ?_; rintro e w' ⟨rfl, rfl⟩))
    go_quiet (fail)
    go_wp2
    go_ret3
    refine ⟨rfl, below_then KB1.out.2 KB1.out.2.size ?_⟩
    exact pw_below_drewN (Below.refl _ _) _
end Go.Proofs.Ytepmgkmbmejkjaa.Su
