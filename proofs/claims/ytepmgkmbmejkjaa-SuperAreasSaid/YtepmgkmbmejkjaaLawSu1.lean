/- Where an image's streams lie: the statement's walk. -/
import Derived.Test.YtepmgkmbmejkjaaSu5
set_option linter.unusedVariables false
set_option linter.unusedSimpArgs false
namespace Go.Proofs.Ytepmgkmbmejkjaa
open Go.RowKit Go.Proofs.Ytepmgkmbmejkjaa.Fd Go.Proofs.Ytepmgkmbmejkjaa.Su Go.Proofs.YtepmgkmbmejkjaaW.PrintWords Go.Proofs.YtepmgkmbmejkjaaW.PrintLast Go.Proofs.YtepmgkmbmejkjaaW.PrintMore
namespace Su
theorem span_low {s : Sup} (h : right s) {k : Nat} (hk : k < 6) : 68 ≤ s.a k := by
  have key : ∀ j, j < 6 → 68 ≤ s.a j := by
    intro j
    induction j with
    | zero => intro _; exact (h.2 0 (by decide)).1.1
    | succ j ih =>
      intro hj
      have h1 := ih (by omega)
      have h2 := (h.2 (j + 1) hj).1.1
      have h3 : lastOf s (j + 1) = s.a j := rfl
      omega
  exact key k hk
theorem span_end {s : Sup} (h : right s) {k : Nat} (hk : k < 6) : s.a k ≤ endOf s k := by
  unfold endOf
  split
  · exact (h.2 k hk).1.2
  · have h2 := (h.2 (k + 1) (by omega)).1.1
    exact h2
theorem end_len {s : Sup} (h : right s) {k : Nat} (hk : k < 6) : endOf s k ≤ s.len := by
  unfold endOf
  split
  · exact Int.le_refl _
  · exact (h.2 (k + 1) (by omega)).1.2
end Su
namespace SuperAreas
set_option maxHeartbeats 8000000 in
set_option maxRecDepth 100000 in
theorem wrong_ (w : World) (s : Sup) (hr : ¬ right s) (a1 : Int) : Calls Try.prog 8 #[.agg #[.int .i64 s.log, .int .i64 s.ino, .int .i64 s.len, .int .i64 (s.a 0), .int .i64 (s.z 0), .int .i64 (s.a 1), .int .i64 (s.z 1), .int .i64 (s.a 2), .int .i64 (s.z 2), .int .i64 (s.a 3), .int .i64 (s.z 3), .int .i64 (s.a 4), .int .i64 (s.z 4), .int .i64 (s.a 5), .int .i64 (s.z 5)], .int .i64 a1] w fun e w' => e = .returned (.bool true) ∧ Below w.heap.size w w' := by
  have KB0 : Aside0 (SB w s (w.alloc (.cells #[.int .i64 s.log, .int .i64 s.ino, .int .i64 s.len, .int .i64 (s.a 0), .int .i64 (s.z 0), .int .i64 (s.a 1), .int .i64 (s.z 1), .int .i64 (s.a 2), .int .i64 (s.z 2), .int .i64 (s.a 3), .int .i64 (s.z 3), .int .i64 (s.a 4), .int .i64 (s.z 4), .int .i64 (s.a 5), .int .i64 (s.z 5)] 65))) := ⟨heap_alloc_new _ _, below_alloc (Below.refl _ _) _⟩
  have KR := Aside0.mk (fun w1 => rright_any s w1)
  rw [decide_eq_false hr] at KR
  have KA := Aside0.mk (fun w1 => area_wrong s hr a1 w1)
  clear hr
  go_enter Try.func8, Try.ntmps8
  go_wp2_with (go_at_call 32; refine (KA.out _).mono ?_; rintro e w1 ⟨rfl, hb⟩; have KB1 : Aside0 (SB w s w1) := ⟨⟨blk_below KB0.out.1 hb, below_then KB0.out.2 KB0.out.2.size hb⟩⟩; clear hb; obtain ⟨z0, z1, z2, z3, z4, z5, z6, z7, z8, z9, z10, z11, z12, z13, z14⟩ := box_cells KB1.out.1; apply Aside0.out)
  refine ⟨?_⟩
  go_wp2_with (go_at_call 33; refine (KR.out _).mono ?_; rintro e w2 ⟨rfl, hb⟩; have KB2 : Aside0 (SB w s w2) := ⟨⟨blk_below KB1.out.1 hb, below_then KB1.out.2 KB1.out.2.size hb⟩⟩; clear hb z0 z1 z2 z3 z4 z5 z6 z7 z8 z9 z10 z11 z12 z13 z14; apply Aside0.out)
  refine ⟨?_⟩
  go_wp2_with (first | (go_at_call 34; refine (num_any _ _).mono ?_; rintro e w' ⟨rfl, rfl⟩) | (go_at_call 35; refine (live_any _).mono ?_; rintro e w9 ⟨rfl, hb⟩; have KB9 : Aside0 (SB w s w9) := ⟨⟨blk_below KB2.out.1 hb, below_then KB2.out.2 KB2.out.2.size hb⟩⟩; clear hb))
  go_ret
  exact ⟨rfl, KB9.out.2⟩
set_option maxHeartbeats 8000000 in
set_option maxRecDepth 100000 in
theorem low_ (w : World) (s : Sup) (hr : right s) (a1 : Int) (hi : a1 < 0) : Calls Try.prog 8 #[.agg #[.int .i64 s.log, .int .i64 s.ino, .int .i64 s.len, .int .i64 (s.a 0), .int .i64 (s.z 0), .int .i64 (s.a 1), .int .i64 (s.z 1), .int .i64 (s.a 2), .int .i64 (s.z 2), .int .i64 (s.a 3), .int .i64 (s.z 3), .int .i64 (s.a 4), .int .i64 (s.z 4), .int .i64 (s.a 5), .int .i64 (s.z 5)], .int .i64 a1] w fun e w' => e = .returned (.bool true) ∧ Below w.heap.size w w' := by
  have KB0 : Aside0 (SB w s (w.alloc (.cells #[.int .i64 s.log, .int .i64 s.ino, .int .i64 s.len, .int .i64 (s.a 0), .int .i64 (s.z 0), .int .i64 (s.a 1), .int .i64 (s.z 1), .int .i64 (s.a 2), .int .i64 (s.z 2), .int .i64 (s.a 3), .int .i64 (s.z 3), .int .i64 (s.a 4), .int .i64 (s.z 4), .int .i64 (s.a 5), .int .i64 (s.z 5)] 65))) := ⟨heap_alloc_new _ _, below_alloc (Below.refl _ _) _⟩
  have KR := Aside0.mk (fun w1 => rright_any s w1)
  rw [decide_eq_true hr] at KR
  have KA := Aside0.mk (fun w1 => area_range s hr a1 (Or.inl hi) w1)
  clear hr
  go_enter Try.func8, Try.ntmps8
  go_wp2_with (go_at_call 32; refine (KA.out _).mono ?_; rintro e w1 ⟨rfl, hb⟩; have KB1 : Aside0 (SB w s w1) := ⟨⟨blk_below KB0.out.1 hb, below_then KB0.out.2 KB0.out.2.size hb⟩⟩; clear hb; obtain ⟨z0, z1, z2, z3, z4, z5, z6, z7, z8, z9, z10, z11, z12, z13, z14⟩ := box_cells KB1.out.1; apply Aside0.out)
  refine ⟨?_⟩
  go_wp2_with (go_at_call 33; refine (KR.out _).mono ?_; rintro e w2 ⟨rfl, hb⟩; have KB2 : Aside0 (SB w s w2) := ⟨⟨blk_below KB1.out.1 hb, below_then KB1.out.2 KB1.out.2.size hb⟩⟩; clear hb z0 z1 z2 z3 z4 z5 z6 z7 z8 z9 z10 z11 z12 z13 z14; apply Aside0.out)
  refine ⟨?_⟩
  go_wp2_with (first | (go_at_call 34; refine (num_any _ _).mono ?_; rintro e w' ⟨rfl, rfl⟩) | (go_at_call 35; refine (live_any _).mono ?_; rintro e w9 ⟨rfl, hb⟩; have KB9 : Aside0 (SB w s w9) := ⟨⟨blk_below KB2.out.1 hb, below_then KB2.out.2 KB2.out.2.size hb⟩⟩; clear hb))
  go_ret
  exact ⟨rfl, KB9.out.2⟩
set_option maxHeartbeats 8000000 in
set_option maxRecDepth 100000 in
theorem high_ (w : World) (s : Sup) (hr : right s) (a1 : Int) (hi0 : 0 ≤ a1) (hi : 6 ≤ a1) : Calls Try.prog 8 #[.agg #[.int .i64 s.log, .int .i64 s.ino, .int .i64 s.len, .int .i64 (s.a 0), .int .i64 (s.z 0), .int .i64 (s.a 1), .int .i64 (s.z 1), .int .i64 (s.a 2), .int .i64 (s.z 2), .int .i64 (s.a 3), .int .i64 (s.z 3), .int .i64 (s.a 4), .int .i64 (s.z 4), .int .i64 (s.a 5), .int .i64 (s.z 5)], .int .i64 a1] w fun e w' => e = .returned (.bool true) ∧ Below w.heap.size w w' := by
  have KB0 : Aside0 (SB w s (w.alloc (.cells #[.int .i64 s.log, .int .i64 s.ino, .int .i64 s.len, .int .i64 (s.a 0), .int .i64 (s.z 0), .int .i64 (s.a 1), .int .i64 (s.z 1), .int .i64 (s.a 2), .int .i64 (s.z 2), .int .i64 (s.a 3), .int .i64 (s.z 3), .int .i64 (s.a 4), .int .i64 (s.z 4), .int .i64 (s.a 5), .int .i64 (s.z 5)] 65))) := ⟨heap_alloc_new _ _, below_alloc (Below.refl _ _) _⟩
  have KR := Aside0.mk (fun w1 => rright_any s w1)
  rw [decide_eq_true hr] at KR
  have KA := Aside0.mk (fun w1 => area_range s hr a1 (Or.inr (by omega)) w1)
  clear hr
  go_enter Try.func8, Try.ntmps8
  go_wp2_with (go_at_call 32; refine (KA.out _).mono ?_; rintro e w1 ⟨rfl, hb⟩; have KB1 : Aside0 (SB w s w1) := ⟨⟨blk_below KB0.out.1 hb, below_then KB0.out.2 KB0.out.2.size hb⟩⟩; clear hb; obtain ⟨z0, z1, z2, z3, z4, z5, z6, z7, z8, z9, z10, z11, z12, z13, z14⟩ := box_cells KB1.out.1; apply Aside0.out)
  refine ⟨?_⟩
  go_wp2_with (go_at_call 33; refine (KR.out _).mono ?_; rintro e w2 ⟨rfl, hb⟩; have KB2 : Aside0 (SB w s w2) := ⟨⟨blk_below KB1.out.1 hb, below_then KB1.out.2 KB1.out.2.size hb⟩⟩; clear hb z0 z1 z2 z3 z4 z5 z6 z7 z8 z9 z10 z11 z12 z13 z14; apply Aside0.out)
  refine ⟨?_⟩
  go_wp2_with (first | (go_at_call 34; refine (num_any _ _).mono ?_; rintro e w' ⟨rfl, rfl⟩) | (go_at_call 35; refine (live_any _).mono ?_; rintro e w9 ⟨rfl, hb⟩; have KB9 : Aside0 (SB w s w9) := ⟨⟨blk_below KB2.out.1 hb, below_then KB2.out.2 KB2.out.2.size hb⟩⟩; clear hb))
  go_ret
  exact ⟨rfl, KB9.out.2⟩
set_option maxHeartbeats 8000000 in
set_option maxRecDepth 100000 in
theorem ok0 (w : World) (s : Sup) (hr : right s) : Calls Try.prog 8 #[.agg #[.int .i64 s.log, .int .i64 s.ino, .int .i64 s.len, .int .i64 (s.a 0), .int .i64 (s.z 0), .int .i64 (s.a 1), .int .i64 (s.z 1), .int .i64 (s.a 2), .int .i64 (s.z 2), .int .i64 (s.a 3), .int .i64 (s.z 3), .int .i64 (s.a 4), .int .i64 (s.z 4), .int .i64 (s.a 5), .int .i64 (s.z 5)], .int .i64 0] w fun e w' => e = .returned (.bool true) ∧ Below w.heap.size w w' := by
  have KB0 : Aside0 (SB w s (w.alloc (.cells #[.int .i64 s.log, .int .i64 s.ino, .int .i64 s.len, .int .i64 (s.a 0), .int .i64 (s.z 0), .int .i64 (s.a 1), .int .i64 (s.z 1), .int .i64 (s.a 2), .int .i64 (s.z 2), .int .i64 (s.a 3), .int .i64 (s.z 3), .int .i64 (s.a 4), .int .i64 (s.z 4), .int .i64 (s.a 5), .int .i64 (s.z 5)] 65))) := ⟨heap_alloc_new _ _, below_alloc (Below.refl _ _) _⟩
  have KR := Aside0.mk (fun w1 => rright_any s w1)
  rw [decide_eq_true hr] at KR
  have KA : Aside0 (∀ w1 : World, Calls Try.prog 32 #[.agg #[.int .i64 s.log, .int .i64 s.ino, .int .i64 s.len, .int .i64 (s.a 0), .int .i64 (s.z 0), .int .i64 (s.a 1), .int .i64 (s.z 1), .int .i64 (s.a 2), .int .i64 (s.z 2), .int .i64 (s.a 3), .int .i64 (s.z 3), .int .i64 (s.a 4), .int .i64 (s.z 4), .int .i64 (s.a 5), .int .i64 (s.z 5)], .int .i64 0] w1 fun e w' => e = .returned (.tuple #[.int .i64 (s.a 0), .int .i64 (s.a 1), .int .i64 0]) ∧ Below w1.heap.size w1 w') := ⟨fun w1 => area_ok s hr 0 (by decide) w1⟩
  have b0 : 68 ≤ s.a 0 := span_low hr (by decide)
  have b1 : s.a 0 ≤ s.a 1 := span_end hr (k := 0) (by decide)
  have b2 : s.a 1 ≤ s.len := end_len hr (k := 0) (by decide)
  clear hr
  go_enter Try.func8, Try.ntmps8
  go_wp2_with (go_at_call 32; refine (KA.out _).mono ?_; rintro e w1 ⟨rfl, hb⟩; have KB1 : Aside0 (SB w s w1) := ⟨⟨blk_below KB0.out.1 hb, below_then KB0.out.2 KB0.out.2.size hb⟩⟩; clear hb; obtain ⟨z0, z1, z2, z3, z4, z5, z6, z7, z8, z9, z10, z11, z12, z13, z14⟩ := box_cells KB1.out.1; apply Aside0.out)
  refine ⟨?_⟩
  go_wp2_with (go_at_call 33; refine (KR.out _).mono ?_; rintro e w2 ⟨rfl, hb⟩; have KB2 : Aside0 (SB w s w2) := ⟨⟨blk_below KB1.out.1 hb, below_then KB1.out.2 KB1.out.2.size hb⟩⟩; clear hb z0 z1 z2 z3 z4 z5 z6 z7 z8 z9 z10 z11 z12 z13 z14; apply Aside0.out)
  refine ⟨?_⟩
  have q0 := KB2.out.all.2.2
  have q1 := KB2.out.c0.1
  have q2 := KB2.out.c1.1
  go_wp2_with (first | (go_at_call 34; refine (num_any _ _).mono ?_; rintro e w' ⟨rfl, rfl⟩) | (go_at_call 35; refine (live_any _).mono ?_; rintro e w9 ⟨rfl, hb⟩; have KB9 : Aside0 (SB w s w9) := ⟨⟨blk_below KB2.out.1 hb, below_then KB2.out.2 KB2.out.2.size hb⟩⟩; clear hb))
  go_ret
  exact ⟨rfl, KB9.out.2⟩
set_option maxHeartbeats 8000000 in
set_option maxRecDepth 100000 in
theorem ok1 (w : World) (s : Sup) (hr : right s) : Calls Try.prog 8 #[.agg #[.int .i64 s.log, .int .i64 s.ino, .int .i64 s.len, .int .i64 (s.a 0), .int .i64 (s.z 0), .int .i64 (s.a 1), .int .i64 (s.z 1), .int .i64 (s.a 2), .int .i64 (s.z 2), .int .i64 (s.a 3), .int .i64 (s.z 3), .int .i64 (s.a 4), .int .i64 (s.z 4), .int .i64 (s.a 5), .int .i64 (s.z 5)], .int .i64 1] w fun e w' => e = .returned (.bool true) ∧ Below w.heap.size w w' := by
  have KB0 : Aside0 (SB w s (w.alloc (.cells #[.int .i64 s.log, .int .i64 s.ino, .int .i64 s.len, .int .i64 (s.a 0), .int .i64 (s.z 0), .int .i64 (s.a 1), .int .i64 (s.z 1), .int .i64 (s.a 2), .int .i64 (s.z 2), .int .i64 (s.a 3), .int .i64 (s.z 3), .int .i64 (s.a 4), .int .i64 (s.z 4), .int .i64 (s.a 5), .int .i64 (s.z 5)] 65))) := ⟨heap_alloc_new _ _, below_alloc (Below.refl _ _) _⟩
  have KR := Aside0.mk (fun w1 => rright_any s w1)
  rw [decide_eq_true hr] at KR
  have KA : Aside0 (∀ w1 : World, Calls Try.prog 32 #[.agg #[.int .i64 s.log, .int .i64 s.ino, .int .i64 s.len, .int .i64 (s.a 0), .int .i64 (s.z 0), .int .i64 (s.a 1), .int .i64 (s.z 1), .int .i64 (s.a 2), .int .i64 (s.z 2), .int .i64 (s.a 3), .int .i64 (s.z 3), .int .i64 (s.a 4), .int .i64 (s.z 4), .int .i64 (s.a 5), .int .i64 (s.z 5)], .int .i64 1] w1 fun e w' => e = .returned (.tuple #[.int .i64 (s.a 1), .int .i64 (s.a 2), .int .i64 0]) ∧ Below w1.heap.size w1 w') := ⟨fun w1 => area_ok s hr 1 (by decide) w1⟩
  have b0 : 68 ≤ s.a 1 := span_low hr (by decide)
  have b1 : s.a 1 ≤ s.a 2 := span_end hr (k := 1) (by decide)
  have b2 : s.a 2 ≤ s.len := end_len hr (k := 1) (by decide)
  clear hr
  go_enter Try.func8, Try.ntmps8
  go_wp2_with (go_at_call 32; refine (KA.out _).mono ?_; rintro e w1 ⟨rfl, hb⟩; have KB1 : Aside0 (SB w s w1) := ⟨⟨blk_below KB0.out.1 hb, below_then KB0.out.2 KB0.out.2.size hb⟩⟩; clear hb; obtain ⟨z0, z1, z2, z3, z4, z5, z6, z7, z8, z9, z10, z11, z12, z13, z14⟩ := box_cells KB1.out.1; apply Aside0.out)
  refine ⟨?_⟩
  go_wp2_with (go_at_call 33; refine (KR.out _).mono ?_; rintro e w2 ⟨rfl, hb⟩; have KB2 : Aside0 (SB w s w2) := ⟨⟨blk_below KB1.out.1 hb, below_then KB1.out.2 KB1.out.2.size hb⟩⟩; clear hb z0 z1 z2 z3 z4 z5 z6 z7 z8 z9 z10 z11 z12 z13 z14; apply Aside0.out)
  refine ⟨?_⟩
  have q0 := KB2.out.all.2.2
  have q1 := KB2.out.c1.1
  have q2 := KB2.out.c2.1
  go_wp2_with (first | (go_at_call 34; refine (num_any _ _).mono ?_; rintro e w' ⟨rfl, rfl⟩) | (go_at_call 35; refine (live_any _).mono ?_; rintro e w9 ⟨rfl, hb⟩; have KB9 : Aside0 (SB w s w9) := ⟨⟨blk_below KB2.out.1 hb, below_then KB2.out.2 KB2.out.2.size hb⟩⟩; clear hb))
  go_ret
  exact ⟨rfl, KB9.out.2⟩
set_option maxHeartbeats 8000000 in
set_option maxRecDepth 100000 in
theorem ok2 (w : World) (s : Sup) (hr : right s) : Calls Try.prog 8 #[.agg #[.int .i64 s.log, .int .i64 s.ino, .int .i64 s.len, .int .i64 (s.a 0), .int .i64 (s.z 0), .int .i64 (s.a 1), .int .i64 (s.z 1), .int .i64 (s.a 2), .int .i64 (s.z 2), .int .i64 (s.a 3), .int .i64 (s.z 3), .int .i64 (s.a 4), .int .i64 (s.z 4), .int .i64 (s.a 5), .int .i64 (s.z 5)], .int .i64 2] w fun e w' => e = .returned (.bool true) ∧ Below w.heap.size w w' := by
  have KB0 : Aside0 (SB w s (w.alloc (.cells #[.int .i64 s.log, .int .i64 s.ino, .int .i64 s.len, .int .i64 (s.a 0), .int .i64 (s.z 0), .int .i64 (s.a 1), .int .i64 (s.z 1), .int .i64 (s.a 2), .int .i64 (s.z 2), .int .i64 (s.a 3), .int .i64 (s.z 3), .int .i64 (s.a 4), .int .i64 (s.z 4), .int .i64 (s.a 5), .int .i64 (s.z 5)] 65))) := ⟨heap_alloc_new _ _, below_alloc (Below.refl _ _) _⟩
  have KR := Aside0.mk (fun w1 => rright_any s w1)
  rw [decide_eq_true hr] at KR
  have KA : Aside0 (∀ w1 : World, Calls Try.prog 32 #[.agg #[.int .i64 s.log, .int .i64 s.ino, .int .i64 s.len, .int .i64 (s.a 0), .int .i64 (s.z 0), .int .i64 (s.a 1), .int .i64 (s.z 1), .int .i64 (s.a 2), .int .i64 (s.z 2), .int .i64 (s.a 3), .int .i64 (s.z 3), .int .i64 (s.a 4), .int .i64 (s.z 4), .int .i64 (s.a 5), .int .i64 (s.z 5)], .int .i64 2] w1 fun e w' => e = .returned (.tuple #[.int .i64 (s.a 2), .int .i64 (s.a 3), .int .i64 0]) ∧ Below w1.heap.size w1 w') := ⟨fun w1 => area_ok s hr 2 (by decide) w1⟩
  have b0 : 68 ≤ s.a 2 := span_low hr (by decide)
  have b1 : s.a 2 ≤ s.a 3 := span_end hr (k := 2) (by decide)
  have b2 : s.a 3 ≤ s.len := end_len hr (k := 2) (by decide)
  clear hr
  go_enter Try.func8, Try.ntmps8
  go_wp2_with (go_at_call 32; refine (KA.out _).mono ?_; rintro e w1 ⟨rfl, hb⟩; have KB1 : Aside0 (SB w s w1) := ⟨⟨blk_below KB0.out.1 hb, below_then KB0.out.2 KB0.out.2.size hb⟩⟩; clear hb; obtain ⟨z0, z1, z2, z3, z4, z5, z6, z7, z8, z9, z10, z11, z12, z13, z14⟩ := box_cells KB1.out.1; apply Aside0.out)
  refine ⟨?_⟩
  go_wp2_with (go_at_call 33; refine (KR.out _).mono ?_; rintro e w2 ⟨rfl, hb⟩; have KB2 : Aside0 (SB w s w2) := ⟨⟨blk_below KB1.out.1 hb, below_then KB1.out.2 KB1.out.2.size hb⟩⟩; clear hb z0 z1 z2 z3 z4 z5 z6 z7 z8 z9 z10 z11 z12 z13 z14; apply Aside0.out)
  refine ⟨?_⟩
  have q0 := KB2.out.all.2.2
  have q1 := KB2.out.c2.1
  have q2 := KB2.out.c3.1
  go_wp2_with (first | (go_at_call 34; refine (num_any _ _).mono ?_; rintro e w' ⟨rfl, rfl⟩) | (go_at_call 35; refine (live_any _).mono ?_; rintro e w9 ⟨rfl, hb⟩; have KB9 : Aside0 (SB w s w9) := ⟨⟨blk_below KB2.out.1 hb, below_then KB2.out.2 KB2.out.2.size hb⟩⟩; clear hb))
  go_ret
  exact ⟨rfl, KB9.out.2⟩
set_option maxHeartbeats 8000000 in
set_option maxRecDepth 100000 in
theorem ok3 (w : World) (s : Sup) (hr : right s) : Calls Try.prog 8 #[.agg #[.int .i64 s.log, .int .i64 s.ino, .int .i64 s.len, .int .i64 (s.a 0), .int .i64 (s.z 0), .int .i64 (s.a 1), .int .i64 (s.z 1), .int .i64 (s.a 2), .int .i64 (s.z 2), .int .i64 (s.a 3), .int .i64 (s.z 3), .int .i64 (s.a 4), .int .i64 (s.z 4), .int .i64 (s.a 5), .int .i64 (s.z 5)], .int .i64 3] w fun e w' => e = .returned (.bool true) ∧ Below w.heap.size w w' := by
  have KB0 : Aside0 (SB w s (w.alloc (.cells #[.int .i64 s.log, .int .i64 s.ino, .int .i64 s.len, .int .i64 (s.a 0), .int .i64 (s.z 0), .int .i64 (s.a 1), .int .i64 (s.z 1), .int .i64 (s.a 2), .int .i64 (s.z 2), .int .i64 (s.a 3), .int .i64 (s.z 3), .int .i64 (s.a 4), .int .i64 (s.z 4), .int .i64 (s.a 5), .int .i64 (s.z 5)] 65))) := ⟨heap_alloc_new _ _, below_alloc (Below.refl _ _) _⟩
  have KR := Aside0.mk (fun w1 => rright_any s w1)
  rw [decide_eq_true hr] at KR
  have KA : Aside0 (∀ w1 : World, Calls Try.prog 32 #[.agg #[.int .i64 s.log, .int .i64 s.ino, .int .i64 s.len, .int .i64 (s.a 0), .int .i64 (s.z 0), .int .i64 (s.a 1), .int .i64 (s.z 1), .int .i64 (s.a 2), .int .i64 (s.z 2), .int .i64 (s.a 3), .int .i64 (s.z 3), .int .i64 (s.a 4), .int .i64 (s.z 4), .int .i64 (s.a 5), .int .i64 (s.z 5)], .int .i64 3] w1 fun e w' => e = .returned (.tuple #[.int .i64 (s.a 3), .int .i64 (s.a 4), .int .i64 0]) ∧ Below w1.heap.size w1 w') := ⟨fun w1 => area_ok s hr 3 (by decide) w1⟩
  have b0 : 68 ≤ s.a 3 := span_low hr (by decide)
  have b1 : s.a 3 ≤ s.a 4 := span_end hr (k := 3) (by decide)
  have b2 : s.a 4 ≤ s.len := end_len hr (k := 3) (by decide)
  clear hr
  go_enter Try.func8, Try.ntmps8
  go_wp2_with (go_at_call 32; refine (KA.out _).mono ?_; rintro e w1 ⟨rfl, hb⟩; have KB1 : Aside0 (SB w s w1) := ⟨⟨blk_below KB0.out.1 hb, below_then KB0.out.2 KB0.out.2.size hb⟩⟩; clear hb; obtain ⟨z0, z1, z2, z3, z4, z5, z6, z7, z8, z9, z10, z11, z12, z13, z14⟩ := box_cells KB1.out.1; apply Aside0.out)
  refine ⟨?_⟩
  go_wp2_with (go_at_call 33; refine (KR.out _).mono ?_; rintro e w2 ⟨rfl, hb⟩; have KB2 : Aside0 (SB w s w2) := ⟨⟨blk_below KB1.out.1 hb, below_then KB1.out.2 KB1.out.2.size hb⟩⟩; clear hb z0 z1 z2 z3 z4 z5 z6 z7 z8 z9 z10 z11 z12 z13 z14; apply Aside0.out)
  refine ⟨?_⟩
  have q0 := KB2.out.all.2.2
  have q1 := KB2.out.c3.1
  have q2 := KB2.out.c4.1
  go_wp2_with (first | (go_at_call 34; refine (num_any _ _).mono ?_; rintro e w' ⟨rfl, rfl⟩) | (go_at_call 35; refine (live_any _).mono ?_; rintro e w9 ⟨rfl, hb⟩; have KB9 : Aside0 (SB w s w9) := ⟨⟨blk_below KB2.out.1 hb, below_then KB2.out.2 KB2.out.2.size hb⟩⟩; clear hb))
  go_ret
  exact ⟨rfl, KB9.out.2⟩
set_option maxHeartbeats 8000000 in
set_option maxRecDepth 100000 in
theorem ok4 (w : World) (s : Sup) (hr : right s) : Calls Try.prog 8 #[.agg #[.int .i64 s.log, .int .i64 s.ino, .int .i64 s.len, .int .i64 (s.a 0), .int .i64 (s.z 0), .int .i64 (s.a 1), .int .i64 (s.z 1), .int .i64 (s.a 2), .int .i64 (s.z 2), .int .i64 (s.a 3), .int .i64 (s.z 3), .int .i64 (s.a 4), .int .i64 (s.z 4), .int .i64 (s.a 5), .int .i64 (s.z 5)], .int .i64 4] w fun e w' => e = .returned (.bool true) ∧ Below w.heap.size w w' := by
  have KB0 : Aside0 (SB w s (w.alloc (.cells #[.int .i64 s.log, .int .i64 s.ino, .int .i64 s.len, .int .i64 (s.a 0), .int .i64 (s.z 0), .int .i64 (s.a 1), .int .i64 (s.z 1), .int .i64 (s.a 2), .int .i64 (s.z 2), .int .i64 (s.a 3), .int .i64 (s.z 3), .int .i64 (s.a 4), .int .i64 (s.z 4), .int .i64 (s.a 5), .int .i64 (s.z 5)] 65))) := ⟨heap_alloc_new _ _, below_alloc (Below.refl _ _) _⟩
  have KR := Aside0.mk (fun w1 => rright_any s w1)
  rw [decide_eq_true hr] at KR
  have KA : Aside0 (∀ w1 : World, Calls Try.prog 32 #[.agg #[.int .i64 s.log, .int .i64 s.ino, .int .i64 s.len, .int .i64 (s.a 0), .int .i64 (s.z 0), .int .i64 (s.a 1), .int .i64 (s.z 1), .int .i64 (s.a 2), .int .i64 (s.z 2), .int .i64 (s.a 3), .int .i64 (s.z 3), .int .i64 (s.a 4), .int .i64 (s.z 4), .int .i64 (s.a 5), .int .i64 (s.z 5)], .int .i64 4] w1 fun e w' => e = .returned (.tuple #[.int .i64 (s.a 4), .int .i64 (s.a 5), .int .i64 0]) ∧ Below w1.heap.size w1 w') := ⟨fun w1 => area_ok s hr 4 (by decide) w1⟩
  have b0 : 68 ≤ s.a 4 := span_low hr (by decide)
  have b1 : s.a 4 ≤ s.a 5 := span_end hr (k := 4) (by decide)
  have b2 : s.a 5 ≤ s.len := end_len hr (k := 4) (by decide)
  clear hr
  go_enter Try.func8, Try.ntmps8
  go_wp2_with (go_at_call 32; refine (KA.out _).mono ?_; rintro e w1 ⟨rfl, hb⟩; have KB1 : Aside0 (SB w s w1) := ⟨⟨blk_below KB0.out.1 hb, below_then KB0.out.2 KB0.out.2.size hb⟩⟩; clear hb; obtain ⟨z0, z1, z2, z3, z4, z5, z6, z7, z8, z9, z10, z11, z12, z13, z14⟩ := box_cells KB1.out.1; apply Aside0.out)
  refine ⟨?_⟩
  go_wp2_with (go_at_call 33; refine (KR.out _).mono ?_; rintro e w2 ⟨rfl, hb⟩; have KB2 : Aside0 (SB w s w2) := ⟨⟨blk_below KB1.out.1 hb, below_then KB1.out.2 KB1.out.2.size hb⟩⟩; clear hb z0 z1 z2 z3 z4 z5 z6 z7 z8 z9 z10 z11 z12 z13 z14; apply Aside0.out)
  refine ⟨?_⟩
  have q0 := KB2.out.all.2.2
  have q1 := KB2.out.c4.1
  have q2 := KB2.out.c5.1
  go_wp2_with (first | (go_at_call 34; refine (num_any _ _).mono ?_; rintro e w' ⟨rfl, rfl⟩) | (go_at_call 35; refine (live_any _).mono ?_; rintro e w9 ⟨rfl, hb⟩; have KB9 : Aside0 (SB w s w9) := ⟨⟨blk_below KB2.out.1 hb, below_then KB2.out.2 KB2.out.2.size hb⟩⟩; clear hb))
  go_ret
  exact ⟨rfl, KB9.out.2⟩
set_option maxHeartbeats 8000000 in
set_option maxRecDepth 100000 in
theorem ok5 (w : World) (s : Sup) (hr : right s) : Calls Try.prog 8 #[.agg #[.int .i64 s.log, .int .i64 s.ino, .int .i64 s.len, .int .i64 (s.a 0), .int .i64 (s.z 0), .int .i64 (s.a 1), .int .i64 (s.z 1), .int .i64 (s.a 2), .int .i64 (s.z 2), .int .i64 (s.a 3), .int .i64 (s.z 3), .int .i64 (s.a 4), .int .i64 (s.z 4), .int .i64 (s.a 5), .int .i64 (s.z 5)], .int .i64 5] w fun e w' => e = .returned (.bool true) ∧ Below w.heap.size w w' := by
  have KB0 : Aside0 (SB w s (w.alloc (.cells #[.int .i64 s.log, .int .i64 s.ino, .int .i64 s.len, .int .i64 (s.a 0), .int .i64 (s.z 0), .int .i64 (s.a 1), .int .i64 (s.z 1), .int .i64 (s.a 2), .int .i64 (s.z 2), .int .i64 (s.a 3), .int .i64 (s.z 3), .int .i64 (s.a 4), .int .i64 (s.z 4), .int .i64 (s.a 5), .int .i64 (s.z 5)] 65))) := ⟨heap_alloc_new _ _, below_alloc (Below.refl _ _) _⟩
  have KR := Aside0.mk (fun w1 => rright_any s w1)
  rw [decide_eq_true hr] at KR
  have KA : Aside0 (∀ w1 : World, Calls Try.prog 32 #[.agg #[.int .i64 s.log, .int .i64 s.ino, .int .i64 s.len, .int .i64 (s.a 0), .int .i64 (s.z 0), .int .i64 (s.a 1), .int .i64 (s.z 1), .int .i64 (s.a 2), .int .i64 (s.z 2), .int .i64 (s.a 3), .int .i64 (s.z 3), .int .i64 (s.a 4), .int .i64 (s.z 4), .int .i64 (s.a 5), .int .i64 (s.z 5)], .int .i64 5] w1 fun e w' => e = .returned (.tuple #[.int .i64 (s.a 5), .int .i64 s.len, .int .i64 0]) ∧ Below w1.heap.size w1 w') := ⟨fun w1 => area_ok s hr 5 (by decide) w1⟩
  have b0 : 68 ≤ s.a 5 := span_low hr (by decide)
  have b1 : s.a 5 ≤ s.len := span_end hr (k := 5) (by decide)
  have b2 : s.len ≤ s.len := end_len hr (k := 5) (by decide)
  clear hr
  go_enter Try.func8, Try.ntmps8
  go_wp2_with (go_at_call 32; refine (KA.out _).mono ?_; rintro e w1 ⟨rfl, hb⟩; have KB1 : Aside0 (SB w s w1) := ⟨⟨blk_below KB0.out.1 hb, below_then KB0.out.2 KB0.out.2.size hb⟩⟩; clear hb; obtain ⟨z0, z1, z2, z3, z4, z5, z6, z7, z8, z9, z10, z11, z12, z13, z14⟩ := box_cells KB1.out.1; apply Aside0.out)
  refine ⟨?_⟩
  go_wp2_with (go_at_call 33; refine (KR.out _).mono ?_; rintro e w2 ⟨rfl, hb⟩; have KB2 : Aside0 (SB w s w2) := ⟨⟨blk_below KB1.out.1 hb, below_then KB1.out.2 KB1.out.2.size hb⟩⟩; clear hb z0 z1 z2 z3 z4 z5 z6 z7 z8 z9 z10 z11 z12 z13 z14; apply Aside0.out)
  refine ⟨?_⟩
  have q0 := KB2.out.all.2.2
  have q1 := KB2.out.c5.1
  go_wp2_with (first | (go_at_call 34; refine (num_any _ _).mono ?_; rintro e w' ⟨rfl, rfl⟩) | (go_at_call 35; refine (live_any _).mono ?_; rintro e w9 ⟨rfl, hb⟩; have KB9 : Aside0 (SB w s w9) := ⟨⟨blk_below KB2.out.1 hb, below_then KB2.out.2 KB2.out.2.size hb⟩⟩; clear hb))
  go_ret
  exact ⟨rfl, KB9.out.2⟩
theorem walk (w : World) (cs0 : Array Value) (x0 : Int × Int × Int × (List (Int × Int))) (r0 : ∃ c00 c01, cs0.toList = c00 ++ c01 ∧ ((Kd.int .i64).K w x0.1 c00 ∧ (fun n : Int => (Lit.int .i64 n).wf = true) x0.1) ∧ (∃ c10 c11, c01 = c10 ++ c11 ∧ ((Kd.int .i64).K w x0.2.1 c10 ∧ (fun n : Int => (Lit.int .i64 n).wf = true) x0.2.1) ∧ (∃ c20 c21, c11 = c20 ++ c21 ∧ ((Kd.int .i64).K w x0.2.2.1 c20 ∧ (fun n : Int => (Lit.int .i64 n).wf = true) x0.2.2.1) ∧ (Open.InLine (Kd.pair (Kd.int .i64) (Kd.int .i64)) (fun x : Int × Int => (fun n : Int => (Lit.int .i64 n).wf = true) x.1 ∧ (fun n : Int => (Lit.int .i64 n).wf = true) x.2) 6 w x0.2.2.2 c21)))) (a1 : Int) (w1 : (Lit.int .i64 a1).wf = true) :
    Calls Try.prog 8 #[.agg cs0, .int .i64 a1] w fun e w' => e = .returned (.bool true) ∧ Below w.heap.size w w' := by
  obtain ⟨s, rfl⟩ := sup_of r0
  by_cases hr : right s
  · by_cases hi : a1 < 0
    · exact low_ w s hr a1 hi
    · by_cases hi2 : 6 ≤ a1
      · exact high_ w s hr a1 (by omega) hi2
      · have hk : a1 = 0 ∨ a1 = 1 ∨ a1 = 2 ∨ a1 = 3 ∨ a1 = 4 ∨ a1 = 5 := by omega
        rcases hk with rfl | rfl | rfl | rfl | rfl | rfl
        · exact ok0 w s hr
        · exact ok1 w s hr
        · exact ok2 w s hr
        · exact ok3 w s hr
        · exact ok4 w s hr
        · exact ok5 w s hr
  · exact wrong_ w s hr a1
end SuperAreas
end Go.Proofs.Ytepmgkmbmejkjaa
