/- Which of two boot records counts: the statement's walk. -/
import Derived.Test.YtgplpcjlemjabaaBo8
set_option linter.unusedVariables false
set_option linter.unusedSimpArgs false
namespace Go.Proofs.Ytgplpcjlemjabaa
open Go.RowKit Go.Proofs.Ytgplpcjlemjabaa.Fd Go.Proofs.Ytgplpcjlemjabaa.Bg Go.Proofs.Ytgplpcjlemjabaa.Bo Go.Proofs.YtgplpcjlemjabaaW.PrintWords Go.Proofs.YtgplpcjlemjabaaW.PrintLast Go.Proofs.YtgplpcjlemjabaaW.PrintMore
namespace BootChooses
theorem big0_ (w : World) (A0 A1 : Option Addr) (n0 c0 n1 c1 : Nat) (hn : 300 < n0) : Calls Try.prog 10 #[.slice A0 n0 c0, .slice A1 n1 c1] w fun e w' => e = .returned (.bool true) ∧ Below w.heap.size w w' := by
  go_enter Try.func10, Try.ntmps10
  go_wp2_with (go_at_call 23; refine (live_any _).mono ?_; rintro e w' ⟨rfl, hbel⟩)
  go_ret
  exact ⟨rfl, hbel⟩
theorem big1_ (w : World) (A0 A1 : Option Addr) (n0 c0 n1 c1 : Nat) (h0 : n0 ≤ 300) (hn : 300 < n1) : Calls Try.prog 10 #[.slice A0 n0 c0, .slice A1 n1 c1] w fun e w' => e = .returned (.bool true) ∧ Below w.heap.size w w' := by
  have hd0 : decide ((n0 : Int) > 300) = false := decide_eq_false (by omega)
  have hd1 : decide ((n1 : Int) > 300) = true := decide_eq_true (by omega)
  go_enter Try.func10, Try.ntmps10
  go_wp2_with (go_at_call 23; refine (live_any _).mono ?_; rintro e w' ⟨rfl, hbel⟩)
  go_ret
  exact ⟨rfl, hbel⟩
set_option maxHeartbeats 4000000 in
set_option maxRecDepth 100000 in
theorem c00 (w : World) (A0 A1 : Option Addr) (n0 c0 n1 c1 : Nat) (h0 : n0 ≤ 300) (h1 : n1 ≤ 300) (s p q : Rec) (kc : Calls Try.prog 30 #[.slice A0 n0 c0, .slice A1 n1 c1] w (ChoP w (0, s, 4))) (kr : ∀ w1, Below w.heap.size w w1 → Calls Try.prog 31 #[.slice A0 n0 c0, .slice A1 n1 c1] w1 (ChoP w1 (0, s, 4))) (k0 : RecK w A0 n0 c0 (p, 6)) (k1 : RecK w A1 n1 c1 (q, 6)) (ko : ∀ w1, Below w.heap.size w w1 → Calls Try.prog 32 #[.slice A0 n0 c0, .slice A1 n1 c1] w1 (Ordd w1 [])) : Calls Try.prog 10 #[.slice A0 n0 c0, .slice A1 n1 c1] w fun e w' => e = .returned (.bool true) ∧ Below w.heap.size w w' := by
  have KC := Aside0.mk kc
  have KR := Aside0.mk kr
  have K0 := Aside0.mk k0
  have K1 := Aside0.mk k1
  have KO := Aside0.mk ko
  clear kc kr k0 k1 ko
  have hd0 : decide ((n0 : Int) > 300) = false := decide_eq_false (by omega)
  have hd1 : decide ((n1 : Int) > 300) = false := decide_eq_false (by omega)
  have heq := neq_self s
  go_enter Try.func10, Try.ntmps10
  go_wp2_with (go_at_call 30; apply Aside0.out)
  refine ⟨?_⟩
  refine KC.out.mono ?_
  rintro e w1 ⟨hB1, rfl⟩
  have KB1 := Aside0.mk hB1
  clear hB1
  go_wp2_with (go_at_call 31; apply Aside0.out)
  refine ⟨?_⟩
  have hb2 := below_alloc (Below.refl w1.heap.size w1) (.cells #[.int .u64 s.seq, .int .i64 s.slot, .int .i64 s.len, .int .u64 s.sum] 45)
  have hr2 := heap_alloc_new w1 (.cells #[.int .u64 s.seq, .int .i64 s.slot, .int .i64 s.len, .int .u64 s.sum] 45)
  generalize hW : World.alloc w1 _ = w2 at hb2 hr2 ⊢
  have KB2 := Aside0.mk (below_then KB1.out KB1.out.size hb2)
  have KS2 : Aside0 (DB w2 w1.heap.size s) := ⟨hr2⟩
  clear hb2 hr2 hW
  refine (KR.out _ KB2.out).mono ?_
  rintro e w3 ⟨hB3, rfl⟩
  have KB3 := Aside0.mk (below_then KB2.out KB2.out.size hB3)
  have KS3 : Aside0 (DB w3 w1.heap.size s) := ⟨blk_below KS2.out hB3⟩
  have hsz : w1.heap.size < w3.heap.size := blk_lt KS3.out
  obtain ⟨z0, z1, z2, z3⟩ := box_cells KS3.out
  clear hB3
  go_wp2_with (first | (go_at_call 26; refine (num_any _ _).mono ?_; rintro e w' ⟨rfl, rfl⟩) | (go_at_call 29; apply Aside0.out))
  refine ⟨?_⟩
  have hb4 := below_alloc (Below.refl w3.heap.size w3) (.cells #[.int .u64 s.seq, .int .i64 s.slot, .int .i64 s.len, .int .u64 s.sum] 45)
  generalize hW : World.alloc w3 _ = w4 at hb4 ⊢
  have KB4 := Aside0.mk (below_then KB3.out KB3.out.size hb4)
  clear hb4 hW z0 z1 z2 z3 hsz heq
  refine (K0.out _ KB4.out).mono ?_
  rintro e w5 ⟨hB5, rfl⟩
  have KB5 := Aside0.mk (below_then KB4.out KB4.out.size hB5)
  clear hB5
  go_wp2_with (go_at_call 29; apply Aside0.out)
  refine ⟨?_⟩
  have hb6 := below_alloc (Below.refl w5.heap.size w5) (.cells #[.int .u64 p.seq, .int .i64 p.slot, .int .i64 p.len, .int .u64 p.sum] 45)
  generalize hW : World.alloc w5 _ = w6 at hb6 ⊢
  have KB6 := Aside0.mk (below_then KB5.out KB5.out.size hb6)
  clear hb6 hW
  refine (K1.out _ KB6.out).mono ?_
  rintro e w7 ⟨hB7, rfl⟩
  have KB7 := Aside0.mk (below_then KB6.out KB6.out.size hB7)
  clear hB7
  go_wp2_with (go_at_call 32; apply Aside0.out)
  refine ⟨?_⟩
  have hb8 := below_alloc (Below.refl w7.heap.size w7) (.cells #[.int .u64 q.seq, .int .i64 q.slot, .int .i64 q.len, .int .u64 q.sum] 45)
  generalize hW : World.alloc w7 _ = w8 at hb8 ⊢
  have KB8 := Aside0.mk (below_then KB7.out KB7.out.size hb8)
  clear hb8 hW
  refine (KO.out _ KB8.out).mono ?_
  rintro e w9 ⟨hB9, ⟨-, rfl⟩ | ⟨hL, -⟩⟩
  · have KB9 := Aside0.mk (below_then KB8.out KB8.out.size hB9)
    clear hB9
    go_wp2_with (first | (go_at_call 23; refine (live_any _).mono ?_; rintro e wl ⟨rfl, hbel⟩))
    go_ret
    exact ⟨rfl, below_then KB9.out KB9.out.size hbel⟩
  · exact absurd rfl hL
set_option maxHeartbeats 4000000 in
set_option maxRecDepth 100000 in
theorem cc0 (w : World) (A0 A1 : Option Addr) (n0 c0 n1 c1 : Nat) (h0 : n0 ≤ 300) (h1 : n1 ≤ 300) (s p q : Rec) (kc : Calls Try.prog 30 #[.slice A0 n0 c0, .slice A1 n1 c1] w (ChoP w (0, s, 0))) (kr : ∀ w1, Below w.heap.size w w1 → Calls Try.prog 31 #[.slice A0 n0 c0, .slice A1 n1 c1] w1 (ChoP w1 (0, s, 0))) (k0 : RecK w A0 n0 c0 (p, 0)) (k1 : RecK w A1 n1 c1 (q, 6)) (ko : ∀ w1, Below w.heap.size w w1 → Calls Try.prog 32 #[.slice A0 n0 c0, .slice A1 n1 c1] w1 (Ordd w1 [0])) : Calls Try.prog 10 #[.slice A0 n0 c0, .slice A1 n1 c1] w fun e w' => e = .returned (.bool true) ∧ Below w.heap.size w w' := by
  have KC := Aside0.mk kc
  have KR := Aside0.mk kr
  have K0 := Aside0.mk k0
  have K1 := Aside0.mk k1
  have KO := Aside0.mk ko
  clear kc kr k0 k1 ko
  have hd0 : decide ((n0 : Int) > 300) = false := decide_eq_false (by omega)
  have hd1 : decide ((n1 : Int) > 300) = false := decide_eq_false (by omega)
  have heq := neq_self s
  go_enter Try.func10, Try.ntmps10
  go_wp2_with (go_at_call 30; apply Aside0.out)
  refine ⟨?_⟩
  refine KC.out.mono ?_
  rintro e w1 ⟨hB1, rfl⟩
  have KB1 := Aside0.mk hB1
  clear hB1
  go_wp2_with (go_at_call 31; apply Aside0.out)
  refine ⟨?_⟩
  have hb2 := below_alloc (Below.refl w1.heap.size w1) (.cells #[.int .u64 s.seq, .int .i64 s.slot, .int .i64 s.len, .int .u64 s.sum] 45)
  have hr2 := heap_alloc_new w1 (.cells #[.int .u64 s.seq, .int .i64 s.slot, .int .i64 s.len, .int .u64 s.sum] 45)
  generalize hW : World.alloc w1 _ = w2 at hb2 hr2 ⊢
  have KB2 := Aside0.mk (below_then KB1.out KB1.out.size hb2)
  have KS2 : Aside0 (DB w2 w1.heap.size s) := ⟨hr2⟩
  clear hb2 hr2 hW
  refine (KR.out _ KB2.out).mono ?_
  rintro e w3 ⟨hB3, rfl⟩
  have KB3 := Aside0.mk (below_then KB2.out KB2.out.size hB3)
  have KS3 : Aside0 (DB w3 w1.heap.size s) := ⟨blk_below KS2.out hB3⟩
  have hsz : w1.heap.size < w3.heap.size := blk_lt KS3.out
  obtain ⟨z0, z1, z2, z3⟩ := box_cells KS3.out
  clear hB3
  go_wp2_with (first | (go_at_call 26; refine (num_any _ _).mono ?_; rintro e w' ⟨rfl, rfl⟩) | (go_at_call 29; apply Aside0.out))
  refine ⟨?_⟩
  have hb4 := below_alloc (Below.refl w3.heap.size w3) (.cells #[.int .u64 s.seq, .int .i64 s.slot, .int .i64 s.len, .int .u64 s.sum] 45)
  generalize hW : World.alloc w3 _ = w4 at hb4 ⊢
  have KB4 := Aside0.mk (below_then KB3.out KB3.out.size hb4)
  clear hb4 hW z0 z1 z2 z3 hsz heq
  refine (K0.out _ KB4.out).mono ?_
  rintro e w5 ⟨hB5, rfl⟩
  have KB5 := Aside0.mk (below_then KB4.out KB4.out.size hB5)
  clear hB5
  go_wp2_with (go_at_call 29; apply Aside0.out)
  refine ⟨?_⟩
  have hb6 := below_alloc (Below.refl w5.heap.size w5) (.cells #[.int .u64 p.seq, .int .i64 p.slot, .int .i64 p.len, .int .u64 p.sum] 45)
  generalize hW : World.alloc w5 _ = w6 at hb6 ⊢
  have KB6 := Aside0.mk (below_then KB5.out KB5.out.size hb6)
  clear hb6 hW
  refine (K1.out _ KB6.out).mono ?_
  rintro e w7 ⟨hB7, rfl⟩
  have KB7 := Aside0.mk (below_then KB6.out KB6.out.size hB7)
  clear hB7
  go_wp2_with (go_at_call 32; apply Aside0.out)
  refine ⟨?_⟩
  have hb8 := below_alloc (Below.refl w7.heap.size w7) (.cells #[.int .u64 q.seq, .int .i64 q.slot, .int .i64 q.len, .int .u64 q.sum] 45)
  generalize hW : World.alloc w7 _ = w8 at hb8 ⊢
  have KB8 := Aside0.mk (below_then KB7.out KB7.out.size hb8)
  clear hb8 hW
  refine (KO.out _ KB8.out).mono ?_
  rintro e w9 ⟨hB9, ⟨hL, -⟩ | ⟨-, g, rfl, hg⟩⟩
  · cases hL
  · have KB9 := Aside0.mk (below_then KB8.out KB8.out.size hB9)
    have y0 : w9.cell? ⟨g, 0, none⟩ = some (.int .i64 0) := (cell_of_row _ _ _ _ _ _ hg).trans rfl
    clear hB9 hg
    simp only [List.length_cons, List.length_nil, Nat.zero_add, Nat.reduceAdd]
    go_wp2_with (first | (go_at_call 23; refine (live_any _).mono ?_; rintro e wl ⟨rfl, hbel⟩))
    go_ret
    exact ⟨rfl, below_then KB9.out KB9.out.size hbel⟩
set_option maxHeartbeats 4000000 in
set_option maxRecDepth 100000 in
theorem cc1 (w : World) (A0 A1 : Option Addr) (n0 c0 n1 c1 : Nat) (h0 : n0 ≤ 300) (h1 : n1 ≤ 300) (s p q : Rec) (kc : Calls Try.prog 30 #[.slice A0 n0 c0, .slice A1 n1 c1] w (ChoP w (1, s, 0))) (kr : ∀ w1, Below w.heap.size w w1 → Calls Try.prog 31 #[.slice A0 n0 c0, .slice A1 n1 c1] w1 (ChoP w1 (1, s, 0))) (k0 : RecK w A0 n0 c0 (p, 6)) (k1 : RecK w A1 n1 c1 (q, 0)) (ko : ∀ w1, Below w.heap.size w w1 → Calls Try.prog 32 #[.slice A0 n0 c0, .slice A1 n1 c1] w1 (Ordd w1 [1])) : Calls Try.prog 10 #[.slice A0 n0 c0, .slice A1 n1 c1] w fun e w' => e = .returned (.bool true) ∧ Below w.heap.size w w' := by
  have KC := Aside0.mk kc
  have KR := Aside0.mk kr
  have K0 := Aside0.mk k0
  have K1 := Aside0.mk k1
  have KO := Aside0.mk ko
  clear kc kr k0 k1 ko
  have hd0 : decide ((n0 : Int) > 300) = false := decide_eq_false (by omega)
  have hd1 : decide ((n1 : Int) > 300) = false := decide_eq_false (by omega)
  have heq := neq_self s
  go_enter Try.func10, Try.ntmps10
  go_wp2_with (go_at_call 30; apply Aside0.out)
  refine ⟨?_⟩
  refine KC.out.mono ?_
  rintro e w1 ⟨hB1, rfl⟩
  have KB1 := Aside0.mk hB1
  clear hB1
  go_wp2_with (go_at_call 31; apply Aside0.out)
  refine ⟨?_⟩
  have hb2 := below_alloc (Below.refl w1.heap.size w1) (.cells #[.int .u64 s.seq, .int .i64 s.slot, .int .i64 s.len, .int .u64 s.sum] 45)
  have hr2 := heap_alloc_new w1 (.cells #[.int .u64 s.seq, .int .i64 s.slot, .int .i64 s.len, .int .u64 s.sum] 45)
  generalize hW : World.alloc w1 _ = w2 at hb2 hr2 ⊢
  have KB2 := Aside0.mk (below_then KB1.out KB1.out.size hb2)
  have KS2 : Aside0 (DB w2 w1.heap.size s) := ⟨hr2⟩
  clear hb2 hr2 hW
  refine (KR.out _ KB2.out).mono ?_
  rintro e w3 ⟨hB3, rfl⟩
  have KB3 := Aside0.mk (below_then KB2.out KB2.out.size hB3)
  have KS3 : Aside0 (DB w3 w1.heap.size s) := ⟨blk_below KS2.out hB3⟩
  have hsz : w1.heap.size < w3.heap.size := blk_lt KS3.out
  obtain ⟨z0, z1, z2, z3⟩ := box_cells KS3.out
  clear hB3
  go_wp2_with (first | (go_at_call 26; refine (num_any _ _).mono ?_; rintro e w' ⟨rfl, rfl⟩) | (go_at_call 29; apply Aside0.out))
  refine ⟨?_⟩
  have hb4 := below_alloc (Below.refl w3.heap.size w3) (.cells #[.int .u64 s.seq, .int .i64 s.slot, .int .i64 s.len, .int .u64 s.sum] 45)
  generalize hW : World.alloc w3 _ = w4 at hb4 ⊢
  have KB4 := Aside0.mk (below_then KB3.out KB3.out.size hb4)
  clear hb4 hW z0 z1 z2 z3 hsz heq
  refine (K0.out _ KB4.out).mono ?_
  rintro e w5 ⟨hB5, rfl⟩
  have KB5 := Aside0.mk (below_then KB4.out KB4.out.size hB5)
  clear hB5
  go_wp2_with (go_at_call 29; apply Aside0.out)
  refine ⟨?_⟩
  have hb6 := below_alloc (Below.refl w5.heap.size w5) (.cells #[.int .u64 p.seq, .int .i64 p.slot, .int .i64 p.len, .int .u64 p.sum] 45)
  generalize hW : World.alloc w5 _ = w6 at hb6 ⊢
  have KB6 := Aside0.mk (below_then KB5.out KB5.out.size hb6)
  clear hb6 hW
  refine (K1.out _ KB6.out).mono ?_
  rintro e w7 ⟨hB7, rfl⟩
  have KB7 := Aside0.mk (below_then KB6.out KB6.out.size hB7)
  clear hB7
  go_wp2_with (go_at_call 32; apply Aside0.out)
  refine ⟨?_⟩
  have hb8 := below_alloc (Below.refl w7.heap.size w7) (.cells #[.int .u64 q.seq, .int .i64 q.slot, .int .i64 q.len, .int .u64 q.sum] 45)
  generalize hW : World.alloc w7 _ = w8 at hb8 ⊢
  have KB8 := Aside0.mk (below_then KB7.out KB7.out.size hb8)
  clear hb8 hW
  refine (KO.out _ KB8.out).mono ?_
  rintro e w9 ⟨hB9, ⟨hL, -⟩ | ⟨-, g, rfl, hg⟩⟩
  · cases hL
  · have KB9 := Aside0.mk (below_then KB8.out KB8.out.size hB9)
    have y0 : w9.cell? ⟨g, 0, none⟩ = some (.int .i64 1) := (cell_of_row _ _ _ _ _ _ hg).trans rfl
    clear hB9 hg
    simp only [List.length_cons, List.length_nil, Nat.zero_add, Nat.reduceAdd]
    go_wp2_with (first | (go_at_call 23; refine (live_any _).mono ?_; rintro e wl ⟨rfl, hbel⟩))
    go_ret
    exact ⟨rfl, below_then KB9.out KB9.out.size hbel⟩
set_option maxHeartbeats 4000000 in
set_option maxRecDepth 100000 in
theorem c10 (w : World) (A0 A1 : Option Addr) (n0 c0 n1 c1 : Nat) (h0 : n0 ≤ 300) (h1 : n1 ≤ 300) (s p q : Rec) (kc : Calls Try.prog 30 #[.slice A0 n0 c0, .slice A1 n1 c1] w (ChoP w (1, s, 0))) (kr : ∀ w1, Below w.heap.size w w1 → Calls Try.prog 31 #[.slice A0 n0 c0, .slice A1 n1 c1] w1 (ChoP w1 (1, s, 0))) (k0 : RecK w A0 n0 c0 (p, 0)) (k1 : RecK w A1 n1 c1 (q, 0)) (ko : ∀ w1, Below w.heap.size w w1 → Calls Try.prog 32 #[.slice A0 n0 c0, .slice A1 n1 c1] w1 (Ordd w1 [1, 0])) : Calls Try.prog 10 #[.slice A0 n0 c0, .slice A1 n1 c1] w fun e w' => e = .returned (.bool true) ∧ Below w.heap.size w w' := by
  have KC := Aside0.mk kc
  have KR := Aside0.mk kr
  have K0 := Aside0.mk k0
  have K1 := Aside0.mk k1
  have KO := Aside0.mk ko
  clear kc kr k0 k1 ko
  have hd0 : decide ((n0 : Int) > 300) = false := decide_eq_false (by omega)
  have hd1 : decide ((n1 : Int) > 300) = false := decide_eq_false (by omega)
  have heq := neq_self s
  go_enter Try.func10, Try.ntmps10
  go_wp2_with (go_at_call 30; apply Aside0.out)
  refine ⟨?_⟩
  refine KC.out.mono ?_
  rintro e w1 ⟨hB1, rfl⟩
  have KB1 := Aside0.mk hB1
  clear hB1
  go_wp2_with (go_at_call 31; apply Aside0.out)
  refine ⟨?_⟩
  have hb2 := below_alloc (Below.refl w1.heap.size w1) (.cells #[.int .u64 s.seq, .int .i64 s.slot, .int .i64 s.len, .int .u64 s.sum] 45)
  have hr2 := heap_alloc_new w1 (.cells #[.int .u64 s.seq, .int .i64 s.slot, .int .i64 s.len, .int .u64 s.sum] 45)
  generalize hW : World.alloc w1 _ = w2 at hb2 hr2 ⊢
  have KB2 := Aside0.mk (below_then KB1.out KB1.out.size hb2)
  have KS2 : Aside0 (DB w2 w1.heap.size s) := ⟨hr2⟩
  clear hb2 hr2 hW
  refine (KR.out _ KB2.out).mono ?_
  rintro e w3 ⟨hB3, rfl⟩
  have KB3 := Aside0.mk (below_then KB2.out KB2.out.size hB3)
  have KS3 : Aside0 (DB w3 w1.heap.size s) := ⟨blk_below KS2.out hB3⟩
  have hsz : w1.heap.size < w3.heap.size := blk_lt KS3.out
  obtain ⟨z0, z1, z2, z3⟩ := box_cells KS3.out
  clear hB3
  go_wp2_with (first | (go_at_call 26; refine (num_any _ _).mono ?_; rintro e w' ⟨rfl, rfl⟩) | (go_at_call 29; apply Aside0.out))
  refine ⟨?_⟩
  have hb4 := below_alloc (Below.refl w3.heap.size w3) (.cells #[.int .u64 s.seq, .int .i64 s.slot, .int .i64 s.len, .int .u64 s.sum] 45)
  generalize hW : World.alloc w3 _ = w4 at hb4 ⊢
  have KB4 := Aside0.mk (below_then KB3.out KB3.out.size hb4)
  clear hb4 hW z0 z1 z2 z3 hsz heq
  refine (K0.out _ KB4.out).mono ?_
  rintro e w5 ⟨hB5, rfl⟩
  have KB5 := Aside0.mk (below_then KB4.out KB4.out.size hB5)
  clear hB5
  go_wp2_with (go_at_call 29; apply Aside0.out)
  refine ⟨?_⟩
  have hb6 := below_alloc (Below.refl w5.heap.size w5) (.cells #[.int .u64 p.seq, .int .i64 p.slot, .int .i64 p.len, .int .u64 p.sum] 45)
  generalize hW : World.alloc w5 _ = w6 at hb6 ⊢
  have KB6 := Aside0.mk (below_then KB5.out KB5.out.size hb6)
  clear hb6 hW
  refine (K1.out _ KB6.out).mono ?_
  rintro e w7 ⟨hB7, rfl⟩
  have KB7 := Aside0.mk (below_then KB6.out KB6.out.size hB7)
  clear hB7
  go_wp2_with (go_at_call 32; apply Aside0.out)
  refine ⟨?_⟩
  have hb8 := below_alloc (Below.refl w7.heap.size w7) (.cells #[.int .u64 q.seq, .int .i64 q.slot, .int .i64 q.len, .int .u64 q.sum] 45)
  generalize hW : World.alloc w7 _ = w8 at hb8 ⊢
  have KB8 := Aside0.mk (below_then KB7.out KB7.out.size hb8)
  clear hb8 hW
  refine (KO.out _ KB8.out).mono ?_
  rintro e w9 ⟨hB9, ⟨hL, -⟩ | ⟨-, g, rfl, hg⟩⟩
  · cases hL
  · have KB9 := Aside0.mk (below_then KB8.out KB8.out.size hB9)
    have y0 : w9.cell? ⟨g, 0, none⟩ = some (.int .i64 1) := (cell_of_row _ _ _ _ _ _ hg).trans rfl
    have y1 : w9.cell? ⟨g, 1, none⟩ = some (.int .i64 0) := (cell_of_row _ _ _ _ _ _ hg).trans rfl
    clear hB9 hg
    simp only [List.length_cons, List.length_nil, Nat.zero_add, Nat.reduceAdd]
    go_wp2_with (first | (go_at_call 23; refine (live_any _).mono ?_; rintro e wl ⟨rfl, hbel⟩))
    go_ret
    exact ⟨rfl, below_then KB9.out KB9.out.size hbel⟩
set_option maxHeartbeats 4000000 in
set_option maxRecDepth 100000 in
theorem c01 (w : World) (A0 A1 : Option Addr) (n0 c0 n1 c1 : Nat) (h0 : n0 ≤ 300) (h1 : n1 ≤ 300) (s p q : Rec) (kc : Calls Try.prog 30 #[.slice A0 n0 c0, .slice A1 n1 c1] w (ChoP w (0, s, 0))) (kr : ∀ w1, Below w.heap.size w w1 → Calls Try.prog 31 #[.slice A0 n0 c0, .slice A1 n1 c1] w1 (ChoP w1 (0, s, 0))) (k0 : RecK w A0 n0 c0 (p, 0)) (k1 : RecK w A1 n1 c1 (q, 0)) (ko : ∀ w1, Below w.heap.size w w1 → Calls Try.prog 32 #[.slice A0 n0 c0, .slice A1 n1 c1] w1 (Ordd w1 [0, 1])) : Calls Try.prog 10 #[.slice A0 n0 c0, .slice A1 n1 c1] w fun e w' => e = .returned (.bool true) ∧ Below w.heap.size w w' := by
  have KC := Aside0.mk kc
  have KR := Aside0.mk kr
  have K0 := Aside0.mk k0
  have K1 := Aside0.mk k1
  have KO := Aside0.mk ko
  clear kc kr k0 k1 ko
  have hd0 : decide ((n0 : Int) > 300) = false := decide_eq_false (by omega)
  have hd1 : decide ((n1 : Int) > 300) = false := decide_eq_false (by omega)
  have heq := neq_self s
  go_enter Try.func10, Try.ntmps10
  go_wp2_with (go_at_call 30; apply Aside0.out)
  refine ⟨?_⟩
  refine KC.out.mono ?_
  rintro e w1 ⟨hB1, rfl⟩
  have KB1 := Aside0.mk hB1
  clear hB1
  go_wp2_with (go_at_call 31; apply Aside0.out)
  refine ⟨?_⟩
  have hb2 := below_alloc (Below.refl w1.heap.size w1) (.cells #[.int .u64 s.seq, .int .i64 s.slot, .int .i64 s.len, .int .u64 s.sum] 45)
  have hr2 := heap_alloc_new w1 (.cells #[.int .u64 s.seq, .int .i64 s.slot, .int .i64 s.len, .int .u64 s.sum] 45)
  generalize hW : World.alloc w1 _ = w2 at hb2 hr2 ⊢
  have KB2 := Aside0.mk (below_then KB1.out KB1.out.size hb2)
  have KS2 : Aside0 (DB w2 w1.heap.size s) := ⟨hr2⟩
  clear hb2 hr2 hW
  refine (KR.out _ KB2.out).mono ?_
  rintro e w3 ⟨hB3, rfl⟩
  have KB3 := Aside0.mk (below_then KB2.out KB2.out.size hB3)
  have KS3 : Aside0 (DB w3 w1.heap.size s) := ⟨blk_below KS2.out hB3⟩
  have hsz : w1.heap.size < w3.heap.size := blk_lt KS3.out
  obtain ⟨z0, z1, z2, z3⟩ := box_cells KS3.out
  clear hB3
  go_wp2_with (first | (go_at_call 26; refine (num_any _ _).mono ?_; rintro e w' ⟨rfl, rfl⟩) | (go_at_call 29; apply Aside0.out))
  refine ⟨?_⟩
  have hb4 := below_alloc (Below.refl w3.heap.size w3) (.cells #[.int .u64 s.seq, .int .i64 s.slot, .int .i64 s.len, .int .u64 s.sum] 45)
  generalize hW : World.alloc w3 _ = w4 at hb4 ⊢
  have KB4 := Aside0.mk (below_then KB3.out KB3.out.size hb4)
  clear hb4 hW z0 z1 z2 z3 hsz heq
  refine (K0.out _ KB4.out).mono ?_
  rintro e w5 ⟨hB5, rfl⟩
  have KB5 := Aside0.mk (below_then KB4.out KB4.out.size hB5)
  clear hB5
  go_wp2_with (go_at_call 29; apply Aside0.out)
  refine ⟨?_⟩
  have hb6 := below_alloc (Below.refl w5.heap.size w5) (.cells #[.int .u64 p.seq, .int .i64 p.slot, .int .i64 p.len, .int .u64 p.sum] 45)
  generalize hW : World.alloc w5 _ = w6 at hb6 ⊢
  have KB6 := Aside0.mk (below_then KB5.out KB5.out.size hb6)
  clear hb6 hW
  refine (K1.out _ KB6.out).mono ?_
  rintro e w7 ⟨hB7, rfl⟩
  have KB7 := Aside0.mk (below_then KB6.out KB6.out.size hB7)
  clear hB7
  go_wp2_with (go_at_call 32; apply Aside0.out)
  refine ⟨?_⟩
  have hb8 := below_alloc (Below.refl w7.heap.size w7) (.cells #[.int .u64 q.seq, .int .i64 q.slot, .int .i64 q.len, .int .u64 q.sum] 45)
  generalize hW : World.alloc w7 _ = w8 at hb8 ⊢
  have KB8 := Aside0.mk (below_then KB7.out KB7.out.size hb8)
  clear hb8 hW
  refine (KO.out _ KB8.out).mono ?_
  rintro e w9 ⟨hB9, ⟨hL, -⟩ | ⟨-, g, rfl, hg⟩⟩
  · cases hL
  · have KB9 := Aside0.mk (below_then KB8.out KB8.out.size hB9)
    have y0 : w9.cell? ⟨g, 0, none⟩ = some (.int .i64 0) := (cell_of_row _ _ _ _ _ _ hg).trans rfl
    have y1 : w9.cell? ⟨g, 1, none⟩ = some (.int .i64 1) := (cell_of_row _ _ _ _ _ _ hg).trans rfl
    clear hB9 hg
    simp only [List.length_cons, List.length_nil, Nat.zero_add, Nat.reduceAdd]
    go_wp2_with (first | (go_at_call 23; refine (live_any _).mono ?_; rintro e wl ⟨rfl, hbel⟩))
    go_ret
    exact ⟨rfl, below_then KB9.out KB9.out.size hbel⟩
theorem walk (w : World) (A0 : Option Addr) (c0 : Nat) (l0 : List Int) (r0 : Kd.C (Kd.int .u8) w A0 l0.length l0) (k0 : l0.length ≤ c0) (g0 : ∀ v ∈ l0, (fun n : Int => (Lit.int .u8 n).wf = true) v) (m0 : l0.length * 1 ≤ 140737488351232) (A1 : Option Addr) (c1 : Nat) (l1 : List Int) (r1 : Kd.C (Kd.int .u8) w A1 l1.length l1) (k1 : l1.length ≤ c1) (g1 : ∀ v ∈ l1, (fun n : Int => (Lit.int .u8 n).wf = true) v) (m1 : l1.length * 1 ≤ 140737488351232) :
    Calls Try.prog 10 #[.slice A0 l0.length c0, .slice A1 l1.length c1] w fun e w' => e = .returned (.bool true) ∧ Below w.heap.size w w' := by
  have b0 := isB_of g0
  have b1 := isB_of g1
  by_cases hn0 : 300 < l0.length
  · exact big0_ w A0 A1 l0.length c0 l1.length c1 hn0
  by_cases hn1 : 300 < l1.length
  · exact big1_ w A0 A1 l0.length c0 l1.length c1 (by omega) hn1
  have kd0 := decK w l0 A0 c0 r0 b0 (by omega) k0
  have kd1 := decK w l1 A1 c1 r1 b1 (by omega) k1
  have kr0 := recK w l0 A0 c0 r0 b0 (by omega) k0
  have kr1 := recK w l1 A1 c1 r1 b1 (by omega) k1
  have kc := choose_any w A0 A1 l0.length c0 l1.length c1 l0 l1 kd0 kd1
  have t0 : (dec l0).2 = 0 ∨ (dec l0).2 = 6 := (dec_two l0).imp id (·.1)
  have t1 : (dec l1).2 = 0 ∨ (dec l1).2 = 6 := (dec_two l1).imp id (·.1)
  have kr : ∀ w1, Below w.heap.size w w1 → Calls Try.prog 31 #[.slice A0 l0.length c0, .slice A1 l1.length c1] w1 (ChoP w1 (cho (dec l0) (dec l1))) := fun w1 hb => rchoose_any w1 A0 A1 l0.length c0 l1.length c1 (dec l0) (dec l1) t0 t1 (kr0.below hb) (kr1.below hb)
  have ko : ∀ w1, Below w.heap.size w w1 → Calls Try.prog 32 #[.slice A0 l0.length c0, .slice A1 l1.length c1] w1 (Ordd w1 (ord (dec l0) (dec l1))) := fun w1 hb => order_any w1 A0 A1 l0.length c0 l1.length c1 l0 l1 (kd0.below hb) (kd1.below hb)
  clear kd0 kd1
  obtain ⟨⟨p, e0⟩, hp⟩ : ∃ p, p = dec l0 := ⟨_, rfl⟩
  obtain ⟨⟨q, e1⟩, hq⟩ : ∃ q, q = dec l1 := ⟨_, rfl⟩
  rw [← hp] at t0 kr0 kc kr ko
  rw [← hq] at t1 kr1 kc kr ko
  have t0 : e0 = 0 ∨ e0 = 6 := t0
  have t1 : e1 = 0 ∨ e1 = 6 := t1
  rcases t0 with rfl | rfl <;> rcases t1 with rfl | rfl
  · by_cases hs : p.seq < q.seq
    · have e : cho (p, 0) (q, 0) = (1, q, 0) := by simp [cho, hs]
      have e2 : ord (p, 0) (q, 0) = [1, 0] := by simp [ord, hs]
      rw [e] at kc kr
      rw [e2] at ko
      exact c10 w A0 A1 l0.length c0 l1.length c1 (by omega) (by omega) q p q kc kr kr0 kr1 ko
    · have e : cho (p, 0) (q, 0) = (0, p, 0) := by simp [cho, hs]
      have e2 : ord (p, 0) (q, 0) = [0, 1] := by simp [ord, hs]
      rw [e] at kc kr
      rw [e2] at ko
      exact c01 w A0 A1 l0.length c0 l1.length c1 (by omega) (by omega) p p q kc kr kr0 kr1 ko
  · exact cc0 w A0 A1 l0.length _ l1.length c1 (by omega) (by omega) p p q kc kr kr0 kr1 ko
  · exact cc1 w A0 A1 l0.length c0 l1.length _ (by omega) (by omega) q p q kc kr kr0 kr1 ko
  · exact c00 w A0 A1 l0.length c0 l1.length c1 (by omega) (by omega) zero p q kc kr kr0 kr1 ko
end BootChooses
end Go.Proofs.Ytgplpcjlemjabaa
