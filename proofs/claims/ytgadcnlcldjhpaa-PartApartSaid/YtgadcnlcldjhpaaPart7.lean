/- Pages, sectors, sizes of any plan's slots: the walk. -/
import Derived.Test.YtgadcnlcldjhpaaPart6
set_option linter.unusedVariables false
set_option linter.unusedSimpArgs false
namespace Go.Proofs.Ytgadcnlcldjhpaa.Part
open Go.RowKit Go.Proofs.YtgadcnlcldjhpaaW.PrintWords Go.Proofs.YtgadcnlcldjhpaaW.PrintLast Go.Proofs.YtgadcnlcldjhpaaW.PrintMore PartFn
/-- What a contract leaves: cells, frozen ones, the size. -/
theorem bnext {W w1 : World} {k : Nat} (hk : k < W.heap.size) (hb : Below W.heap.size W w1) : k < w1.heap.size := Nat.lt_of_lt_of_le hk hb.size
theorem bnext0 {w w1 : World} {o : Obj} (hb : Below (w.alloc o).heap.size (w.alloc o) w1) : w.heap.size < w1.heap.size := by have := hb.size; simp at this; omega
theorem rowstep {W w1 : World} {k : Nat} {cs : Array Value} {T : TypeId} {r : Nat × Nat} (hb : Below W.heap.size W w1) (h : Aside0 (W.heap[k]? = some (.cells cs T r))) : Aside0 (w1.heap[k]? = some (.cells cs T r)) := ⟨(hb.block _ (Array.getElem?_eq_some_iff.1 h.out).1).trans h.out⟩
theorem bstep {w W w1 : World} (h : Aside0 (Below w.heap.size w W)) (hb : Below W.heap.size W w1) : Aside0 (Below w.heap.size w w1) := ⟨below_then h.out h.out.size hb⟩
set_option maxHeartbeats 4000000 in
set_option maxRecDepth 100000 in
theorem places_bad (S P B b0 b1 s0 s1 n slot i sz : Int) (rq : Bool) (hrq : rq = false ∨ slot < 0 ∨ 1 < slot) (hsz : (sz == 0) = !rq)
    (HP : ∀ w, Calls Try.prog 33 #[.agg (pl S P B b0 b1 s0 s1 n), .int .i64 slot, .int .i64 i] w fun e' w' => e' = .returned (.tuple #[.int .i64 0, .int .i64 0, .int .i64 1]) ∧ Below w.heap.size w w')
    (HR : ∀ w, Calls Try.prog 34 #[.agg (pl S P B b0 b1 s0 s1 n), .int .i64 slot, .int .i64 i] w fun e' w' => e' = .returned (.tuple #[.int .i64 0, .int .i64 0, .int .i64 1]) ∧ Below w.heap.size w w')
    (HB : ∀ w, Calls Try.prog 35 #[.agg (pl S P B b0 b1 s0 s1 n), .int .i64 slot] w fun e' w' => e' = .returned (.tuple #[.int .i64 0, .int .i64 1]) ∧ Below w.heap.size w w')
    (HS : ∀ w, Calls Try.prog 36 #[.agg (pl S P B b0 b1 s0 s1 n), .int .i64 slot, .int .i64 i] w fun e' w' => e' = .returned (.tuple #[.int .i64 0, .int .i64 1]) ∧ Below w.heap.size w w')
    (HQ : ∀ w, Calls Try.prog 30 #[.agg (pl S P B b0 b1 s0 s1 n)] w fun e' w' => e' = .returned (.bool rq) ∧ Below w.heap.size w w')
    (HZ : ∀ w, Calls Try.prog 37 #[.agg (pl S P B b0 b1 s0 s1 n)] w fun e' w' => e' = .returned (.int .i64 sz) ∧ Below w.heap.size w w') (w : World) :
    Calls Try.prog 10 #[.agg (pl S P B b0 b1 s0 s1 n), .int .i64 slot, .int .i64 i] w fun e w' => e = .returned (.bool true) ∧ Below w.heap.size w w' := by
  unfold pl at HP HR HB HS HQ HZ ⊢
  have KP := Aside0.mk HP
  have KR := Aside0.mk HR
  have KB := Aside0.mk HB
  have KS := Aside0.mk HS
  have KQ := Aside0.mk HQ
  have KZ := Aside0.mk HZ
  clear HP HR HB HS HQ HZ
  rcases hrq with h | h | h
  · subst h
    go_enter Try.func10, Try.ntmps10
    go_wp2_with (first | (go_at_call 33; refine (KP.out _).mono ?_; rintro e w1 ⟨rfl, hb⟩; obtain ⟨hc1, hf1⟩ := bcell hb; have hz1 : w.heap.size < w1.heap.size := (by first | exact bnext0 hb | (refine bnext ?_ hb; assumption)); have HB1 : Aside0 (Below w.heap.size w w1) := (by first | exact ⟨below1 hb⟩ | (refine bstep ?_ hb; assumption)); try (have HROW1 := rowstep (k := w.heap.size) hb (by assumption)); clear hb hf1) | (go_at_call 34; refine (KR.out _).mono ?_; rintro e w2 ⟨rfl, hb⟩; obtain ⟨hc2, hf2⟩ := bcell hb; have hz2 : w.heap.size < w2.heap.size := (by first | exact bnext0 hb | (refine bnext ?_ hb; assumption)); have HB2 : Aside0 (Below w.heap.size w w2) := (by first | exact ⟨below1 hb⟩ | (refine bstep ?_ hb; assumption)); try (have HROW2 := rowstep (k := w.heap.size) hb (by assumption)); clear hb hf2) | (go_at_call 35; refine (KB.out _).mono ?_; rintro e w3 ⟨rfl, hb⟩; obtain ⟨hc3, hf3⟩ := bcell hb; have hz3 : w.heap.size < w3.heap.size := (by first | exact bnext0 hb | (refine bnext ?_ hb; assumption)); have HB3 : Aside0 (Below w.heap.size w w3) := (by first | exact ⟨below1 hb⟩ | (refine bstep ?_ hb; assumption)); try (have HROW3 := rowstep (k := w.heap.size) hb (by assumption)); clear hb hf3) | (go_at_call 36; refine (KS.out _).mono ?_; rintro e w4 ⟨rfl, hb⟩; obtain ⟨hc4, hf4⟩ := bcell hb; have hz4 : w.heap.size < w4.heap.size := (by first | exact bnext0 hb | (refine bnext ?_ hb; assumption)); have HB4 : Aside0 (Below w.heap.size w w4) := (by first | exact ⟨below1 hb⟩ | (refine bstep ?_ hb; assumption)); try (have HROW4 := rowstep (k := w.heap.size) hb (by assumption)); clear hb hf4) | (go_at_call 30; refine (KQ.out _).mono ?_; rintro e w5 ⟨rfl, hb⟩; obtain ⟨hc5, hf5⟩ := bcell hb; have hz5 : w.heap.size < w5.heap.size := (by first | exact bnext0 hb | (refine bnext ?_ hb; assumption)); have HB5 : Aside0 (Below w.heap.size w w5) := (by first | exact ⟨below1 hb⟩ | (refine bstep ?_ hb; assumption)); try (have HROW5 := rowstep (k := w.heap.size) hb (by assumption)); clear hb hf5) | (go_at_call 37; refine (KZ.out _).mono ?_; rintro e w6 ⟨rfl, hb⟩; obtain ⟨hc6, hf6⟩ := bcell hb; have hz6 : w.heap.size < w6.heap.size := (by first | exact bnext0 hb | (refine bnext ?_ hb; assumption)); have HB6 : Aside0 (Below w.heap.size w w6) := (by first | exact ⟨below1 hb⟩ | (refine bstep ?_ hb; assumption)); try (have HROW6 := rowstep (k := w.heap.size) hb (by assumption)); clear hb hf6) | (go_at_call 32; refine (live_any _).mono ?_; rintro e w7 ⟨rfl, hb⟩; obtain ⟨hc7, hf7⟩ := bcell hb; have hz7 : w.heap.size < w7.heap.size := (by first | exact bnext0 hb | (refine bnext ?_ hb; assumption)); have HB7 : Aside0 (Below w.heap.size w w7) := (by first | exact ⟨below1 hb⟩ | (refine bstep ?_ hb; assumption)); try (have HROW7 := rowstep (k := w.heap.size) hb (by assumption)); clear hb hf7) | (go_at_call 29; refine (num_any _ _).mono ?_; rintro e w' ⟨rfl, rfl⟩))
    go_ret
    exact ⟨rfl, (show Aside0 (Below w.heap.size w _) by assumption).out⟩
  · cases rq
    all_goals
      go_enter Try.func10, Try.ntmps10
      go_wp2_with (first | (go_at_call 33; refine (KP.out _).mono ?_; rintro e w1 ⟨rfl, hb⟩; obtain ⟨hc1, hf1⟩ := bcell hb; have hz1 : w.heap.size < w1.heap.size := (by first | exact bnext0 hb | (refine bnext ?_ hb; assumption)); have HB1 : Aside0 (Below w.heap.size w w1) := (by first | exact ⟨below1 hb⟩ | (refine bstep ?_ hb; assumption)); try (have HROW1 := rowstep (k := w.heap.size) hb (by assumption)); clear hb hf1) | (go_at_call 34; refine (KR.out _).mono ?_; rintro e w2 ⟨rfl, hb⟩; obtain ⟨hc2, hf2⟩ := bcell hb; have hz2 : w.heap.size < w2.heap.size := (by first | exact bnext0 hb | (refine bnext ?_ hb; assumption)); have HB2 : Aside0 (Below w.heap.size w w2) := (by first | exact ⟨below1 hb⟩ | (refine bstep ?_ hb; assumption)); try (have HROW2 := rowstep (k := w.heap.size) hb (by assumption)); clear hb hf2) | (go_at_call 35; refine (KB.out _).mono ?_; rintro e w3 ⟨rfl, hb⟩; obtain ⟨hc3, hf3⟩ := bcell hb; have hz3 : w.heap.size < w3.heap.size := (by first | exact bnext0 hb | (refine bnext ?_ hb; assumption)); have HB3 : Aside0 (Below w.heap.size w w3) := (by first | exact ⟨below1 hb⟩ | (refine bstep ?_ hb; assumption)); try (have HROW3 := rowstep (k := w.heap.size) hb (by assumption)); clear hb hf3) | (go_at_call 36; refine (KS.out _).mono ?_; rintro e w4 ⟨rfl, hb⟩; obtain ⟨hc4, hf4⟩ := bcell hb; have hz4 : w.heap.size < w4.heap.size := (by first | exact bnext0 hb | (refine bnext ?_ hb; assumption)); have HB4 : Aside0 (Below w.heap.size w w4) := (by first | exact ⟨below1 hb⟩ | (refine bstep ?_ hb; assumption)); try (have HROW4 := rowstep (k := w.heap.size) hb (by assumption)); clear hb hf4) | (go_at_call 30; refine (KQ.out _).mono ?_; rintro e w5 ⟨rfl, hb⟩; obtain ⟨hc5, hf5⟩ := bcell hb; have hz5 : w.heap.size < w5.heap.size := (by first | exact bnext0 hb | (refine bnext ?_ hb; assumption)); have HB5 : Aside0 (Below w.heap.size w w5) := (by first | exact ⟨below1 hb⟩ | (refine bstep ?_ hb; assumption)); try (have HROW5 := rowstep (k := w.heap.size) hb (by assumption)); clear hb hf5) | (go_at_call 37; refine (KZ.out _).mono ?_; rintro e w6 ⟨rfl, hb⟩; obtain ⟨hc6, hf6⟩ := bcell hb; have hz6 : w.heap.size < w6.heap.size := (by first | exact bnext0 hb | (refine bnext ?_ hb; assumption)); have HB6 : Aside0 (Below w.heap.size w w6) := (by first | exact ⟨below1 hb⟩ | (refine bstep ?_ hb; assumption)); try (have HROW6 := rowstep (k := w.heap.size) hb (by assumption)); clear hb hf6) | (go_at_call 32; refine (live_any _).mono ?_; rintro e w7 ⟨rfl, hb⟩; obtain ⟨hc7, hf7⟩ := bcell hb; have hz7 : w.heap.size < w7.heap.size := (by first | exact bnext0 hb | (refine bnext ?_ hb; assumption)); have HB7 : Aside0 (Below w.heap.size w w7) := (by first | exact ⟨below1 hb⟩ | (refine bstep ?_ hb; assumption)); try (have HROW7 := rowstep (k := w.heap.size) hb (by assumption)); clear hb hf7) | (go_at_call 29; refine (num_any _ _).mono ?_; rintro e w' ⟨rfl, rfl⟩))
      go_ret
      exact ⟨rfl, (show Aside0 (Below w.heap.size w _) by assumption).out⟩
  · cases rq
    all_goals
      go_enter Try.func10, Try.ntmps10
      go_wp2_with (first | (go_at_call 33; refine (KP.out _).mono ?_; rintro e w1 ⟨rfl, hb⟩; obtain ⟨hc1, hf1⟩ := bcell hb; have hz1 : w.heap.size < w1.heap.size := (by first | exact bnext0 hb | (refine bnext ?_ hb; assumption)); have HB1 : Aside0 (Below w.heap.size w w1) := (by first | exact ⟨below1 hb⟩ | (refine bstep ?_ hb; assumption)); try (have HROW1 := rowstep (k := w.heap.size) hb (by assumption)); clear hb hf1) | (go_at_call 34; refine (KR.out _).mono ?_; rintro e w2 ⟨rfl, hb⟩; obtain ⟨hc2, hf2⟩ := bcell hb; have hz2 : w.heap.size < w2.heap.size := (by first | exact bnext0 hb | (refine bnext ?_ hb; assumption)); have HB2 : Aside0 (Below w.heap.size w w2) := (by first | exact ⟨below1 hb⟩ | (refine bstep ?_ hb; assumption)); try (have HROW2 := rowstep (k := w.heap.size) hb (by assumption)); clear hb hf2) | (go_at_call 35; refine (KB.out _).mono ?_; rintro e w3 ⟨rfl, hb⟩; obtain ⟨hc3, hf3⟩ := bcell hb; have hz3 : w.heap.size < w3.heap.size := (by first | exact bnext0 hb | (refine bnext ?_ hb; assumption)); have HB3 : Aside0 (Below w.heap.size w w3) := (by first | exact ⟨below1 hb⟩ | (refine bstep ?_ hb; assumption)); try (have HROW3 := rowstep (k := w.heap.size) hb (by assumption)); clear hb hf3) | (go_at_call 36; refine (KS.out _).mono ?_; rintro e w4 ⟨rfl, hb⟩; obtain ⟨hc4, hf4⟩ := bcell hb; have hz4 : w.heap.size < w4.heap.size := (by first | exact bnext0 hb | (refine bnext ?_ hb; assumption)); have HB4 : Aside0 (Below w.heap.size w w4) := (by first | exact ⟨below1 hb⟩ | (refine bstep ?_ hb; assumption)); try (have HROW4 := rowstep (k := w.heap.size) hb (by assumption)); clear hb hf4) | (go_at_call 30; refine (KQ.out _).mono ?_; rintro e w5 ⟨rfl, hb⟩; obtain ⟨hc5, hf5⟩ := bcell hb; have hz5 : w.heap.size < w5.heap.size := (by first | exact bnext0 hb | (refine bnext ?_ hb; assumption)); have HB5 : Aside0 (Below w.heap.size w w5) := (by first | exact ⟨below1 hb⟩ | (refine bstep ?_ hb; assumption)); try (have HROW5 := rowstep (k := w.heap.size) hb (by assumption)); clear hb hf5) | (go_at_call 37; refine (KZ.out _).mono ?_; rintro e w6 ⟨rfl, hb⟩; obtain ⟨hc6, hf6⟩ := bcell hb; have hz6 : w.heap.size < w6.heap.size := (by first | exact bnext0 hb | (refine bnext ?_ hb; assumption)); have HB6 : Aside0 (Below w.heap.size w w6) := (by first | exact ⟨below1 hb⟩ | (refine bstep ?_ hb; assumption)); try (have HROW6 := rowstep (k := w.heap.size) hb (by assumption)); clear hb hf6) | (go_at_call 32; refine (live_any _).mono ?_; rintro e w7 ⟨rfl, hb⟩; obtain ⟨hc7, hf7⟩ := bcell hb; have hz7 : w.heap.size < w7.heap.size := (by first | exact bnext0 hb | (refine bnext ?_ hb; assumption)); have HB7 : Aside0 (Below w.heap.size w w7) := (by first | exact ⟨below1 hb⟩ | (refine bstep ?_ hb; assumption)); try (have HROW7 := rowstep (k := w.heap.size) hb (by assumption)); clear hb hf7) | (go_at_call 29; refine (num_any _ _).mono ?_; rintro e w' ⟨rfl, rfl⟩))
      go_ret
      exact ⟨rfl, (show Aside0 (Below w.heap.size w _) by assumption).out⟩
theorem row_cells {w : World} {k : Nat} {cs : Array Value} {T : TypeId} (h : w.heap[k]? = some (.cells cs T (0, 0))) : ∀ o, w.cell? ⟨k, o, none⟩ = cs[o]? := fun o => cell_of_row _ _ _ _ _ _ h
set_option maxHeartbeats 4000000 in
set_option maxRecDepth 100000 in
theorem places_good (S P B b0 b1 s0 s1 n slot i sz v pa pb pe s h : Int) (hv : (slot = 0 ∧ s0 = v) ∨ (slot = 1 ∧ s1 = v)) (hsec : ((i < 0 ∨ (0 ≤ i ∧ n ≤ i)) ∧ s = 0 ∧ h = 9) ∨ (0 ≤ i ∧ i < n ∧ s = v + i ∧ h = 0)) (hn : n ≤ 4096)
    (t0 : 2 ≤ s0) (t1 : s0 ≤ 4096) (t2 : 2 ≤ s1) (t3 : s1 ≤ 4096) (q1 : 0 ≤ s0 * P) (q2 : s0 * P ≤ 4194304) (q3 : 0 ≤ s0 * P * B) (q4 : s0 * P * B ≤ 16777216) (u1 : 0 ≤ s1 * P) (u2 : s1 * P ≤ 4194304) (u3 : 0 ≤ s1 * P * B) (u4 : s1 * P * B ≤ 16777216)
    (HP : ∀ w, Calls Try.prog 33 #[.agg (pl S P B b0 b1 s0 s1 n), .int .i64 slot, .int .i64 i] w fun e' w' => e' = .returned (.tuple #[.int .i64 pa, .int .i64 pb, .int .i64 pe]) ∧ Below w.heap.size w w')
    (HR : ∀ w, Calls Try.prog 34 #[.agg (pl S P B b0 b1 s0 s1 n), .int .i64 slot, .int .i64 i] w fun e' w' => e' = .returned (.tuple #[.int .i64 pa, .int .i64 pb, .int .i64 pe]) ∧ Below w.heap.size w w')
    (HB : ∀ w, Calls Try.prog 35 #[.agg (pl S P B b0 b1 s0 s1 n), .int .i64 slot] w fun e' w' => e' = .returned (.tuple #[.int .i64 (v * P * B), .int .i64 0]) ∧ Below w.heap.size w w')
    (HS : ∀ w, Calls Try.prog 36 #[.agg (pl S P B b0 b1 s0 s1 n), .int .i64 slot, .int .i64 i] w fun e' w' => e' = .returned (.tuple #[.int .i64 s, .int .i64 h]) ∧ Below w.heap.size w w')
    (HQ : ∀ w, Calls Try.prog 30 #[.agg (pl S P B b0 b1 s0 s1 n)] w fun e' w' => e' = .returned (.bool true) ∧ Below w.heap.size w w')
    (HZ : ∀ w, Calls Try.prog 37 #[.agg (pl S P B b0 b1 s0 s1 n)] w fun e' w' => e' = .returned (.int .i64 sz) ∧ Below w.heap.size w w')
    (HY : ∀ w, Calls Try.prog 38 #[.agg (pl S P B b0 b1 s0 s1 n)] w fun e' w' => e' = .returned (.int .i64 sz) ∧ Below w.heap.size w w') (w : World) :
    Calls Try.prog 10 #[.agg (pl S P B b0 b1 s0 s1 n), .int .i64 slot, .int .i64 i] w fun e w' => e = .returned (.bool true) ∧ Below w.heap.size w w' := by
  have HG : Aside0 ((w.alloc (.cells (pl S P B b0 b1 s0 s1 n) 48)).heap[w.heap.size]? = some (.cells (pl S P B b0 b1 s0 s1 n) 48 (0, 0))) := ⟨heap_alloc_new _ _⟩
  have hpz := plSize S P B b0 b1 s0 s1 n
  unfold pl at HP HR HB HS HQ HZ HY HG hpz ⊢
  have KP := Aside0.mk HP
  have KR := Aside0.mk HR
  have KB := Aside0.mk HB
  have KS := Aside0.mk HS
  have KQ := Aside0.mk HQ
  have KZ := Aside0.mk HZ
  have KY := Aside0.mk HY
  have HPZ := Aside0.mk hpz
  clear HP HR HB HS HQ HZ HY hpz
  have e1 : wrap64 (s0 * P) = s0 * P := (by unfold wrap64; omega)
  have e2 : wrap64 (s0 * P * B) = s0 * P * B := (by unfold wrap64; omega)
  have e3 : wrap64 (s1 * P) = s1 * P := (by unfold wrap64; omega)
  have e4 : wrap64 (s1 * P * B) = s1 * P * B := (by unfold wrap64; omega)
  have E := Aside0.mk (And.intro e1 (And.intro e2 (And.intro e3 e4)))
  clear e1 e2 e3 e4
  rcases hv with ⟨rfl, rfl⟩ | ⟨rfl, rfl⟩
  all_goals
    go_enter Try.func10, Try.ntmps10
    go_wp2_with (first | (go_at_call 33; refine (KP.out _).mono ?_; rintro e w1 ⟨rfl, hb⟩; obtain ⟨hc1, hf1⟩ := bcell hb; have hz1 : w.heap.size < w1.heap.size := (by first | exact bnext0 hb | (refine bnext ?_ hb; assumption)); have HB1 : Aside0 (Below w.heap.size w w1) := (by first | exact ⟨below1 hb⟩ | (refine bstep ?_ hb; assumption)); try (have HROW1 := rowstep (k := w.heap.size) hb (by assumption)); clear hb hf1) | (go_at_call 34; refine (KR.out _).mono ?_; rintro e w2 ⟨rfl, hb⟩; obtain ⟨hc2, hf2⟩ := bcell hb; have hz2 : w.heap.size < w2.heap.size := (by first | exact bnext0 hb | (refine bnext ?_ hb; assumption)); have HB2 : Aside0 (Below w.heap.size w w2) := (by first | exact ⟨below1 hb⟩ | (refine bstep ?_ hb; assumption)); try (have HROW2 := rowstep (k := w.heap.size) hb (by assumption)); clear hb hf2) | (go_at_call 35; refine (KB.out _).mono ?_; rintro e w3 ⟨rfl, hb⟩; obtain ⟨hc3, hf3⟩ := bcell hb; have hz3 : w.heap.size < w3.heap.size := (by first | exact bnext0 hb | (refine bnext ?_ hb; assumption)); have HB3 : Aside0 (Below w.heap.size w w3) := (by first | exact ⟨below1 hb⟩ | (refine bstep ?_ hb; assumption)); try (have HROW3 := rowstep (k := w.heap.size) hb (by assumption)); clear hb hf3) | (go_at_call 36; refine (KS.out _).mono ?_; rintro e w4 ⟨rfl, hb⟩; obtain ⟨hc4, hf4⟩ := bcell hb; have hz4 : w.heap.size < w4.heap.size := (by first | exact bnext0 hb | (refine bnext ?_ hb; assumption)); have HB4 : Aside0 (Below w.heap.size w w4) := (by first | exact ⟨below1 hb⟩ | (refine bstep ?_ hb; assumption)); try (have HROW4 := rowstep (k := w.heap.size) hb (by assumption)); clear hb hf4) | (go_at_call 30; refine (KQ.out _).mono ?_; rintro e w5 ⟨rfl, hb⟩; obtain ⟨hc5, hf5⟩ := bcell hb; have hz5 : w.heap.size < w5.heap.size := (by first | exact bnext0 hb | (refine bnext ?_ hb; assumption)); have HB5 : Aside0 (Below w.heap.size w w5) := (by first | exact ⟨below1 hb⟩ | (refine bstep ?_ hb; assumption)); try (have HROW5 := rowstep (k := w.heap.size) hb (by assumption)); clear hb hf5) | (go_at_call 37; refine (KZ.out _).mono ?_; rintro e w6 ⟨rfl, hb⟩; obtain ⟨hc6, hf6⟩ := bcell hb; have hz6 : w.heap.size < w6.heap.size := (by first | exact bnext0 hb | (refine bnext ?_ hb; assumption)); have HB6 : Aside0 (Below w.heap.size w w6) := (by first | exact ⟨below1 hb⟩ | (refine bstep ?_ hb; assumption)); try (have HROW6 := rowstep (k := w.heap.size) hb (by assumption)); clear hb hf6) | (go_at_call 32; refine (live_any _).mono ?_; rintro e w7 ⟨rfl, hb⟩; obtain ⟨hc7, hf7⟩ := bcell hb; have hz7 : w.heap.size < w7.heap.size := (by first | exact bnext0 hb | (refine bnext ?_ hb; assumption)); have HB7 : Aside0 (Below w.heap.size w w7) := (by first | exact ⟨below1 hb⟩ | (refine bstep ?_ hb; assumption)); try (have HROW7 := rowstep (k := w.heap.size) hb (by assumption)); clear hb hf7) | (go_at_call 29; refine (num_any _ _).mono ?_; rintro e w' ⟨rfl, rfl⟩))
    have HROW : w5.heap[w.heap.size]? = some (.cells #[.int .i64 S, .int .i64 P, .int .i64 B, .int .i64 b0, .int .i64 b1, .int .i64 s0, .int .i64 s1, .int .i64 n] 48 (0, 0)) := HROW5.out
    refine start_ (n := 26) (S := fun w' => w'.heap[w.heap.size]? = some (.cells #[.int .i64 S, .int .i64 P, .int .i64 B, .int .i64 b0, .int .i64 b1, .int .i64 s0, .int .i64 s1, .int .i64 n] 48 (0, 0)) ∧ (∀ o, w'.cell? ⟨w.heap.size, o, none⟩ = #[Value.int .i64 S, .int .i64 P, .int .i64 B, .int .i64 b0, .int .i64 b1, .int .i64 s0, .int .i64 s1, .int .i64 n][o]?) ∧ Below w.heap.size w w') (ds := []) #[false, false, false, false, false, false, false, false, false, false, false, false, false, false, false, false, false, false, false, false, false, false, false, false, false, false] (by kernel_rfl) rfl rfl ⟨HROW, row_cells HROW, below_drew HB5.out⟩ (fun hHeld => ?_)
    refine take_ (i := 0) (N := some 99) (v := .agg #[.int .i64 S, .int .i64 P, .int .i64 B, .int .i64 b0, .int .i64 b1, .int .i64 s0, .int .i64 s1, .int .i64 n]) (a' := ?_) #[true, false, false, false, false, false, false, false, false, false, false, false, false, false, false, false, false, false, false, false, false, false, false, false, false, false] rfl rfl (by kernel_rfl) (fun _ _ _ h => h) (Or.inl ⟨by rfl, ?_⟩) hHeld ?_ ?_
    · rintro w' ⟨s0, s1, s2⟩
      exact Arr.exec_load_row 48 (Operand.tmp 3) (by rfl) w.heap.size (by rfl) _ _ _ _ ‹_› Try.underlying48 rfl HPZ.out
    rotate_left
    · simp only [Act.put, List.setIfInBounds_toArray, List.set_cons_zero, List.set_cons_succ, i64_w, i32_w]
      rfl
    refine take_ (i := 2) (N := some 101) (v := .agg #[.int .i64 S, .int .i64 P, .int .i64 B, .int .i64 b0, .int .i64 b1, .int .i64 s0, .int .i64 s1, .int .i64 n]) (a' := ?_) #[true, false, true, false, false, false, false, false, false, false, false, false, false, false, false, false, false, false, false, false, false, false, false, false, false, false] rfl rfl (by kernel_rfl) (fun _ _ _ h => h) (Or.inl ⟨by rfl, ?_⟩) hHeld ?_ ?_
    · rintro w' ⟨s0, s1, s2⟩
      exact Arr.exec_load_row 48 (Operand.tmp 3) (by rfl) w.heap.size (by rfl) _ _ _ _ ‹_› Try.underlying48 rfl HPZ.out
    rotate_left
    · simp only [Act.put, List.setIfInBounds_toArray, List.set_cons_zero, List.set_cons_succ, i64_w, i32_w]
      rfl
    refine one_ (i := 1) (N := some 100) #[true, true, true, false, false, false, false, false, false, false, false, false, false, false, false, false, false, false, false, false, false, false, false, false, false, false] rfl rfl (by kernel_rfl) (by decide) (fun K hK => ?_)
    refine goes_ Try.func37 (by kernel_rfl) rfl #[.agg #[.int .i64 S, .int .i64 P, .int .i64 B, .int .i64 b0, .int .i64 b1, .int .i64 s0, .int .i64 s1, .int .i64 n]] (by rfl) rfl rfl (by simp only [List.map_toArray, List.map_cons, List.map_nil]; rfl) ?_
    with_reducible refine (KZ.out _).mono ?_
    rintro e w3 ⟨rfl, hb3⟩
    refine ⟨_, rfl, ?_⟩
    refine hK.out _ _ ⟨(show w3.heap[w.heap.size]? = _ from (hb3.block _ (Array.getElem?_eq_some_iff.1 hHeld.1).1).trans hHeld.1), (fun o => ((bcell hb3).1 _ _ (Array.getElem?_eq_some_iff.1 hHeld.1).1).trans (hHeld.2.1 o)), (below_then hHeld.2.2 hHeld.2.2.size hb3)⟩ (fun hHeld => ?_)
    clear hK K
    refine norm_ (a' := ?_) ?_ ?_
    rotate_left
    · show Act.put _ (some 100) _ = _
      simp only [Act.put, List.setIfInBounds_toArray, List.set_cons_zero, List.set_cons_succ, i64_w, i32_w]
      rfl
    refine one_ (i := 3) (N := some 102) #[true, true, true, true, false, false, false, false, false, false, false, false, false, false, false, false, false, false, false, false, false, false, false, false, false, false] rfl rfl (by kernel_rfl) (by decide) (fun K hK => ?_)
    refine goes_ Try.func38 (by kernel_rfl) rfl #[.agg #[.int .i64 S, .int .i64 P, .int .i64 B, .int .i64 b0, .int .i64 b1, .int .i64 s0, .int .i64 s1, .int .i64 n]] (by rfl) rfl rfl (by simp only [List.map_toArray, List.map_cons, List.map_nil]; rfl) ?_
    with_reducible refine (KY.out _).mono ?_
    rintro e w4 ⟨rfl, hb4⟩
    refine ⟨_, rfl, ?_⟩
    refine hK.out _ _ ⟨(show w4.heap[w.heap.size]? = _ from (hb4.block _ (Array.getElem?_eq_some_iff.1 hHeld.1).1).trans hHeld.1), (fun o => ((bcell hb4).1 _ _ (Array.getElem?_eq_some_iff.1 hHeld.1).1).trans (hHeld.2.1 o)), (below_then hHeld.2.2 hHeld.2.2.size hb4)⟩ (fun hHeld => ?_)
    clear hK K
    refine norm_ (a' := ?_) ?_ ?_
    rotate_left
    · show Act.put _ (some 102) _ = _
      simp only [Act.put, List.setIfInBounds_toArray, List.set_cons_zero, List.set_cons_succ, i64_w, i32_w]
      rfl
    refine pure_ (i := 4) (N := some 103) (v := ?_) (a' := ?_) #[true, true, true, true, true, false, false, false, false, false, false, false, false, false, false, false, false, false, false, false, false, false, false, false, false, false] rfl rfl (by kernel_rfl) (fun _ _ _ h => h) (Or.inl ⟨by rfl, ?_⟩) ?_ ?_
    rotate_left
    · intro w'
      go_simp
      with_reducible rfl
    rotate_left
    · simp only [Act.put, List.setIfInBounds_toArray, List.set_cons_zero, List.set_cons_succ, i64_w, i32_w]
      rfl
    refine pure_ (i := 5) (N := some 104) (v := ?_) (a' := ?_) #[true, true, true, true, true, true, false, false, false, false, false, false, false, false, false, false, false, false, false, false, false, false, false, false, false, false] rfl rfl (by kernel_rfl) (fun _ _ _ h => h) (Or.inl ⟨by rfl, ?_⟩) ?_ ?_
    rotate_left
    · intro w'
      go_simp
      with_reducible rfl
    rotate_left
    · simp only [Act.put, List.setIfInBounds_toArray, List.set_cons_zero, List.set_cons_succ, i64_w, i32_w]
      rfl
    refine pure_ (i := 6) (N := some 105) (v := ?_) (a' := ?_) #[true, true, true, true, true, true, true, false, false, false, false, false, false, false, false, false, false, false, false, false, false, false, false, false, false, false] rfl rfl (by kernel_rfl) (fun _ _ _ h => h) (Or.inl ⟨by rfl, ?_⟩) ?_ ?_
    rotate_left
    · intro w'
      go_simp
      with_reducible rfl
    rotate_left
    · simp only [Act.put, List.setIfInBounds_toArray, List.set_cons_zero, List.set_cons_succ, i64_w, i32_w]
      rfl
    refine one_ (i := 7) (N := some 106) #[true, true, true, true, true, true, true, true, false, false, false, false, false, false, false, false, false, false, false, false, false, false, false, false, false, false] rfl rfl (by kernel_rfl) (by decide) (fun K hK => ?_)
    refine goes_ Try.func29 (by kernel_rfl) rfl #[.int .i64 0] (by rfl) rfl rfl (by simp only [List.map_toArray, List.map_cons, List.map_nil]; rfl) ?_
    with_reducible refine (num_any _ _).mono ?_
    rintro e w7 ⟨rfl, rfl⟩
    refine ⟨_, rfl, ?_⟩
    refine hK.out _ _ ⟨hHeld.1, hHeld.2.1, hHeld.2.2⟩ (fun hHeld => ?_)
    clear hK K
    refine norm_ (a' := ?_) ?_ ?_
    rotate_left
    · show Act.put _ (some 106) _ = _
      simp only [Act.put, List.setIfInBounds_toArray, List.set_cons_zero, List.set_cons_succ, i64_w, i32_w]
      rfl
    refine pure_ (i := 8) (N := some 107) (v := ?_) (a' := ?_) #[true, true, true, true, true, true, true, true, true, false, false, false, false, false, false, false, false, false, false, false, false, false, false, false, false, false] rfl rfl (by kernel_rfl) (fun _ _ _ h => h) (Or.inl ⟨by rfl, ?_⟩) ?_ ?_
    rotate_left
    · intro w'
      go_simp
      with_reducible rfl
    rotate_left
    · simp only [Act.put, List.setIfInBounds_toArray, List.set_cons_zero, List.set_cons_succ, i64_w, i32_w]
      rfl
    refine pure_ (i := 9) (N := some 108) (v := ?_) (a' := ?_) #[true, true, true, true, true, true, true, true, true, true, false, false, false, false, false, false, false, false, false, false, false, false, false, false, false, false] rfl rfl (by kernel_rfl) (fun _ _ _ h => h) (Or.inl ⟨by rfl, ?_⟩) ?_ ?_
    rotate_left
    · intro w'
      go_simp
      with_reducible rfl
    rotate_left
    · simp only [Act.put, List.setIfInBounds_toArray, List.set_cons_zero, List.set_cons_succ, i64_w, i32_w]
      rfl
    refine pure_ (i := 10) (N := some 109) (v := ?_) (a' := ?_) #[true, true, true, true, true, true, true, true, true, true, true, false, false, false, false, false, false, false, false, false, false, false, false, false, false, false] rfl rfl (by kernel_rfl) (fun _ _ _ h => h) (Or.inl ⟨by rfl, ?_⟩) ?_ ?_
    rotate_left
    · intro w'
      go_simp
      with_reducible rfl
    rotate_left
    · simp only [Act.put, List.setIfInBounds_toArray, List.set_cons_zero, List.set_cons_succ, i64_w, i32_w]
      rfl
    refine pure_ (i := 11) (N := some 110) (v := ?_) (a' := ?_) #[true, true, true, true, true, true, true, true, true, true, true, true, false, false, false, false, false, false, false, false, false, false, false, false, false, false] rfl rfl (by kernel_rfl) (fun _ _ _ h => h) (Or.inl ⟨by rfl, ?_⟩) ?_ ?_
    rotate_left
    · intro w'
      go_simp
      with_reducible rfl
    rotate_left
    · simp only [Act.put, List.setIfInBounds_toArray, List.set_cons_zero, List.set_cons_succ, i64_w, i32_w]
      rfl
    refine pure_ (i := 12) (N := some 111) (v := ?_) (a' := ?_) #[true, true, true, true, true, true, true, true, true, true, true, true, true, false, false, false, false, false, false, false, false, false, false, false, false, false] rfl rfl (by kernel_rfl) (fun _ _ _ h => h) (Or.inl ⟨by rfl, ?_⟩) ?_ ?_
    rotate_left
    · intro w'
      go_simp
      with_reducible rfl
    rotate_left
    · simp only [Act.put, List.setIfInBounds_toArray, List.set_cons_zero, List.set_cons_succ, i64_w, i32_w]
      rfl
    refine pure_ (i := 13) (N := some 112) (v := ?_) (a' := ?_) #[true, true, true, true, true, true, true, true, true, true, true, true, true, true, false, false, false, false, false, false, false, false, false, false, false, false] rfl rfl (by kernel_rfl) (fun _ _ _ h => h) (Or.inl ⟨by rfl, ?_⟩) ?_ ?_
    rotate_left
    · intro w'
      go_simp
      with_reducible rfl
    rotate_left
    · simp only [Act.put, List.setIfInBounds_toArray, List.set_cons_zero, List.set_cons_succ, i64_w, i32_w]
      rfl
    refine pure_ (i := 14) (N := some 113) (v := ?_) (a' := ?_) #[true, true, true, true, true, true, true, true, true, true, true, true, true, true, true, false, false, false, false, false, false, false, false, false, false, false] rfl rfl (by kernel_rfl) (fun _ _ _ h => h) (Or.inl ⟨by rfl, ?_⟩) ?_ ?_
    rotate_left
    · intro w'
      go_simp
      with_reducible rfl
    rotate_left
    · simp only [Act.put, List.setIfInBounds_toArray, List.set_cons_zero, List.set_cons_succ, i64_w, i32_w]
      rfl
    refine pure_ (i := 16) (N := some 115) (v := ?_) (a' := ?_) #[true, true, true, true, true, true, true, true, true, true, true, true, true, true, true, false, true, false, false, false, false, false, false, false, false, false] rfl rfl (by kernel_rfl) (fun _ _ _ h => h) (Or.inl ⟨by rfl, ?_⟩) ?_ ?_
    rotate_left
    · intro w'
      go_simp
      with_reducible rfl
    rotate_left
    · simp only [Act.put, List.setIfInBounds_toArray, List.set_cons_zero, List.set_cons_succ, i64_w, i32_w]
      rfl
    refine pure_ (i := 17) (N := some 116) (v := ?_) (a' := ?_) #[true, true, true, true, true, true, true, true, true, true, true, true, true, true, true, false, true, true, false, false, false, false, false, false, false, false] rfl rfl (by kernel_rfl) (fun _ _ _ h => h) (Or.inl ⟨by rfl, ?_⟩) ?_ ?_
    rotate_left
    · intro w'
      go_simp
      with_reducible rfl
    rotate_left
    · simp only [Act.put, List.setIfInBounds_toArray, List.set_cons_zero, List.set_cons_succ, i64_w, i32_w]
      rfl
    refine pure_ (i := 20) (N := some 119) (v := ?_) (a' := ?_) #[true, true, true, true, true, true, true, true, true, true, true, true, true, true, true, false, true, true, false, false, true, false, false, false, false, false] rfl rfl (by kernel_rfl) (fun _ _ _ h => h) (Or.inl ⟨by rfl, ?_⟩) ?_ ?_
    rotate_left
    · intro w'
      go_simp
      with_reducible rfl
    rotate_left
    · simp only [Act.put, List.setIfInBounds_toArray, List.set_cons_zero, List.set_cons_succ, i64_w, i32_w]
      rfl
    refine pure_ (i := 21) (N := some 120) (v := ?_) (a' := ?_) #[true, true, true, true, true, true, true, true, true, true, true, true, true, true, true, false, true, true, false, false, true, true, false, false, false, false] rfl rfl (by kernel_rfl) (fun _ _ _ h => h) (Or.inl ⟨by rfl, ?_⟩) ?_ ?_
    rotate_left
    · intro w'
      go_simp
      with_reducible rfl
    rotate_left
    · simp only [Act.put, List.setIfInBounds_toArray, List.set_cons_zero, List.set_cons_succ, i64_w, i32_w]
      rfl
    refine take_ (i := 15) (N := some 114) (v := ?_) (a' := ?_) #[true, true, true, true, true, true, true, true, true, true, true, true, true, true, true, true, true, true, false, false, true, true, false, false, false, false] rfl rfl (by kernel_rfl) (fun _ _ _ h => h) (Or.inl ⟨by rfl, ?_⟩) hHeld ?_ ?_
    rotate_left
    · rintro w' ⟨s0, s1, s2⟩
      go_simp
      with_reducible rfl
    rotate_left
    · simp only [Act.put, List.setIfInBounds_toArray, List.set_cons_zero, List.set_cons_succ, i64_w, i32_w]
      rfl
    refine take_ (i := 18) (N := some 117) (v := ?_) (a' := ?_) #[true, true, true, true, true, true, true, true, true, true, true, true, true, true, true, true, true, true, true, false, true, true, false, false, false, false] rfl rfl (by kernel_rfl) (fun _ _ _ h => h) (Or.inl ⟨by rfl, ?_⟩) hHeld ?_ ?_
    rotate_left
    · rintro w' ⟨s0, s1, s2⟩
      go_simp
      with_reducible rfl
    rotate_left
    · simp only [Act.put, List.setIfInBounds_toArray, List.set_cons_zero, List.set_cons_succ, i64_w, i32_w]
      rfl
    refine pure_ (i := 19) (N := some 118) (v := ?_) (a' := ?_) #[true, true, true, true, true, true, true, true, true, true, true, true, true, true, true, true, true, true, true, true, true, true, false, false, false, false] rfl rfl (by kernel_rfl) (fun _ _ _ h => h) (Or.inl ⟨by rfl, ?_⟩) ?_ ?_
    rotate_left
    · intro w'
      go_simp
      with_reducible rfl
    rotate_left
    · simp only [Act.put, List.setIfInBounds_toArray, List.set_cons_zero, List.set_cons_succ, i64_w, i32_w]
      rfl
    refine take_ (i := 22) (N := some 121) (v := ?_) (a' := ?_) #[true, true, true, true, true, true, true, true, true, true, true, true, true, true, true, true, true, true, true, true, true, true, true, false, false, false] rfl rfl (by kernel_rfl) (fun _ _ _ h => h) (Or.inl ⟨by rfl, ?_⟩) hHeld ?_ ?_
    rotate_left
    · rintro w' ⟨s0, s1, s2⟩
      go_simp
      with_reducible rfl
    rotate_left
    · simp only [Act.put, List.setIfInBounds_toArray, List.set_cons_zero, List.set_cons_succ, i64_w, i32_w]
      rfl
    refine pure_ (i := 23) (N := some 122) (v := ?_) (a' := ?_) #[true, true, true, true, true, true, true, true, true, true, true, true, true, true, true, true, true, true, true, true, true, true, true, true, false, false] rfl rfl (by kernel_rfl) (fun _ _ _ h => h) (Or.inl ⟨by rfl, ?_⟩) ?_ ?_
    rotate_left
    · intro w'
      go_simp
      with_reducible rfl
    rotate_left
    · simp only [Act.put, List.setIfInBounds_toArray, List.set_cons_zero, List.set_cons_succ, i64_w, i32_w]
      rfl
    refine pure_ (i := 24) (N := some 123) (v := ?_) (a' := ?_) #[true, true, true, true, true, true, true, true, true, true, true, true, true, true, true, true, true, true, true, true, true, true, true, true, true, false] rfl rfl (by kernel_rfl) (fun _ _ _ h => h) (Or.inl ⟨by rfl, ?_⟩) ?_ ?_
    rotate_left
    · intro w'
      go_simp
      with_reducible rfl
    rotate_left
    · simp only [Act.put, List.setIfInBounds_toArray, List.set_cons_zero, List.set_cons_succ, i64_w, i32_w]
      rfl
    refine pure_ (i := 25) (N := some 124) (v := ?_) (a' := ?_) #[true, true, true, true, true, true, true, true, true, true, true, true, true, true, true, true, true, true, true, true, true, true, true, true, true, true] rfl rfl (by kernel_rfl) (fun _ _ _ h => h) (Or.inl ⟨by rfl, ?_⟩) ?_ ?_
    rotate_left
    · intro w'
      go_simp
      with_reducible rfl
    rotate_left
    · simp only [Act.put, List.setIfInBounds_toArray, List.set_cons_zero, List.set_cons_succ, i64_w, i32_w]
      rfl
    refine done_ (by kernel_rfl) ?_
    have HBZ := Aside0.mk hHeld.2.2
    have hzz := (Array.getElem?_eq_some_iff.1 hHeld.1).1
    have hcn : _ = some (Value.int .i64 n) := hHeld.2.1 7
    clear hHeld HROW
    obtain ⟨e1, e2, e3, e4⟩ := E.out
    simp only [e1, e2, e3, e4, bne_self_eq_false]
    clear e1 e2 e3 e4
    rcases hsec with ⟨hat | ⟨ha0, hat⟩, rfl, rfl⟩ | ⟨a1, a2, rfl, rfl⟩
    all_goals
      go_wp2_with (first | (go_at_call 33; refine (KP.out _).mono ?_; rintro e w1 ⟨rfl, hb⟩; obtain ⟨hc1, hf1⟩ := bcell hb; have hz1 : w.heap.size < w1.heap.size := (by first | exact bnext0 hb | (refine bnext ?_ hb; assumption)); have HB1 : Aside0 (Below w.heap.size w w1) := (by first | exact ⟨below1 hb⟩ | (refine bstep ?_ hb; assumption)); try (have HROW1 := rowstep (k := w.heap.size) hb (by assumption)); clear hb hf1) | (go_at_call 34; refine (KR.out _).mono ?_; rintro e w2 ⟨rfl, hb⟩; obtain ⟨hc2, hf2⟩ := bcell hb; have hz2 : w.heap.size < w2.heap.size := (by first | exact bnext0 hb | (refine bnext ?_ hb; assumption)); have HB2 : Aside0 (Below w.heap.size w w2) := (by first | exact ⟨below1 hb⟩ | (refine bstep ?_ hb; assumption)); try (have HROW2 := rowstep (k := w.heap.size) hb (by assumption)); clear hb hf2) | (go_at_call 35; refine (KB.out _).mono ?_; rintro e w3 ⟨rfl, hb⟩; obtain ⟨hc3, hf3⟩ := bcell hb; have hz3 : w.heap.size < w3.heap.size := (by first | exact bnext0 hb | (refine bnext ?_ hb; assumption)); have HB3 : Aside0 (Below w.heap.size w w3) := (by first | exact ⟨below1 hb⟩ | (refine bstep ?_ hb; assumption)); try (have HROW3 := rowstep (k := w.heap.size) hb (by assumption)); clear hb hf3) | (go_at_call 36; refine (KS.out _).mono ?_; rintro e w4 ⟨rfl, hb⟩; obtain ⟨hc4, hf4⟩ := bcell hb; have hz4 : w.heap.size < w4.heap.size := (by first | exact bnext0 hb | (refine bnext ?_ hb; assumption)); have HB4 : Aside0 (Below w.heap.size w w4) := (by first | exact ⟨below1 hb⟩ | (refine bstep ?_ hb; assumption)); try (have HROW4 := rowstep (k := w.heap.size) hb (by assumption)); clear hb hf4) | (go_at_call 30; refine (KQ.out _).mono ?_; rintro e w5 ⟨rfl, hb⟩; obtain ⟨hc5, hf5⟩ := bcell hb; have hz5 : w.heap.size < w5.heap.size := (by first | exact bnext0 hb | (refine bnext ?_ hb; assumption)); have HB5 : Aside0 (Below w.heap.size w w5) := (by first | exact ⟨below1 hb⟩ | (refine bstep ?_ hb; assumption)); try (have HROW5 := rowstep (k := w.heap.size) hb (by assumption)); clear hb hf5) | (go_at_call 37; refine (KZ.out _).mono ?_; rintro e w6 ⟨rfl, hb⟩; obtain ⟨hc6, hf6⟩ := bcell hb; have hz6 : w.heap.size < w6.heap.size := (by first | exact bnext0 hb | (refine bnext ?_ hb; assumption)); have HB6 : Aside0 (Below w.heap.size w w6) := (by first | exact ⟨below1 hb⟩ | (refine bstep ?_ hb; assumption)); try (have HROW6 := rowstep (k := w.heap.size) hb (by assumption)); clear hb hf6) | (go_at_call 32; refine (live_any _).mono ?_; rintro e w7 ⟨rfl, hb⟩; obtain ⟨hc7, hf7⟩ := bcell hb; have hz7 : w.heap.size < w7.heap.size := (by first | exact bnext0 hb | (refine bnext ?_ hb; assumption)); have HB7 : Aside0 (Below w.heap.size w w7) := (by first | exact ⟨below1 hb⟩ | (refine bstep ?_ hb; assumption)); try (have HROW7 := rowstep (k := w.heap.size) hb (by assumption)); clear hb hf7) | (go_at_call 29; refine (num_any _ _).mono ?_; rintro e w' ⟨rfl, rfl⟩))
      go_ret
      exact ⟨rfl, (show Aside0 (Below w.heap.size w _) by assumption).out⟩
theorem places_any (S P B b0 b1 s0 s1 n slot i : Int) (w : World) :
    Calls Try.prog 10 #[.agg (pl S P B b0 b1 s0 s1 n), .int .i64 slot, .int .i64 i] w fun e w' => e = .returned (.bool true) ∧ Below w.heap.size w w' := by
  by_cases hr : right S P B b0 b1 s0 s1 n
  · by_cases hs : slot = 0 ∨ slot = 1
    · obtain ⟨t0, t1, q1, q2, q3, q4, _, _, _, t4, t5, _⟩ := slot_bounds hr (.inl rfl)
      obtain ⟨t2, t3, u1, u2, u3, u4, _⟩ := slot_bounds hr (.inr rfl)
      have hv : (slot = 0 ∧ s0 = sl slot s0 s1) ∨ (slot = 1 ∧ s1 = sl slot s0 s1) := by
        rcases hs with rfl | rfl
        · exact .inl ⟨rfl, rfl⟩
        · exact .inr ⟨rfl, rfl⟩
      have hr2 := refright_any S P B b0 b1 s0 s1 n
      rw [rb_true hr] at hr2
      have key : ∀ (pa pb pe : Int) (_ : ∀ w, Calls Try.prog 33 #[.agg (pl S P B b0 b1 s0 s1 n), .int .i64 slot, .int .i64 i] w fun e' w' => e' = .returned (.tuple #[.int .i64 pa, .int .i64 pb, .int .i64 pe]) ∧ Below w.heap.size w w')
          (_ : ∀ w, Calls Try.prog 34 #[.agg (pl S P B b0 b1 s0 s1 n), .int .i64 slot, .int .i64 i] w fun e' w' => e' = .returned (.tuple #[.int .i64 pa, .int .i64 pb, .int .i64 pe]) ∧ Below w.heap.size w w'),
          Calls Try.prog 10 #[.agg (pl S P B b0 b1 s0 s1 n), .int .i64 slot, .int .i64 i] w fun e w' => e = .returned (.bool true) ∧ Below w.heap.size w w' := by
        intro pa pb pe hp1 hp2
        by_cases hi : 0 ≤ i ∧ i < n
        · exact places_good S P B b0 b1 s0 s1 n slot i (size S P B b0 b1 s0 s1 n) (sl slot s0 s1) pa pb pe (sl slot s0 s1 + i) 0 hv (.inr ⟨hi.1, hi.2, rfl, rfl⟩) (by omega) t0 t1 t2 t3 q1 q2 q3 q4 u1 u2 u3 u4 hp1 hp2 (base_ok S P B b0 b1 s0 s1 n slot hr hs) (sector_ok S P B b0 b1 s0 s1 n slot i hr hs hi) hr2 (size_any S P B b0 b1 s0 s1 n) (refsize_any S P B b0 b1 s0 s1 n hr) w
        · have hw : wrong S P B b0 b1 s0 s1 n slot i n = 9 := by unfold wrong; rw [if_neg (by simp [hr]; omega), if_pos (by omega)]
          have hse := sector_err S P B b0 b1 s0 s1 n slot i (by rw [hw]; decide)
          rw [hw] at hse
          exact places_good S P B b0 b1 s0 s1 n slot i (size S P B b0 b1 s0 s1 n) (sl slot s0 s1) pa pb pe 0 9 hv (.inl ⟨by omega, rfl, rfl⟩) (by omega) t0 t1 t2 t3 q1 q2 q3 q4 u1 u2 u3 u4 hp1 hp2 (base_ok S P B b0 b1 s0 s1 n slot hr hs) hse hr2 (size_any S P B b0 b1 s0 s1 n) (refsize_any S P B b0 b1 s0 s1 n hr) w
      by_cases hw : wrong S P B b0 b1 s0 s1 n slot i (size S P B b0 b1 s0 s1 n) = 0
      · have hi : 0 ≤ i ∧ i < size S P B b0 b1 s0 s1 n := by
          unfold wrong at hw
          rw [if_neg (by simp [hr]; omega)] at hw
          by_cases h9 : i < 0 ∨ size S P B b0 b1 s0 s1 n ≤ i
          · rw [if_pos h9] at hw; omega
          · omega
        exact key _ _ _ (page_ok S P B b0 b1 s0 s1 n slot i hr hs hi) (refpage_ok S P B b0 b1 s0 s1 n slot i hr hs hi)
      · exact key _ _ _ (page_err S P B b0 b1 s0 s1 n slot i hw) (refpage_err S P B b0 b1 s0 s1 n slot i hw)
    · have hz : (size S P B b0 b1 s0 s1 n == 0) = !true := by
        have hb := slot_bounds hr (.inl rfl)
        obtain ⟨_, _, _, _, _, _, p1, p2, _, _, _, p3⟩ := hb
        have e : size S P B b0 b1 s0 s1 n = n * P * B := if_pos hr
        have a1 : 1 * 1 ≤ n * P := Int.mul_le_mul p3 p1 (by omega) (by omega)
        have a2 : 1 * 1 ≤ n * P * B := Int.mul_le_mul (by omega) (by omega) (by omega) (by omega)
        simp; omega
      have hw : ∀ at_ m, wrong S P B b0 b1 s0 s1 n slot at_ m = 1 := fun at_ m => by unfold wrong; rw [if_pos (by right; omega)]
      have h1 := page_err S P B b0 b1 s0 s1 n slot i (by rw [hw]; decide)
      have h2 := refpage_err S P B b0 b1 s0 s1 n slot i (by rw [hw]; decide)
      have h3 := base_err S P B b0 b1 s0 s1 n slot (by rw [hw]; decide)
      have h4 := sector_err S P B b0 b1 s0 s1 n slot i (by rw [hw]; decide)
      have h5 := refright_any S P B b0 b1 s0 s1 n
      rw [hw] at h1 h2 h3 h4
      rw [rb_true hr] at h5
      exact places_bad S P B b0 b1 s0 s1 n slot i _ true (.inr (by omega)) hz h1 h2 h3 h4 h5 (size_any S P B b0 b1 s0 s1 n) w
  · have hz : (size S P B b0 b1 s0 s1 n == 0) = !false := by
      have e : size S P B b0 b1 s0 s1 n = 0 := if_neg hr
      rw [e]; rfl
    have hw : ∀ at_ m, wrong S P B b0 b1 s0 s1 n slot at_ m = 1 := fun at_ m => by unfold wrong; rw [if_pos (by left; exact hr)]
    have h1 := page_err S P B b0 b1 s0 s1 n slot i (by rw [hw]; decide)
    have h2 := refpage_err S P B b0 b1 s0 s1 n slot i (by rw [hw]; decide)
    have h3 := base_err S P B b0 b1 s0 s1 n slot (by rw [hw]; decide)
    have h4 := sector_err S P B b0 b1 s0 s1 n slot i (by rw [hw]; decide)
    have h5 := refright_any S P B b0 b1 s0 s1 n
    rw [hw] at h1 h2 h3 h4
    rw [rb_false hr] at h5
    exact places_bad S P B b0 b1 s0 s1 n slot i _ false (.inl rfl) hz h1 h2 h3 h4 h5 (size_any S P B b0 b1 s0 s1 n) w
end Go.Proofs.Ytgadcnlcldjhpaa.Part
