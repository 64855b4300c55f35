/- An image's head: which one is right: walks. -/
import Derived.Test.YtepmgkmbmejkjaaFd2
set_option linter.unusedVariables false
set_option linter.unusedSimpArgs false
namespace Go.Proofs.Ytepmgkmbmejkjaa.Su
open Go.RowKit Go.Proofs.YtepmgkmbmejkjaaW.PrintWords Go.Proofs.YtepmgkmbmejkjaaW.PrintLast Go.Proofs.YtepmgkmbmejkjaaW.PrintMore
/-- A head, plain: streams by their places, sizes. -/
structure Sup where
  log : Int
  ino : Int
  len : Int
  a : Nat → Int
  z : Nat → Int
def headOk (s : Sup) : Prop := (12 ≤ s.log ∧ s.log ≤ 20) ∧ (1 ≤ s.ino ∧ s.ino ≤ 16385) ∧ (68 ≤ s.len ∧ s.len ≤ 8388608)
instance (s : Sup) : Decidable (headOk s) := by unfold headOk; infer_instance
def lastOf (s : Sup) (k : Nat) : Int := if k = 0 then 68 else s.a (k - 1)
theorem lo0 (s : Sup) : lastOf s 0 = 68 := rfl
theorem lo1 (s : Sup) : lastOf s 1 = s.a 0 := rfl
theorem lo2 (s : Sup) : lastOf s 2 = s.a 1 := rfl
theorem lo3 (s : Sup) : lastOf s 3 = s.a 2 := rfl
theorem lo4 (s : Sup) : lastOf s 4 = s.a 3 := rfl
theorem lo5 (s : Sup) : lastOf s 5 = s.a 4 := rfl
theorem lo6 (s : Sup) : lastOf s 6 = s.a 5 := rfl
def spanOk (s : Sup) (k : Nat) : Prop := (lastOf s k ≤ s.a k ∧ s.a k ≤ s.len) ∧ (0 ≤ s.z k ∧ s.z k ≤ 16777216)
instance (s : Sup) (k : Nat) : Decidable (spanOk s k) := by unfold spanOk; infer_instance
def right (s : Sup) : Prop := headOk s ∧ ∀ k, k < 6 → spanOk s k
instance (s : Sup) : Decidable (right s) := by unfold right; infer_instance
theorem right_head {s : Sup} (h : ¬ headOk s) : ¬ right s := fun hr => h hr.1
theorem right_span {s : Sup} {k : Nat} (hk : k < 6) (h : ¬ spanOk s k) : ¬ right s := fun hr => h (hr.2 k hk)
/-- From low to high? -/
def btw (n lo hi : Int) : Bool := decide (lo ≤ n) && decide (n ≤ hi)
theorem btw_yes {n lo hi : Int} (h : lo ≤ n) (h2 : n ≤ hi) : btw n lo hi = true := by unfold btw; simp [h, h2]
theorem btw_no {n lo hi : Int} (h : n < lo ∨ hi < n) : btw n lo hi = false := by unfold btw; rcases h with h | h <;> simp <;> omega
theorem between_any (n lo hi : Int) (w : World) : Calls Try.prog 51 #[.int .i64 n, .int .i64 lo, .int .i64 hi] w fun e w' => e = .returned (.bool (btw n lo hi)) ∧ w = w' := by
  by_cases h : lo ≤ n
  · by_cases h2 : n ≤ hi
    · rw [btw_yes h h2]
      go_enter Try.func51, Try.ntmps51
      go_wp2
      go_ret
      exact ⟨rfl, rfl⟩
    · rw [btw_no (Or.inr (by omega))]
      have h3 : decide (n ≤ hi) = false := decide_eq_false h2
      go_enter Try.func51, Try.ntmps51
      go_wp2
      go_ret
      exact ⟨rfl, rfl⟩
  · rw [btw_no (Or.inl (by omega))]
    have h3 : decide (lo ≤ n) = false := decide_eq_false h
    go_enter Try.func51, Try.ntmps51
    go_wp2
    go_ret
    exact ⟨rfl, rfl⟩
theorem num_any (n : Int) (w : World) : Calls Try.prog 34 #[.int .i64 n] w fun e w' => e = .returned (.int .i64 n) ∧ w = w' := by
  go_enter Try.func34, Try.ntmps34
  go_wp2
  go_ret
  exact ⟨rfl, rfl⟩
def chk (s : Sup) : Int := if right s then 0 else 1
/-- The head's box stands. -/
def SB (w : World) (s : Sup) (wr : World) : Prop := wr.heap[w.heap.size]? = some (.cells #[.int .i64 s.log, .int .i64 s.ino, .int .i64 s.len, .int .i64 (s.a 0), .int .i64 (s.z 0), .int .i64 (s.a 1), .int .i64 (s.z 1), .int .i64 (s.a 2), .int .i64 (s.z 2), .int .i64 (s.a 3), .int .i64 (s.z 3), .int .i64 (s.a 4), .int .i64 (s.z 4), .int .i64 (s.a 5), .int .i64 (s.z 5)] 65 (0, 0)) ∧ Below w.heap.size w wr
theorem SB.cells {w wr : World} {s : Sup} (h : SB w s wr) : wr.cell? ⟨w.heap.size, 2, none⟩ = some (.int .i64 s.len) := (cell_of_row _ _ _ _ _ _ h.1).trans rfl
theorem isAgg_span (w : World) : (isAgg 62).run Try.prog w = .ok true w := by
  unfold isAgg
  rw [Sem.run_bind, run_underlying Try.underlying62 w]
  simp
theorem sz_span (w : World) : (sizeOf 62).run Try.prog w = .ok 2 w := by
  have h : (Try.prog.info? 62).map (·.size) = some 2 := by kernel_rfl
  cases hi : Try.prog.info? 62 with
  | none => rw [hi] at h; simp at h
  | some i => rw [hi] at h; simp at h; simp [sizeOf, typeInfo, hi, h]
theorem span_at (cs : Array Value) (k : Nat) (hk : k < 6) (w : World) : (Instr.index 63 (.agg cs) (.int .i64 k)).run Try.prog w = .ok (.agg (cs.extract (k * 2) (k * 2 + 2))) w := by
  unfold Instr.index part
  simp [Sem.run_bind, run_underlying Try.underlying63, asIntOf, isAgg_span, sz_span, hk, go_sem]
theorem ix0 (s : Sup) (w : World) : (Instr.index 63 (.agg #[.int .i64 (s.a 0), .int .i64 (s.z 0), .int .i64 (s.a 1), .int .i64 (s.z 1), .int .i64 (s.a 2), .int .i64 (s.z 2), .int .i64 (s.a 3), .int .i64 (s.z 3), .int .i64 (s.a 4), .int .i64 (s.z 4), .int .i64 (s.a 5), .int .i64 (s.z 5)]) (.int .i64 0)).run Try.prog w = .ok (.agg #[.int .i64 (s.a 0), .int .i64 (s.z 0)]) w := span_at _ 0 (by decide) w
theorem ix1 (s : Sup) (w : World) : (Instr.index 63 (.agg #[.int .i64 (s.a 0), .int .i64 (s.z 0), .int .i64 (s.a 1), .int .i64 (s.z 1), .int .i64 (s.a 2), .int .i64 (s.z 2), .int .i64 (s.a 3), .int .i64 (s.z 3), .int .i64 (s.a 4), .int .i64 (s.z 4), .int .i64 (s.a 5), .int .i64 (s.z 5)]) (.int .i64 1)).run Try.prog w = .ok (.agg #[.int .i64 (s.a 1), .int .i64 (s.z 1)]) w := span_at _ 1 (by decide) w
theorem ix2 (s : Sup) (w : World) : (Instr.index 63 (.agg #[.int .i64 (s.a 0), .int .i64 (s.z 0), .int .i64 (s.a 1), .int .i64 (s.z 1), .int .i64 (s.a 2), .int .i64 (s.z 2), .int .i64 (s.a 3), .int .i64 (s.z 3), .int .i64 (s.a 4), .int .i64 (s.z 4), .int .i64 (s.a 5), .int .i64 (s.z 5)]) (.int .i64 2)).run Try.prog w = .ok (.agg #[.int .i64 (s.a 2), .int .i64 (s.z 2)]) w := span_at _ 2 (by decide) w
theorem ix3 (s : Sup) (w : World) : (Instr.index 63 (.agg #[.int .i64 (s.a 0), .int .i64 (s.z 0), .int .i64 (s.a 1), .int .i64 (s.z 1), .int .i64 (s.a 2), .int .i64 (s.z 2), .int .i64 (s.a 3), .int .i64 (s.z 3), .int .i64 (s.a 4), .int .i64 (s.z 4), .int .i64 (s.a 5), .int .i64 (s.z 5)]) (.int .i64 3)).run Try.prog w = .ok (.agg #[.int .i64 (s.a 3), .int .i64 (s.z 3)]) w := span_at _ 3 (by decide) w
theorem ix4 (s : Sup) (w : World) : (Instr.index 63 (.agg #[.int .i64 (s.a 0), .int .i64 (s.z 0), .int .i64 (s.a 1), .int .i64 (s.z 1), .int .i64 (s.a 2), .int .i64 (s.z 2), .int .i64 (s.a 3), .int .i64 (s.z 3), .int .i64 (s.a 4), .int .i64 (s.z 4), .int .i64 (s.a 5), .int .i64 (s.z 5)]) (.int .i64 4)).run Try.prog w = .ok (.agg #[.int .i64 (s.a 4), .int .i64 (s.z 4)]) w := span_at _ 4 (by decide) w
theorem ix5 (s : Sup) (w : World) : (Instr.index 63 (.agg #[.int .i64 (s.a 0), .int .i64 (s.z 0), .int .i64 (s.a 1), .int .i64 (s.z 1), .int .i64 (s.a 2), .int .i64 (s.z 2), .int .i64 (s.a 3), .int .i64 (s.z 3), .int .i64 (s.a 4), .int .i64 (s.z 4), .int .i64 (s.a 5), .int .i64 (s.z 5)]) (.int .i64 5)).run Try.prog w = .ok (.agg #[.int .i64 (s.a 5), .int .i64 (s.z 5)]) w := span_at _ 5 (by decide) w
set_option maxHeartbeats 4000000 in
set_option maxRecDepth 100000 in
theorem check_any (s : Sup) (w : World) : Calls Try.prog 37 #[.agg #[.int .i64 s.log, .int .i64 s.ino, .int .i64 s.len, .int .i64 (s.a 0), .int .i64 (s.z 0), .int .i64 (s.a 1), .int .i64 (s.z 1), .int .i64 (s.a 2), .int .i64 (s.z 2), .int .i64 (s.a 3), .int .i64 (s.z 3), .int .i64 (s.a 4), .int .i64 (s.z 4), .int .i64 (s.a 5), .int .i64 (s.z 5)]] w fun e w' => e = .returned (.int .i64 (chk s)) ∧ Below w.heap.size w w' := by
  have hal : Below w.heap.size w (w.alloc (.cells #[.int .i64 s.log, .int .i64 s.ino, .int .i64 s.len, .int .i64 (s.a 0), .int .i64 (s.z 0), .int .i64 (s.a 1), .int .i64 (s.z 1), .int .i64 (s.a 2), .int .i64 (s.z 2), .int .i64 (s.a 3), .int .i64 (s.z 3), .int .i64 (s.a 4), .int .i64 (s.z 4), .int .i64 (s.a 5), .int .i64 (s.z 5)] 65)) := below_alloc (Below.refl _ _) _
  have Kal := Aside0.mk hal
  have KS : Aside0 (SB w s (w.alloc (.cells #[.int .i64 s.log, .int .i64 s.ino, .int .i64 s.len, .int .i64 (s.a 0), .int .i64 (s.z 0), .int .i64 (s.a 1), .int .i64 (s.z 1), .int .i64 (s.a 2), .int .i64 (s.z 2), .int .i64 (s.a 3), .int .i64 (s.z 3), .int .i64 (s.a 4), .int .i64 (s.z 4), .int .i64 (s.a 5), .int .i64 (s.z 5)] 65))) := ⟨heap_alloc_new _ _, hal⟩
  clear hal
  by_cases h1 : 12 ≤ s.log ∧ s.log ≤ 20
  · by_cases h2 : 1 ≤ s.ino ∧ s.ino ≤ 16385
    · by_cases h3 : 68 ≤ s.len ∧ s.len ≤ 8388608
      · have b1 := btw_yes h1.1 h1.2
        have b2 := btw_yes h2.1 h2.2
        have b3 := btw_yes h3.1 h3.2
        have Kh : Aside0 (headOk s) := ⟨h1, h2, h3⟩
        clear h1 h2 h3
        go_enter Try.func37, Try.ntmps37
        go_wp2_with (go_at_call 51; refine (between_any _ _ _ _).mono ?_; rintro e w' ⟨rfl, rfl⟩)
        go_loopw [3, 24] (fun u i wr => ∃ k : Nat, k ≤ 6 ∧ i = .int .i64 k ∧ u = .int .i64 (lastOf s k) ∧ Aside0 (∀ j, j < k → spanOk s j) ∧ Aside0 (SB w s wr)) (fun _ i _ => 6 - (intOf i).toNat)
        case atStart => exact ⟨0, by omega, rfl, rfl, ⟨fun j hj => absurd hj (Nat.not_lt_zero _)⟩, KS⟩
        case round =>
          obtain ⟨k, hk, rfl, rfl, Kj, KB⟩ := hrel
          have hc2 := KB.out.cells
          have hsz : w.heap.size < wr.heap.size := blk_lt KB.out.1
          by_cases hlt : k < 6
          · have Kn : Aside0 (∀ wr1 : World, Below wr.heap.size wr wr1 → SB w s wr1) := ⟨fun wr1 hb => ⟨blk_below KB.out.1 hb, below_then KB.out.2 KB.out.2.size hb⟩⟩
            by_cases ho : lastOf s k ≤ s.a k ∧ s.a k ≤ s.len
            · have b4 := btw_yes ho.1 ho.2
              by_cases hz : 0 ≤ s.z k ∧ s.z k ≤ 16777216
              · have b5 := btw_yes hz.1 hz.2
                have Ks : Aside0 (∀ j, j < k + 1 → spanOk s j) := ⟨fun j hj => by
                  rcases Nat.lt_succ_iff_lt_or_eq.1 hj with h | h
                  · exact Kj.out j h
                  · subst h; exact ⟨ho, hz⟩⟩
                clear ho hz
                have I0 := ix0 s
                have I1 := ix1 s
                have I2 := ix2 s
                have I3 := ix3 s
                have I4 := ix4 s
                have I5 := ix5 s
                have hkc : k = 0 ∨ k = 1 ∨ k = 2 ∨ k = 3 ∨ k = 4 ∨ k = 5 := by omega
                rcases hkc with rfl | rfl | rfl | rfl | rfl | rfl
                all_goals
                  simp only [lo0, lo1, lo2, lo3, lo4, lo5] at b4 ⊢
                  go_wp2_with (go_at_call 51; refine (between_any _ _ _ _).mono ?_; rintro e w' ⟨rfl, rfl⟩)
                  first | exact ⟨⟨1, by decide, rfl, rfl, Ks, ⟨Kn.out _ (below_alloc (Below.refl _ _) _)⟩⟩, by simp [intOf]⟩ | exact ⟨⟨2, by decide, rfl, rfl, Ks, ⟨Kn.out _ (below_alloc (Below.refl _ _) _)⟩⟩, by simp [intOf]⟩ | exact ⟨⟨3, by decide, rfl, rfl, Ks, ⟨Kn.out _ (below_alloc (Below.refl _ _) _)⟩⟩, by simp [intOf]⟩ | exact ⟨⟨4, by decide, rfl, rfl, Ks, ⟨Kn.out _ (below_alloc (Below.refl _ _) _)⟩⟩, by simp [intOf]⟩ | exact ⟨⟨5, by decide, rfl, rfl, Ks, ⟨Kn.out _ (below_alloc (Below.refl _ _) _)⟩⟩, by simp [intOf]⟩ | exact ⟨⟨6, by decide, rfl, rfl, Ks, ⟨Kn.out _ (below_alloc (Below.refl _ _) _)⟩⟩, by simp [intOf]⟩
              · have b5 : btw (s.z k) 0 16777216 = false := btw_no (by omega)
                have Kc : Aside0 (chk s = 1) := ⟨if_neg (right_span hlt (fun h => hz h.2))⟩
                clear ho hz
                have I0 := ix0 s
                have I1 := ix1 s
                have I2 := ix2 s
                have I3 := ix3 s
                have I4 := ix4 s
                have I5 := ix5 s
                have hkc : k = 0 ∨ k = 1 ∨ k = 2 ∨ k = 3 ∨ k = 4 ∨ k = 5 := by omega
                rcases hkc with rfl | rfl | rfl | rfl | rfl | rfl
                all_goals
                  simp only [lo0, lo1, lo2, lo3, lo4, lo5] at b4 ⊢
                  go_wp2_with (go_at_call 51; refine (between_any _ _ _ _).mono ?_; rintro e w' ⟨rfl, rfl⟩)
                  go_ret
                  exact ⟨by rw [Kc.out]; rfl, (Kn.out _ (below_alloc (Below.refl _ _) _)).2⟩
            · have b4 : btw (s.a k) (lastOf s k) s.len = false := btw_no (by omega)
              have Kc : Aside0 (chk s = 1) := ⟨if_neg (right_span hlt (fun h => ho h.1))⟩
              clear ho
              have I0 := ix0 s
              have I1 := ix1 s
              have I2 := ix2 s
              have I3 := ix3 s
              have I4 := ix4 s
              have I5 := ix5 s
              have hkc : k = 0 ∨ k = 1 ∨ k = 2 ∨ k = 3 ∨ k = 4 ∨ k = 5 := by omega
              rcases hkc with rfl | rfl | rfl | rfl | rfl | rfl
              all_goals
                simp only [lo0, lo1, lo2, lo3, lo4, lo5] at b4 ⊢
                go_wp2_with (go_at_call 51; refine (between_any _ _ _ _).mono ?_; rintro e w' ⟨rfl, rfl⟩)
                go_ret
                exact ⟨by rw [Kc.out]; rfl, (Kn.out _ (below_alloc (Below.refl _ _) _)).2⟩
          · obtain rfl : k = 6 := by omega
            have Kc : Aside0 (chk s = 0) := ⟨if_pos ⟨Kh.out, Kj.out⟩⟩
            go_wp2
            go_ret
            exact ⟨by rw [Kc.out]; rfl, KB.out.2⟩
      · have b1 := btw_yes h1.1 h1.2
        have b2 := btw_yes h2.1 h2.2
        have b3 : btw s.len 68 8388608 = false := btw_no (by omega)
        have Kc : Aside0 (chk s = 1) := ⟨if_neg (right_head (fun h => h3 h.2.2))⟩
        clear h1 h2 h3
        go_enter Try.func37, Try.ntmps37
        go_wp2_with (go_at_call 51; refine (between_any _ _ _ _).mono ?_; rintro e w' ⟨rfl, rfl⟩)
        go_ret
        exact ⟨by rw [Kc.out]; rfl, Kal.out⟩
    · have b1 := btw_yes h1.1 h1.2
      have b2 : btw s.ino 1 16385 = false := btw_no (by omega)
      have Kc : Aside0 (chk s = 1) := ⟨if_neg (right_head (fun h => h2 h.2.1))⟩
      clear h1 h2
      go_enter Try.func37, Try.ntmps37
      go_wp2_with (go_at_call 51; refine (between_any _ _ _ _).mono ?_; rintro e w' ⟨rfl, rfl⟩)
      go_ret
      exact ⟨by rw [Kc.out]; rfl, Kal.out⟩
  · have b1 : btw s.log 12 20 = false := btw_no (by omega)
    have Kc : Aside0 (chk s = 1) := ⟨if_neg (right_head (fun h => h1 h.1))⟩
    clear h1
    go_enter Try.func37, Try.ntmps37
    go_wp2_with (go_at_call 51; refine (between_any _ _ _ _).mono ?_; rintro e w' ⟨rfl, rfl⟩)
    go_ret
    exact ⟨by rw [Kc.out]; rfl, Kal.out⟩
end Go.Proofs.Ytepmgkmbmejkjaa.Su
