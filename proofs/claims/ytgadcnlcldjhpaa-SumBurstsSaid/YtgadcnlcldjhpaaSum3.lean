/- The table that the program makes: walks. -/
import Derived.Test.YtgadcnlcldjhpaaSum2
import Derived.Test.YtgadcnlcldjhpaaArr
import Derived.Laws.CopyOwn
import Derived.Deep.QuietTactic
import Derived.BigQuiet
namespace Go.Proofs.Ytgadcnlcldjhpaa.Sum
open Go.RowKit Go.Proofs.YtgadcnlcldjhpaaW.PrintWords Go.Proofs.YtgadcnlcldjhpaaW.PrintLast Go.Proofs.YtgadcnlcldjhpaaW.PrintMore
set_option linter.unusedVariables false
set_option linter.unusedSimpArgs false
theorem zeroTab (w : World) : (zeroValue 24).run Try.prog w = .ok (.agg (Bits.tab fun _ => 0)) w := by
  have h : (Try.prog.info? 24).map (·.zero) = some (some (.agg (Array.replicate 256 (.int .u32 0)))) := by kernel_rfl
  have e : (Bits.tab fun _ => 0) = Array.replicate 256 (Value.int .u32 0) := by
    apply Array.ext
    · simp [Bits.tab]
    · intro j h1 h2; simp [Bits.tab]
  rw [e]
  cases hi : Try.prog.info? 24 with
  | none => rw [hi] at h; simp at h
  | some i =>
    rw [hi] at h
    have hz : i.zero = some (.agg (Array.replicate 256 (.int .u32 0))) := by simpa using h
    simp [zeroValue, typeInfo, hi, hz]
theorem tabSize (T : Nat → Nat) : (Try.prog.info? 24).map (·.size) = some (Bits.tab T).size := by
  rw [Bits.tab_size]; kernel_rfl
theorem tabOne (T : Nat → Nat) : (Bits.tab T).all (·.oneCell') = true := by
  rw [Array.all_eq_true]
  intro i h
  simp [Bits.tab, Value.oneCell']
/-- The table, so far. -/
def part (k : Nat) : Nat → Nat := fun i => if i < k then Crc.iter 8 i else 0
theorem part_step (k : Nat) (h : k < 256) : (Bits.tab (part k)).setIfInBounds k (.int .u32 (Crc.iter 8 k : Nat)) = Bits.tab (part (k + 1)) := by
  rw [Bits.tab_set _ _ _ h]
  apply Bits.tab_congr
  intro i hi
  unfold part
  by_cases e : i = k
  · subst e; simp
  · have : i < k ↔ i < k + 1 := by omega
    simp [e, this]
set_option maxHeartbeats 400000 in
set_option maxRecDepth 100000 in
theorem make_any (w : World) : Calls Try.prog 23 #[] w fun e w' => e = .returned (.agg (Bits.tab (Crc.iter 8))) ∧ Below w.heap.size w w' := by
  have hz := zeroTab
  go_enter Try.func23, Try.ntmps23
  go_wp2
  go_loopw [2, 3] (fun u i wr => ∃ k : Nat, k ≤ 256 ∧ i = .int .i64 k ∧ Aside0 (wr.heap[w.heap.size]? = some (.cells (Bits.tab fun _ => 0) 24 (0, 0))) ∧ Aside0 (wr.heap[w.heap.size + 1]? = some (.cells (Bits.tab (part k)) 24 (0, 0))) ∧ Below w.heap.size w wr) (fun _ i _ => 256 - (intOf i).toNat)
  case atStart => exact ⟨0, by omega, rfl, ⟨by rw [heap_alloc2_old]⟩, ⟨by rw [heap_alloc2_new]; rfl⟩, below_alloc (below_alloc (Below.refl _ _) _) _⟩
  case round =>
    obtain ⟨k, hk, rfl, H1, H2, HB⟩ := hrel
    by_cases hlt : k < 256
    · have hc : wr.cell? ⟨w.heap.size + 1, k, none⟩ = some (.int .u32 (part k k : Nat)) := by rw [cell_of_row _ _ _ _ _ _ H2.out]; exact Bits.tab_at _ _ hlt
      have hf : wr.frozen? ⟨w.heap.size + 1, k, none⟩ = false := frozen_of_row _ _ _ _ _ H2.out
      have hs1 := HB.size
      go_wp2_with (go_at_call 52; refine (entry_nat k (by omega) _).mono ?_; rintro e w' ⟨rfl, rfl⟩)
      clear hc hf
      go_roundw
      case rel =>
        refine ⟨k + 1, by omega, by go_num, ⟨?_⟩, ⟨?_⟩, ?_⟩
        · rw [heap_setCell_other _ _ _ _ (by simp)]; exact H1.out
        · rw [heap_setCell_same _ _ _ _ _ _ H2.out, part_step k hlt]
        · exact HB.setCell (by simp) _
      case measure => simp [intOf]; omega
    · have h256 : part k = part 256 := by rw [show k = 256 from by omega]
      have H2' : Aside0 (wr.heap[w.heap.size + 1]? = some (.cells (Bits.tab (Crc.iter 8)) 24 (0, 0))) := ⟨by
        rw [H2.out, h256, Bits.tab_congr (part 256) (Crc.iter 8) (fun i hi => by unfold part; rw [if_pos hi])]⟩
      clear h256 H2
      go_wp2_with (first | (refine wpList_load_row rfl 24 (Operand.tmp 1) rfl (w.heap.size + 1) rfl _ _ _ _ H2'.out Try.underlying24 rfl (tabSize _) ?_) | (refine wpList_store_row rfl 24 (Operand.tmp 0) (Operand.tmp 12) rfl w.heap.size (Bits.tab (Crc.iter 8)) rfl rfl _ _ H1.out (tabSize _) (by rw [Bits.tab_size, Bits.tab_size]) (tabOne _) ?_))
      have hg : (wr.setRow w.heap.size (Bits.tab (Crc.iter 8))).heap[w.heap.size]? = some (.cells (Bits.tab (Crc.iter 8)) 24 (0, 0)) := setRow_heap _ _ _ _ _ _ H1.out
      refine bodyPost_ret (v := .agg (Bits.tab (Crc.iter 8))) (results_cell_row Try.results23 _ _ w.heap.size 24 _ _ _ rfl hg Try.underlying24 rfl (tabSize _)) rfl ⟨rfl, ?_⟩
      exact below_setRow HB (Nat.le_refl _) _
theorem tabEq (T U : Nat → Nat) (w : World) : (Op.equalIn 10000 24 (.agg (Bits.tab T)) (.agg (Bits.tab U))).run Try.prog w = .ok (Arr.eqUpTo 256 (fun i => (T i : Int)) (fun i => (U i : Int))) w :=
  Arr.run_equalIn_ints w 9999 24 22 256 .u32 _ _ (fun i => (T i : Int)) (fun i => (U i : Int)) Try.underlying24 Try.underlying22 (by kernel_rfl) (fun w a b => run_equalIn_int w 9998 _ _ _ a b Try.underlying22) (fun i h => Bits.tab_at _ _ h) (fun i h => Bits.tab_at _ _ h)
def isTab (T : Nat → Nat) : Bool := Arr.eqUpTo 256 (fun i => (T i : Int)) (fun i => ((Crc.iter 8 i : Nat) : Int))
theorem good_nil (w : World) : Calls Try.prog 26 #[.pointer none] w fun e w' => e = .returned (.bool false) ∧ Below w.heap.size w w' := by
  go_enter Try.func26, Try.ntmps26
  go_wp2
  go_quiet (fail)
  go_wp2
  go_ret
  exact ⟨rfl, pw_below_drewN (Below.refl _ _) _⟩
set_option maxHeartbeats 1000000 in
theorem good_tab (g : Nat) (T : Nat → Nat) (w : World) (hg : w.heap[g]? = some (.cells (Bits.tab T) 24 (0, 0))) : Calls Try.prog 26 #[.pointer (some ⟨g, 0, none⟩)] w fun e w' => e = .returned (.bool (isTab T)) ∧ Below w.heap.size w w' := by
  have HG := Aside0.mk hg
  have hq := tabEq T (Crc.iter 8)
  rw [show Arr.eqUpTo 256 (fun i => (T i : Int)) (fun i => ((Crc.iter 8 i : Nat) : Int)) = isTab T from rfl] at hq
  clear hg
  go_enter Try.func26, Try.ntmps26
  go_wp2
  refine start_ (n := 10) (S := fun w' => w'.heap[g]? = some (.cells (Bits.tab T) 24 (0, 0))) (ds := []) #[false, false, false, false, false, false, false, false, false, false] (by kernel_rfl) rfl rfl (HG.out) (fun hHeld => ?_)
  refine pure_ (i := 0) (N := some 3) (v := ?_) (a' := ?_) #[true, false, false, false, false, false, false, false, false, false] rfl rfl (by kernel_rfl) (fun _ _ _ h => h) (Or.inl ⟨by rfl, ?_⟩) ?_ ?_
  rotate_left
  · intro w'
    go_simp
    with_reducible rfl
  rotate_left
  · simp only [Act.put, List.setIfInBounds_toArray, List.set_cons_zero, List.set_cons_succ, i64_w, i32_w]
    rfl
  refine pure_ (i := 1) (N := some 4) (v := ?_) (a' := ?_) #[true, true, false, false, false, false, false, false, false, false] rfl rfl (by kernel_rfl) (fun _ _ _ h => h) (Or.inl ⟨by rfl, ?_⟩) ?_ ?_
  rotate_left
  · intro w'
    go_simp
    with_reducible rfl
  rotate_left
  · simp only [Act.put, List.setIfInBounds_toArray, List.set_cons_zero, List.set_cons_succ, i64_w, i32_w]
    rfl
  refine pure_ (i := 2) (N := some 5) (v := ?_) (a' := ?_) #[true, true, true, false, false, false, false, false, false, false] rfl rfl (by kernel_rfl) (fun _ _ _ h => h) (Or.inl ⟨by rfl, ?_⟩) ?_ ?_
  rotate_left
  · intro w'
    go_simp
    with_reducible rfl
  rotate_left
  · simp only [Act.put, List.setIfInBounds_toArray, List.set_cons_zero, List.set_cons_succ, i64_w, i32_w]
    rfl
  refine pure_ (i := 3) (N := some 6) (v := ?_) (a' := ?_) #[true, true, true, true, false, false, false, false, false, false] rfl rfl (by kernel_rfl) (fun _ _ _ h => h) (Or.inl ⟨by rfl, ?_⟩) ?_ ?_
  rotate_left
  · intro w'
    go_simp
    with_reducible rfl
  rotate_left
  · simp only [Act.put, List.setIfInBounds_toArray, List.set_cons_zero, List.set_cons_succ, i64_w, i32_w]
    rfl
  refine pure_ (i := 4) (N := some 7) (v := ?_) (a' := ?_) #[true, true, true, true, true, false, false, false, false, false] rfl rfl (by kernel_rfl) (fun _ _ _ h => h) (Or.inl ⟨by rfl, ?_⟩) ?_ ?_
  rotate_left
  · intro w'
    go_simp
    with_reducible rfl
  rotate_left
  · simp only [Act.put, List.setIfInBounds_toArray, List.set_cons_zero, List.set_cons_succ, i64_w, i32_w]
    rfl
  refine take_ (i := 5) (N := some 8) (v := .agg (Bits.tab T)) (a' := ?_) #[true, true, true, true, true, true, false, false, false, false] rfl rfl (by kernel_rfl) (fun _ _ _ h => h) (Or.inl ⟨by rfl, ?_⟩) hHeld ?_ ?_
  · intro w' s0
    exact Arr.exec_load_row 24 (Operand.tmp 7) (by rfl) g (by rfl) _ _ _ _ s0 Try.underlying24 rfl (tabSize _)
  rotate_left
  · simp only [Act.put, List.setIfInBounds_toArray, List.set_cons_zero, List.set_cons_succ, i64_w, i32_w]
    rfl
  refine one_ (i := 6) (N := some 9) #[true, true, true, true, true, true, true, false, false, false] rfl rfl (by kernel_rfl) (by decide) (fun K hK => ?_)
  refine goes_ Try.func23 (by kernel_rfl) rfl #[] (by rfl) rfl rfl (by simp) ?_
  with_reducible refine (make_any _).mono ?_
  rintro e w3 ⟨rfl, hb⟩
  refine ⟨_, rfl, ?_⟩
  refine hK.out _ _ (show w3.heap[g]? = _ from (hb.block g (Array.getElem?_eq_some_iff.1 hHeld).1).trans hHeld) (fun hHeld => ?_)
  clear hK K
  refine norm_ (a' := ?_) ?_ ?_
  rotate_left
  · show Act.put _ (some 9) _ = _
    simp only [Act.put, List.setIfInBounds_toArray, List.set_cons_zero, List.set_cons_succ, i64_w, i32_w]
    rfl
  refine pure_ (i := 7) (N := some 10) (v := ?_) (a' := ?_) #[true, true, true, true, true, true, true, true, false, false] rfl rfl (by kernel_rfl) (fun _ _ _ h => h) (Or.inl ⟨by rfl, ?_⟩) ?_ ?_
  rotate_left
  · intro w'
    go_simp
    with_reducible rfl
  rotate_left
  · simp only [Act.put, List.setIfInBounds_toArray, List.set_cons_zero, List.set_cons_succ, i64_w, i32_w]
    rfl
  refine pure_ (i := 8) (N := some 11) (v := ?_) (a' := ?_) #[true, true, true, true, true, true, true, true, true, false] rfl rfl (by kernel_rfl) (fun _ _ _ h => h) (Or.inl ⟨by rfl, ?_⟩) ?_ ?_
  rotate_left
  · intro w'
    go_simp
    with_reducible rfl
  rotate_left
  · simp only [Act.put, List.setIfInBounds_toArray, List.set_cons_zero, List.set_cons_succ, i64_w, i32_w]
    rfl
  refine pure_ (i := 9) (N := some 2) (v := ?_) (a' := ?_) #[true, true, true, true, true, true, true, true, true, true] rfl rfl (by kernel_rfl) (fun _ _ _ h => h) (Or.inl ⟨by rfl, ?_⟩) ?_ ?_
  rotate_left
  · intro w'
    go_simp
    with_reducible rfl
  rotate_left
  · simp only [Act.put, List.setIfInBounds_toArray, List.set_cons_zero, List.set_cons_succ, i64_w, i32_w]
    rfl
  refine done_ (by kernel_rfl) ?_


  go_wp2
  go_ret
  exact ⟨rfl, below_then (below_drew (Below.refl _ _)) (Nat.le_refl _) hb⟩
end Go.Proofs.Ytgadcnlcldjhpaa.Sum
