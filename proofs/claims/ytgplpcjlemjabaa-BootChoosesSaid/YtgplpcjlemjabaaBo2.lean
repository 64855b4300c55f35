/- Boot records: right ones; their bytes: walks. -/
import Derived.Test.YtgplpcjlemjabaaBo1
set_option linter.unusedVariables false
set_option linter.unusedSimpArgs false
namespace Go.Proofs.Ytgplpcjlemjabaa.Bo
open Go.RowKit Go.Proofs.Ytgplpcjlemjabaa.Fd Go.Proofs.Ytgplpcjlemjabaa.Bg Go.Proofs.YtgplpcjlemjabaaW.PrintWords Go.Proofs.YtgplpcjlemjabaaW.PrintLast Go.Proofs.YtgplpcjlemjabaaW.PrintMore
theorem num_any (n : Int) (w : World) : Calls Try.prog 26 #[.int .i64 n] w fun e w' => e = .returned (.int .i64 n) ∧ w = w' := by
  go_enter Try.func26, Try.ntmps26
  go_wp2
  go_ret
  exact ⟨rfl, rfl⟩
/-- The record's box stands. -/
def RB (w : World) (r : Rec) (wr : World) : Prop := wr.heap[w.heap.size]? = some (.cells #[.int .u64 r.seq, .int .i64 r.slot, .int .i64 r.len, .int .u64 r.sum] 45 (0, 0)) ∧ Below w.heap.size w wr
theorem box_cells {w : World} {g : Nat} {r : Rec} (h : w.heap[g]? = some (.cells #[.int .u64 r.seq, .int .i64 r.slot, .int .i64 r.len, .int .u64 r.sum] 45 (0, 0))) : w.cell? ⟨g, 0, none⟩ = some (.int .u64 r.seq) ∧ w.cell? ⟨g, 1, none⟩ = some (.int .i64 r.slot) ∧ w.cell? ⟨g, 2, none⟩ = some (.int .i64 r.len) ∧ w.cell? ⟨g, 3, none⟩ = some (.int .u64 r.sum) :=
  ⟨(cell_of_row _ _ _ _ _ _ h).trans rfl, (cell_of_row _ _ _ _ _ _ h).trans rfl, (cell_of_row _ _ _ _ _ _ h).trans rfl, (cell_of_row _ _ _ _ _ _ h).trans rfl⟩
theorem RB.new (w : World) (r : Rec) : RB w r (w.alloc (.cells #[.int .u64 r.seq, .int .i64 r.slot, .int .i64 r.len, .int .u64 r.sum] 45)) := ⟨heap_alloc_new _ _, below_alloc (Below.refl _ _) _⟩
theorem RB.then_ {w wr w1 : World} {r : Rec} (h : RB w r wr) (h1 : Below wr.heap.size wr w1) : RB w r w1 := ⟨blk_below h.1 h1, below_then h.2 h.2.size h1⟩
theorem RB.of {w w0 w1 : World} {r : Rec} {g : Nat} {most : Int} {v : Value} {xs : List Int} (h : RB w r w0) (hF : FW w0 w0.heap.size g most w1 v xs) : RB w r w1 := ⟨(hF.below.block _ (blk_lt h.1)).trans h.1, below_then h.2 h.2.size hF.below⟩
theorem RB.grown {w wr w1 : World} {r : Rec} {n c : Nat} {A : Option Addr} {xs : List Int} (h : RB w r wr) (ho : Row.OwnB wr w.heap.size (.slice A n c) xs) (hb : Below w.heap.size w w1) (hg : wr.grownBy w1 (Value.slice A n c).ownBlock) : RB w r w1 := by
  refine ⟨(hg.block _ (blk_lt h.1) fun he => ?_).trans h.1, hb⟩
  obtain ⟨inner, h2⟩ := Kd.R_own ho
  obtain ⟨cells, hc⟩ := own_typed h2 w.heap.size he.symm
  rw [h.1] at hc
  injection hc with hc
  injection hc with _ ht
  exact absurd ht (by decide)
theorem right_of {r : Rec} {a b c d e : Bool} (h1 : decide (r.seq ≤ 4611686018427387904) = a) (h2 : (r.slot == 0) = b) (h3 : (r.slot == 1) = c) (h4 : decide (1 ≤ r.len) = d) (h5 : decide (r.len ≤ 8388608) = e) : decide (right r) = (a && (b || c) && d && e) := by
  subst h1 h2 h3 h4 h5
  rw [Bool.eq_iff_iff, decide_eq_true_iff]
  simp [right, and_assoc]
set_option maxHeartbeats 4000000 in
theorem right_any (r : Rec) (w : World) : Calls Try.prog 41 #[.agg #[.int .u64 r.seq, .int .i64 r.slot, .int .i64 r.len, .int .u64 r.sum]] w fun e w' => e = .returned (.bool (decide (right r))) ∧ Below w.heap.size w w' := by
  have KB := Aside0.mk (RB.new w r)
  obtain ⟨q0, q1, q2, q3⟩ := box_cells KB.out.1
  obtain ⟨n, hn⟩ : ∃ n : Int, n = 4611686018427387904 := ⟨_, rfl⟩
  have hsz := blk_lt KB.out.1
  cases h1 : decide (r.seq ≤ 4611686018427387904) <;> cases h2 : (r.slot == 0) <;> cases h3 : (r.slot == 1) <;> cases h4 : decide (1 ≤ r.len) <;> cases h5 : decide (r.len ≤ 8388608)
  all_goals
    rw [right_of h1 h2 h3 h4 h5]
    go_enter Try.func41, Try.ntmps41
    go_wp2
    go_ret
    exact ⟨rfl, below_alloc (Below.refl _ _) _⟩
end Go.Proofs.Ytgplpcjlemjabaa.Bo
