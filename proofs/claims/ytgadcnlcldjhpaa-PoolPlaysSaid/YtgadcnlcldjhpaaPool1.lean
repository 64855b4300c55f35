/- Contents, once: new memory, equal bytes, a new pool. -/
import Derived.Test.YtgadcnlcldjhpaaSum
import Derived.Test.YtgadcnlcldjhpaaWApart
import Derived.Test.YtgadcnlcldjhpaaWMore
import Derived.Test.YtgadcnlcldjhpaaRow
import Derived.Maps.GroupsBeside
import Derived.Laws.CopyOwn
import Derived.Laws.OwnMore
import Derived.Deep.OwnRows
import Derived.Lib.Bytes
set_option linter.unusedVariables false
set_option linter.unusedSimpArgs false
namespace Go.Proofs.Ytgadcnlcldjhpaa.Pool
open Go.RowKit Go.Proofs.YtgadcnlcldjhpaaW.PrintWords Go.Proofs.YtgadcnlcldjhpaaW.PrintLast Go.Proofs.YtgadcnlcldjhpaaW.PrintMore
/-- Contents in new memory. -/
theorem told_any (A : Option Addr) (c : Nat) (l : List Int) (w : World) (hR : Kd.C (Kd.int .u8) w A l.length l) (hn : l.length ≤ 140737488351232) : Calls Try.prog 56 #[.slice A l.length c] w fun e w' => e = .returned (.slice (some ⟨w.heap.size, 0, none⟩) l.length l.length) ∧ w'.heap[w.heap.size]? = some (.cells (nums .u8 l).toArray 5 (0, 0)) ∧ Below w.heap.size w w' := by
  have hmk := run_make_row' (P := Try.prog) 25 5 (.int .u8 0) 1 Try.underlying25 Row.info8 rfl .i64 .i64 l.length (by omega) (by omega)
  have h2 := Kd.reads_of_C (d := (0 : Int)) (Kd.C_alloc hR (.cells (madeCells #[.int .u8 0] l.length) 5))
  have hpos : 0 < (nums .u8 l).length → ∃ ad, A = some ad ∧ ∀ j v, (nums .u8 l)[j]? = some v → (w.alloc (.cells (madeCells #[.int .u8 0] l.length) 5)).cell? (ad.add j) = some v := fun hp => by
    obtain ⟨ad, had, hc⟩ := h2.2.2 (by simpa [nums] using hp)
    refine ⟨ad, had, fun j v hj => ?_⟩
    have hlt : j < l.length := by
      have := (List.getElem?_eq_some_iff.1 hj).1
      simpa [nums] using this
    have h3 := hc j hlt
    have h4 : v = .int .u8 (l.getD j 0) := by
      simp only [nums, List.getElem?_map] at hj
      rw [List.getElem?_eq_getElem hlt] at hj
      simp at hj
      rw [List.getD_eq_getElem?_getD, List.getElem?_eq_getElem hlt]
      exact hj.symm
    rw [h4]
    exact h3
  have hlen : (nums .u8 l).length = l.length := by simp [nums]
  have K := Aside0.mk hpos
  have KL := Aside0.mk hlen
  clear hR h2 hpos hlen
  go_enter Try.func56, Try.ntmps56
  go_wp2_with ((with_reducible refine gate_builtin (b := .copy) (xs := #[.tmp 7, .tmp 8]) rfl ?_); refine wpList_copy_splice rfl (.tmp 7) (.tmp 8) 25 25 rfl 5 Try.underlying25 (by kernel_rfl) (some ⟨w.heap.size, 0, none⟩) A l.length l.length l.length c rfl rfl w.heap.size 0 (madeCells #[.int .u8 0] l.length).toList 5 (by rw [Array.toArray_toList]; exact heap_alloc_new _ _) (nums .u8 l) (by rw [KL.out]; exact (Nat.min_self _).symm) (fun hp => ⟨rfl, K.out hp⟩) (by rw [KL.out, toList_madeCells_one, List.length_replicate]; omega) (by intro v hv; simp only [nums, List.mem_map] at hv; obtain ⟨x, -, rfl⟩ := hv; rfl) w.heap.size w (below_alloc (Below.refl _ _) _) (Nat.le_refl _) ?_; intro w2 H2 hb2)
  go_ret
  have h2 := H2.out
  rw [show splice (madeCells #[.int .u8 0] l.length).toList 0 (nums .u8 l) = nums .u8 l by
    unfold splice
    rw [List.drop_eq_nil_of_le (by rw [toList_madeCells_one, List.length_replicate, KL.out]; omega)]
    simp] at h2
  exact ⟨rfl, h2, hb2⟩
theorem str_eq (l m : List Int) (hl : ∀ x ∈ l, 0 ≤ x ∧ x < 256) (hm : ∀ x ∈ m, 0 ≤ x ∧ x < 256) : ((strOfNums l).toList == (strOfNums m).toList) = decide (l = m) := by
  rw [Go.Lib.strOfNums_toList, Go.Lib.strOfNums_toList]
  unfold Go.Lib.bytesOf
  rw [Bool.eq_iff_iff]
  simp only [beq_iff_eq, decide_eq_true_eq]
  constructor
  · intro h
    induction l generalizing m with
    | nil => cases m with
      | nil => rfl
      | cons b m => simp at h
    | cons a l ih => cases m with
      | nil => simp at h
      | cons b m =>
        simp only [List.map_cons, List.cons.injEq] at h
        have ha := hl a (by simp)
        have hb := hm b (by simp)
        have h1 := congrArg UInt8.toNat h.1
        simp only [UInt8.toNat_ofNat'] at h1
        have : a = b := by omega
        rw [this, ih m (fun x hx => hl x (by simp [hx])) (fun x hx => hm x (by simp [hx])) h.2]
  · intro h
    rw [h]
end Go.Proofs.Ytgadcnlcldjhpaa.Pool
