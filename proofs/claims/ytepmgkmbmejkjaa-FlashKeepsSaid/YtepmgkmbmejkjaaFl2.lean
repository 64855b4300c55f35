/- A flash memory as it lies in memory: bytes written over, copied; what a flash is. -/
import Derived.Test.YtepmgkmbmejkjaaFl1
import Derived.Laws.CopyOwn
import Derived.Laws.CopyRow
import Derived.WalkSpells
set_option linter.unusedVariables false
set_option linter.unusedSimpArgs false
namespace Go.Proofs.Ytepmgkmbmejkjaa.Fl
open Go.RowKit Go.Proofs.YtepmgkmbmejkjaaW.PrintWords Go.Proofs.YtepmgkmbmejkjaaW.PrintLast Go.Proofs.YtepmgkmbmejkjaaW.PrintMore
/-- Nothing but block g has turned. -/
def Only (w w' : World) (g : Nat) : Prop := Below g w w' ∧ w'.heap.size = w.heap.size ∧ ∀ k, k ≠ g → w'.heap[k]? = w.heap[k]?
theorem Only.refl (w : World) (g : Nat) : Only w w g := ⟨Below.refl _ _, rfl, fun _ _ => rfl⟩
theorem Only.set {w w1 : World} {g : Nat} (h : Only w w1 g) (j : Nat) (u : Value) : Only w (w1.setCell ⟨g, j, none⟩ u) g :=
  ⟨h.1.setCell (Nat.le_refl _) u, by simp [h.2.1], fun k hk => (Below.heap_setCell w1 ⟨g, j, none⟩ u k hk).trans (h.2.2 k hk)⟩
theorem Only.row {w w1 : World} {g : Nat} (h : Only w w1 g) (cs : Array Value) : Only w (w1.setRow g cs) g :=
  ⟨⟨h.1.os, h.1.tape, h.1.output, by have := h.1.size; simpa [World.setRow] using this, fun k hk => (setRow_other w1 g k cs (by omega)).trans (h.1.block k hk)⟩, by simp [World.setRow, h.2.1], fun k hk => (setRow_other w1 g k cs hk).trans (h.2.2 k hk)⟩
/-- A block of bytes. -/
def Mem (w : World) (g : Nat) (mem : List Int) : Prop := w.heap[g]? = some (.cells (nums .u8 mem).toArray 5 (0, 0))
theorem Mem.cell {w : World} {g : Nat} {mem : List Int} (h : Mem w g mem) {j : Nat} (hj : j < mem.length) : w.cell? ⟨g, j, none⟩ = some (.int .u8 (mem.getD j 0)) := by
  rw [cell_of_row _ _ _ _ _ _ h]
  simp [nums, List.getElem?_eq_getElem hj]
theorem nums_splice (k : IntKind) (L : List Int) (o : Nat) (cs : List Int) : nums k (splice L o cs) = splice (nums k L) o (nums k cs) := by
  simp [nums, splice, List.map_take, List.map_drop]
theorem splice_nil {α : Type} (L : List α) (o : Nat) : splice L o ([] : List α) = L := by simp [splice]
theorem splice_snoc {α : Type} (L : List α) (o k : Nat) (x : α) (h : o + k < L.length) : (splice L o (List.replicate k x)).set (o + k) x = splice L o (List.replicate (k + 1) x) := by
  unfold splice
  have h1 : (L.take o).length = o := by rw [List.length_take]; omega
  rw [List.set_append_right _ _ (by omega), h1, show o + k - o = k by omega, List.set_append_right _ _ (by simp), List.length_replicate, List.length_replicate, Nat.sub_self]
  have hd : L.drop (o + k) = L[o + k] :: L.drop (o + k + 1) := List.drop_eq_getElem_cons h
  rw [hd, List.set_cons_zero, List.replicate_succ', List.append_assoc]
  rfl
set_option maxHeartbeats 1000000 in
theorem blank_any {w : World} {g o n c : Nat} {mem : List Int} (h : Mem w g mem) (hfit : o + n ≤ mem.length) (hmax : mem.length ≤ 100000000) :
    Calls Try.prog 42 #[.slice (some ⟨g, o, none⟩) n c] w fun e w' => e = .returned (.tuple #[]) ∧ Mem w' g (splice mem o (List.replicate n 255)) ∧ Only w w' g := by
  have K := Aside0.mk h
  clear h
  go_enter Try.func42, Try.ntmps42
  go_wp2
  go_loopw [5] (fun i wr => ∃ k : Nat, k ≤ n ∧ i = .int .i64 k ∧ Aside0 (Mem wr g (splice mem o (List.replicate k 255))) ∧ Aside0 (Only w wr g)) (fun i _ => n - (intOf i).toNat)
  case atStart => exact ⟨0, Nat.zero_le _, rfl, ⟨by rw [List.replicate_zero, splice_nil]; exact K.out⟩, ⟨Only.refl _ _⟩⟩
  case round =>
    obtain ⟨k, hk, rfl, KM, KO⟩ := hrel
    have hl : (splice mem o (List.replicate k (255 : Int))).length = mem.length := length_splice _ _ _ (by simp; omega)
    by_cases hlt : k < n
    · have hc := KM.out.cell (j := o + k) (by omega)
      have hf : wr.frozen? ⟨g, o + k, none⟩ = false := blk_frozen KM.out _
      have ha := add_at g o k
      clear hl
      go_wp2
      refine ⟨⟨k + 1, hlt, by go_num, ⟨?_⟩, ⟨KO.out.set _ _⟩⟩, by simp [intOf]; omega⟩
      have h2 := blk_set KM.out (o + k) (.int .u8 255)
      unfold Mem
      rw [h2, ← splice_snoc mem o k 255 (by omega)]
      simp [nums, List.map_set]
    · obtain rfl : k = n := by omega
      go_wp2
      go_end0
      exact ⟨rfl, KM.out, KO.out⟩
section
variable {ops : Array Oper} {rest : List Oper} {o : Oper} {a : Act} {Q : Exit → Act → World → Prop} {w : World}
theorem copy_run (d s : Operand) (ho : o.op = .call { callee := .builtin .copy, args := #[d, s], argTypes := #[30, 30] }) (g p n c : Nat) (A : Option Addr) (m c2 : Nat) (mem ys : List Int)
    (hd : a.eval d = .slice (some ⟨g, p, none⟩) n c) (hs : a.eval s = .slice A m c2) (hM : Mem w g mem) (hfit : p + n ≤ mem.length) (HC : Kd.C (Kd.int .u8) w A m ys) :
    ∃ w', (execOp a.eval o).run Try.prog w = .ok (.value (goInt (ys.take n).length)) w' ∧ Mem w' g (splice mem p (ys.take n)) ∧ Only w w' g := by
  have hu : Try.prog.underlying 30 = some (.slice 5) := Try.underlying30
  have hsz : (Try.prog.info? 5).map (·.size) = some 1 := by kernel_rfl
  have hm : ys.length = m := HC.1
  by_cases h0 : Nat.min m n = 0
  · have hrun := run_copy_none (P := Try.prog) w 30 30 o.type 5 (some ⟨g, p, none⟩) A n c m c2 hu hsz h0
    have ht : ys.take n = [] := by
      apply List.eq_nil_of_length_eq_zero
      rw [List.length_take, hm]
      have h0' : min m n = 0 := h0
      omega
    rw [ht, splice_nil]
    refine ⟨w, ?_, hM, Only.refl _ _⟩
    simp [execOp, ho, resolve, invoke, builtin, hd, hs, hrun, Result.andThen]
  · have hmp : 0 < m := by
      rcases Nat.eq_zero_or_pos m with h | h
      · exfalso; apply h0; rw [h]; exact Nat.zero_min n
      · exact h
    obtain ⟨ad, rfl, hc⟩ := (Kd.reads_of_C (d := (0 : Int)) HC).2.2 hmp
    have hl : (nums .u8 (ys.take n)).length = Nat.min m n := by
      rw [nums_length, List.length_take, hm]
      exact Nat.min_comm n m
    have hl2 : (ys.take n).length ≤ n := by rw [List.length_take]; exact Nat.min_le_left _ _
    have hsrc : ∀ j v, (nums .u8 (ys.take n))[j]? = some v → w.cell? (ad.add j) = some v := by
      intro j v hj
      have hlt : j < (ys.take n).length := by
        have := (List.getElem?_eq_some_iff.1 hj).1
        simpa [nums] using this
      have hly : j < ys.length := by rw [List.length_take] at hlt; omega
      rw [hc j (by omega)]
      simp only [nums, List.getElem?_map, List.getElem?_take] at hj
      rw [if_pos (by omega), List.getElem?_eq_getElem hly] at hj
      simp only [Option.map_some, Option.some.injEq] at hj
      rw [← hj, List.getD_eq_getElem?_getD, List.getElem?_eq_getElem hly]
      rfl
    have hrun := run_copy_row (P := Try.prog) w 30 30 o.type 5 g p n c ad m c2 (nums .u8 mem).toArray 5 (nums .u8 (ys.take n)) hu hsz hM hl hsrc (by simp only [List.size_toArray, nums_length]; omega) (by intro u hu; simp only [nums, List.mem_map] at hu; obtain ⟨x, -, rfl⟩ := hu; rfl)
    have he : ((nums .u8 mem).toArray.toList.take p ++ nums .u8 (ys.take n) ++ (nums .u8 mem).toArray.toList.drop (p + (nums .u8 (ys.take n)).length)) = splice (nums .u8 mem) p (nums .u8 (ys.take n)) := by
      unfold splice
      rw [List.append_assoc]
    rw [he, nums_length] at hrun
    refine ⟨w.setRow g (splice (nums .u8 mem) p (nums .u8 (ys.take n))).toArray, ?_, ?_, (Only.refl w g).row _⟩
    · simp [execOp, ho, resolve, invoke, builtin, hd, hs, hrun, Result.andThen]
    · unfold Mem
      rw [nums_splice]
      exact setRow_heap w g _ _ _ (0, 0) hM
theorem copy_mem (hgd : o.guard = none) (d s : Operand) (ho : o.op = .call { callee := .builtin .copy, args := #[d, s], argTypes := #[30, 30] }) (g p n c : Nat) (A : Option Addr) (m c2 : Nat) (mem ys : List Int)
    (hd : a.eval d = .slice (some ⟨g, p, none⟩) n c) (hs : a.eval s = .slice A m c2) (hM : Mem w g mem) (hfit : p + n ≤ mem.length) (HC : Kd.C (Kd.int .u8) w A m ys)
    (h : ∀ w', Aside0 (Mem w' g (splice mem p (ys.take n))) → Aside0 (Only w w' g) → wpList Try.prog ops Q rest (a.put o.dst (goInt (ys.take n).length)) w') : wpList Try.prog ops Q (o :: rest) a w := by
  obtain ⟨w', hrun, h1, h2⟩ := copy_run d s ho g p n c A m c2 mem ys hd hs hM hfit HC
  exact Kd.event_run hgd hrun (h w' ⟨h1⟩ ⟨h2⟩)
theorem copy_mem_step {Kc : Act → World → Prop} (hw : Region.wanted o (yielded ops a.tmps) = true) (d s : Operand) (ho : o.op = .call { callee := .builtin .copy, args := #[d, s], argTypes := #[30, 30] }) (g p n c : Nat) (A : Option Addr) (m c2 : Nat) (mem ys : List Int)
    (hd : a.eval d = .slice (some ⟨g, p, none⟩) n c) (hs : a.eval s = .slice A m c2) (hM : Mem w g mem) (hfit : p + n ≤ mem.length) (HC : Kd.C (Kd.int .u8) w A m ys)
    (h : ∀ w', Aside0 (Mem w' g (splice mem p (ys.take n))) → Aside0 (Only w w' g) → Kc (a.put o.dst (goInt (ys.take n).length)) w') : if Region.wanted o (yielded ops a.tmps) = true then Oper.wp Try.prog o a w Kc Q else Kc (a.put o.dst undef) w := by
  obtain ⟨w', hrun, h1, h2⟩ := copy_run d s ho g p n c A m c2 mem ys hd hs hM hfit HC
  exact event_step hw hrun (h w' ⟨h1⟩ ⟨h2⟩)
end
end Go.Proofs.Ytepmgkmbmejkjaa.Fl
