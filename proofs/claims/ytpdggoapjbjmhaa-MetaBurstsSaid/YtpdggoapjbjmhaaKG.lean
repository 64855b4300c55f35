/- Texts put together: Cp, Rf, SumK. -/
import Derived.Test.YtpdggoapjbjmhaaZR
import Derived.Laws.CopyOwn
import Derived.Laws.CopyRow
import Derived.WalkSpells
import Derived.RangeFuncBox
import Derived.RangeFuncLeaves
import Derived.RangeFuncRecord
import Derived.RangeFuncStops
import Derived.RangeFuncCalls
import Derived.OrdersIn
import Derived.WalkKit
import Derived.OwnWalkIn
import Derived.TacticsInMore
import Derived.LoopNIn
import Derived.LoopIn
import Derived.Test.YtpdggoapjbjmhaaWLast
import Derived.Test.YtpdggoapjbjmhaaZA
import Derived.Test.YtpdggoapjbjmhaaZR
/- A block of bytes; bytes copied into it. -/
set_option linter.unusedVariables false
set_option linter.unusedSimpArgs false
namespace Go.Proofs.Ytpdggoapjbjmhaa.Cp
open Go.RowKit Go.Proofs.YtpdggoapjbjmhaaW.PrintWords Go.Proofs.YtpdggoapjbjmhaaW.PrintLast Go.Proofs.YtpdggoapjbjmhaaW.PrintMore
/-- Nothing but block g has turned. -/
def Only (w w' : World) (g : Nat) : Prop := Below g w w' ∧ w'.heap.size = w.heap.size ∧ ∀ k, k ≠ g → w'.heap[k]? = w.heap[k]?
theorem Only.refl (w : World) (g : Nat) : Only w w g := ⟨Below.refl _ _, rfl, fun _ _ => rfl⟩
theorem Only.set {w w1 : World} {g : Nat} (h : Only w w1 g) (j : Nat) (u : Value) : Only w (w1.setCell ⟨g, j, none⟩ u) g :=
  ⟨h.1.setCell (Nat.le_refl _) u, by simp [h.2.1], fun k hk => (Below.heap_setCell w1 ⟨g, j, none⟩ u k hk).trans (h.2.2 k hk)⟩
theorem Only.row {w w1 : World} {g : Nat} (h : Only w w1 g) (cs : Array Value) : Only w (w1.setRow g cs) g :=
  ⟨⟨h.1.os, h.1.tape, h.1.output, by have := h.1.size; simpa [World.setRow] using this, fun k hk => (setRow_other w1 g k cs (by omega)).trans (h.1.block k hk)⟩, by simp [World.setRow, h.2.1], fun k hk => (setRow_other w1 g k cs hk).trans (h.2.2 k hk)⟩
/-- A block of bytes. -/
def Mem (w : World) (g : Nat) (mem : List Int) : Prop := w.heap[g]? = some (.cells (nums .u8 mem).toArray 5 (0, 0))
theorem Mem.cell {w : World} {g : Nat} {mem : List Int} (h : Mem w g mem) {j : Nat} (hj : j < mem.length) : w.cell? ⟨g, j, none⟩ = some (.int .u8 (mem.getD j 0)) := by
  rw [cell_of_row _ _ _ _ _ _ h]
  simp [nums, List.getElem?_eq_getElem hj]
theorem nums_splice (k : IntKind) (L : List Int) (o : Nat) (cs : List Int) : nums k (splice L o cs) = splice (nums k L) o (nums k cs) := by
  simp [nums, splice, List.map_take, List.map_drop]
theorem splice_nil {α : Type} (L : List α) (o : Nat) : splice L o ([] : List α) = L := by simp [splice]
theorem splice_snoc {α : Type} (L : List α) (o k : Nat) (x : α) (h : o + k < L.length) : (splice L o (List.replicate k x)).set (o + k) x = splice L o (List.replicate (k + 1) x) := by
  unfold splice
  have h1 : (L.take o).length = o := by rw [List.length_take]; omega
  rw [List.set_append_right _ _ (by omega), h1, show o + k - o = k by omega, List.set_append_right _ _ (by simp), List.length_replicate, List.length_replicate, Nat.sub_self]
  have hd : L.drop (o + k) = L[o + k] :: L.drop (o + k + 1) := List.drop_eq_getElem_cons h
  rw [hd, List.set_cons_zero, List.replicate_succ', List.append_assoc]
  rfl
section
variable {ops : Array Oper} {rest : List Oper} {o : Oper} {a : Act} {Q : Exit → Act → World → Prop} {w : World}
theorem copy_run (d s : Operand) (ho : o.op = .call { callee := .builtin .copy, args := #[d, s], argTypes := #[37, 37] }) (g p n c : Nat) (A : Option Addr) (m c2 : Nat) (mem ys : List Int)
    (hd : a.eval d = .slice (some ⟨g, p, none⟩) n c) (hs : a.eval s = .slice A m c2) (hM : Mem w g mem) (hfit : p + n ≤ mem.length) (HC : Kd.C (Kd.int .u8) w A m ys) :
    ∃ w', (execOp a.eval o).run Try.prog w = .ok (.value (goInt (ys.take n).length)) w' ∧ Mem w' g (splice mem p (ys.take n)) ∧ Only w w' g := by
  have hu : Try.prog.underlying 37 = some (.slice 5) := Try.underlying37
  have hsz : (Try.prog.info? 5).map (·.size) = some 1 := by kernel_rfl
  have hm : ys.length = m := HC.1
  by_cases h0 : Nat.min m n = 0
  · have hrun := run_copy_none (P := Try.prog) w 37 37 o.type 5 (some ⟨g, p, none⟩) A n c m c2 hu hsz h0
    have ht : ys.take n = [] := by
      apply List.eq_nil_of_length_eq_zero
      rw [List.length_take, hm]
      have h0' : min m n = 0 := h0
      omega
    rw [ht, splice_nil]
    refine ⟨w, ?_, hM, Only.refl _ _⟩
    simp [execOp, ho, resolve, invoke, builtin, hd, hs, hrun, Result.andThen]
  · have hmp : 0 < m := by
      rcases Nat.eq_zero_or_pos m with h | h
      · exfalso; apply h0; rw [h]; exact Nat.zero_min n
      · exact h
    obtain ⟨ad, rfl, hc⟩ := (Kd.reads_of_C (d := (0 : Int)) HC).2.2 hmp
    have hl : (nums .u8 (ys.take n)).length = Nat.min m n := by
      rw [nums_length, List.length_take, hm]
      exact Nat.min_comm n m
    have hl2 : (ys.take n).length ≤ n := by rw [List.length_take]; exact Nat.min_le_left _ _
    have hsrc : ∀ j v, (nums .u8 (ys.take n))[j]? = some v → w.cell? (ad.add j) = some v := by
      intro j v hj
      have hlt : j < (ys.take n).length := by
        have := (List.getElem?_eq_some_iff.1 hj).1
        simpa [nums] using this
      have hly : j < ys.length := by rw [List.length_take] at hlt; omega
      rw [hc j (by omega)]
      simp only [nums, List.getElem?_map, List.getElem?_take] at hj
      rw [if_pos (by omega), List.getElem?_eq_getElem hly] at hj
      simp only [Option.map_some, Option.some.injEq] at hj
      rw [← hj, List.getD_eq_getElem?_getD, List.getElem?_eq_getElem hly]
      rfl
    have hrun := run_copy_row (P := Try.prog) w 37 37 o.type 5 g p n c ad m c2 (nums .u8 mem).toArray 5 (nums .u8 (ys.take n)) hu hsz hM hl hsrc (by simp only [List.size_toArray, nums_length]; omega) (by intro u hu; simp only [nums, List.mem_map] at hu; obtain ⟨x, -, rfl⟩ := hu; rfl)
    have he : ((nums .u8 mem).toArray.toList.take p ++ nums .u8 (ys.take n) ++ (nums .u8 mem).toArray.toList.drop (p + (nums .u8 (ys.take n)).length)) = splice (nums .u8 mem) p (nums .u8 (ys.take n)) := by
      unfold splice
      rw [List.append_assoc]
    rw [he, nums_length] at hrun
    refine ⟨w.setRow g (splice (nums .u8 mem) p (nums .u8 (ys.take n))).toArray, ?_, ?_, (Only.refl w g).row _⟩
    · simp [execOp, ho, resolve, invoke, builtin, hd, hs, hrun, Result.andThen]
    · unfold Mem
      rw [nums_splice]
      exact setRow_heap w g _ _ _ (0, 0) hM
theorem copy_mem (hgd : o.guard = none) (d s : Operand) (ho : o.op = .call { callee := .builtin .copy, args := #[d, s], argTypes := #[37, 37] }) (g p n c : Nat) (A : Option Addr) (m c2 : Nat) (mem ys : List Int)
    (hd : a.eval d = .slice (some ⟨g, p, none⟩) n c) (hs : a.eval s = .slice A m c2) (hM : Mem w g mem) (hfit : p + n ≤ mem.length) (HC : Kd.C (Kd.int .u8) w A m ys)
    (h : ∀ w', Aside0 (Mem w' g (splice mem p (ys.take n))) → Aside0 (Only w w' g) → wpList Try.prog ops Q rest (a.put o.dst (goInt (ys.take n).length)) w') : wpList Try.prog ops Q (o :: rest) a w := by
  obtain ⟨w', hrun, h1, h2⟩ := copy_run d s ho g p n c A m c2 mem ys hd hs hM hfit HC
  exact Kd.event_run hgd hrun (h w' ⟨h1⟩ ⟨h2⟩)
theorem copy_mem_step {Kc : Act → World → Prop} (hw : Region.wanted o (yielded ops a.tmps) = true) (d s : Operand) (ho : o.op = .call { callee := .builtin .copy, args := #[d, s], argTypes := #[37, 37] }) (g p n c : Nat) (A : Option Addr) (m c2 : Nat) (mem ys : List Int)
    (hd : a.eval d = .slice (some ⟨g, p, none⟩) n c) (hs : a.eval s = .slice A m c2) (hM : Mem w g mem) (hfit : p + n ≤ mem.length) (HC : Kd.C (Kd.int .u8) w A m ys)
    (h : ∀ w', Aside0 (Mem w' g (splice mem p (ys.take n))) → Aside0 (Only w w' g) → Kc (a.put o.dst (goInt (ys.take n).length)) w') : if Region.wanted o (yielded ops a.tmps) = true then Oper.wp Try.prog o a w Kc Q else Kc (a.put o.dst undef) w := by
  obtain ⟨w', hrun, h1, h2⟩ := copy_run d s ho g p n c A m c2 mem ys hd hs hM hfit HC
  exact event_step hw hrun (h w' ⟨h1⟩ ⟨h2⟩)
end
end Go.Proofs.Ytpdggoapjbjmhaa.Cp
/- A range over a function whose body always goes on, where the iterator keeps cells of its own: the statement's law, the walk of a round. -/
set_option linter.unusedVariables false
set_option linter.unusedSimpArgs false
namespace Go.Proofs.Ytpdggoapjbjmhaa.Rf
open Go.RowKit Go.Proofs.YtpdggoapjbjmhaaW.PrintLast
/-- Cells that are not the iterator's own stand; below 'base' all stands. -/
structure St (base : Nat) (own : Nat → Prop) (A B : World) : Prop where
  below : Below base A B
  same : ∀ b o, A.heap[b]? = some o → o.isCells = true → ¬ own b → B.heap[b]? = some o
section
variable {base : Nat} {own : Nat → Prop} {A B C : World}
theorem St.refl : St base own A A := ⟨Below.refl _ _, fun _ _ h _ _ => h⟩
theorem St.trans (h : St base own A B) (k : St base own B C) : St base own A C := ⟨h.below.trans k.below, fun b o hb hc hn => k.same b o (h.same b o hb hc hn) hc hn⟩
theorem St.alloc (hb : base ≤ A.heap.size) (o : Obj) : St base own A (A.alloc o) := ⟨(Below.refl _ _).alloc hb o, fun b o' h _ _ => (Below.heap_alloc A o b (Array.getElem?_eq_some_iff.1 h).1).trans h⟩
theorem St.drew : St base own A A.drew := ⟨(Below.refl _ _).drew, fun _ _ h _ _ => h⟩
theorem St.putObj {l : Nat} {o : Obj} (hl : A.heap[l]? = some o) (ho : o.isCells = false) (hb : base ≤ l) (o' : Obj) : St base own A (A.putObj l o') :=
  ⟨⟨rfl, rfl, rfl, Nat.le_of_eq World.putObj_size.symm, fun k hk => World.putObj_heap_other (by omega)⟩, fun b p h hc _ => by
    refine (World.putObj_heap_other ?_).trans h
    intro e
    subst e
    rw [hl] at h
    cases h
    rw [ho] at hc
    cases hc⟩
theorem St.setOwn {a : Addr} (h : own a.block) (hb : base ≤ a.block) (v : Value) : St base own A (A.setCell a v) :=
  ⟨(Below.refl _ _).setCell hb v, fun b o hb hc hn => (Below.heap_setCell A a v b (by intro e; subst e; exact hn h)).trans hb⟩
end
/-- What an iterator does between two rounds: all but its own cells stands. -/
structure It (base : Nat) (own : Nat → Prop) (A B : World) : Prop where
  below : Below base A B
  same : ∀ b o, A.heap[b]? = some o → ¬ own b → B.heap[b]? = some o
section
variable {base : Nat} {own : Nat → Prop} {A B C : World}
theorem It.st (h : It base own A B) : St base own A B := ⟨h.below, fun b o hb _ hn => h.same b o hb hn⟩
theorem It.refl : It base own A A := ⟨Below.refl _ _, fun _ _ h _ => h⟩
theorem It.trans (h : It base own A B) (k : It base own B C) : It base own A C := ⟨h.below.trans k.below, fun b o hb hn => k.same b o (h.same b o hb hn) hn⟩
theorem It.alloc (hb : base ≤ A.heap.size) (o : Obj) : It base own A (A.alloc o) := ⟨(Below.refl _ _).alloc hb o, fun b o' h _ => (Below.heap_alloc A o b (Array.getElem?_eq_some_iff.1 h).1).trans h⟩
theorem It.drew : It base own A A.drew := ⟨(Below.refl _ _).drew, fun _ _ h _ => h⟩
theorem It.new (h : Below A.heap.size A B) (hb : base ≤ A.heap.size) : It base own A B := ⟨h.mono hb, fun b o hb _ => (h.block b (Array.getElem?_eq_some_iff.1 hb).1).trans hb⟩
theorem It.setOwn {a : Addr} (h : own a.block) (hb : base ≤ a.block) (v : Value) : It base own A (A.setCell a v) :=
  ⟨(Below.refl _ _).setCell hb v, fun b o hb hn => (Below.heap_setCell A a v b (by intro e; subst e; exact hn h)).trans hb⟩
end
/-- What a round says to the iterator. -/
structure Rd (base : Nat) (own : Nat → Prop) (A B : World) : Prop where
  below : Below base A B
  own : ∀ b, own b → B.heap[b]? = A.heap[b]?
section
variable {base : Nat} {own : Nat → Prop} {A B C : World}
theorem Rd.trans (h : Rd base own A B) (k : Rd base own B C) : Rd base own A C := ⟨h.below.trans k.below, fun b hb => (k.own b hb).trans (h.own b hb)⟩
theorem Rd.putObj {l : Nat} (hb : base ≤ l) (hn : ¬ own l) (o' : Obj) : Rd base own A (A.putObj l o') :=
  ⟨⟨rfl, rfl, rfl, Nat.le_of_eq World.putObj_size.symm, fun k hk => World.putObj_heap_other (by omega)⟩, fun b h => World.putObj_heap_other (by intro e; subst e; exact hn h)⟩
end
/-- What an iterator answers: it calls yield N times, by turns. -/
def Iter (P : Program) (gf : FuncId) (lb : Array Value) (base : Nat) (own : Nat → Prop) (N : Nat) (Arg : Nat → World → Value → Prop) (w0 : World) : Prop :=
  ∀ (l : Nat) (J : Nat → World → Prop) (W : World), Below w0.heap.size w0 W → w0.heap.size ≤ W.heap.size → (∀ k A B, J k A → It base own A B → J k B) →
    (∀ k v W1, J k W1 → k < N → Arg k W1 v → YieldAt Fence.wide 0 P l #[v] W1 fun e W' => e = .returned (.bool true) ∧ J (k + 1) W' ∧ Rd base own W1 W') → J 0 W →
    CallsIn Fence.wide 0 P gf (#[.func (.yield l) #[] #[]] ++ lb) W fun e W' => (∃ v, e = .returned v) ∧ J N W'
/-- How a round ends. -/
def RoundEnd (base : Nat) (own : Nat → Prop) (I : World → Prop) (W : World) : Exit → Act → World → Prop
  | .normal, _, W' => I W' ∧ Rd base own W W' ∧ KeepsOthers W W'
  | _, _, _ => False
variable {P : Program}
/-- The statement. -/
theorem range_ {g : Operand} {ps : Array Tmp} {assign body : Code} {Q : Exit → Act → World → Prop} {a : Act} {w : World} {gf : FuncId} {lb : Array Value} (hg : a.eval g = .func (.func gf) #[] lb) (eg : ∀ args w, (callFunc gf args).run P w = .ok (.enter gf args) w) (hps : ps.size = 1)
    {base : Nat} {own : Nat → Prop} {N : Nat} {Arg : Nat → World → Value → Prop} (hb : base ≤ w.heap.size) (hown : ∀ b, own b → b < w.heap.size) (hseq : Iter P gf lb base own N Arg w) (hA : ∀ k v A B, Arg k A v → St base own A B → Arg k B v)
    (I : Nat → World → Prop) (hI : ∀ k A B, I k A → St base own A B → I k B) (h0 : I 0 w)
    (hround : ∀ (l k : Nat) (v : Value) (W : World), I k W → k < N → Arg k W v → assign.wpIn (Fence.wide.inRound l) 0 P (Exit.then (fun a₁ W1 => W1 = W ∧ ∀ W2, I k W2 → Arg k W2 v → w.heap.size < W2.heap.size → body.wpIn (Fence.wide.inRound l) 0 P (RoundEnd base own (I (k + 1)) W2) a₁ W2) (fun _ _ _ => False)) { tmps := (ps.zip #[v]).foldl (fun t (p, v) => t.setIfInBounds p v) a.tmps, defers := [] } W)
    (hdone : ∀ (D : Nat) (W : World), I N W → w.heap.size ≤ D → W.heap[D]? = some (.deferred (some [])) → Q .normal { a with defers := { target := .collected D, args := #[] } :: a.defers } W) :
    (Code.rangeFunc g ps assign body).wp P Q a w := by
  refine wpIn_wide (n := 0) |>.1 (wpIn_rangeFunc ?_)
  intro fn hfn
  obtain ⟨rec, hrec⟩ : ∃ rec : LoopState → Option Code → Loop, rec = fun st pe => { state := st, pending := pe, fn, tmps := a.tmps, params := ps, assign, body, defers := w.heap.size } := ⟨_, rfl⟩
  obtain ⟨W1, hW1⟩ : ∃ W1, (w.alloc (.deferred (some []))).alloc (.loop (rec .ready none)) = W1 := ⟨_, rfl⟩
  have hL1 : W1.heap[w.heap.size + 1]? = some (.loop (rec .ready none)) := by
    rw [← hW1]
    have := World.alloc_heap_new (w.alloc (.deferred (some []))) (.loop (rec .ready none))
    rwa [World.size_alloc] at this
  have hK1 : W1.heap[w.heap.size]? = some (.deferred (some [])) := by
    rw [← hW1]
    exact (Below.heap_alloc _ _ _ (by simp)).trans (World.alloc_heap_new w _)
  have hI1 : I 0 W1 := by rw [← hW1]; exact hI 0 _ _ (hI 0 _ _ h0 (St.alloc hb _)) (St.alloc (by simp; omega) _)
  have hb1 : Below w.heap.size w W1 := by rw [← hW1]; exact (((Below.refl _ w).alloc (Nat.le_refl _) _).alloc (by simp) _)
  have hcalls : ∀ f', Target.leads P W1 (.fn (.func gf) lb) #[.func (.yield (w.heap.size + 1)) #[] #[]] = some f' → Fence.wide.fn f' := fun _ _ => trivial
  refine ⟨w.heap.size + 1, [{ target := .collected w.heap.size, args := #[] }], W1, { target := .fn (.func gf) lb, args := #[.func (.yield (w.heap.size + 1)) #[] #[]] }, W1, gf,
    #[.func (.yield (w.heap.size + 1)) #[] #[]] ++ lb, W1, ?_, ?_, fun _ _ => trivial, ?_, (fun h => by cases h), ?_⟩
  · rw [← hW1, hrec]
    exact run_enterLoop_outer _ _ _ _ _
  · simp only [resolve, hg]
    simp [go_sem]
  · simp [invoke, go_sem, eg]
  · refine (hseq (w.heap.size + 1) (fun k W => I k W ∧ w.heap.size + 1 < W.heap.size ∧ W.heap[w.heap.size + 1]? = some (.loop (rec .ready none)) ∧ W.heap[w.heap.size]? = some (.deferred (some []))) W1 hb1 hb1.size ?_ ?_ ⟨hI1, (Array.getElem?_eq_some_iff.1 hL1).1, hL1, hK1⟩).mono ?_
    · rintro k A B ⟨h1, h2, h3, h4⟩ hI2
      exact ⟨hI k A B h1 hI2.st, Nat.lt_of_lt_of_le h2 hI2.below.size, hI2.same _ _ h3 (fun h => by have := hown _ h; omega), hI2.same _ _ h4 (fun h => by have := hown _ h; omega)⟩
    · rintro k v W ⟨hi, hlt, hl, hk⟩ hkN hArg
      have hy := run_yield (P := P) (args := #[v]) hl (by rw [hrec]; simp [hps])
      rw [hrec] at hy
      have hn1 : ¬ own (w.heap.size + 1) := fun h => by have := hown _ h; omega
      have hl2 : (W.putObj (w.heap.size + 1) (.loop { rec .ready none with state := .busy })).heap[w.heap.size + 1]? = some (.loop { rec .ready none with state := .busy }) := World.putObj_heap_same hlt
      have hk2 : (W.putObj (w.heap.size + 1) (.loop { rec .ready none with state := .busy })).heap[w.heap.size]? = some (.deferred (some [])) := (World.putObj_heap_other (by omega)).trans hk
      have hst : St base own W (W.putObj (w.heap.size + 1) (.loop { rec .ready none with state := .busy })) := St.putObj hl rfl (by omega) _
      have hrd : Rd base own W (W.putObj (w.heap.size + 1) (.loop { rec .ready none with state := .busy })) := Rd.putObj (by omega) hn1 _
      refine ⟨fn, _, assign, body, hy, roundIn_of_wpIn trivial (wpIn_mono (hround _ k v W hi hkN hArg) ?_)⟩
      intro e0 a0 W0 hp0
      cases e0 with
      | normal => ?_
      | ret => exact hp0.elim
      | exit id => exact hp0.elim
      | goto t => exact hp0.elim
      | panic ch => exact hp0.elim
      | outgrown => exact hp0.elim
      obtain ⟨rfl, hbody⟩ := hp0
      refine ⟨_, run_beginRound hl (by rw [hrec]), ?_⟩
      refine wpIn_mono (hbody _ (hI k _ _ hi hst) (hA k v _ _ hArg hst) (by rw [World.putObj_size]; omega)) ?_
      rintro e a3 W3 hp
      cases e with
      | normal =>
        obtain ⟨hi3, hr3, hk3⟩ := hp
        have hl3 := hk3.same _ _ hl2 rfl
        have hr := run_endRound (P := P) none hl3
        rw [hrec] at hr hl3
        have hlt3 : w.heap.size + 1 < W3.heap.size := (Array.getElem?_eq_some_iff.1 hl3).1
        refine ⟨_, _, hr, rfl, ⟨hI _ _ _ hi3 (St.putObj hl3 rfl (by omega) _), by rw [World.putObj_size]; exact hlt3, ?_, ?_⟩, (hrd.trans hr3).trans (Rd.putObj (by omega) hn1 _)⟩
        · rw [hrec]
          exact World.putObj_heap_same hlt3
        · exact (World.putObj_heap_other (by omega)).trans (hk3.same _ _ hk2 rfl)
      | ret => exact hp.elim
      | exit id => exact hp.elim
      | goto t => exact hp.elim
      | panic ch => exact hp.elim
      | outgrown => exact hp.elim
    · rintro e W2 ⟨⟨v, rfl⟩, hi, hlt, hl, hk⟩
      have hr := run_endLoop (P := P) hl (by rw [hrec]; simp)
      rw [hrec] at hr hl
      exact ⟨none, _, hr, hdone _ _ (hI _ _ _ hi (St.putObj hl rfl (by omega) _)) (Nat.le_refl _) ((World.putObj_heap_other (by omega)).trans hk)⟩
/-! ### A round is walked as any code is -/
def calm : Op → Bool
  | .defer _ => false
  | _ => true
theorem calm_ne {o : Op} (h : calm o = true) (c : Call) : o ≠ .defer c := by
  rintro rfl
  cases h
theorem rows_ {n : Nat} {l : Nat} {row : String} {args : Array Value} {w : World} {R : Value → World → Prop} (h : Rows P row args w R) : RowsIn (Fence.wide.inRound l) n P row args w R :=
  fun c cs _ => let ⟨v, w', r, s⟩ := h c cs; ⟨v, w', r, stepsIn_wide.2 s⟩
theorem oper_ {l n : Nat} {o : Oper} {a : Act} {w : World} {K : Act → World → Prop} {Q : Exit → Act → World → Prop} (hc : calm o.op = true) (h : o.wp P a w K Q) : o.wpIn (Fence.wide.inRound l) n P a w K Q := by
  refine ⟨fun _ _ => trivial, ?_⟩
  have e : o.semAt (Fence.wide.inRound l).round a.eval = execOp a.eval o := Oper.semAt_some l a.eval o (calm_ne hc)
  rw [e]
  unfold Oper.wp at h
  generalize (execOp a.eval o).run P w = r at h ⊢
  cases r with
  | ok x w1 =>
    cases x with
    | value v => exact h
    | skip => exact h
    | defer d => exact h
    | enter f args => exact ⟨(fun h => by cases h), (callsIn_wide.2 h).mono fun e w2 h2 => by cases e <;> exact h2⟩
    | row row args => exact ⟨(fun h => by cases h), rows_ h⟩
    | round l f tmps assign body => exact h.elim
    | _ => exact h.elim
  | halt s w1 =>
    cases s with
    | panic v => exact h
    | _ => exact h.elim
theorem list_ {l n : Nat} {ops : Array Oper} {Q : Exit → Act → World → Prop} (hQ : ∀ a w, ¬ Q .outgrown a w) : ∀ (rest : List Oper) (a : Act) (w : World), rest.all (fun o => calm o.op) = true → wpList P ops Q rest a w → wpListIn (Fence.wide.inRound l) n P ops Q rest a w
  | [], a, w, _, h => h
  | o :: rest, a, w, hc, h => by
    rw [List.all_cons, Bool.and_eq_true] at hc
    unfold wpList at h
    unfold wpListIn
    by_cases hw : Region.wanted o (yielded ops a.tmps) = true
    · rw [if_pos hw] at h ⊢
      rcases h with h | ⟨-, a0, w0, h⟩
      · exact oper_ hc.1 (Oper.wp_mono (fun a' w' h' => list_ hQ rest a' w' hc.2 h') h)
      · exact absurd h (hQ a0 w0)
    · rw [if_neg hw] at h ⊢
      exact ⟨fun _ _ => trivial, list_ hQ rest _ w hc.2 h⟩
/-- A plain region in a round. -/
theorem region_ {l n id : Nat} {ops : List Oper} {Q : Exit → Act → World → Prop} {a : Act} {w : World} (hQ : ∀ a w, ¬ Q .outgrown a w) (hc : ops.all (fun o => calm o.op) = true) (h : wpList P ops.toArray Q ops a w) : (Code.region id ops.toArray false).wpIn (Fence.wide.inRound l) n P Q a w :=
  wpIn_region_lit (list_ hQ ops a w hc h)
theorem any_ {l n : Nat} {md : Region.Mode} {ops : Array Oper} {Q : Exit → Act → World → Prop} (hQ : ∀ a w, ¬ Q .outgrown a w) (hc : ∀ (i : Nat) (o : Oper), ops[i]? = some o → calm o.op = true) : ∀ (fuel : Nat) (listed : Array Bool) (a : Act) (w : World), wpAny P md ops Q fuel listed a w → wpAnyIn (Fence.wide.inRound l) n P md ops Q fuel listed a w
  | 0, _, _, _, h => h
  | fuel + 1, listed, a, w, h => ⟨h.1, fun i hi => by
    have h2 := h.2 i hi
    unfold wpOp at h2
    unfold wpOpIn
    cases ho : ops[i]? with
    | none =>
      rw [ho] at h2
      exact any_ hQ hc fuel _ a w h2
    | some o =>
      rw [ho] at h2
      simp only at h2 ⊢
      by_cases hw : Region.wanted o (yielded ops a.tmps) = true
      · rw [if_pos hw] at h2 ⊢
        rcases h2 with h2 | ⟨-, a0, w0, h2⟩
        · exact oper_ (hc i o ho) (Oper.wp_mono (fun a' w' h' => any_ hQ hc fuel _ a' w' h') h2)
        · exact absurd h2 (hQ a0 w0)
      · rw [if_neg hw] at h2 ⊢
        exact ⟨fun _ _ => trivial, any_ hQ hc fuel _ _ w h2⟩⟩
/-- A region that draws its order, in a round: its beginning. -/
theorem start_ {S : World → Prop} {ds : List Nat} {l0 id m : Nat} {ops : Array Oper} {Q : Exit → Act → World → Prop} {a : Act} {w : World} (hQ : ∀ a w, ¬ Q .outgrown a w) (hc : ops.toList.all (fun o => calm o.op) = true) {n : Nat} (l : Array Bool) (hm : P.follows .mixedOrders = true) (hn : ops.size = n) (hl : Array.replicate n false = l) (hS : S w.drew)
    (h : S w.drew → wpAnyLast P .any ops Q S ds n l a w.drew) : (Code.region id ops true).wpIn (Fence.wide.inRound l0) m P Q a w := by
  subst hn
  subst hl
  refine wpIn_region_any hm (any_ hQ (fun i o ho => ?_) _ _ _ _ (wpAny_of_last _ _ _ _ (h hS)))
  rw [List.all_eq_true] at hc
  obtain ⟨hi, e⟩ := Array.getElem?_eq_some_iff.1 ho
  exact hc o (by rw [← e]; exact Array.getElem_mem_toList hi)
end Go.Proofs.Ytpdggoapjbjmhaa.Rf
/- Sums by a table; the table that the program makes: walks. -/
set_option linter.unusedVariables false
set_option linter.unusedSimpArgs false
namespace Go.Proofs.Ytpdggoapjbjmhaa.Sum
open Go.RowKit Go.Proofs.YtpdggoapjbjmhaaW.PrintWords Go.Proofs.YtpdggoapjbjmhaaW.PrintLast Go.Proofs.YtpdggoapjbjmhaaW.PrintMore
theorem more_tab (g : Nat) (T : Nat → Nat) (hT : ∀ i, i < 256 → T i < 4294967296) (c : Nat) (hc : c < 4294967296) (A : Option Addr) (cap : Nat) (l : List Int) (w : World) (hcell : ∀ i, i < 256 → w.cell? ⟨g, i, none⟩ = some (.int .u32 (T i : Nat)))
    (hr : Kd.C (Kd.int .u8) w A l.length l) (hm : l.length ≤ 140737488351232) (hl : ∀ x ∈ l, 0 ≤ x ∧ x < 256) :
    Calls Try.prog 62 #[.pointer (some ⟨g, 0, none⟩), .int .u32 c, .slice A l.length cap] w fun e w' => e = .returned (.int .u32 (crcT T c l : Nat)) ∧ w = w' := by
  have HR := Aside0.mk hr
  have HL := Aside0.mk hl
  have HT := Aside0.mk hT
  have HC := Aside0.mk hcell
  have hn := Bits.not32 c hc
  clear hr hl hT hcell
  go_enter Try.func62, Try.ntmps62
  go_wp2
  clear hn
  go_loop [1, 14] (fun v i => ∃ k s : Nat, k ≤ l.length ∧ s < 4294967296 ∧ i = .int .i64 k ∧ v = .int .u32 s ∧ Aside0 (s = Bits.runT T (4294967295 - c) ((l.take k).map Int.toNat))) (fun _ i => l.length - (intOf i).toNat)
  case atStart => exact ⟨0, 4294967295 - c, by omega, by omega, rfl, rfl, ⟨by simp; rfl⟩⟩
  case round =>
    obtain ⟨k, s, hk, hs, rfl, rfl, HS⟩ := hrel
    by_cases hlt : k < l.length
    · obtain ⟨ad, e, hx⟩ := Kd.at_int HR.out (k : Int) (by omega) (by omega)
      cases e
      obtain ⟨x, hx1, hx2, hx3⟩ := rd_nat l HL.out k hlt
      have HX3 := Aside0.mk hx3
      clear hx3
      rw [hx1, Int.toNat_natCast] at hx
      clear hx1
      have hb := Bits.xor8 s x hx2
      have hb2 := Bits.xor8_lt s x hx2
      have hb3 := Bits.stepT_32 T HT.out s x hs hx2
      have hcl := HC.out (s % 256 ^^^ x) hb2
      obtain ⟨y, hy⟩ : ∃ y, y = s % 256 ^^^ x := ⟨_, rfl⟩
      rw [← hy] at hb hb2 hb3 hcl
      clear hy
      go_wp2
      clear hb hb3 hcl
      go_round
      case rel => exact ⟨k + 1, Bits.stepT T s x, by omega, Bits.stepT_lt T HT.out s x hs hx2, by go_num, rfl, ⟨by rw [HX3.out, Bits.runT_append, ← HS.out]; rfl⟩⟩
      case measure => simp [intOf]; omega
    · have HE : Aside0 (s = Bits.runT T (4294967295 - c) (l.map Int.toNat)) := ⟨by have h := HS.out; rwa [List.take_of_length_le (by omega)] at h⟩
      have hn := Bits.not32 s hs
      go_wp2
      go_ret
      exact ⟨by unfold crcT; rw [← HE.out]; rfl, rfl⟩
theorem crc_tab (g : Nat) (T : Nat → Nat) (hT : ∀ i, i < 256 → T i < 4294967296) (A : Option Addr) (cap : Nat) (l : List Int) (w : World) (hcell : ∀ i, i < 256 → w.cell? ⟨g, i, none⟩ = some (.int .u32 (T i : Nat)))
    (hr : Kd.C (Kd.int .u8) w A l.length l) (hm : l.length ≤ 140737488351232) (hl : ∀ x ∈ l, 0 ≤ x ∧ x < 256) :
    Calls Try.prog 45 #[.pointer (some ⟨g, 0, none⟩), .slice A l.length cap] w fun e w' => e = .returned (.int .u32 (crcT T 0 l : Nat)) ∧ w = w' := by
  have HR := Aside0.mk hr
  have HL := Aside0.mk hl
  have HT := Aside0.mk hT
  have HC := Aside0.mk hcell
  clear hr hl hT hcell
  go_enter Try.func45, Try.ntmps45
  go_wp2_with (go_at_call 62; refine (more_tab g T HT.out 0 (by omega) _ _ l _ HC.out HR.out hm HL.out).mono ?_; rintro e w' ⟨rfl, rfl⟩)
  go_ret
  exact ⟨rfl, rfl⟩
theorem zeroTab (w : World) : (zeroValue 88).run Try.prog w = .ok (.agg (Bits.tab fun _ => 0)) w := by
  have h : (Try.prog.info? 88).map (·.zero) = some (some (.agg (Array.replicate 256 (.int .u32 0)))) := by kernel_rfl
  have e : (Bits.tab fun _ => 0) = Array.replicate 256 (Value.int .u32 0) := by
    apply Array.ext
    · simp [Bits.tab]
    · intro j h1 h2; simp [Bits.tab]
  rw [e]
  cases hi : Try.prog.info? 88 with
  | none => rw [hi] at h; simp at h
  | some i =>
    rw [hi] at h
    have hz : i.zero = some (.agg (Array.replicate 256 (.int .u32 0))) := by simpa using h
    simp [zeroValue, typeInfo, hi, hz]
theorem tabSize (T : Nat → Nat) : (Try.prog.info? 88).map (·.size) = some (Bits.tab T).size := by
  rw [Bits.tab_size]; kernel_rfl
theorem tabOne (T : Nat → Nat) : (Bits.tab T).all (·.oneCell') = true := by
  rw [Array.all_eq_true]
  intro i h
  simp [Bits.tab, Value.oneCell']
/-- The table, so far. -/
def part (k : Nat) : Nat → Nat := fun i => if i < k then Crc.iter 8 i else 0
theorem part_step (k : Nat) (h : k < 256) : (Bits.tab (part k)).setIfInBounds k (.int .u32 (Crc.iter 8 k : Nat)) = Bits.tab (part (k + 1)) := by
  rw [Bits.tab_set _ _ _ h]
  apply Bits.tab_congr
  intro i hi
  unfold part
  by_cases e : i = k
  · subst e; simp
  · have : i < k ↔ i < k + 1 := by omega
    simp [e, this]
set_option maxHeartbeats 400000 in
set_option maxRecDepth 100000 in
theorem make_any (w : World) : Calls Try.prog 51 #[] w fun e w' => e = .returned (.agg (Bits.tab (Crc.iter 8))) ∧ Below w.heap.size w w' := by
  have hz := zeroTab
  go_enter Try.func51, Try.ntmps51
  go_wp2
  go_loopw [2, 3] (fun u i wr => ∃ k : Nat, k ≤ 256 ∧ i = .int .i64 k ∧ Aside0 (wr.heap[w.heap.size]? = some (.cells (Bits.tab fun _ => 0) 88 (0, 0))) ∧ Aside0 (wr.heap[w.heap.size + 1]? = some (.cells (Bits.tab (part k)) 88 (0, 0))) ∧ Below w.heap.size w wr) (fun _ i _ => 256 - (intOf i).toNat)
  case atStart => exact ⟨0, by omega, rfl, ⟨by rw [heap_alloc2_old]⟩, ⟨by rw [heap_alloc2_new]; rfl⟩, below_alloc (below_alloc (Below.refl _ _) _) _⟩
  case round =>
    obtain ⟨k, hk, rfl, H1, H2, HB⟩ := hrel
    by_cases hlt : k < 256
    · have hc : wr.cell? ⟨w.heap.size + 1, k, none⟩ = some (.int .u32 (part k k : Nat)) := by rw [cell_of_row _ _ _ _ _ _ H2.out]; exact Bits.tab_at _ _ hlt
      have hf : wr.frozen? ⟨w.heap.size + 1, k, none⟩ = false := frozen_of_row _ _ _ _ _ H2.out
      have hs1 := HB.size
      go_wp2_with (go_at_call 70; refine (entry_nat k (by omega) _).mono ?_; rintro e w' ⟨rfl, rfl⟩)
      clear hc hf
      go_roundw
      case rel =>
        refine ⟨k + 1, by omega, by go_num, ⟨?_⟩, ⟨?_⟩, ?_⟩
        · rw [heap_setCell_other _ _ _ _ (by simp)]; exact H1.out
        · rw [heap_setCell_same _ _ _ _ _ _ H2.out, part_step k hlt]
        · exact HB.setCell (by simp) _
      case measure => simp [intOf]; omega
    · have h256 : part k = part 256 := by rw [show k = 256 from by omega]
      have H2' : Aside0 (wr.heap[w.heap.size + 1]? = some (.cells (Bits.tab (Crc.iter 8)) 88 (0, 0))) := ⟨by
        rw [H2.out, h256, Bits.tab_congr (part 256) (Crc.iter 8) (fun i hi => by unfold part; rw [if_pos hi])]⟩
      clear h256 H2
      go_wp2_with (first | (refine wpList_load_row rfl 88 (Operand.tmp 1) rfl (w.heap.size + 1) rfl _ _ _ _ H2'.out Try.underlying88 rfl (tabSize _) ?_) | (refine wpList_store_row rfl 88 (Operand.tmp 0) (Operand.tmp 12) rfl w.heap.size (Bits.tab (Crc.iter 8)) rfl rfl _ _ H1.out (tabSize _) (by rw [Bits.tab_size, Bits.tab_size]) (tabOne _) ?_))
      have hg : (wr.setRow w.heap.size (Bits.tab (Crc.iter 8))).heap[w.heap.size]? = some (.cells (Bits.tab (Crc.iter 8)) 88 (0, 0)) := setRow_heap _ _ _ _ _ _ H1.out
      refine bodyPost_ret (v := .agg (Bits.tab (Crc.iter 8))) (results_cell_row Try.results51 _ _ w.heap.size 88 _ _ _ rfl hg Try.underlying88 rfl (tabSize _)) rfl ⟨rfl, ?_⟩
      exact below_setRow HB (Nat.le_refl _) _
theorem crc_made (l : List Int) (hl : ∀ x ∈ l, 0 ≤ x ∧ x < 256) : crcT (Crc.iter 8) 0 l = crc 0 l := by
  unfold crcT crc
  rw [Bits.runT_good (Crc.iter 8) (fun _ _ => rfl) _ _ (fun x hx => by
    obtain ⟨y, hy, rfl⟩ := List.mem_map.1 hx
    have := hl y hy
    omega)]
end Go.Proofs.Ytpdggoapjbjmhaa.Sum
