/- An array of whole numbers held against another one; an array read or written as a whole: what the model's operations come to. -/
import Derived.WalkKit
import Derived.WalkLawsBesides
set_option linter.unusedVariables false
set_option linter.unusedSimpArgs false
namespace Go.Proofs.Ytpdggoapjbjmhaa.Arr
variable {P : Program}
theorem run_part_int (w : World) (e : TypeId) (k : IntKind) (he : P.underlying e = some (.int k)) (xs : Array Value) (i : Nat) (v : Value) (h : xs[i]? = some v) : (part e xs i).run P w = .ok v w := by
  have ha : (isAgg e).run P w = .ok false w := by
    unfold isAgg
    rw [Sem.run_bind, run_underlying he w]
    simp
  unfold part
  rw [Sem.run_bind, ha]
  simp [h]
theorem sizeOf_one (w : World) (e : TypeId) (hs : (P.info? e).map (·.size) = some 1) : (sizeOf e).run P w = .ok 1 w := by
  cases hi : P.info? e with
  | none => rw [hi] at hs; simp at hs
  | some i => rw [hi] at hs; simp at hs; simp [sizeOf, typeInfo, hi, hs]
/-- Two rows of numbers agree up to a place. -/
def eqUpTo (n : Nat) (X Y : Nat → Int) : Bool := decide (∀ i, i < n → X i = Y i)
theorem eqUpTo_iff {n : Nat} {X Y : Nat → Int} : eqUpTo n X Y = true ↔ ∀ i, i < n → X i = Y i := by unfold eqUpTo; rw [decide_eq_true_iff]
theorem run_equalIn_ints (w : World) (d : Nat) (t e : TypeId) (len : Nat) (k : IntKind) (xs ys : Array Value) (X Y : Nat → Int) (ht : P.underlying t = some (.array len e)) (he : P.underlying e = some (.int k)) (hs : (P.info? e).map (·.size) = some 1)
    (hq : ∀ w a b, (Op.equalIn d e (.int k a) (.int k b)).run P w = .ok (a == b) w)
    (hx : ∀ i, i < len → xs[i]? = some (.int k (X i))) (hy : ∀ i, i < len → ys[i]? = some (.int k (Y i))) :
    (Op.equalIn (d + 1) t (.agg xs) (.agg ys)).run P w = .ok (eqUpTo len X Y) w := by
  unfold eqUpTo
  have hsz := sizeOf_one (P := P) w e hs
  simp only [Op.equalIn, Sem.run_bind, run_underlying ht, Result.andThen_ok, hsz]
  have key : ∀ (l : List Nat), (∀ i ∈ l, i < len) → (forIn (m := Sem) l ((none : Option Bool), ()) fun i __s => do
      let a ← part e xs (i * 1)
      let b ← part e ys (i * 1)
      let r ← Op.equalIn d e a b
      if (!r) = true then pure (ForInStep.done (some false, ())) else pure (ForInStep.yield (none, ()))).run P w = .ok (if ∀ i ∈ l, X i = Y i then none else some false, ()) w := by
    intro l
    induction l with
    | nil => intro _; simp
    | cons i l ih =>
      intro hl
      have hi := hl i (by simp)
      rw [List.forIn_cons]
      simp only [Sem.run_bind, Nat.mul_one, run_part_int w e k he xs i _ (hx i hi), run_part_int w e k he ys i _ (hy i hi), Result.andThen_ok, hq]
      by_cases hxy : X i = Y i
      · have h2 := ih (fun j hj => hl j (by simp [hj]))
        simp only [Nat.mul_one] at h2
        have hb : (X i == Y i) = true := by simp [hxy]
        have e2 : (∀ j, j ∈ i :: l → X j = Y j) ↔ ∀ j, j ∈ l → X j = Y j := by simp [hxy]
        simp only [hb, Bool.not_true, Bool.false_eq_true, if_false, Sem.run_pure, Result.andThen_ok, h2, e2]
      · have hb : (X i == Y i) = false := by simp [hxy]
        have e2 : ¬ ∀ j, j ∈ i :: l → X j = Y j := fun h => hxy (h i (by simp))
        simp only [hb, Bool.not_false, if_true, Sem.run_pure, Result.andThen_ok]
        rw [if_neg e2]
  have h := key (List.range' 0 len 1) (by intro i hi; simp at hi; omega)
  rw [Std.Legacy.Range.forIn_eq_forIn_range']
  simp only [Std.Legacy.Range.size, Nat.sub_zero, Nat.add_sub_cancel, Nat.div_one] at h ⊢
  rw [h]
  have e1 : (∀ i ∈ List.range' 0 len 1, X i = Y i) ↔ ∀ i, i < len → X i = Y i := by
    constructor
    · intro h i hi; exact h i (by simp; omega)
    · intro h i hi; exact h i (by simp at hi; omega)
  by_cases hh : ∀ i, i < len → X i = Y i
  · rw [if_pos (e1.2 hh), decide_eq_true hh]
    simp
  · rw [if_neg (fun hx => hh (e1.1 hx)), decide_eq_false hh]
    simp
/-- A whole array (or a struct) loaded, as one step. -/
theorem exec_load_row {o : Oper} {a : Act} {w : World} (ty : TypeId) (x : Operand) (ho : o.op = .load ty x)
    (g : Nat) (hx : a.eval x = .pointer (some ⟨g, 0, none⟩)) (t : TypeId) (cs : Array Value) (fr : Nat × Nat) (d : TypeDesc) (hg : w.heap[g]? = some (.cells cs t fr))
    (hu : P.underlying ty = some d) (hd : ((fun d => match d with | .struct _ | .array _ _ => true | _ => false) d : Bool) = true) (hi : (P.info? ty).map (·.size) = some cs.size) :
    (execOp a.eval o).run P w = .ok (.value (.agg cs)) w := by
  have h := run_loadVar_row (P := P) w g t ty cs fr d hg hu (by cases d <;> simp_all) hi
  unfold execOp
  simp only [ho, hx, Instr.loadAt, Instr.sureAddr, Sem.run_bind, Sem.run_pure, Result.andThen_ok, h]
end Go.Proofs.Ytpdggoapjbjmhaa.Arr
