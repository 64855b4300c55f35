/- Rows of bytes of the call's own: what append leaves, in short words. -/
import Derived.Test.YtogplkochcalpaaProg
import Derived.WalkKit
import Derived.Test.YtogplkochcalpaaWWords
import Derived.Test.YtogplkochcalpaaWLast
import Derived.Test.YtogplkochcalpaaWMore
set_option linter.unusedVariables false
set_option linter.unusedSimpArgs false
namespace Go.Proofs.Ytogplkochcalpaa.Row
open Go.RowKit Go.Proofs.YtogplkochcalpaaW.PrintWords Go.Proofs.YtogplkochcalpaaW.PrintLast Go.Proofs.YtogplkochcalpaaW.PrintMore
/-- v is a slice of the call's own (its blocks begin at 'base') with these bytes. -/
def OwnB (W : World) (base : Nat) (v : Value) (xs : List Int) : Prop := Kd.R (Kd.int .u8) 5 W base (fun _ => True) v xs
theorem info8 : (Try.prog.info? 5).map (fun i => (i.zero, i.size, i.bytes)) = some (some (.int .u8 0), 1, 1) := by kernel_rfl
theorem OwnB.below {W W1 : World} {base : Nat} {v : Value} {xs : List Int} (h : OwnB W base v xs) (hb : Below W.heap.size W W1) : OwnB W1 base v xs := Kd.R_below h hb
theorem OwnB.lower {W : World} {base base' : Nat} {v : Value} {xs : List Int} (h : OwnB W base v xs) (hb : base' ≤ base) : OwnB W base' v xs := Kd.R_lower h hb
theorem OwnB.nil (W : World) (base : Nat) : OwnB W base (.slice none 0 0) [] := Kd.R_nil _ _ _ _ _
/-- A literal of bytes. -/
theorem OwnB.lit (W : World) (base : Nat) (inner : Array Value) (xs : List Int) (h : inner.toList = nums .u8 xs) (hb : base ≤ W.heap.size) (hm : xs.length ≤ 140737488355328) : OwnB (W.alloc (.cells inner 5)) base (.slice (some ⟨W.heap.size, 0, none⟩) xs.length xs.length) xs := by
  have hsz : inner.size = xs.length := by rw [← Array.length_toList, h, nums_length]
  have h2 := World.ownsRow_lit (base := base) (e := 5) (size := 1) W inner xs.length hb (by simp only [maxLen]; omega) (by rw [hsz, Nat.mul_one])
  refine Kd.R_of_own ?_ (fun _ _ => trivial)
  rw [h] at h2
  exact h2
/-- What is owned is read. -/
theorem OwnB.reads {W : World} {base n c : Nat} {A : Option Addr} {xs : List Int} (h : OwnB W base (.slice A n c) xs) : n = xs.length ∧ n ≤ c ∧ Kd.C (Kd.int .u8) W A xs.length xs := Kd.R_reads' h
theorem OwnB.slice {W : World} {base : Nat} {v : Value} {xs : List Int} (h : OwnB W base v xs) : ∃ A c, v = .slice A xs.length c ∧ xs.length ≤ c ∧ Kd.C (Kd.int .u8) W A xs.length xs := Kd.R_reads h
theorem OwnB.grown {W W1 : World} {base : Nat} {v : Value} {xs : List Int} (h : OwnB W base v xs) {row : Option Nat} (hg : W.grownBy W1 row) (hne : v.ownBlock = none ∨ v.ownBlock ≠ row) : OwnB W1 base v xs := by
  obtain ⟨h0, inner, ho, hr⟩ := h
  exact ⟨h0, inner, own_other ho hg hne, hr⟩
section
variable {ops : Array Oper} {rest : List Oper} {o : Oper} {a : Act} {Q : Exit → Act → World → Prop}
/-- append(v, ys...): v of the call's own, ys read. -/
theorem app_rows {w0 W : World} (base : Nat) (hgd : o.guard = none) (s x : Operand) (ho : o.op = .call { callee := .builtin .append, args := #[s, x], argTypes := #[22, 22] })
    (v : Value) (xs ys : List Int) (A : Option Addr) (m c : Nat) (hs : a.eval s = v) (hx : a.eval x = .slice A m c) (HO : OwnB W base v xs) (HR : Kd.C (Kd.int .u8) W A m ys)
    (HB : Below base w0 W) (hbase : base ≤ W.heap.size) (hl : xs.length + m ≤ 140737488355328)
    (h : ∀ (zs : List Int) (A1 : Option Addr) (c1 : Nat) (w1 : World), Aside0 (zs = xs ++ ys) → Aside0 (OwnB w1 base (.slice A1 zs.length c1) zs) → Aside0 (zs.length = xs.length + m) → zs.length ≤ xs.length + m → zs.length ≤ c1 → Aside0 (Kd.C (Kd.int .u8) w1 A1 zs.length zs) → Aside0 (Below base w0 w1) → Aside0 (base ≤ w1.heap.size) → Aside0 (W.grownBy w1 v.ownBlock) →
      Aside0 ((Value.slice A1 zs.length c1).ownBlock = v.ownBlock ∨ ∃ b, (Value.slice A1 zs.length c1).ownBlock = some b ∧ W.heap.size ≤ b) → wpList Try.prog ops Q rest (a.put o.dst (.slice A1 zs.length c1)) w1) : wpList Try.prog ops Q (o :: rest) a W := by
  have hm : ys.length = m := HR.1
  refine Kd.R_append_rows (Kd.int .u8) (w0 := w0) base hgd s x 22 5 (.int .u8 0) 1 ho Try.underlying22 info8 rfl (by decide) (by decide) v xs ys A m c (fun _ => True) (fun _ => False) hs hx HO HR (fun _ _ h => h) (fun _ h => h.elim) (fun _ _ => trivial) HB hbase (by omega) ?_
  intro v1 w1 h1 h2 h3 h4
  obtain ⟨A1, c1, rfl, hle, hC⟩ := Kd.R_reads h1
  exact h (xs ++ ys) A1 c1 w1 ⟨rfl⟩ ⟨h1⟩ ⟨by rw [List.length_append, hm]⟩ (by rw [List.length_append, hm]; exact Nat.le_refl _) hle ⟨hC⟩ ⟨h2⟩ ⟨Nat.le_trans hbase h3.size⟩ ⟨h3⟩ ⟨h4⟩
end
end Go.Proofs.Ytogplkochcalpaa.Row
