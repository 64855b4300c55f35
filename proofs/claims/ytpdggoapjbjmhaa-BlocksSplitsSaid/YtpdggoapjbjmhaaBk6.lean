/- Whole numbers of the call's own: what append leaves. -/
import Derived.Test.YtpdggoapjbjmhaaRow
set_option linter.unusedVariables false
set_option linter.unusedSimpArgs false
namespace Go.Proofs.Ytpdggoapjbjmhaa.Bk
open Go.RowKit Go.Proofs.YtpdggoapjbjmhaaW.PrintWords Go.Proofs.YtpdggoapjbjmhaaW.PrintLast Go.Proofs.YtpdggoapjbjmhaaW.PrintMore
/-- Whole numbers of the call's own. -/
def OwnI (W : World) (base : Nat) (v : Value) (xs : List Int) : Prop := Kd.R (Kd.int .i64) 3 W base (fun _ => True) v xs
theorem infoI : (Try.prog.info? 3).map (fun i => (i.zero, i.size, i.bytes)) = some (some (.int .i64 0), 1, 8) := by kernel_rfl
theorem OwnI.below {W W1 : World} {base : Nat} {v : Value} {xs : List Int} (h : OwnI W base v xs) (hb : Below W.heap.size W W1) : OwnI W1 base v xs := Kd.R_below h hb
theorem OwnI.nil (W : World) (base : Nat) : OwnI W base (.slice none 0 0) [] := Kd.R_nil _ _ _ _ _
theorem OwnI.slice {W : World} {base : Nat} {v : Value} {xs : List Int} (h : OwnI W base v xs) : ∃ A c, v = .slice A xs.length c ∧ xs.length ≤ c ∧ Kd.C (Kd.int .i64) W A xs.length xs := Kd.R_reads h
theorem OwnI.lit (W : World) (base : Nat) (inner : Array Value) (xs : List Int) (h : inner.toList = nums .i64 xs) (hb : base ≤ W.heap.size) (hm : xs.length ≤ 1000000) : OwnI (W.alloc (.cells inner 3)) base (.slice (some ⟨W.heap.size, 0, none⟩) xs.length xs.length) xs := by
  have hsz : inner.size = xs.length := by rw [← Array.length_toList, h, nums_length]
  have h2 := World.ownsRow_lit (base := base) (e := 3) (size := 1) W inner xs.length hb (by simp only [maxLen]; omega) (by rw [hsz, Nat.mul_one])
  refine Kd.R_of_own ?_ (fun _ _ => trivial)
  rw [h] at h2
  exact h2
section
variable {ops : Array Oper} {rest : List Oper} {o : Oper} {a : Act} {Q : Exit → Act → World → Prop}
theorem app_ints {w0 W : World} (base : Nat) (hgd : o.guard = none) (s x : Operand) (ho : o.op = .call { callee := .builtin .append, args := #[s, x], argTypes := #[32, 32] })
    (v : Value) (xs ys : List Int) (A : Option Addr) (m c : Nat) (hs : a.eval s = v) (hx : a.eval x = .slice A m c) (HO : OwnI W base v xs) (HR : Kd.C (Kd.int .i64) W A m ys)
    (HB : Below base w0 W) (hbase : base ≤ W.heap.size) (hl : xs.length + m ≤ 1000000)
    (h : ∀ (zs : List Int) (A1 : Option Addr) (c1 : Nat) (w1 : World), Aside0 (zs = xs ++ ys) → Aside0 (OwnI w1 base (.slice A1 zs.length c1) zs) → Aside0 (zs.length = xs.length + m) → zs.length ≤ xs.length + m → zs.length ≤ c1 → Aside0 (Below base w0 w1) → wpList Try.prog ops Q rest (a.put o.dst (.slice A1 zs.length c1)) w1) : wpList Try.prog ops Q (o :: rest) a W := by
  have hm : ys.length = m := HR.1
  refine Kd.R_append_rows (Kd.int .i64) (w0 := w0) base hgd s x 32 3 (.int .i64 0) 8 ho Try.underlying32 infoI rfl (by decide) (by decide) v xs ys A m c (fun _ => True) (fun _ => False) hs hx HO HR (fun _ _ h => h) (fun _ h => h.elim) (fun _ _ => trivial) HB hbase (by omega) ?_
  intro v1 w1 h1 h2 h3 h4
  obtain ⟨A1, c1, rfl, hle, hC⟩ := Kd.R_reads h1
  exact h (xs ++ ys) A1 c1 w1 ⟨rfl⟩ ⟨h1⟩ ⟨by rw [List.length_append, hm]⟩ (by rw [List.length_append, hm]; exact Nat.le_refl _) hle ⟨h2⟩
end
end Go.Proofs.Ytpdggoapjbjmhaa.Bk
