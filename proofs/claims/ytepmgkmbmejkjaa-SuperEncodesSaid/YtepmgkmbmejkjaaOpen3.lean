/- An array of values as an argument of a row. -/
import Derived.Test.YtepmgkmbmejkjaaOpen2
set_option linter.unusedVariables false
set_option linter.unusedSimpArgs false
namespace Go.Proofs.Ytepmgkmbmejkjaa.Open
open Go.RowKit Go.Proofs.YtepmgkmbmejkjaaW.PrintWords
/-- A row of values in line. -/
def InLine {α : Type} (d : Kd α) (good : α → Prop) (n : Nat) (w : World) (xs : List α) (cs : List Value) : Prop :=
  xs.length = n ∧ cs.length = n * d.sz ∧ ∀ i v, xs[i]? = some v → d.K w v ((cs.drop (i * d.sz)).take d.sz) ∧ good v
theorem opens_array {α : Type} {P : Program} {t e : TypeId} {n : Nat} {d : Kd α} {good : α → Prop} (ht : P.underlying t = some (.array n e)) (hc : P.cellsOf e = d.sz) (hs : P.cellsOf t = n * d.sz) (he : Opens P e (fun w v cs => d.K w v cs ∧ good v)) :
    Opens P t (InLine d good n) :=
  ⟨fun enc w fuel cs x hx hw => by
    obtain ⟨ys, m, rfl, rfl, hl, hlen, hy⟩ := DataW.trod_array ht hx
    have each : ∀ i, i < n → ∃ v : α, d.K w v ((cs.drop (i * d.sz)).take d.sz) ∧ good v := by
      intro i hi
      have h1 := hy i hi
      rw [hc, List.getElem?_eq_getElem (by omega)] at h1
      exact he.out enc w m _ _ h1 (fun k hk => hw k (by
        rw [DataW.weights]
        simp only [ht]
        exact weights_all (d := ys[i].1) (List.mem_map_of_mem (List.getElem_mem (by omega))) k hk))
    have build : ∀ m, m ≤ n → ∃ xs : List α, xs.length = m ∧ ∀ i v, xs[i]? = some v → d.K w v ((cs.drop (i * d.sz)).take d.sz) ∧ good v := by
      intro m
      induction m with
      | zero => intro _; exact ⟨[], rfl, fun i v h => by simp at h⟩
      | succ m ih =>
        intro hm'
        obtain ⟨xs, hx1, hx2⟩ := ih (by omega)
        obtain ⟨v, h1, h2⟩ := each m (by omega)
        refine ⟨xs ++ [v], by simp [hx1], fun i u hu => ?_⟩
        by_cases him : i < m
        · exact hx2 i u (by rwa [List.getElem?_append_left (by omega)] at hu)
        · have hie : i = m := by
            have := (List.getElem?_eq_some_iff.1 hu).1
            simp [hx1] at this
            omega
          subst hie
          rw [List.getElem?_append_right (by omega), hx1, Nat.sub_self] at hu
          simp at hu
          subst hu
          exact ⟨h1, h2⟩
    obtain ⟨xs, h1, h2⟩ := build n (Nat.le_refl _)
    exact ⟨xs, h1, by rw [hl, hs], h2⟩⟩
end Go.Proofs.Ytepmgkmbmejkjaa.Open
