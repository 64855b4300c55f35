/- Rows of sequences as they are read; the same ones are told to be the same. -/
import Derived.Test.YtgplpcjlemjabaaLz10
import Derived.Test.YtgplpcjlemjabaaLawLz1
set_option linter.unusedVariables false
set_option linter.unusedSimpArgs false
namespace Go.Proofs.Ytgplpcjlemjabaa.Lz
open Go.RowKit Go.Proofs.YtgplpcjlemjabaaW.PrintWords Go.Proofs.YtgplpcjlemjabaaW.PrintLast Go.Proofs.YtgplpcjlemjabaaW.PrintMore
theorem SC_reps {w0 w' : World} {base : Nat} (hB : Below base w0 w') {acc : List Sq} {cells : List Value} (h : SC w0 base acc cells) : Reps (kS.K w') 3 acc cells := by
  induction h with
  | nil => exact Reps.none _ _
  | snoc h hC hc ih => exact Reps.snoc ih ⟨[_], [_, _], rfl, ⟨_, _, rfl, hc, hC w' hB⟩, ⟨[_], [_], rfl, rfl, rfl⟩⟩ rfl
theorem RowL_C {w0 w' : World} {base : Nat} {v : Value} {acc : List Sq} (h : RowL w0 base w' v acc) (hB : Below base w0 w') : ∃ A c, v = .slice A acc.length c ∧ acc.length ≤ c ∧ Kd.C kS w' A acc.length acc := by
  obtain ⟨cells, h0, hs⟩ := h
  exact OwnRow.reads (R := kS.K w') ⟨cells, h0, SC_reps hB hs⟩
theorem at_kS {w : World} {A : Option Addr} {n : Nat} {xs : List Sq} (h : Kd.C kS w A n xs) (k : Nat) (h1 : k < n) : ∃ ad A0 c0, ∃ s : Sq, xs[k]? = some s ∧ A = some ad ∧ w.cell? (ad.add (k * 3)) = some (.slice A0 s.1.length c0) ∧ w.cell? ⟨(ad.add (k * 3)).block, (ad.add (k * 3)).off + 1, none⟩ = some (.int .i64 s.2.1) ∧ w.cell? ⟨(ad.add (k * 3)).block, (ad.add (k * 3)).off + 2, none⟩ = some (.int .i64 s.2.2) ∧ s.1.length ≤ c0 ∧ (Kd.int .u8).C w A0 s.1.length s.1 := by
  obtain ⟨ad, e, hc⟩ := h.2.2 (by omega)
  have hl := h.1
  have hk : k < xs.length := by omega
  obtain ⟨c, _, hK, hc0⟩ := hc k _ (List.getElem?_eq_getElem hk)
  obtain ⟨_, _, rfl, ⟨A0, c0, rfl, l0, g0⟩, ⟨_, _, rfl, rfl, rfl⟩⟩ := hK
  exact ⟨ad, A0, c0, xs[k], List.getElem?_eq_getElem hk, e, hc0 0 _ rfl, by rw [← add_field _ _ 1 (by omega)]; exact hc0 1 _ rfl, by rw [← add_field _ _ 2 (by omega)]; exact hc0 2 _ rfl, l0, g0⟩
theorem str_at {w : World} {A : Option Addr} {n c : Nat} {xs : List Int} (h : (Kd.int .u8).C w A n xs) : ∀ m, (convert 22 9 (.slice A n c)).run Try.prog (w.drewN m) = .ok (.string (strOfNums xs)) (w.drewN m) :=
  fun m => Kd.C_string Try.underlying22 Try.underlying5 Try.underlying9 (Kd.C_drewN h m)
/-- The three answers about a block, side by side. -/
theorem all3 (b : List Int) (hb : isB b) : ∃ L Y T E P, siz b = (T, E, P) ∧ cuts b = (L, E, P) ∧ dec b 1048576 = (Y, E, P) ∧ (if (dec b 1048576).2.1 = 0 then (run b.length 1048576 (b.length + 1) 0 b).1 else []) = L ∧ T = (Y.length : Int) := by
  have ht := run_tot (N := b.length) (most := 1048576) (b.length + 1) 0 b hb (by decide) (by decide)
  have ho := outs_length (run b.length 1048576 (b.length + 1) 0 b).1 [] ht.2.1
  unfold siz cuts dec
  rw [if_neg (by decide : ¬ ((1048576 : Int) < 0 ∨ (1048576 : Int) < 1048576))]
  obtain ⟨l, er, pp, hrun⟩ : ∃ l er pp, run b.length 1048576 (b.length + 1) 0 b = (l, er, pp) := ⟨_, _, _, rfl⟩
  rw [hrun] at ho ⊢
  simp only at ho ⊢
  by_cases her : er = 0
  · subst her
    exact ⟨l, outs [] l, tot l, 0, b.length, rfl, rfl, rfl, rfl, by simpa using ho.symm⟩
  · simp only [if_neg her]
    exact ⟨[], [], 0, er, pp, rfl, rfl, rfl, rfl, rfl⟩
theorem cuts_length (b : List Int) : ∀ (N : Nat) (most : Int) (f : Nat) (size : Int) (r : List Int), (run N most f size r).1.length ≤ f := by
  intro N most f
  induction f with
  | zero => intro size r; simp [run]
  | succ f ih =>
    intro size r
    unfold run
    cases step N most size r with
    | fail e p => simp
    | last lit => simp
    | seq lit off len rest => simp only [List.length_cons]; have := ih (size + lit.length + len) rest; omega
end Go.Proofs.Ytgplpcjlemjabaa.Lz
