/- Blocks are unpacked: sequence by sequence, for a closure that keeps many blocks; Size; Cut. -/
import Derived.Test.YtgplpcjlemjabaaLz7
set_option linter.unusedVariables false
set_option linter.unusedSimpArgs false
namespace Go.Proofs.Ytgplpcjlemjabaa.Lz
open Go.RowKit Go.Proofs.YtgplpcjlemjabaaW.PrintWords Go.Proofs.YtgplpcjlemjabaaW.PrintLast Go.Proofs.YtgplpcjlemjabaaW.PrintMore
/-- What stands at the head of the loop. -/
structure LJ (w0 w : World) (base : Nat) (P : Nat → Prop) (b : List Int) (A : Option Addr) (c : Nat) (most : Int) (I : World → List Sq → Option Nat → Prop) (o0 : Option Nat) (wr : World) (acc : List Sq) (at_ : Nat) (o : Option Nat) (f : Nat) : Prop where
  rd : RD wr w.heap.size A b.length c at_ (tot acc) most 0 0
  below : Below base w0 wr
  size : w.heap.size < wr.heap.size
  frame : ∀ k, k < w.heap.size → P k → some k ≠ o0 → wr.heap[k]? = w.heap[k]?
  inv : I wr acc o
  own : o = o0 ∨ ∃ q, o = some q ∧ w.heap.size < q
  lt : ∀ q, o = some q → q < wr.heap.size
  tot0 : 0 ≤ tot acc
  tot1 : tot acc ≤ most
  at0 : at_ ≤ b.length
  cnt : acc.length ≤ at_
  fuel : b.length - at_ < f
  eq : run b.length most (b.length + 1) 0 b = (acc ++ (run b.length most f (tot acc) (b.drop at_)).1, (run b.length most f (tot acc) (b.drop at_)).2)
/-- What 'each' answers. -/
def EQ (w0 w : World) (base : Nat) (P : Nat → Prop) (b : List Int) (A : Option Addr) (c : Nat) (most : Int) (I : World → List Sq → Option Nat → Prop) (o0 : Option Nat) (e : Ending) (w' : World) : Prop :=
  ∃ g at2 s2 o', e = .returned (.pointer (some ⟨g, 0, none⟩)) ∧ w.heap.size ≤ g ∧ RD w' g A b.length c at2 s2 most (run b.length most (b.length + 1) 0 b).2.1 (run b.length most (b.length + 1) 0 b).2.2 ∧ ((run b.length most (b.length + 1) 0 b).2.1 = 0 → s2 = tot (run b.length most (b.length + 1) 0 b).1) ∧ Below base w0 w' ∧ w.heap.size ≤ w'.heap.size ∧ (∀ k, k < w.heap.size → P k → some k ≠ o0 → w'.heap[k]? = w.heap[k]?) ∧ I w' (run b.length most (b.length + 1) 0 b).1 o' ∧ (o' = o0 ∨ ∃ q, o' = some q ∧ w.heap.size ≤ q) ∧ (∀ q, o' = some q → q < w'.heap.size)
/-- What the closure keeps stands where all blocks but g stand. -/
def Stab2 (g : Nat) (I : World → List Sq → Option Nat → Prop) : Prop := ∀ wr w' acc o, I wr acc o → (∀ k, k < wr.heap.size → k ≠ g → w'.heap[k]? = wr.heap[k]?) → I w' acc o
section
variable {w0 w : World} {base : Nat} {P : Nat → Prop} {b : List Int} {A : Option Addr} {c : Nat} {most : Int} {I : World → List Sq → Option Nat → Prop} {o0 : Option Nat} {wr w1 w2 : World} {acc : List Sq} {at_ : Nat} {o : Option Nat} {f : Nat}
/-- Behind 'next', and what is laid anew. -/
theorem LJ_inv (h : LJ w0 w base P b A c most I o0 wr acc at_ o f) (hst : Stab2 w.heap.size I) (hs1 : wr.heap.size ≤ w1.heap.size) (hf1 : ∀ k, k ≠ w.heap.size → k < wr.heap.size → w1.heap[k]? = wr.heap[k]?) (hb2 : Below w1.heap.size w1 w2) : I w2 acc o :=
  hst wr w2 acc o h.inv fun k hk hpo => (hb2.block k (by omega)).trans (hf1 k hpo hk)
theorem LJ_fail {at2 s2 er pp : Int} (h : LJ w0 w base P b A c most I o0 wr acc at_ o f) (hst : Stab2 w.heap.size I) (hp : ∀ k, w.heap.size ≤ k → P k) (ho : ∀ q, o0 = some q → q < w.heap.size) (hbase : base ≤ w.heap.size)
    (hstep : step b.length most (tot acc) (b.drop at_) = .fail er pp) (hne : er ≠ 0) (hb1 : Below base w0 w1) (hs1 : wr.heap.size ≤ w1.heap.size) (hf1 : ∀ k, k ≠ w.heap.size → k < wr.heap.size → w1.heap[k]? = wr.heap[k]?) (hR : RD w1 w.heap.size A b.length c at2 s2 most er pp) (hb2 : Below w1.heap.size w1 w2) : EQ w0 w base P b A c most I o0 (.returned (.pointer (some ⟨w.heap.size, 0, none⟩))) w2 := by
  have hsz := h.size
  obtain ⟨f', rfl⟩ : ∃ f', f = f' + 1 := ⟨f - 1, by have := h.fuel; omega⟩
  have hrun : run b.length most (b.length + 1) 0 b = (acc, er, pp) := by
    have h0 := h.eq
    simp only [run, hstep, List.append_nil] at h0
    simpa only [run] using h0
  unfold EQ
  rw [hrun]
  refine ⟨_, at2, s2, o, rfl, Nat.le_refl _, (hb2.block _ (by omega)).trans hR, fun e => absurd e hne, hb1.trans (hb2.mono (by omega)), by have := hb2.size; omega, fun k hk h1 h2 => ((hb2.block k (by omega)).trans (hf1 k (by omega) (by omega))).trans (h.frame k hk h1 h2), LJ_inv h hst hs1 hf1 hb2, ?_, fun q hq => by have := h.lt q hq; have := hb2.size; omega⟩
  rcases h.own with e | ⟨q, e, hq⟩
  · exact Or.inl e
  · exact Or.inr ⟨q, e, Nat.le_of_lt hq⟩
/-- Behind the closure. -/
theorem LJ_took {w3 : World} {o' : Option Nat} {lit : List Int} {off len : Int} {at2 : Int} (h : LJ w0 w base P b A c most I o0 wr acc at_ o f) (hst : Stab2 w.heap.size I) (hp : ∀ k, w.heap.size ≤ k → P k) (ho : ∀ q, o0 = some q → q < w.heap.size) (hbase : base ≤ w.heap.size) (hs1 : wr.heap.size ≤ w1.heap.size) (hf1 : ∀ k, k ≠ w.heap.size → k < wr.heap.size → w1.heap[k]? = wr.heap[k]?)
    (hR : RD w1 w.heap.size A b.length c at2 (tot acc + lit.length + len) most 0 0) (hb2 : Below w1.heap.size w1 w2) (hb3 : Below base w0 w3) (hs3 : w2.heap.size ≤ w3.heap.size) (hf3 : ∀ k, k < w2.heap.size → P k → some k ≠ o → w3.heap[k]? = w2.heap[k]?) (hI : I w3 (acc ++ [(lit, off, len)]) o') (ho' : o' = o ∨ ∃ q, o' = some q ∧ w2.heap.size ≤ q) (hlt' : ∀ q, o' = some q → q < w3.heap.size) :
    RD w3 w.heap.size A b.length c at2 (tot (acc ++ [(lit, off, len)])) most 0 0 ∧ w.heap.size < w3.heap.size ∧ (∀ k, k < w.heap.size → P k → some k ≠ o0 → w3.heap[k]? = w.heap[k]?) ∧ (o' = o0 ∨ ∃ q, o' = some q ∧ w.heap.size < q) ∧ (∀ k, w.heap.size ≤ k → k < w2.heap.size → wr.heap.size ≤ k ∨ k = w.heap.size → w3.heap[k]? = w2.heap[k]?) := by
  have hsz := h.size
  have hsz2 := hb2.size
  have hno : ∀ k, w.heap.size ≤ k → (wr.heap.size ≤ k ∨ k = w.heap.size) → some k ≠ o := by
    intro k hk hk2 e
    have h1 := h.lt k e.symm
    rcases h.own with e2 | ⟨q, e2, hq⟩
    · have := ho k (by rw [← e2, e]); omega
    · rw [e2] at e; injection e with e; omega
  refine ⟨?_, by omega, ?_, ?_, ?_⟩
  · rw [tot_snoc]
    have h1 : RD w2 w.heap.size A b.length c at2 (tot acc + lit.length + len) most 0 0 := (hb2.block _ (by omega)).trans hR
    rw [Int.add_assoc] at h1
    exact (hf3 _ (by omega) (hp _ (Nat.le_refl _)) (hno _ (Nat.le_refl _) (Or.inr rfl))).trans h1
  · intro k hk h1 h2
    have hko : some k ≠ o := by
      rcases h.own with e2 | ⟨q, e2, hq⟩
      · rw [e2]; exact h2
      · rw [e2]; intro e; injection e with e; omega
    exact (hf3 k (by omega) h1 hko).trans (((hb2.block k (by omega)).trans (hf1 k (by omega) (by omega))).trans (h.frame k hk h1 h2))
  · rcases ho' with e | ⟨q, e, hq⟩
    · rw [e]; exact h.own
    · exact Or.inr ⟨q, e, by omega⟩
  · intro k hk hk2 hk3
    exact hf3 k hk2 (hp k hk) (hno k hk hk3)
theorem LJ_last {w3 : World} {o' : Option Nat} {lit : List Int} (h : LJ w0 w base P b A c most I o0 wr acc at_ o f) (hstep : step b.length most (tot acc) (b.drop at_) = .last lit) (hR : RD w3 w.heap.size A b.length c b.length (tot (acc ++ [(lit, 0, 0)])) most 0 0) (hs : w.heap.size < w3.heap.size) (hb3 : Below base w0 w3)
    (hf : ∀ k, k < w.heap.size → P k → some k ≠ o0 → w3.heap[k]? = w.heap[k]?) (hI : I w3 (acc ++ [(lit, 0, 0)]) o') (ho : o' = o0 ∨ ∃ q, o' = some q ∧ w.heap.size < q) (hlt : ∀ q, o' = some q → q < w3.heap.size) : EQ w0 w base P b A c most I o0 (.returned (.pointer (some ⟨w.heap.size, 0, none⟩))) w3 := by
  obtain ⟨f', rfl⟩ : ∃ f', f = f' + 1 := ⟨f - 1, by have := h.fuel; omega⟩
  have hrun : run b.length most (b.length + 1) 0 b = (acc ++ [(lit, 0, 0)], 0, 0) := by
    have h0 := h.eq
    simp only [run, hstep] at h0
    simpa only [run] using h0
  unfold EQ
  rw [hrun]
  refine ⟨_, _, _, o', rfl, Nat.le_refl _, hR, fun _ => rfl, hb3, Nat.le_of_lt hs, hf, hI, ?_, hlt⟩
  rcases ho with e | ⟨q, e, hq⟩
  · exact Or.inl e
  · exact Or.inr ⟨q, e, Nat.le_of_lt hq⟩
theorem LJ_seq {w3 : World} {o' : Option Nat} {lit rest : List Int} {off len : Int} {at2 : Nat} (h : LJ w0 w base P b A c most I o0 wr acc at_ o f) (hstep : step b.length most (tot acc) (b.drop at_) = .seq lit off len rest) (hfit : Fits most (tot acc) lit off len) (hrl : rest.length < (b.drop at_).length) (hrest : rest = b.drop at2) (hat2 : at2 ≤ b.length) (hR : RD w3 w.heap.size A b.length c at2 (tot (acc ++ [(lit, off, len)])) most 0 0) (hs : w.heap.size < w3.heap.size) (hb3 : Below base w0 w3)
    (hf : ∀ k, k < w.heap.size → P k → some k ≠ o0 → w3.heap[k]? = w.heap[k]?) (hI : I w3 (acc ++ [(lit, off, len)]) o') (ho : o' = o0 ∨ ∃ q, o' = some q ∧ w.heap.size < q) (hlt : ∀ q, o' = some q → q < w3.heap.size) : (∃ f', LJ w0 w base P b A c most I o0 w3 (acc ++ [(lit, off, len)]) at2 o' f') ∧ at_ < at2 := by
  obtain ⟨f', rfl⟩ : ∃ f', f = f' + 1 := ⟨f - 1, by have := h.fuel; omega⟩
  subst hrest
  simp only [List.length_drop] at hrl
  have ht := tot_snoc acc (lit, off, len)
  simp only at ht
  obtain ⟨g1, g2, g3, g4, g5⟩ := hfit
  have := h.tot0
  have := h.at0
  have := h.fuel
  refine ⟨⟨f', hR, hb3, hs, hf, hI, ho, hlt, by rw [ht]; omega, by rw [ht]; omega, hat2, by have := h.cnt; simp; omega, by omega, ?_⟩, by omega⟩
  have h0 := h.eq
  rw [show run b.length most (f' + 1) (tot acc) (b.drop at_) = ((lit, off, len) :: (run b.length most f' (tot acc + lit.length + len) (b.drop at2)).1, (run b.length most f' (tot acc + lit.length + len) (b.drop at2)).2) by
    conv => lhs; unfold run
    rw [hstep]] at h0
  rw [h0, ht, List.append_assoc, List.singleton_append, Int.add_assoc]
end
end Go.Proofs.Ytgplpcjlemjabaa.Lz
