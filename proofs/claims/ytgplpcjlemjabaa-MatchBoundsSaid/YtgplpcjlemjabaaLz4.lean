/- Blocks are unpacked: sequence by sequence; what a whole block tells. -/
import Derived.Test.YtgplpcjlemjabaaLz2
import Derived.Test.YtgplpcjlemjabaaLz3
import Derived.WalkMore
set_option linter.unusedVariables false
set_option linter.unusedSimpArgs false
namespace Go.Proofs.Ytgplpcjlemjabaa.Lz
open Go.RowKit Go.Proofs.YtgplpcjlemjabaaW.PrintWords Go.Proofs.YtgplpcjlemjabaaW.PrintLast Go.Proofs.YtgplpcjlemjabaaW.PrintMore
/-- A sequence: literals, offset, length. -/
abbrev Sq := List Int × Int × Int
def tot : List Sq → Int
  | [] => 0
  | s :: l => s.1.length + s.2.2 + tot l
def outs (o : List Int) : List Sq → List Int
  | [] => o
  | s :: l => outs (cp (o ++ s.1) s.2.1.toNat s.2.2.toNat) l
/-- A block's sequences; the error, its place. -/
def run (N : Nat) (most : Int) : Nat → Int → List Int → List Sq × Int × Int
  | 0, _, _ => ([], 6, 0)
  | f + 1, size, r => match step N most size r with
    | .fail e p => ([], e, p)
    | .last lit => ([(lit, 0, 0)], 0, 0)
    | .seq lit off len rest => ((lit, off, len) :: (run N most f (size + lit.length + len) rest).1, (run N most f (size + lit.length + len) rest).2)
theorem tot_snoc (l : List Sq) (s : Sq) : tot (l ++ [s]) = tot l + (s.1.length + s.2.2) := by
  induction l with
  | nil => simp [tot]
  | cons a l ih => simp only [List.cons_append, tot, ih]; omega
theorem outs_snoc (l : List Sq) (s : Sq) : ∀ o, outs o (l ++ [s]) = cp (outs o l ++ s.1) s.2.1.toNat s.2.2.toNat := by
  induction l with
  | nil => intro o; rfl
  | cons a l ih => intro o; simp only [List.cons_append, outs, ih]
theorem isB_drop {l : List Int} (h : isB l) (k : Nat) : isB (l.drop k) := fun x hx => h x (List.mem_of_mem_drop hx)
theorem isB_take {l : List Int} (h : isB l) (k : Nat) : isB (l.take k) := fun x hx => h x (List.mem_of_mem_take hx)
theorem isB_append {l m : List Int} (h : isB l) (h2 : isB m) : isB (l ++ m) := fun x hx => (List.mem_append.1 hx).elim (h x) (h2 x)
/-- What a sequence keeps to. -/
structure Fits (most size : Int) (lit : List Int) (off len : Int) : Prop where
  lit0 : (lit.length : Int) ≤ most - size
  len0 : 0 ≤ len
  len1 : len ≤ most - size - lit.length
  off0 : (off = 0 ∧ len = 0) ∨ (1 ≤ off ∧ off ≤ size + lit.length ∧ off ≤ 65535 ∧ 4 ≤ len)
  bytes : isB lit
theorem lenH_spec {n m : Int} {r r2 : List Int} (hb : isB r) (hn : 0 ≤ n) (h : lenH n r = some (m, r2)) : r2.length ≤ r.length ∧ n ≤ m ∧ m ≤ n + 255 * r.length ∧ ∃ k, r2 = r.drop k := by
  unfold lenH at h
  by_cases h0 : n < 15
  · rw [if_pos h0] at h
    simp only [Option.some.injEq, Prod.mk.injEq] at h
    obtain ⟨rfl, rfl⟩ := h
    exact ⟨Nat.le_refl _, Int.le_refl _, by omega, 0, rfl⟩
  · rw [if_neg h0] at h
    obtain ⟨h1, h2, h3, h4⟩ := lenL_spec r n m r2 hb hn h
    exact ⟨by omega, h2, h3, h4⟩
theorem sp_fail {e p : Int} (he : e = 2 ∨ e = 6 ∨ e = 9) {F : List Int → Prop} {G : List Int → Int → Int → List Int → Prop} : (∀ e' p', Step.fail e p = .fail e' p' → e' = 2 ∨ e' = 6 ∨ e' = 9) ∧ (∀ lit, Step.fail e p = .last lit → F lit) ∧ (∀ a b c d, Step.fail e p = .seq a b c d → G a b c d) := by
  refine ⟨fun e' p' h => ?_, fun _ h => ?_, fun _ _ _ _ h => ?_⟩
  · injection h with h1
    rw [← h1]
    exact he
  · cases h
  · cases h
theorem step_spec {N : Nat} {most size : Int} {r : List Int} (hb : isB r) (hs : 0 ≤ size) (hsm : size ≤ most) :
    (∀ e p, step N most size r = .fail e p → e = 2 ∨ e = 6 ∨ e = 9) ∧ (∀ lit, step N most size r = .last lit → Fits most size lit 0 0) ∧
    (∀ lit off len rest, step N most size r = .seq lit off len rest → Fits most size lit off len ∧ 1 ≤ off ∧ rest.length < r.length ∧ ∃ k, rest = r.drop k) := by
  match r, hb with
  | [], _ => exact sp_fail (Or.inr (Or.inl rfl))
  | t :: r, hb =>
    have ht := hb t (by simp)
    have hb1 : isB r := fun x hx => hb x (by simp [hx])
    simp only [step]
    split
    · exact sp_fail (Or.inr (Or.inl rfl))
    · rename_i n r1 hL
      obtain ⟨s1, s2, s3, k, rfl⟩ := lenH_spec hb1 (by omega) hL
      split
      · exact sp_fail (Or.inl rfl)
      split
      · exact sp_fail (Or.inr (Or.inl rfl))
      have hll : (((r.drop k).take n.toNat).length : Int) = n := by rw [List.length_take]; omega
      unfold tailS
      split
      · refine ⟨fun _ _ h => by (cases h), fun lit h => ?_, fun _ _ _ _ h => by (cases h)⟩
        injection h with h
        subst h
        exact ⟨by omega, by omega, by omega, Or.inl ⟨rfl, rfl⟩, isB_take (isB_drop hb1 k) _⟩
      · exact sp_fail (Or.inr (Or.inl rfl))
      · rename_i x y r3 hr3
        have hd : ∃ j, x :: y :: r3 = r.drop j := ⟨k + n.toNat, by rw [← hr3, List.drop_drop]⟩
        obtain ⟨j, hj⟩ := hd
        have hbj : isB (x :: y :: r3) := by rw [hj]; exact isB_drop hb1 j
        have hx := hbj x (by simp)
        have hy := hbj y (by simp)
        have hb3 : isB r3 := fun z hz => hbj z (by simp [hz])
        have hlj : (x :: y :: r3).length ≤ r.length := by rw [hj, List.length_drop]; omega
        split
        · exact sp_fail (Or.inr (Or.inr rfl))
        · rename_i hoff
          split
          · exact sp_fail (Or.inr (Or.inl rfl))
          · rename_i m r4 hM
            obtain ⟨q1, q2, q3, k4, rfl⟩ := lenH_spec hb3 (by omega) hM
            split
            · exact sp_fail (Or.inl rfl)
            · refine ⟨fun _ _ h => by (cases h), fun _ h => by (cases h), fun lit off len rest h => ?_⟩
              injection h with e1 e2 e3 e4
              subst e1 e2 e3 e4
              refine ⟨⟨by omega, by omega, by omega, Or.inr ⟨by omega, by omega, by omega, by omega⟩, isB_take (isB_drop hb1 k) _⟩, by omega, ?_, 1 + (j + 2 + k4), ?_⟩
              · simp only [List.length_drop, List.length_cons] at hlj ⊢
                omega
              · have h5 : r3 = (x :: y :: r3).drop 2 := rfl
                rw [h5, hj, List.drop_drop, List.drop_drop, Nat.add_comm 1, List.drop_succ_cons]
                congr 1
                omega
/-- What stands at the head of the loop. -/
structure LI (w0 w : World) (base p : Nat) (b : List Int) (A : Option Addr) (c : Nat) (most : Int) (I : World → List Sq → Option Nat → Prop) (o0 : Option Nat) (wr : World) (acc : List Sq) (at_ : Nat) (o : Option Nat) (f : Nat) : Prop where
  rd : RD wr w.heap.size A b.length c at_ (tot acc) most 0 0
  below : Below base w0 wr
  size : w.heap.size < wr.heap.size
  frame : ∀ k, k < w.heap.size → k ≠ p → some k ≠ o0 → wr.heap[k]? = w.heap[k]?
  inv : I wr acc o
  own : o = o0 ∨ ∃ q, o = some q ∧ w.heap.size < q
  lt : ∀ q, o = some q → q < wr.heap.size
  tot0 : 0 ≤ tot acc
  tot1 : tot acc ≤ most
  at0 : at_ ≤ b.length
  fuel : b.length - at_ < f
  eq : run b.length most (b.length + 1) 0 b = (acc ++ (run b.length most f (tot acc) (b.drop at_)).1, (run b.length most f (tot acc) (b.drop at_)).2)
/-- What 'each' answers. -/
def EP (w0 w : World) (base p : Nat) (b : List Int) (A : Option Addr) (c : Nat) (most : Int) (I : World → List Sq → Option Nat → Prop) (o0 : Option Nat) (e : Ending) (w' : World) : Prop :=
  ∃ g at2 s2 o', e = .returned (.pointer (some ⟨g, 0, none⟩)) ∧ w.heap.size ≤ g ∧ RD w' g A b.length c at2 s2 most (run b.length most (b.length + 1) 0 b).2.1 (run b.length most (b.length + 1) 0 b).2.2 ∧ ((run b.length most (b.length + 1) 0 b).2.1 = 0 → s2 = tot (run b.length most (b.length + 1) 0 b).1) ∧ Below base w0 w' ∧ w.heap.size ≤ w'.heap.size ∧ (∀ k, k < w.heap.size → k ≠ p → some k ≠ o0 → w'.heap[k]? = w.heap[k]?) ∧ I w' (run b.length most (b.length + 1) 0 b).1 o' ∧ (o' = o0 ∨ ∃ q, o' = some q ∧ w.heap.size ≤ q) ∧ (∀ q, o' = some q → q < w'.heap.size)
def Stab (p : Nat) (I : World → List Sq → Option Nat → Prop) : Prop := ∀ wr w' acc o, I wr acc o → (∀ k, k < wr.heap.size → (k = p ∨ some k = o) → w'.heap[k]? = wr.heap[k]?) → I w' acc o
section
variable {w0 w : World} {base p : Nat} {b : List Int} {A : Option Addr} {c : Nat} {most : Int} {I : World → List Sq → Option Nat → Prop} {o0 : Option Nat} {wr w1 w2 : World} {acc : List Sq} {at_ : Nat} {o : Option Nat} {f : Nat}
/-- Behind 'next', and what is laid anew. -/
theorem LI_inv (h : LI w0 w base p b A c most I o0 wr acc at_ o f) (hst : Stab p I) (hp : p < w.heap.size) (ho : ∀ q, o0 = some q → q < w.heap.size) (hs1 : wr.heap.size ≤ w1.heap.size) (hf1 : ∀ k, k ≠ w.heap.size → k < wr.heap.size → w1.heap[k]? = wr.heap[k]?) (hb2 : Below w1.heap.size w1 w2) : I w2 acc o := by
  refine hst wr w2 acc o h.inv fun k hk hpo => (hb2.block k (by omega)).trans (hf1 k ?_ hk)
  rcases hpo with e | e
  · omega
  · rcases h.own with e2 | ⟨q, e2, hq⟩
    · have := ho k (by rw [← e2, e]); omega
    · rw [e2] at e; injection e with e; omega
theorem LI_fail {at2 s2 er pp : Int} (h : LI w0 w base p b A c most I o0 wr acc at_ o f) (hst : Stab p I) (hp : p < w.heap.size) (ho : ∀ q, o0 = some q → q < w.heap.size) (hbase : base ≤ w.heap.size)
    (hstep : step b.length most (tot acc) (b.drop at_) = .fail er pp) (hne : er ≠ 0) (hb1 : Below base w0 w1) (hs1 : wr.heap.size ≤ w1.heap.size) (hf1 : ∀ k, k ≠ w.heap.size → k < wr.heap.size → w1.heap[k]? = wr.heap[k]?) (hR : RD w1 w.heap.size A b.length c at2 s2 most er pp) (hb2 : Below w1.heap.size w1 w2) : EP w0 w base p b A c most I o0 (.returned (.pointer (some ⟨w.heap.size, 0, none⟩))) w2 := by
  have hsz := h.size
  obtain ⟨f', rfl⟩ : ∃ f', f = f' + 1 := ⟨f - 1, by have := h.fuel; omega⟩
  have hrun : run b.length most (b.length + 1) 0 b = (acc, er, pp) := by
    have h0 := h.eq
    simp only [run, hstep, List.append_nil] at h0
    simpa only [run] using h0
  unfold EP
  rw [hrun]
  refine ⟨_, at2, s2, o, rfl, Nat.le_refl _, (hb2.block _ (by omega)).trans hR, fun e => absurd e hne, hb1.trans (hb2.mono (by omega)), by have := hb2.size; omega, fun k hk h1 h2 => ((hb2.block k (by omega)).trans (hf1 k (by omega) (by omega))).trans (h.frame k hk h1 h2), LI_inv h hst hp ho hs1 hf1 hb2, ?_, fun q hq => by have := h.lt q hq; have := hb2.size; omega⟩
  rcases h.own with e | ⟨q, e, hq⟩
  · exact Or.inl e
  · exact Or.inr ⟨q, e, Nat.le_of_lt hq⟩
/-- Behind the closure. -/
theorem LI_took {w3 : World} {o' : Option Nat} {lit : List Int} {off len : Int} {at2 : Int} (h : LI w0 w base p b A c most I o0 wr acc at_ o f) (hst : Stab p I) (hp : p < w.heap.size) (ho : ∀ q, o0 = some q → q < w.heap.size) (hbase : base ≤ w.heap.size) (hs1 : wr.heap.size ≤ w1.heap.size) (hf1 : ∀ k, k ≠ w.heap.size → k < wr.heap.size → w1.heap[k]? = wr.heap[k]?)
    (hR : RD w1 w.heap.size A b.length c at2 (tot acc + lit.length + len) most 0 0) (hb2 : Below w1.heap.size w1 w2) (hb3 : Below base w0 w3) (hs3 : w2.heap.size ≤ w3.heap.size) (hf3 : ∀ k, k < w2.heap.size → k ≠ p → some k ≠ o → w3.heap[k]? = w2.heap[k]?) (hI : I w3 (acc ++ [(lit, off, len)]) o') (ho' : o' = o ∨ ∃ q, o' = some q ∧ w2.heap.size ≤ q) (hlt' : ∀ q, o' = some q → q < w3.heap.size) :
    RD w3 w.heap.size A b.length c at2 (tot (acc ++ [(lit, off, len)])) most 0 0 ∧ w.heap.size < w3.heap.size ∧ (∀ k, k < w.heap.size → k ≠ p → some k ≠ o0 → w3.heap[k]? = w.heap[k]?) ∧ (o' = o0 ∨ ∃ q, o' = some q ∧ w.heap.size < q) ∧ (∀ k, w.heap.size ≤ k → k < w2.heap.size → wr.heap.size ≤ k ∨ k = w.heap.size → w3.heap[k]? = w2.heap[k]?) := by
  have hsz := h.size
  have hsz2 := hb2.size
  have hno : ∀ k, w.heap.size ≤ k → (wr.heap.size ≤ k ∨ k = w.heap.size) → some k ≠ o := by
    intro k hk hk2 e
    have h1 := h.lt k e.symm
    rcases h.own with e2 | ⟨q, e2, hq⟩
    · have := ho k (by rw [← e2, e]); omega
    · rw [e2] at e; injection e with e; omega
  refine ⟨?_, by omega, ?_, ?_, ?_⟩
  · rw [tot_snoc]
    have h1 : RD w2 w.heap.size A b.length c at2 (tot acc + lit.length + len) most 0 0 := (hb2.block _ (by omega)).trans hR
    rw [Int.add_assoc] at h1
    exact (hf3 _ (by omega) (by omega) (hno _ (Nat.le_refl _) (Or.inr rfl))).trans h1
  · intro k hk h1 h2
    have hko : some k ≠ o := by
      rcases h.own with e2 | ⟨q, e2, hq⟩
      · rw [e2]; exact h2
      · rw [e2]; intro e; injection e with e; omega
    exact (hf3 k (by omega) h1 hko).trans (((hb2.block k (by omega)).trans (hf1 k (by omega) (by omega))).trans (h.frame k hk h1 h2))
  · rcases ho' with e | ⟨q, e, hq⟩
    · rw [e]; exact h.own
    · exact Or.inr ⟨q, e, by omega⟩
  · intro k hk hk2 hk3
    exact hf3 k hk2 (by omega) (hno k hk hk3)
theorem LI_last {w3 : World} {o' : Option Nat} {lit : List Int} (h : LI w0 w base p b A c most I o0 wr acc at_ o f) (hstep : step b.length most (tot acc) (b.drop at_) = .last lit) (hR : RD w3 w.heap.size A b.length c b.length (tot (acc ++ [(lit, 0, 0)])) most 0 0) (hs : w.heap.size < w3.heap.size) (hb3 : Below base w0 w3)
    (hf : ∀ k, k < w.heap.size → k ≠ p → some k ≠ o0 → w3.heap[k]? = w.heap[k]?) (hI : I w3 (acc ++ [(lit, 0, 0)]) o') (ho : o' = o0 ∨ ∃ q, o' = some q ∧ w.heap.size < q) (hlt : ∀ q, o' = some q → q < w3.heap.size) : EP w0 w base p b A c most I o0 (.returned (.pointer (some ⟨w.heap.size, 0, none⟩))) w3 := by
  obtain ⟨f', rfl⟩ : ∃ f', f = f' + 1 := ⟨f - 1, by have := h.fuel; omega⟩
  have hrun : run b.length most (b.length + 1) 0 b = (acc ++ [(lit, 0, 0)], 0, 0) := by
    have h0 := h.eq
    simp only [run, hstep] at h0
    simpa only [run] using h0
  unfold EP
  rw [hrun]
  refine ⟨_, _, _, o', rfl, Nat.le_refl _, hR, fun _ => rfl, hb3, Nat.le_of_lt hs, hf, hI, ?_, hlt⟩
  rcases ho with e | ⟨q, e, hq⟩
  · exact Or.inl e
  · exact Or.inr ⟨q, e, Nat.le_of_lt hq⟩
theorem LI_seq {w3 : World} {o' : Option Nat} {lit rest : List Int} {off len : Int} {at2 : Nat} (h : LI w0 w base p b A c most I o0 wr acc at_ o f) (hstep : step b.length most (tot acc) (b.drop at_) = .seq lit off len rest) (hfit : Fits most (tot acc) lit off len) (hrl : rest.length < (b.drop at_).length) (hrest : rest = b.drop at2) (hat2 : at2 ≤ b.length) (hR : RD w3 w.heap.size A b.length c at2 (tot (acc ++ [(lit, off, len)])) most 0 0) (hs : w.heap.size < w3.heap.size) (hb3 : Below base w0 w3)
    (hf : ∀ k, k < w.heap.size → k ≠ p → some k ≠ o0 → w3.heap[k]? = w.heap[k]?) (hI : I w3 (acc ++ [(lit, off, len)]) o') (ho : o' = o0 ∨ ∃ q, o' = some q ∧ w.heap.size < q) (hlt : ∀ q, o' = some q → q < w3.heap.size) : (∃ f', LI w0 w base p b A c most I o0 w3 (acc ++ [(lit, off, len)]) at2 o' f') ∧ at_ < at2 := by
  obtain ⟨f', rfl⟩ : ∃ f', f = f' + 1 := ⟨f - 1, by have := h.fuel; omega⟩
  subst hrest
  simp only [List.length_drop] at hrl
  have ht := tot_snoc acc (lit, off, len)
  simp only at ht
  obtain ⟨g1, g2, g3, g4, g5⟩ := hfit
  have := h.tot0
  have := h.at0
  have := h.fuel
  refine ⟨⟨f', hR, hb3, hs, hf, hI, ho, hlt, by rw [ht]; omega, by rw [ht]; omega, hat2, by omega, ?_⟩, by omega⟩
  have h0 := h.eq
  rw [show run b.length most (f' + 1) (tot acc) (b.drop at_) = ((lit, off, len) :: (run b.length most f' (tot acc + lit.length + len) (b.drop at2)).1, (run b.length most f' (tot acc + lit.length + len) (b.drop at2)).2) by
    conv => lhs; unfold run
    rw [hstep]] at h0
  rw [h0, ht, List.append_assoc, List.singleton_append, Int.add_assoc]
end
set_option maxHeartbeats 4000000 in
set_option maxRecDepth 100000 in
/-- Sequence by sequence, each given to the closure. I: what the closure keeps (its box p, its row o). -/
theorem each_dec (w0 : World) (base : Nat) (b : List Int) (A : Option Addr) (c : Nat) (most : Int) (p : Nat) (I : World → List Sq → Option Nat → Prop) (o0 : Option Nat) (w : World)
    (Hstab : Stab p I)
    (Htake : ∀ wr acc o lit A2 c2 off len, I wr acc o → Below base w0 wr → base ≤ wr.heap.size → Fits most (tot acc) lit off len → 0 ≤ tot acc → (∀ w', Below base w0 w' → Kd.C (Kd.int .u8) w' A2 lit.length lit) → lit.length ≤ c2 →
      Calls Try.prog 61 (#[.agg #[.slice A2 lit.length c2, .int .i64 off, .int .i64 len]] ++ #[.pointer (some ⟨p, 0, none⟩)]) wr fun e w' => e = .returned (.tuple #[]) ∧ Below base w0 w' ∧ wr.heap.size ≤ w'.heap.size ∧ (∀ k, k < wr.heap.size → k ≠ p → some k ≠ o → w'.heap[k]? = wr.heap[k]?) ∧ ∃ o', I w' (acc ++ [(lit, off, len)]) o' ∧ (o' = o ∨ ∃ q, o' = some q ∧ wr.heap.size ≤ q) ∧ (∀ q, o' = some q → q < w'.heap.size))
    (HI : I w [] o0) (hp : p < w.heap.size) (ho : ∀ q, o0 = some q → q < w.heap.size) (HB : Below base w0 w) (hbase : base ≤ w.heap.size) (hC : ∀ w', Below base w0 w' → Kd.C (Kd.int .u8) w' A b.length b) (hb : isB b) (hN : b.length ≤ 1000000) (hm : 0 ≤ most) (hm2 : most ≤ 1048576) (hcap : b.length ≤ c) :
    Calls Try.prog 60 #[.slice A b.length c, .int .i64 most, .func (.func 61) #[] #[.pointer (some ⟨p, 0, none⟩)]] w (EP w0 w base p b A c most I o0) := by
  have K := Aside0.mk HI
  have KC := Aside0.mk hC
  have KB := Aside0.mk HB
  have Kb := Aside0.mk hb
  have Ks := Aside0.mk Hstab
  have Kt := Aside0.mk Htake
  have Ko := Aside0.mk ho
  have Kbase := Aside0.mk hbase
  clear HI hC HB hb Hstab Htake ho hbase
  go_enter Try.func60, Try.ntmps60
  go_wp2
  go_step3
  go_wp2
  go_step3
  go_wp2
  go_loopw [8] (fun _ wr => ∃ acc at_ o f, Aside0 (LI w0 w base p b A c most I o0 wr acc at_ o f)) (fun _ wr => b.length - (match wr.cell? ⟨w.heap.size, 1, none⟩ with | some v => (intOf v).toNat | none => 0))
  case atStart =>
    refine ⟨[], 0, o0, b.length + 1, ⟨?_⟩⟩
    have hal : Below w.heap.size w (w.alloc (.cells #[.slice A b.length c, .int .i64 0, .int .i64 0, .int .i64 most, .int .i64 0, .int .i64 0] 105)) := below_alloc (Below.refl _ _) _
    exact ⟨heap_alloc_new w _, KB.out.trans (hal.mono Kbase.out), by simp, fun k hk _ _ => hal.block k hk, Ks.out w _ [] o0 K.out fun k hk _ => hal.block k hk, Or.inl rfl, fun q hq => by have := Ko.out q hq; have := hal.size; omega, by simp [tot], by simpa [tot] using hm, by omega, by omega, by simp [tot]⟩
  case round =>
    obtain ⟨acc, at_, o, f, KL⟩ := hrel
    have hat := KL.out.at0
    have hgs := KL.out.size
    have hsp := step_spec (N := b.length) (isB_drop Kb.out at_) KL.out.tot0 KL.out.tot1
    have Ksp := Aside0.mk hsp
    clear hsp
    have hnext := next_any KL.out.rd KL.out.below Kbase.out KC.out Kb.out hN hat KL.out.tot0 KL.out.tot1 hm2 hcap
    have Kn := Aside0.mk hnext
    clear hnext
    cases hstep : step b.length most (tot acc) (b.drop at_) with
    | fail er pp =>
      rw [hstep] at Kn
      have Kst := Aside0.mk hstep
      clear hstep
      go_wp2_with (go_at_call 74; refine Kn.out.mono ?_; rintro e w1 ⟨hb1, hs1, hf1, ⟨A2, n2, c2, x, y, rfl⟩, at2, s2, hR⟩; have Kb1 := Aside0.mk hb1; have Kf1 := Aside0.mk hf1; have KR1 := Aside0.mk hR; clear hb1 hf1 hR Kn)
      rw [Exit.noGoto_ret]
      go_ret
      exact LI_fail KL.out Ks.out hp Ko.out Kbase.out Kst.out (by have := Ksp.out.1 _ _ Kst.out; omega) Kb1.out hs1 Kf1.out KR1.out (below_alloc (Below.refl _ _) _)
    | last lit =>
      rw [hstep] at Kn
      have Kst := Aside0.mk hstep
      clear hstep
      have Kfit := Aside0.mk (Ksp.out.2.1 _ Kst.out)
      go_wp2_with (first | (go_at_call 74; refine Kn.out.mono ?_; rintro e w1 ⟨hb1, hs1, hf1, A2, c2, rfl, hR, hC2, hc2⟩; have Kb1 := Aside0.mk hb1; have Kf1 := Aside0.mk hf1; have KR1 := Aside0.mk hR; have KC2 := Aside0.mk hC2; have Kc2 := Aside0.mk hc2; clear hb1 hf1 hR hC2 hc2 Kn) | (go_at_call 61; have hal : Below w1.heap.size w1 (w1.alloc (.cells #[.slice A2 lit.length c2, .int .i64 (0), .int .i64 (0)] 67)) := below_alloc (Below.refl _ _) _; refine (Kt.out _ acc o lit A2 c2 (0) (0) (LI_inv KL.out Ks.out hp Ko.out hs1 Kf1.out hal) (Kb1.out.trans (hal.mono (by have := Kbase.out; omega))) (by have := Kbase.out; have := hal.size; omega) Kfit.out KL.out.tot0 KC2.out Kc2.out).mono ?_; rintro e w3 ⟨rfl, hb3, hs3, hf3, o', hI3, ho3, hlt3⟩; have KT := Aside0.mk (LI_took KL.out Ks.out hp Ko.out Kbase.out hs1 Kf1.out (by rw [Int.add_zero]; exact KR1.out) hal hb3 hs3 hf3 hI3 ho3 hlt3); have Kb3 := Aside0.mk hb3; have KI3 := Aside0.mk hI3; have Klt3 := Aside0.mk hlt3; have hcell : w3.cell? ⟨w1.heap.size, 1, none⟩ = some (.int .i64 (0)) := (cell_of_row _ _ _ _ _ _ ((KT.out.2.2.2.2 w1.heap.size (by omega) (by simp) (Or.inl hs1)).trans (heap_alloc_new w1 _))).trans rfl; clear hal hb3 hs3 hf3 hI3 ho3 hlt3))
      rw [Exit.noGoto_ret]
      go_ret
      exact LI_last KL.out Kst.out KT.out.1 KT.out.2.1 Kb3.out KT.out.2.2.1 KI3.out KT.out.2.2.2.1 Klt3.out
    | seq lit off len rest =>
      rw [hstep] at Kn
      have Kst := Aside0.mk hstep
      clear hstep
      have Kfit := Aside0.mk (Ksp.out.2.2 _ _ _ _ Kst.out)
      have hoff : 1 ≤ off := Kfit.out.2.1
      go_wp2_with (first | (go_at_call 74; refine Kn.out.mono ?_; rintro e w1 ⟨hb1, hs1, hf1, A2, c2, at2, rfl, hR, hrest, hat2, hC2, hc2⟩; have Kb1 := Aside0.mk hb1; have Kf1 := Aside0.mk hf1; have KR1 := Aside0.mk hR; have KC2 := Aside0.mk hC2; have Kc2 := Aside0.mk hc2; have Krest := Aside0.mk hrest; have Kat2 := Aside0.mk hat2; clear hb1 hf1 hR hC2 hc2 hrest hat2 Kn) | (go_at_call 61; have hal : Below w1.heap.size w1 (w1.alloc (.cells #[.slice A2 lit.length c2, .int .i64 (off), .int .i64 (len)] 67)) := below_alloc (Below.refl _ _) _; refine (Kt.out _ acc o lit A2 c2 (off) (len) (LI_inv KL.out Ks.out hp Ko.out hs1 Kf1.out hal) (Kb1.out.trans (hal.mono (by have := Kbase.out; omega))) (by have := Kbase.out; have := hal.size; omega) Kfit.out.1 KL.out.tot0 KC2.out Kc2.out).mono ?_; rintro e w3 ⟨rfl, hb3, hs3, hf3, o', hI3, ho3, hlt3⟩; have KT := Aside0.mk (LI_took KL.out Ks.out hp Ko.out Kbase.out hs1 Kf1.out (KR1.out) hal hb3 hs3 hf3 hI3 ho3 hlt3); have Kb3 := Aside0.mk hb3; have KI3 := Aside0.mk hI3; have Klt3 := Aside0.mk hlt3; have hcell : w3.cell? ⟨w1.heap.size, 1, none⟩ = some (.int .i64 (off)) := (cell_of_row _ _ _ _ _ _ ((KT.out.2.2.2.2 w1.heap.size (by omega) (by simp) (Or.inl hs1)).trans (heap_alloc_new w1 _))).trans rfl; clear hal hb3 hs3 hf3 hI3 ho3 hlt3))
      obtain ⟨⟨f2, hL⟩, hlt⟩ := LI_seq KL.out Kst.out Kfit.out.1 Kfit.out.2.2.1 Krest.out Kat2.out KT.out.1 KT.out.2.1 Kb3.out KT.out.2.2.1 KI3.out KT.out.2.2.2.1 Klt3.out
      refine ⟨⟨_, at2, _, f2, ⟨hL⟩⟩, ?_⟩
      rw [(RD_cells hL.rd).2.1, (RD_cells KL.out.rd).2.1]
      have := Kat2.out
      simp only [intOf, Int.toNat_natCast]
      omega
end Go.Proofs.Ytgplpcjlemjabaa.Lz
