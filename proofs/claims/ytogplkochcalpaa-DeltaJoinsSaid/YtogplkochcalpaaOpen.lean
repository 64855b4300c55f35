/- How arguments that are read as data look in memory, type by type: numbers, bools, strings, slices, structs, arrays; and how long they may be. -/
import Derived.WalkKit
import Derived.ProofKit
import Derived.OpenShut
import Derived.SizedLaws
import Derived.Lib.SmallJoins
import Derived.Test.YtogplkochcalpaaWWords
set_option linter.unusedVariables false
set_option linter.unusedSimpArgs false
namespace Go.Proofs.Ytogplkochcalpaa.Open
open Go.ChangeShapes Go.WideShapes Go.RowKit Go.Proofs.YtogplkochcalpaaW.PrintWords
/-- What is read of a type looks so. -/
structure Opens {α : Type} (P : Program) (t : TypeId) (R : World → α → List Value → Prop) : Prop where
  out : ∀ {H : Type} (enc : TypeId × Value → H) (w : World) (fuel : Nat) (cs : List Value) (x : DataW H × List MemPlace),
    DataW.trod enc P w 0 (fun _ => true) true fuel t cs = some x → (∀ n ∈ DataW.weights P t x.1, n ≤ reachBytes) → ∃ v, R w v cs
theorem Opens.imp {α β : Type} {P : Program} {t : TypeId} {R : World → α → List Value → Prop} {S : World → β → List Value → Prop} (h : Opens P t R) (f : α → β) (hf : ∀ w v cs, R w v cs → S w (f v) cs) : Opens P t S :=
  ⟨fun enc w fuel cs x hx hw => by obtain ⟨v, hv⟩ := h.out enc w fuel cs x hx hw; exact ⟨f v, hf w v cs hv⟩⟩
theorem opens_int {P : Program} {t : TypeId} {k : IntKind} (ht : P.underlying t = some (.int k)) : Opens P t (fun w (n : Int) cs => (Kd.int k).K w n cs ∧ (Lit.int k n).wf = true) :=
  ⟨fun enc w fuel cs x hx hw => by
    obtain ⟨n, rfl, rfl, hn⟩ := DataW.trod_int ht hx
    exact ⟨n, rfl, hn⟩⟩
theorem opens_bool {P : Program} {t : TypeId} (ht : P.underlying t = some .bool) : Opens P t (fun w (b : Bool) cs => Kd.bool.K w b cs ∧ True) :=
  ⟨fun enc w fuel cs x hx hw => by
    obtain ⟨n, rfl, rfl⟩ := DataW.trod_bool ht hx
    exact ⟨n, rfl, trivial⟩⟩
theorem opens_string {P : Program} {t : TypeId} (ht : P.underlying t = some .string) : Opens P t (fun w (s : ByteArray) cs => Kd.string.K w s cs ∧ s.size ≤ 140737488351232) :=
  ⟨fun enc w fuel cs x hx hw => by
    obtain ⟨s, rfl, rfl, hs⟩ := DataW.trod_string ht hx
    have := hw s.data.toList.length (by simp [DataW.weights])
    refine ⟨s, rfl, ?_⟩
    rw [Array.length_toList] at this
    exact this⟩
theorem cells_at {w : World} {base : Nat} {a : Addr} {n : Nat} {cs : List Value} (h : w.cells? base a n = some cs) : cs.length = n ∧ ∀ j u, cs[j]? = some u → w.cell? (a.add j) = some u := by
  obtain ⟨_, hl, hc⟩ := World.cells?_some h
  refine ⟨hl, fun j u hj => ?_⟩
  have hjl : j < n := by rw [← hl]; exact (List.getElem?_eq_some_iff.1 hj).1
  rw [hc j hjl, hj]
theorem weights_all {H : Type} {P : Program} {e : TypeId} {l : List (DataW H)} {d : DataW H} (hd : d ∈ l) : ∀ n ∈ DataW.weights P e d, n ∈ DataW.weightsAll P e l := by
  induction l with
  | nil => cases hd
  | cons y l ih =>
    intro n hn
    rw [DataW.weightsAll]
    rcases List.mem_cons.1 hd with rfl | h
    · exact List.mem_append_left _ hn
    · exact List.mem_append_right _ (ih h n hn)
theorem opens_slice {α : Type} {P : Program} {t e : TypeId} {d : Kd α} {good : α → Prop} {B : Nat} (ht : P.underlying t = some (.slice e)) (hc : P.cellsOf e = d.sz) (hB : P.bytesOf e = B) (hB1 : 1 ≤ B) (he : Opens P e (fun w v cs => d.K w v cs ∧ good v)) :
    Opens P t (fun w (xs : List α) cs => (Kd.slice e d).K w xs cs ∧ (∀ v ∈ xs, good v) ∧ xs.length * B ≤ 140737488351232) :=
  ⟨fun enc w fuel cs x hx hw => by
    rcases DataW.trod_slice ht hx with ⟨rfl, _⟩ | ⟨a, len, cap, elems, rest, n, _, rfl, rfl, hb, hl, hm, hlen, hel, hsp, _⟩
    · exact ⟨[], ⟨none, 0, rfl, Nat.le_refl _, rfl, by simp, fun h => by simp at h⟩, by simp, by simp⟩
    · have hrest := (hsp rfl).1
      have hw1 : (elems.length + rest.length) * B ≤ reachBytes := by
        have := hw ((elems.length + rest.length) * B) (by rw [DataW.weights]; simp only [ht, List.length_map, hB]; exact List.mem_cons_self)
        exact this
      have hlB : elems.length * B ≤ 140737488351232 := by
        have h1 : elems.length * B ≤ (elems.length + rest.length) * B := Nat.mul_le_mul_right _ (by omega)
        have h2 : reachBytes = 140737488351232 := by decide
        omega
      have hmax : elems.length ≤ 9223372036854775807 := by
        have : elems.length * 1 ≤ elems.length * B := Nat.mul_le_mul_left _ hB1
        omega
      have each : ∀ i, i < len → ∃ (v : α) (c : List Value), d.K w v c ∧ good v ∧ ∀ j u, c[j]? = some u → w.cell? (a.add (i * d.sz + j)) = some u := by
        intro i hi
        have h1 := hel i hi
        have hil : i < elems.length := by omega
        rw [List.getElem?_eq_getElem hil] at h1
        obtain ⟨c, hc1, hc2⟩ := Option.bind_eq_some_iff.1 h1
        obtain ⟨v, hv1, hv2⟩ := he.out enc w n c _ hc2 (fun m hm' => hw m (by
          rw [DataW.weights]
          simp only [ht]
          refine List.mem_cons_of_mem _ (List.mem_append_left _ (weights_all (d := elems[i].1) ?_ m hm'))
          exact List.mem_map_of_mem (List.getElem_mem hil)))
        refine ⟨v, c, hv1, hv2, fun j u hu => ?_⟩
        have := (cells_at hc1).2 j u hu
        rw [Addr.add_add, hc] at this
        exact this
      have hlist : ∃ xs : List α, xs.length = len ∧ ∀ i v, xs[i]? = some v → ∃ c, d.K w v c ∧ good v ∧ ∀ j u, c[j]? = some u → w.cell? (a.add (i * d.sz + j)) = some u := by
        have build : ∀ m, m ≤ len → ∃ xs : List α, xs.length = m ∧ ∀ i v, xs[i]? = some v → ∃ c, d.K w v c ∧ good v ∧ ∀ j u, c[j]? = some u → w.cell? (a.add (i * d.sz + j)) = some u := by
          intro m
          induction m with
          | zero => intro _; exact ⟨[], rfl, fun i v h => by simp at h⟩
          | succ m ih =>
            intro hm'
            obtain ⟨xs, hx1, hx2⟩ := ih (by omega)
            obtain ⟨v, c, h1, h2, h3⟩ := each m (by omega)
            refine ⟨xs ++ [v], by simp [hx1], fun i u hu => ?_⟩
            by_cases him : i < m
            · exact hx2 i u (by rwa [List.getElem?_append_left (by omega)] at hu)
            · have hie : i = m := by
                have := (List.getElem?_eq_some_iff.1 hu).1
                simp [hx1] at this
                omega
              subst hie
              rw [List.getElem?_append_right (by omega), hx1, Nat.sub_self] at hu
              simp at hu
              subst hu
              exact ⟨c, h1, h2, h3⟩
        exact build len (Nat.le_refl _)
      obtain ⟨xs, hx1, hx2⟩ := hlist
      refine ⟨xs, ⟨some a, cap, ?_, by omega, rfl, by omega, fun _ => ⟨a, rfl, fun j p hj => ?_⟩⟩, fun v hv => ?_, by rw [hx1, ← hlen]; exact hlB⟩
      · rw [hx1]
      · obtain ⟨c, h1, _, h3⟩ := hx2 j p hj
        exact ⟨c, d.K_len h1, h1, h3⟩
      · obtain ⟨i, hi, rfl⟩ := List.getElem_of_mem hv
        obtain ⟨c, _, h2, _⟩ := hx2 i _ (List.getElem?_eq_getElem hi)
        exact h2⟩
/-- Fields from a place on. -/
structure OpensAt {α : Type} (P : Program) (fs : List Field) (off : Nat) (sz : Nat) (R : World → α → List Value → Prop) : Prop where
  out : ∀ {H : Type} (enc : TypeId × Value → H) (w : World) (fuel : Nat) (cs : List Value) (ys : List (DataW H × List MemPlace)), ys.length = fs.length →
    (∀ (i : Nat) (f : Field), fs[i]? = some f → DataW.trod enc P w 0 (fun _ => true) true fuel f.type ((cs.drop f.offset).take (P.cellsOf f.type)) = ys[i]?) →
    (∀ n ∈ DataW.weightsEach P (fs.map Field.type) (ys.map Prod.fst), n ≤ reachBytes) → ∃ v, R w v ((cs.drop off).take sz)
theorem opens_last {α : Type} {P : Program} {f : Field} {off sz : Nat} {R : World → α → List Value → Prop} (ho : f.offset = off) (hs : P.cellsOf f.type = sz) (h : Opens P f.type R) : OpensAt P [f] off sz R :=
  ⟨fun enc w fuel cs ys hl hy hw => by
    match ys, hl with
    | [y], _ =>
      have h1 := hy 0 f rfl
      rw [ho, hs] at h1
      exact h.out enc w fuel _ y h1 (fun n hn => hw n (by simp [DataW.weightsEach]; exact hn))⟩
theorem opens_more {α β : Type} {P : Program} {f : Field} {fs : List Field} {off sz sz' : Nat} {R : World → α → List Value → Prop} {S : World → β → List Value → Prop} (ho : f.offset = off) (hs : P.cellsOf f.type = sz)
    (h : Opens P f.type R) (hr : OpensAt P fs (off + sz) sz' S) : OpensAt P (f :: fs) off (sz + sz') (fun w (v : α × β) cs => ∃ c0 c1, cs = c0 ++ c1 ∧ R w v.1 c0 ∧ S w v.2 c1) :=
  ⟨fun enc w fuel cs ys hl hy hw => by
    match ys, hl with
    | y :: ys, hl =>
      have h1 := hy 0 f rfl
      rw [ho, hs] at h1
      obtain ⟨v, hv⟩ := h.out enc w fuel _ y h1 (fun n hn => hw n (by simp [DataW.weightsEach]; exact Or.inl hn))
      obtain ⟨u, hu⟩ := hr.out enc w fuel cs ys (by simpa using hl) (fun i g hg => hy (i + 1) g hg) (fun n hn => hw n (by simp [DataW.weightsEach]; exact Or.inr (by simpa using hn)))
      refine ⟨(v, u), _, _, ?_, hv, hu⟩
      rw [List.take_add, List.drop_drop]⟩
theorem opens_struct {α : Type} {P : Program} {t : TypeId} {fs : Array Field} {sz : Nat} {R : World → α → List Value → Prop} (ht : P.underlying t = some (.struct fs)) (hs : P.cellsOf t = sz) (h : OpensAt P fs.toList 0 sz R) : Opens P t R :=
  ⟨fun enc w fuel cs x hx hw => by
    obtain ⟨ys, n, rfl, rfl, hl, hlen, hy⟩ := DataW.trod_struct ht hx
    obtain ⟨v, hv⟩ := h.out enc w n cs ys (by simpa using hlen) (fun i f hf => hy i f (by simpa using hf)) (fun m hm => hw m (by rw [DataW.weights]; simpa only [ht] using hm))
    refine ⟨v, ?_⟩
    rw [List.drop_zero, List.take_of_length_le (by omega)] at hv
    exact hv⟩
/-- An array of whole numbers. -/
theorem opens_ints {P : Program} {t e : TypeId} {n : Nat} {k : IntKind} (ht : P.underlying t = some (.array n e)) (he : P.underlying e = some (.int k)) (hc : P.cellsOf e = 1) (hs : P.cellsOf t = n) :
    Opens P t (fun w (xs : List Int) cs => cs = nums k xs ∧ xs.length = n ∧ ∀ x ∈ xs, (Lit.int k x).wf = true) :=
  ⟨fun enc w fuel cs x hx hw => by
    obtain ⟨ys, m, rfl, rfl, hl, hlen, hy⟩ := DataW.trod_array ht hx
    rw [hs] at hl
    have each : ∀ i, i < n → ∃ z, cs[i]? = some (.int k z) ∧ (Lit.int k z).wf = true := by
      intro i hi
      have h1 := hy i hi
      rw [hc, Nat.mul_one, List.getElem?_eq_getElem (by omega)] at h1
      obtain ⟨z, hz, _, hwf⟩ := DataW.trod_int he h1
      refine ⟨z, ?_, hwf⟩
      have : ((cs.drop i).take 1)[0]? = some (.int k z) := by rw [hz]; rfl
      simpa using this
    have build : ∀ m, m ≤ n → ∃ xs : List Int, xs.length = m ∧ cs.take m = nums k xs ∧ ∀ x ∈ xs, (Lit.int k x).wf = true := by
      intro m
      induction m with
      | zero => intro _; exact ⟨[], rfl, by simp [nums], by simp⟩
      | succ m ih =>
        intro hm
        obtain ⟨xs, h1, h2, h3⟩ := ih (by omega)
        obtain ⟨z, hz, hwf⟩ := each m (by omega)
        refine ⟨xs ++ [z], by simp [h1], ?_, ?_⟩
        · rw [List.take_add_one, hz, h2, nums_append]; rfl
        · intro x hx
          rcases List.mem_append.1 hx with h | h
          · exact h3 x h
          · rw [List.mem_singleton.1 h]; exact hwf
    obtain ⟨xs, h1, h2, h3⟩ := build n (Nat.le_refl _)
    exact ⟨xs, by rw [← h2, List.take_of_length_le (by omega)], h1, h3⟩⟩
theorem okWide_array {P : Program} {W : World} {r : Reach} {b0 : Nat} {t e : TypeId} {n : Nat} {v : Value} (ht : P.underlying t = some (.array n e)) (h : Value.okWide P W r b0 t v) : ∃ cs, v = .agg cs ∧ cs.size = P.cellsOf t := by
  simp only [Value.okWide, ht] at h
  obtain ⟨cs, h1, h2, _⟩ := h
  exact ⟨cs, h1, h2⟩
/-- An argument of a row. -/
theorem opened {α : Type} {P : Program} {t : TypeId} {R : World → α → List Value → Prop} (ho : Opens P t R) {H : Type} {enc : TypeId × Value → H} {W : World} {v : Value} {d : DataW H} {p : List MemPlace} {ts : List TypeId} {ds : List (DataW H)} {j : Nat}
    (hsz : (DataW.weightsEach P ts ds).all (· ≤ reachBytes) = true) (ht : ts[j]? = some t) (hd : ds[j]? = some d) (h : DataW.Trod enc P W 0 (fun _ => true) true t v d p) : ∃ x, R W x v.cells.toList := by
  obtain ⟨fuel, hf⟩ := h
  refine ho.out enc W fuel _ _ hf (fun n hn => ?_)
  have := List.all_eq_true.1 hsz _ (DataW.weights_mem_each ht hd n hn)
  simpa using this
end Go.Proofs.Ytogplkochcalpaa.Open
