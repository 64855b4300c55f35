/- A range over a function whose body always goes on, where the iterator keeps cells of its own: the statement's law, the walk of a round. -/
import Derived.RangeFuncBox
import Derived.RangeFuncLeaves
import Derived.RangeFuncRecord
import Derived.RangeFuncStops
import Derived.RangeFuncCalls
import Derived.OrdersIn
import Derived.WalkKit
import Derived.OwnWalkIn
import Derived.TacticsInMore
import Derived.LoopNIn
import Derived.LoopIn
import Derived.Test.YtogplkochcalpaaWLast
set_option linter.unusedVariables false
set_option linter.unusedSimpArgs false
namespace Go.Proofs.Ytogplkochcalpaa.Rg
open Go.RowKit Go.Proofs.YtogplkochcalpaaW.PrintLast
/-- Cells that are not the iterator's own stand; below 'base' all stands. -/
structure St (base : Nat) (own : Nat → Prop) (L : Nat) (A B : World) : Prop where
  below : Below base A B
  same : ∀ b o, A.heap[b]? = some o → b ≠ L → ¬ own b → B.heap[b]? = some o
section
variable {base : Nat} {own : Nat → Prop} {L : Nat} {A B C : World}
theorem St.refl : St base own L A A := ⟨Below.refl _ _, fun _ _ h _ _ => h⟩
theorem St.trans (h : St base own L A B) (k : St base own L B C) : St base own L A C := ⟨h.below.trans k.below, fun b o hb hc hn => k.same b o (h.same b o hb hc hn) hc hn⟩
theorem St.alloc (hb : base ≤ A.heap.size) (o : Obj) : St base own L A (A.alloc o) := ⟨(Below.refl _ _).alloc hb o, fun b o' h _ _ => (Below.heap_alloc A o b (Array.getElem?_eq_some_iff.1 h).1).trans h⟩
theorem St.putObj (hb : base ≤ L) (o' : Obj) : St base own L A (A.putObj L o') :=
  ⟨⟨rfl, rfl, rfl, Nat.le_of_eq World.putObj_size.symm, fun k hk => World.putObj_heap_other (by omega)⟩, fun b p h hc _ => (World.putObj_heap_other hc).trans h⟩
end
/-- What an iterator does between two rounds: all but its own cells stands. -/
structure It (base : Nat) (own : Nat → Prop) (A B : World) : Prop where
  below : Below base A B
  same : ∀ b o, A.heap[b]? = some o → ¬ own b → B.heap[b]? = some o
section
variable {base : Nat} {own : Nat → Prop} {A B C : World}
theorem It.st {L : Nat} (h : It base own A B) : St base own L A B := ⟨h.below, fun b o hb _ hn => h.same b o hb hn⟩
theorem It.refl : It base own A A := ⟨Below.refl _ _, fun _ _ h _ => h⟩
theorem It.trans (h : It base own A B) (k : It base own B C) : It base own A C := ⟨h.below.trans k.below, fun b o hb hn => k.same b o (h.same b o hb hn) hn⟩
theorem It.alloc (hb : base ≤ A.heap.size) (o : Obj) : It base own A (A.alloc o) := ⟨(Below.refl _ _).alloc hb o, fun b o' h _ => (Below.heap_alloc A o b (Array.getElem?_eq_some_iff.1 h).1).trans h⟩
theorem It.drew : It base own A A.drew := ⟨(Below.refl _ _).drew, fun _ _ h _ => h⟩
theorem It.new (h : Below A.heap.size A B) (hb : base ≤ A.heap.size) : It base own A B := ⟨h.mono hb, fun b o hb _ => (h.block b (Array.getElem?_eq_some_iff.1 hb).1).trans hb⟩
theorem It.setOwn {a : Addr} (h : own a.block) (hb : base ≤ a.block) (v : Value) : It base own A (A.setCell a v) :=
  ⟨(Below.refl _ _).setCell hb v, fun b o hb hn => (Below.heap_setCell A a v b (by intro e; subst e; exact hn h)).trans hb⟩
end
/-- What a round says to the iterator. -/
structure Rd (base : Nat) (own : Nat → Prop) (A B : World) : Prop where
  below : Below base A B
  own : ∀ b, own b → B.heap[b]? = A.heap[b]?
section
variable {base : Nat} {own : Nat → Prop} {A B C : World}
theorem Rd.trans (h : Rd base own A B) (k : Rd base own B C) : Rd base own A C := ⟨h.below.trans k.below, fun b hb => (k.own b hb).trans (h.own b hb)⟩
theorem Rd.putObj {l : Nat} (hb : base ≤ l) (hn : ¬ own l) (o' : Obj) : Rd base own A (A.putObj l o') :=
  ⟨⟨rfl, rfl, rfl, Nat.le_of_eq World.putObj_size.symm, fun k hk => World.putObj_heap_other (by omega)⟩, fun b h => World.putObj_heap_other (by intro e; subst e; exact hn h)⟩
theorem Rd.alloc (hb : base ≤ A.heap.size) (ho : ∀ b, own b → b < A.heap.size) (o : Obj) : Rd base own A (A.alloc o) := ⟨(Below.refl _ _).alloc hb o, fun b h => Below.heap_alloc A o b (ho b h)⟩
end
/-- What an iterator answers: it calls yield N times, by turns. -/
def Iter (P : Program) (gf : FuncId) (lb : Array Value) (base : Nat) (own : Nat → Prop) (N : Nat) (Arg : Nat → World → Value → Prop) (w0 : World) : Prop :=
  ∀ (l : Nat) (J : Nat → World → Prop) (W : World), Below w0.heap.size w0 W → w0.heap.size + 1 < W.heap.size → (∀ k A B, J k A → It base own A B → J k B) →
    (∀ k v W1, J k W1 → k < N → Arg k W1 v → YieldAt Fence.wide 0 P l #[v] W1 fun e W' => e = .returned (.bool true) ∧ J (k + 1) W' ∧ Rd base own W1 W') → J 0 W →
    CallsIn Fence.wide 0 P gf (#[.func (.yield l) #[] #[]] ++ lb) W fun e W' => (∃ v, e = .returned v) ∧ J N W'
/-- How a round ends. -/
def RoundEnd (base : Nat) (own : Nat → Prop) (I : World → Prop) (W : World) : Exit → Act → World → Prop
  | .normal, _, W' => I W' ∧ Rd base own W W' ∧ KeepsOthers W W'
  | _, _, _ => False
variable {P : Program}
/-- The statement. -/
theorem range_ {g : Operand} {ps : Array Tmp} {assign body : Code} {Q : Exit → Act → World → Prop} {a : Act} {w : World} {gf : FuncId} {lb : Array Value} (hg : a.eval g = .func (.func gf) #[] lb) (eg : ∀ args w, (callFunc gf args).run P w = .ok (.enter gf args) w) (hps : ps.size = 1)
    {base : Nat} {own : Nat → Prop} {N : Nat} {Arg : Nat → World → Value → Prop} (hb : base ≤ w.heap.size) (hown : ∀ b, own b → b < w.heap.size) (hseq : Iter P gf lb base own N Arg w) (hA : ∀ k v A B, Arg k A v → St base own (w.heap.size + 1) A B → Arg k B v)
    (I : Nat → World → Prop) (hI : ∀ k A B, I k A → St base own (w.heap.size + 1) A B → I k B) (h0 : I 0 w)
    (hround : ∀ (l k : Nat) (v : Value) (W : World), I k W → k < N → Arg k W v → w.heap.size + 1 < W.heap.size → assign.wpIn (Fence.wide.inRound l) 0 P (Exit.then (fun a₁ W1 => Rd base own W W1 ∧ KeepsOthers W W1 ∧ ∀ W2, St base own (w.heap.size + 1) W1 W2 → w.heap.size + 1 < W2.heap.size → body.wpIn (Fence.wide.inRound l) 0 P (RoundEnd base own (I (k + 1)) W2) a₁ W2) (fun _ _ _ => False)) { tmps := (ps.zip #[v]).foldl (fun t (p, v) => t.setIfInBounds p v) a.tmps, defers := [] } W)
    (hdone : ∀ (D : Nat) (W : World), I N W → D = w.heap.size → W.heap[D]? = some (.deferred (some [])) → Q .normal { a with defers := { target := .collected D, args := #[] } :: a.defers } W) :
    (Code.rangeFunc g ps assign body).wp P Q a w := by
  refine wpIn_wide (n := 0) |>.1 (wpIn_rangeFunc ?_)
  intro fn hfn
  obtain ⟨rec, hrec⟩ : ∃ rec : LoopState → Option Code → Loop, rec = fun st pe => { state := st, pending := pe, fn, tmps := a.tmps, params := ps, assign, body, defers := w.heap.size } := ⟨_, rfl⟩
  obtain ⟨W1, hW1⟩ : ∃ W1, (w.alloc (.deferred (some []))).alloc (.loop (rec .ready none)) = W1 := ⟨_, rfl⟩
  have hL1 : W1.heap[w.heap.size + 1]? = some (.loop (rec .ready none)) := by
    rw [← hW1]
    have := World.alloc_heap_new (w.alloc (.deferred (some []))) (.loop (rec .ready none))
    rwa [World.size_alloc] at this
  have hK1 : W1.heap[w.heap.size]? = some (.deferred (some [])) := by
    rw [← hW1]
    exact (Below.heap_alloc _ _ _ (by simp)).trans (World.alloc_heap_new w _)
  have hI1 : I 0 W1 := by rw [← hW1]; exact hI 0 _ _ (hI 0 _ _ h0 (St.alloc hb _)) (St.alloc (by simp; omega) _)
  have hb1 : Below w.heap.size w W1 := by rw [← hW1]; exact (((Below.refl _ w).alloc (Nat.le_refl _) _).alloc (by simp) _)
  have hcalls : ∀ f', Target.leads P W1 (.fn (.func gf) lb) #[.func (.yield (w.heap.size + 1)) #[] #[]] = some f' → Fence.wide.fn f' := fun _ _ => trivial
  refine ⟨w.heap.size + 1, [{ target := .collected w.heap.size, args := #[] }], W1, { target := .fn (.func gf) lb, args := #[.func (.yield (w.heap.size + 1)) #[] #[]] }, W1, gf,
    #[.func (.yield (w.heap.size + 1)) #[] #[]] ++ lb, W1, ?_, ?_, fun _ _ => trivial, ?_, (fun h => by cases h), ?_⟩
  · rw [← hW1, hrec]
    exact run_enterLoop_outer _ _ _ _ _
  · simp only [resolve, hg]
    simp [go_sem]
  · simp [invoke, go_sem, eg]
  · refine (hseq (w.heap.size + 1) (fun k W => I k W ∧ w.heap.size + 1 < W.heap.size ∧ W.heap[w.heap.size + 1]? = some (.loop (rec .ready none)) ∧ W.heap[w.heap.size]? = some (.deferred (some []))) W1 hb1 (by rw [← hW1]; simp) ?_ ?_ ⟨hI1, (Array.getElem?_eq_some_iff.1 hL1).1, hL1, hK1⟩).mono ?_
    · rintro k A B ⟨h1, h2, h3, h4⟩ hI2
      exact ⟨hI k A B h1 hI2.st, Nat.lt_of_lt_of_le h2 hI2.below.size, hI2.same _ _ h3 (fun h => by have := hown _ h; omega), hI2.same _ _ h4 (fun h => by have := hown _ h; omega)⟩
    · rintro k v W ⟨hi, hlt, hl, hk⟩ hkN hArg
      have hy := run_yield (P := P) (args := #[v]) hl (by rw [hrec]; simp [hps])
      rw [hrec] at hy
      have hn1 : ¬ own (w.heap.size + 1) := fun h => by have := hown _ h; omega
      refine ⟨fn, _, assign, body, hy, roundIn_of_wpIn trivial (wpIn_mono (hround _ k v W hi hkN hArg hlt) ?_)⟩
      intro e0 a0 W0 hp0
      cases e0 with
      | normal => ?_
      | ret => exact hp0.elim
      | exit id => exact hp0.elim
      | goto t => exact hp0.elim
      | panic ch => exact hp0.elim
      | outgrown => exact hp0.elim
      obtain ⟨hrd1, hko1, hbody⟩ := hp0
      have hl1 := hko1.same _ _ hl rfl
      have hk1 := hko1.same _ _ hk rfl
      have hlt1 : w.heap.size + 1 < W0.heap.size := Nat.lt_of_lt_of_le hlt hko1.size
      have hl2 : (W0.putObj (w.heap.size + 1) (.loop { rec .ready none with state := .busy })).heap[w.heap.size + 1]? = some (.loop { rec .ready none with state := .busy }) := World.putObj_heap_same hlt1
      have hk2 : (W0.putObj (w.heap.size + 1) (.loop { rec .ready none with state := .busy })).heap[w.heap.size]? = some (.deferred (some [])) := (World.putObj_heap_other (by omega)).trans hk1
      have hst : St base own (w.heap.size + 1) W0 (W0.putObj (w.heap.size + 1) (.loop { rec .ready none with state := .busy })) := St.putObj (by omega) _
      have hrd : Rd base own W0 (W0.putObj (w.heap.size + 1) (.loop { rec .ready none with state := .busy })) := Rd.putObj (by omega) hn1 _
      refine ⟨_, run_beginRound hl1 (by rw [hrec]), ?_⟩
      refine wpIn_mono (hbody _ hst (by rw [World.putObj_size]; omega)) ?_
      rintro e a3 W3 hp
      cases e with
      | normal =>
        obtain ⟨hi3, hr3, hk3⟩ := hp
        have hl3 := hk3.same _ _ hl2 rfl
        have hr := run_endRound (P := P) none hl3
        rw [hrec] at hr hl3
        have hlt3 : w.heap.size + 1 < W3.heap.size := (Array.getElem?_eq_some_iff.1 hl3).1
        refine ⟨_, _, hr, rfl, ⟨hI _ _ _ hi3 (St.putObj (by omega) _), by rw [World.putObj_size]; exact hlt3, ?_, ?_⟩, ((hrd1.trans hrd).trans hr3).trans (Rd.putObj (by omega) hn1 _)⟩
        · rw [hrec]
          exact World.putObj_heap_same hlt3
        · exact (World.putObj_heap_other (by omega)).trans (hk3.same _ _ hk2 rfl)
      | ret => exact hp.elim
      | exit id => exact hp.elim
      | goto t => exact hp.elim
      | panic ch => exact hp.elim
      | outgrown => exact hp.elim
    · rintro e W2 ⟨⟨v, rfl⟩, hi, hlt, hl, hk⟩
      have hr := run_endLoop (P := P) hl (by rw [hrec]; simp)
      rw [hrec] at hr hl
      exact ⟨none, _, hr, hdone _ _ (hI _ _ _ hi (St.putObj (by omega) _)) rfl ((World.putObj_heap_other (by omega)).trans hk)⟩
/-! ### A round is walked as any code is -/
def calm : Op → Bool
  | .defer _ => false
  | _ => true
theorem calm_ne {o : Op} (h : calm o = true) (c : Call) : o ≠ .defer c := by
  rintro rfl
  cases h
theorem rows_ {n : Nat} {l : Nat} {row : String} {args : Array Value} {w : World} {R : Value → World → Prop} (h : Rows P row args w R) : RowsIn (Fence.wide.inRound l) n P row args w R :=
  fun c cs _ => let ⟨v, w', r, s⟩ := h c cs; ⟨v, w', r, stepsIn_wide.2 s⟩
theorem oper_ {l n : Nat} {o : Oper} {a : Act} {w : World} {K : Act → World → Prop} {Q : Exit → Act → World → Prop} (hc : calm o.op = true) (h : o.wp P a w K Q) : o.wpIn (Fence.wide.inRound l) n P a w K Q := by
  refine ⟨fun _ _ => trivial, ?_⟩
  have e : o.semAt (Fence.wide.inRound l).round a.eval = execOp a.eval o := Oper.semAt_some l a.eval o (calm_ne hc)
  rw [e]
  unfold Oper.wp at h
  generalize (execOp a.eval o).run P w = r at h ⊢
  cases r with
  | ok x w1 =>
    cases x with
    | value v => exact h
    | skip => exact h
    | defer d => exact h
    | enter f args => exact ⟨(fun h => by cases h), (callsIn_wide.2 h).mono fun e w2 h2 => by cases e <;> exact h2⟩
    | row row args => exact ⟨(fun h => by cases h), rows_ h⟩
    | round l f tmps assign body => exact h.elim
    | _ => exact h.elim
  | halt s w1 =>
    cases s with
    | panic v => exact h
    | _ => exact h.elim
theorem list_ {l n : Nat} {ops : Array Oper} {Q : Exit → Act → World → Prop} (hQ : ∀ a w, ¬ Q .outgrown a w) : ∀ (rest : List Oper) (a : Act) (w : World), rest.all (fun o => calm o.op) = true → wpList P ops Q rest a w → wpListIn (Fence.wide.inRound l) n P ops Q rest a w
  | [], a, w, _, h => h
  | o :: rest, a, w, hc, h => by
    rw [List.all_cons, Bool.and_eq_true] at hc
    unfold wpList at h
    unfold wpListIn
    by_cases hw : Region.wanted o (yielded ops a.tmps) = true
    · rw [if_pos hw] at h ⊢
      rcases h with h | ⟨-, a0, w0, h⟩
      · exact oper_ hc.1 (Oper.wp_mono (fun a' w' h' => list_ hQ rest a' w' hc.2 h') h)
      · exact absurd h (hQ a0 w0)
    · rw [if_neg hw] at h ⊢
      exact ⟨fun _ _ => trivial, list_ hQ rest _ w hc.2 h⟩
/-- A plain region in a round. -/
theorem region_ {l n id : Nat} {ops : List Oper} {Q : Exit → Act → World → Prop} {a : Act} {w : World} (hQ : ∀ a w, ¬ Q .outgrown a w) (hc : ops.all (fun o => calm o.op) = true) (h : wpList P ops.toArray Q ops a w) : (Code.region id ops.toArray false).wpIn (Fence.wide.inRound l) n P Q a w :=
  wpIn_region_lit (list_ hQ ops a w hc h)
theorem any_ {l n : Nat} {md : Region.Mode} {ops : Array Oper} {Q : Exit → Act → World → Prop} (hQ : ∀ a w, ¬ Q .outgrown a w) (hc : ∀ (i : Nat) (o : Oper), ops[i]? = some o → calm o.op = true) : ∀ (fuel : Nat) (listed : Array Bool) (a : Act) (w : World), wpAny P md ops Q fuel listed a w → wpAnyIn (Fence.wide.inRound l) n P md ops Q fuel listed a w
  | 0, _, _, _, h => h
  | fuel + 1, listed, a, w, h => ⟨h.1, fun i hi => by
    have h2 := h.2 i hi
    unfold wpOp at h2
    unfold wpOpIn
    cases ho : ops[i]? with
    | none =>
      rw [ho] at h2
      exact any_ hQ hc fuel _ a w h2
    | some o =>
      rw [ho] at h2
      simp only at h2 ⊢
      by_cases hw : Region.wanted o (yielded ops a.tmps) = true
      · rw [if_pos hw] at h2 ⊢
        rcases h2 with h2 | ⟨-, a0, w0, h2⟩
        · exact oper_ (hc i o ho) (Oper.wp_mono (fun a' w' h' => any_ hQ hc fuel _ a' w' h') h2)
        · exact absurd h2 (hQ a0 w0)
      · rw [if_neg hw] at h2 ⊢
        exact ⟨fun _ _ => trivial, any_ hQ hc fuel _ _ w h2⟩⟩
/-- A region that draws its order, in a round: its beginning. -/
theorem start_ {S : World → Prop} {ds : List Nat} {l0 id m : Nat} {ops : Array Oper} {Q : Exit → Act → World → Prop} {a : Act} {w : World} (hQ : ∀ a w, ¬ Q .outgrown a w) (hc : ops.toList.all (fun o => calm o.op) = true) {n : Nat} (l : Array Bool) (hm : P.follows .mixedOrders = true) (hn : ops.size = n) (hl : Array.replicate n false = l) (hS : S w.drew)
    (h : S w.drew → wpAnyLast P .any ops Q S ds n l a w.drew) : (Code.region id ops true).wpIn (Fence.wide.inRound l0) m P Q a w := by
  subst hn
  subst hl
  refine wpIn_region_any hm (any_ hQ (fun i o ho => ?_) _ _ _ _ (wpAny_of_last _ _ _ _ (h hS)))
  rw [List.all_eq_true] at hc
  obtain ⟨hi, e⟩ := Array.getElem?_eq_some_iff.1 ho
  exact hc o (by rw [← e]; exact Array.getElem_mem_toList hi)
end Go.Proofs.Ytogplkochcalpaa.Rg
