/- A flash memory: its state; the small methods. -/
import Derived.Test.YtepmgkmbmejkjaaFl2
set_option linter.unusedVariables false
set_option linter.unusedSimpArgs false
namespace Go.Proofs.Ytepmgkmbmejkjaa.Fl
open Go.RowKit Go.Proofs.YtepmgkmbmejkjaaW.PrintWords Go.Proofs.YtepmgkmbmejkjaaW.PrintLast Go.Proofs.YtepmgkmbmejkjaaW.PrintMore
/-- A flash, plain. -/
structure Fl where
  S : Nat
  P : Nat
  B : Nat
  mem : List Int
  dirty : List Bool
  worn : List Int
  ops : Nat
  off : Bool
  armed : Bool
  left : Int
  torn : List Int
/-- Its sizes fit. -/
structure Shape (x : Fl) : Prop where
  s1 : 1 ≤ x.S ∧ x.S ≤ 4096
  p1 : 1 ≤ x.P ∧ x.P ≤ 1024
  b1 : 16 ≤ x.B ∧ x.B ≤ 65536
  all : x.S * x.P * x.B ≤ 16777216
  mem : x.mem.length = x.S * x.P * x.B
  dirty : x.dirty.length = x.S * x.P
  worn : x.worn.length = x.S
/-- Its first block. -/
def Blk (w : World) (f gb gd gw : Nat) (tv : Value) (x : Fl) : Prop :=
  w.heap[f]? = some (.cells #[.int .i64 x.S, .int .i64 x.P, .int .i64 x.B, .slice (some ⟨gb, 0, none⟩) x.mem.length x.mem.length, .slice (some ⟨gd, 0, none⟩) x.dirty.length x.dirty.length, .slice (some ⟨gw, 0, none⟩) x.worn.length x.worn.length, .int .i64 x.ops, .bool x.off, .bool x.armed, .int .i64 x.left, tv] 82 (0, 0))
/-- A flash in memory. -/
structure FM (w : World) (base f gb gd gw : Nat) (tv : Value) (x : Fl) : Prop where
  blk : Blk w f gb gd gw tv x
  mem : Mem w gb x.mem
  dirty : w.heap[gd]? = some (.cells (bools x.dirty).toArray 4 (0, 0))
  worn : w.heap[gw]? = some (.cells (nums .i64 x.worn).toArray 3 (0, 0))
  torn : Kd.R (Kd.int .u8) 5 w base (fun k => k ≠ gb) tv x.torn
  bf : base ≤ f
  bb : base ≤ gb
  bd : base ≤ gd
  bw : base ≤ gw
/-- What a flash's call leaves as it was. -/
structure Ch (base : Nat) (w w' : World) (f gb gd gw : Nat) : Prop where
  below : Below base w w'
  size : w.heap.size ≤ w'.heap.size
  rest : ∀ k, k < w.heap.size → k ≠ f → k ≠ gb → k ≠ gd → k ≠ gw → w'.heap[k]? = w.heap[k]?
section
variable {w w' w'' : World} {base f gb gd gw : Nat} {tv : Value} {x : Fl}
theorem Ch.refl (base : Nat) (w : World) (f gb gd gw : Nat) : Ch base w w f gb gd gw := ⟨Below.refl _ _, Nat.le_refl _, fun _ _ _ _ _ _ => rfl⟩
theorem Ch.trans (h : Ch base w w' f gb gd gw) (h2 : Ch base w' w'' f gb gd gw) : Ch base w w'' f gb gd gw :=
  ⟨h.below.trans h2.below, Nat.le_trans h.size h2.size, fun k hk h1 h3 h4 h5 => (h2.rest k (Nat.lt_of_lt_of_le hk h.size) h1 h3 h4 h5).trans (h.rest k hk h1 h3 h4 h5)⟩
theorem Ch.below_ (h : Ch base w w' f gb gd gw) (hb : base ≤ w'.heap.size) (h2 : Below w'.heap.size w' w'') : Ch base w w'' f gb gd gw :=
  ⟨h.below.trans (h2.mono hb), Nat.le_trans h.size h2.size, fun k hk h1 h3 h4 h5 => (h2.block k (Nat.lt_of_lt_of_le hk h.size)).trans (h.rest k hk h1 h3 h4 h5)⟩
theorem FM.ne (h : FM w base f gb gd gw tv x) : f ≠ gb ∧ f ≠ gd ∧ f ≠ gw ∧ gb ≠ gd ∧ gb ≠ gw ∧ gd ≠ gw :=
  ⟨blk_ne h.blk h.mem (by decide), blk_ne h.blk h.dirty (by decide), blk_ne h.blk h.worn (by decide), blk_ne h.mem h.dirty (by decide), blk_ne h.mem h.worn (by decide), blk_ne h.dirty h.worn (by decide)⟩
theorem FM.lt (h : FM w base f gb gd gw tv x) : f < w.heap.size ∧ gb < w.heap.size ∧ gd < w.heap.size ∧ gw < w.heap.size := ⟨blk_lt h.blk, blk_lt h.mem, blk_lt h.dirty, blk_lt h.worn⟩
theorem FM.size (h : FM w base f gb gd gw tv x) : base ≤ w.heap.size := by have := h.lt.1; have := h.bf; omega
theorem FM.cells (h : FM w base f gb gd gw tv x) : w.cell? ⟨f, 0, none⟩ = some (.int .i64 x.S) ∧ w.cell? ⟨f, 1, none⟩ = some (.int .i64 x.P) ∧ w.cell? ⟨f, 2, none⟩ = some (.int .i64 x.B) ∧ w.cell? ⟨f, 3, none⟩ = some (.slice (some ⟨gb, 0, none⟩) x.mem.length x.mem.length) ∧ w.cell? ⟨f, 4, none⟩ = some (.slice (some ⟨gd, 0, none⟩) x.dirty.length x.dirty.length) ∧ w.cell? ⟨f, 5, none⟩ = some (.slice (some ⟨gw, 0, none⟩) x.worn.length x.worn.length) ∧ w.cell? ⟨f, 6, none⟩ = some (.int .i64 x.ops) ∧ w.cell? ⟨f, 7, none⟩ = some (.bool x.off) ∧ w.cell? ⟨f, 8, none⟩ = some (.bool x.armed) ∧ w.cell? ⟨f, 9, none⟩ = some (.int .i64 x.left) ∧ w.cell? ⟨f, 10, none⟩ = some tv :=
  ⟨(cell_of_row _ _ _ _ _ _ h.blk).trans rfl, (cell_of_row _ _ _ _ _ _ h.blk).trans rfl, (cell_of_row _ _ _ _ _ _ h.blk).trans rfl, (cell_of_row _ _ _ _ _ _ h.blk).trans rfl, (cell_of_row _ _ _ _ _ _ h.blk).trans rfl, (cell_of_row _ _ _ _ _ _ h.blk).trans rfl, (cell_of_row _ _ _ _ _ _ h.blk).trans rfl, (cell_of_row _ _ _ _ _ _ h.blk).trans rfl, (cell_of_row _ _ _ _ _ _ h.blk).trans rfl, (cell_of_row _ _ _ _ _ _ h.blk).trans rfl, (cell_of_row _ _ _ _ _ _ h.blk).trans rfl⟩
theorem FM.frz (h : FM w base f gb gd gw tv x) (j : Nat) : w.frozen? ⟨f, j, none⟩ = false := blk_frozen h.blk j
theorem FM.below (h : FM w base f gb gd gw tv x) (hb : Below w.heap.size w w') : FM w' base f gb gd gw tv x :=
  ⟨blk_below h.blk hb, blk_below h.mem hb, blk_below h.dirty hb, blk_below h.worn hb, Kd.R_below h.torn hb, h.bf, h.bb, h.bd, h.bw⟩
theorem FM.drewN (h : FM w base f gb gd gw tv x) (q : Nat) : FM (w.drewN q) base f gb gd gw tv x := h.below (pw_below_drewN (Below.refl _ _) q)
theorem FM.lower (h : FM w base f gb gd gw tv x) {base' : Nat} (hb : base' ≤ base) : FM w base' f gb gd gw tv x :=
  ⟨h.blk, h.mem, h.dirty, h.worn, Kd.R_lower h.torn hb, by have := h.bf; omega, by have := h.bb; omega, by have := h.bd; omega, by have := h.bw; omega⟩
/-- A cell of its first block written. -/
theorem FM.set (h : FM w base f gb gd gw tv x) {w1 : World} (j : Nat) (u : Value) {x' : Fl} (hw : w1 = w.setCell ⟨f, j, none⟩ u) (hm : x'.mem = x.mem) (hd : x'.dirty = x.dirty) (hn : x'.worn = x.worn) (ht : x'.torn = x.torn)
    (hb : Blk w1 f gb gd gw tv x') : FM w1 base f gb gd gw tv x' := by
  obtain ⟨n1, n2, n3, n4, n5, n6⟩ := h.ne
  subst hw
  refine ⟨hb, ?_, ?_, ?_, ?_, h.bf, h.bb, h.bd, h.bw⟩
  · rw [hm]; exact (Below.heap_setCell _ _ _ _ (Ne.symm n1)).trans h.mem
  · rw [hd]; exact (Below.heap_setCell _ _ _ _ (Ne.symm n2)).trans h.dirty
  · rw [hn]; exact (Below.heap_setCell _ _ _ _ (Ne.symm n3)).trans h.worn
  · rw [ht]; exact Kd.R_set h.torn h.blk (fun q hq => by simp [Kd.int, Kd.scalar] at hq; omega) j u
theorem Ch.set (h : Ch base w w' f gb gd gw) {g : Nat} (hg : base ≤ g) (hk : g = f ∨ g = gb ∨ g = gd ∨ g = gw) (j : Nat) (u : Value) : Ch base w (w'.setCell ⟨g, j, none⟩ u) f gb gd gw :=
  ⟨h.below.setCell hg u, by simp; exact h.size, fun k hlt h1 h2 h3 h4 => (Below.heap_setCell w' ⟨g, j, none⟩ u k (by rcases hk with e | e | e | e <;> (rw [e]; assumption))).trans (h.rest k hlt h1 h2 h3 h4)⟩
theorem Ch.only (h : Ch base w w' f gb gd gw) {g : Nat} (hg : base ≤ g) (hk : g = f ∨ g = gb ∨ g = gd ∨ g = gw) (ho : Only w' w'' g) : Ch base w w'' f gb gd gw :=
  ⟨h.below.trans (ho.1.mono hg), by rw [ho.2.1]; exact h.size, fun k hlt h1 h2 h3 h4 => (ho.2.2 k (by rcases hk with e | e | e | e <;> (rw [e]; assumption))).trans (h.rest k hlt h1 h2 h3 h4)⟩
/-- Its bytes turned. -/
theorem FM.only (h : FM w base f gb gd gw tv x) {mem : List Int} (ho : Only w w' gb) (hm : Mem w' gb mem) (hl : mem.length = x.mem.length) : FM w' base f gb gd gw tv { x with mem := mem } := by
  obtain ⟨n1, n2, n3, n4, n5, n6⟩ := h.ne
  refine ⟨?_, hm, (ho.2.2 _ (Ne.symm n4)).trans h.dirty, (ho.2.2 _ (Ne.symm n5)).trans h.worn, Kd.R_step h.torn (fun k hk _ => ho.2.2 k hk), h.bf, h.bb, h.bd, h.bw⟩
  have := (ho.2.2 _ n1).trans h.blk
  unfold Blk
  simp only [hl]
  exact this
/-- A page marked. -/
theorem FM.mark (h : FM w base f gb gd gw tv x) (j : Nat) (b : Bool) : FM (w.setCell ⟨gd, j, none⟩ (.bool b)) base f gb gd gw tv { x with dirty := x.dirty.set j b } := by
  obtain ⟨n1, n2, n3, n4, n5, n6⟩ := h.ne
  refine ⟨?_, (Below.heap_setCell _ _ _ _ n4).trans h.mem, ?_, (Below.heap_setCell _ _ _ _ (Ne.symm n6)).trans h.worn, Kd.R_set h.torn h.dirty (fun q hq => by simp [Kd.int, Kd.scalar] at hq; omega) j _, h.bf, h.bb, h.bd, h.bw⟩
  · have := (Below.heap_setCell w ⟨gd, j, none⟩ (.bool b) _ n2).trans h.blk
    unfold Blk
    simp only [List.length_set]
    exact this
  · rw [blk_set h.dirty j (.bool b)]
    simp [bools, List.map_set]
/-- A sector's wear. -/
theorem FM.wear (h : FM w base f gb gd gw tv x) (j : Nat) (n : Int) : FM (w.setCell ⟨gw, j, none⟩ (.int .i64 n)) base f gb gd gw tv { x with worn := x.worn.set j n } := by
  obtain ⟨n1, n2, n3, n4, n5, n6⟩ := h.ne
  refine ⟨?_, (Below.heap_setCell _ _ _ _ n5).trans h.mem, (Below.heap_setCell _ _ _ _ n6).trans h.dirty, ?_, Kd.R_set h.torn h.worn (fun q hq => by simp [Kd.int, Kd.scalar] at hq; omega) j _, h.bf, h.bb, h.bd, h.bw⟩
  · have := (Below.heap_setCell w ⟨gw, j, none⟩ (.int .i64 n) _ n3).trans h.blk
    unfold Blk
    simp only [List.length_set]
    exact this
  · rw [blk_set h.worn j (.int .i64 n)]
    simp [nums, List.map_set]
theorem FM.dirty_at (h : FM w base f gb gd gw tv x) {j : Nat} (hj : j < x.dirty.length) : w.cell? ⟨gd, j, none⟩ = some (.bool (x.dirty.getD j false)) := by
  rw [cell_of_row _ _ _ _ _ _ h.dirty]
  simp [bools, List.getElem?_eq_getElem hj]
theorem FM.worn_at (h : FM w base f gb gd gw tv x) {j : Nat} (hj : j < x.worn.length) : w.cell? ⟨gw, j, none⟩ = some (.int .i64 (x.worn.getD j 0)) := by
  rw [cell_of_row _ _ _ _ _ _ h.worn]
  simp [nums, List.getElem?_eq_getElem hj]
theorem size_any (h : FM w base f gb gd gw tv x) : Calls Try.prog 19 #[.pointer (some ⟨f, 0, none⟩)] w fun e w' => e = .returned (.int .i64 x.mem.length) ∧ w = w' := by
  obtain ⟨c0, c1, c2, c3, c4, c5, c6, c7, c8, c9, c10⟩ := h.cells
  clear h c0 c1 c2 c4 c5 c6 c7 c8 c9 c10
  go_enter Try.func19, Try.ntmps19
  go_wp2
  go_ret
  exact ⟨rfl, rfl⟩
theorem ops_any (h : FM w base f gb gd gw tv x) : Calls Try.prog 21 #[.pointer (some ⟨f, 0, none⟩)] w fun e w' => e = .returned (.int .i64 x.ops) ∧ w = w' := by
  obtain ⟨c0, c1, c2, c3, c4, c5, c6, c7, c8, c9, c10⟩ := h.cells
  clear h c0 c1 c2 c3 c4 c5 c7 c8 c9 c10
  go_enter Try.func21, Try.ntmps21
  go_wp2
  go_ret
  exact ⟨rfl, rfl⟩
/-- Was a page written? -/
def dirtyP (x : Fl) (n : Int) : Bool := decide (0 ≤ n) && decide (n < x.dirty.length) && x.dirty.getD n.toNat false
set_option maxHeartbeats 1000000 in
theorem dirty_any (h : FM w base f gb gd gw tv x) (n : Int) : Calls Try.prog 20 #[.pointer (some ⟨f, 0, none⟩), .int .i64 n] w fun e w' => e = .returned (.bool (dirtyP x n)) ∧ w = w' := by
  obtain ⟨c0, c1, c2, c3, c4, c5, c6, c7, c8, c9, c10⟩ := h.cells
  clear c0 c1 c2 c3 c5 c6 c7 c8 c9 c10
  by_cases h0 : 0 ≤ n
  · obtain ⟨m, rfl⟩ := Int.eq_ofNat_of_zero_le h0
    by_cases h1 : m < x.dirty.length
    · have hc := h.dirty_at h1
      have hd : dirtyP x (m : Int) = x.dirty.getD m false := by unfold dirtyP; simp [h1]
      rw [hd]
      obtain ⟨v, hv⟩ : ∃ v, x.dirty.getD m false = v := ⟨_, rfl⟩
      rw [hv] at hc ⊢
      clear hv hd h
      go_enter Try.func20, Try.ntmps20
      go_wp2
      go_ret
      exact ⟨rfl, rfl⟩
    · have hd : dirtyP x (m : Int) = false := by unfold dirtyP; simp [h1]
      rw [hd]
      have hb : decide (m < x.dirty.length) = false := decide_eq_false h1
      clear h hd
      go_enter Try.func20, Try.ntmps20
      go_wp2
      go_ret
      exact ⟨rfl, rfl⟩
  · have hd : dirtyP x n = false := by unfold dirtyP; simp [h0]
    rw [hd]
    have hb : decide (0 ≤ n) = false := decide_eq_false h0
    clear h hd
    go_enter Try.func20, Try.ntmps20
    go_wp2
    go_ret
    exact ⟨rfl, rfl⟩
/-- The operation is done: is it the one that is torn? -/
def failsP (x : Fl) : Bool × Fl :=
  if x.armed = true then (if 0 < x.left - 1 then (false, { x with ops := x.ops + 1, left := x.left - 1 }) else (true, { x with ops := x.ops + 1, left := x.left - 1, armed := false, off := true })) else (false, { x with ops := x.ops + 1 })
set_option maxHeartbeats 1000000 in
theorem fails_any (h : FM w base f gb gd gw tv x) (hops : x.ops ≤ 1000000000) (hleft : x.armed = true → -4000000000000000000 ≤ x.left ∧ x.left ≤ 9223372036854775807) :
    Calls Try.prog 44 #[.pointer (some ⟨f, 0, none⟩)] w fun e w' => e = .returned (.bool (failsP x).1) ∧ FM w' base f gb gd gw tv (failsP x).2 ∧ Only w w' f := by
  obtain ⟨c0, c1, c2, c3, c4, c5, c6, c7, c8, c9, c10⟩ := h.cells
  have z6 := h.frz 6
  have z7 := h.frz 7
  have z8 := h.frz 8
  have z9 := h.frz 9
  have K := Aside0.mk h
  clear h c0 c1 c2 c3 c4 c5 c10
  unfold failsP
  by_cases ha : x.armed = true
  · rw [if_pos ha]
    obtain ⟨hl1, hl2⟩ := hleft ha
    rw [ha] at c8
    by_cases hl : 0 < x.left - 1
    · rw [if_pos hl]
      have Ka := Aside0.mk ha
      clear ha hleft
      go_enter Try.func44, Try.ntmps44
      go_wp2
      go_ret
      refine ⟨rfl, ?_, ((Only.refl w f).set 6 _).set 9 _⟩
      have h1 : FM (w.setCell ⟨f, 6, none⟩ (.int .i64 ((x.ops : Int) + 1))) base f gb gd gw tv { x with ops := x.ops + 1 } := K.out.set 6 _ rfl rfl rfl rfl rfl (blk_set K.out.blk 6 _)
      exact h1.set 9 _ rfl rfl rfl rfl rfl (blk_set h1.blk 9 _)
    · rw [if_neg hl]
      have Ka := Aside0.mk ha
      clear ha hleft
      go_enter Try.func44, Try.ntmps44
      go_wp2
      go_ret
      refine ⟨rfl, ?_, ((((Only.refl w f).set 6 _).set 9 _).set 8 _).set 7 _⟩
      have h1 : FM (w.setCell ⟨f, 6, none⟩ (.int .i64 ((x.ops : Int) + 1))) base f gb gd gw tv { x with ops := x.ops + 1 } := K.out.set 6 _ rfl rfl rfl rfl rfl (blk_set K.out.blk 6 _)
      have h2 : FM ((w.setCell ⟨f, 6, none⟩ (.int .i64 ((x.ops : Int) + 1))).setCell ⟨f, 9, none⟩ (.int .i64 (x.left - 1))) base f gb gd gw tv { x with ops := x.ops + 1, left := x.left - 1 } := h1.set 9 _ rfl rfl rfl rfl rfl (blk_set h1.blk 9 _)
      have h3 : FM (((w.setCell ⟨f, 6, none⟩ (.int .i64 ((x.ops : Int) + 1))).setCell ⟨f, 9, none⟩ (.int .i64 (x.left - 1))).setCell ⟨f, 8, none⟩ (.bool false)) base f gb gd gw tv { x with ops := x.ops + 1, left := x.left - 1, armed := false } := h2.set 8 _ rfl rfl rfl rfl rfl (blk_set h2.blk 8 _)
      exact h3.set 7 _ rfl rfl rfl rfl rfl (blk_set h3.blk 7 _)
  · rw [if_neg ha]
    have ha2 : x.armed = false := by simpa using ha
    rw [ha2] at c8
    clear ha ha2 hleft
    go_enter Try.func44, Try.ntmps44
    go_wp2
    go_ret
    exact ⟨rfl, K.out.set 6 _ rfl rfl rfl rfl rfl (blk_set K.out.blk 6 _), (Only.refl w f).set 6 _⟩
end
end Go.Proofs.Ytepmgkmbmejkjaa.Fl
