/- Contents, once: a pool, the document's contents and a copy of bytes, side by side. -/
import Derived.Test.YtgadcnlcldjhpaaPool8
set_option linter.unusedVariables false
set_option linter.unusedSimpArgs false
namespace Go.Proofs.Ytgadcnlcldjhpaa.Pool
open Go.RowKit Go.Proofs.YtgadcnlcldjhpaaW.PrintWords Go.Proofs.YtgadcnlcldjhpaaW.PrintLast Go.Proofs.YtgadcnlcldjhpaaW.PrintMore
/-- The pool (ys), the document's contents (xs, in v, their blocks are Z). -/
def St (w0 : World) (g b : Nat) (Z : Nat → Prop) (v : Value) (w : World) (ys xs : List (List Int)) : Prop :=
  PS w0 w0.heap.size g b (fun q => (q ≠ g ∧ q ≠ b) ∧ ¬ Z q) w ys ∧ Kd.R dB 25 w w0.heap.size Z v xs ∧ ∀ q, Z q → q < w.heap.size ∧ q ≠ g ∧ q ≠ b
/-- .. and a row of bytes of its own (cs, in vc). -/
def StC (w0 : World) (g b : Nat) (Z : Nat → Prop) (v vc : Value) (w : World) (ys xs : List (List Int)) (cs : List Int) : Prop :=
  PS w0 w0.heap.size g b (fun q => ((q ≠ g ∧ q ≠ b) ∧ ¬ Z q) ∧ some q ≠ vc.ownBlock) w ys ∧ Kd.R dB 25 w w0.heap.size Z v xs ∧ (∀ q, Z q → (q < w.heap.size ∧ q ≠ g ∧ q ≠ b) ∧ some q ≠ vc.ownBlock) ∧ Kd.R (Kd.int .u8) 5 w w0.heap.size (fun q => q ≠ g ∧ q ≠ b) vc cs
section
variable {w0 w w1 w2 : World} {g b : Nat} {Z : Nat → Prop} {v vc : Value} {ys xs : List (List Int)} {cs : List Int}
theorem StC_St (h : StC w0 g b Z v vc w ys xs cs) : St w0 g b Z v w ys xs :=
  ⟨PS_wide h.1 (fun q hq => hq.1), h.2.1, fun q hq => (h.2.2.1 q hq).1⟩
theorem St_lt (h : St w0 g b Z v w ys xs) : g < w.heap.size ∧ b < w.heap.size ∧ Below w0.heap.size w0 w ∧ w0.heap.size ≤ w.heap.size := PS_lt h.1
/-- A row of its own is laid. -/
theorem St_row (h : St w0 g b Z v w ys xs) (hb : Below w.heap.size w w1) (hR : Kd.R (Kd.int .u8) 5 w1 w.heap.size (fun _ => True) vc cs) : StC w0 g b Z v vc w1 ys xs cs := by
  obtain ⟨hP, hR1, hZ⟩ := h
  have hlt := PS_lt hP
  have hge : ∀ q, vc.ownBlock = some q → w.heap.size ≤ q := Kd.R_base hR
  have hsz := hb.size
  refine ⟨PS_wide (PS_below (PS_narrow hP) hb) (fun q hq => ⟨hq.1, fun he => ?_⟩), Kd.R_below hR1 hb, fun q hq => ⟨⟨?_, (hZ q hq).2⟩, fun he => ?_⟩, Kd.R_mono (Kd.R_lower (Kd.R_bound hR) hlt.2.2.2) (fun q hq => ⟨?_, ?_⟩)⟩
  · have := hge q he.symm
    have := hq.2
    omega
  · have := (hZ q hq).1
    omega
  · have := hge q he.symm
    have := (hZ q hq).1
    omega
  · have := hq.2.1
    omega
  · have := hq.2.1
    omega
/-- What the pool's Add leaves. -/
theorem StC_add {ys' : List (List Int)} (h : StC w0 g b Z v vc w ys xs cs) (hP : PS w0 w0.heap.size g b (fun q => ((q ≠ g ∧ q ≠ b) ∧ ¬ Z q) ∧ some q ≠ vc.ownBlock) w1 ys') (hsz : w.heap.size ≤ w1.heap.size) (hf : ∀ k, ¬ (((k ≠ g ∧ k ≠ b) ∧ ¬ Z k) ∧ some k ≠ vc.ownBlock) → k ≠ g → k ≠ b → k < w.heap.size → w1.heap[k]? = w.heap[k]?) : StC w0 g b Z v vc w1 ys' xs cs := by
  obtain ⟨-, hR, hZ, hC⟩ := h
  refine ⟨hP, Kd.R_step hR (fun q hq hlt => hf q (fun h => h.1.2 hq) (hZ q hq).1.2.1 (hZ q hq).1.2.2 hlt), fun q hq => ⟨⟨?_, (hZ q hq).1.2⟩, (hZ q hq).2⟩, Kd.R_mono (Kd.R_step (Kd.R_tight rfl hC) (fun q hq hlt => hf q (fun h => h.2 hq) (hC.1 q hq.symm).1 (hC.1 q hq.symm).2 hlt)) (fun q hq => hC.1 q hq.symm)⟩
  have := (hZ q hq).1.1
  omega
/-- What the document's Add leaves. -/
theorem StC_ref {v3 : Value} {xs3 : List (List Int)} (h : StC w0 g b Z v vc w ys xs cs) (hb : Below w.heap.size w w1) (hR : Kd.R dB 25 w1 w0.heap.size (fun k => Z k ∨ w.heap.size ≤ k) v3 xs3) : StC w0 g b (fun k => (Z k ∨ w.heap.size ≤ k) ∧ k < w1.heap.size) v3 vc w1 ys xs3 cs := by
  obtain ⟨hP, -, hZ, hC⟩ := h
  have hlt := PS_lt hP
  have hown : ∀ q, vc.ownBlock = some q → q < w.heap.size := Kd.R_lt hC
  refine ⟨PS_wide (PS_below (PS_narrow hP) hb) (fun q hq => ⟨⟨hq.1.1.1, fun hz => ?_⟩, hq.1.2⟩), Kd.R_mono (Kd.R_bound hR) (fun q hq => ⟨hq.1, hq.2.2.1⟩), fun q hq => ⟨⟨hq.2, ?_, ?_⟩, fun he => ?_⟩, Kd.R_below hC hb⟩
  · rcases hz.1 with hz | hz
    · exact hq.1.1.2 hz
    · have := hq.2
      omega
  · rcases hq.1 with hz | hz
    · exact (hZ q hz).1.2.1
    · omega
  · rcases hq.1 with hz | hz
    · exact (hZ q hz).1.2.2
    · omega
  · rcases hq.1 with hz | hz
    · exact (hZ q hz).2 he
    · have := hown q he.symm
      omega
theorem StC_below (h : StC w0 g b Z v vc w ys xs cs) (hb : Below w.heap.size w w1) : StC w0 g b Z v vc w1 ys xs cs := by
  obtain ⟨hP, hR, hZ, hC⟩ := h
  refine ⟨PS_below hP hb, Kd.R_below hR hb, fun q hq => ⟨⟨?_, (hZ q hq).1.2⟩, (hZ q hq).2⟩, Kd.R_below hC hb⟩
  have := (hZ q hq).1.1
  have := hb.size
  omega
theorem St_below (h : St w0 g b Z v w ys xs) (hb : Below w.heap.size w w1) : St w0 g b Z v w1 ys xs := by
  obtain ⟨hP, hR, hZ⟩ := h
  refine ⟨PS_below hP hb, Kd.R_below hR hb, fun q hq => ⟨?_, (hZ q hq).2⟩⟩
  have := (hZ q hq).1
  have := hb.size
  omega
/-- A byte of the row is written. -/
theorem StC_put {q n c : Nat} (h : StC w0 g b Z v (.slice (some ⟨q, 0, none⟩) n c) w ys xs cs) (j : Nat) (x : Int) : StC w0 g b Z v (.slice (some ⟨q, 0, none⟩) n c) (w.setCell ⟨q, j, none⟩ (.int .u8 x)) ys xs (cs.set j x) := by
  obtain ⟨hP, hR, hZ, hC⟩ := h
  have hq : some q = (Value.slice (some ⟨q, 0, none⟩) n c).ownBlock := by simp [Value.ownBlock]
  have hgb := hC.1 q hq.symm
  have hqb : w0.heap.size ≤ q := Kd.R_base hC q hq.symm
  have hsz : (w.setCell ⟨q, j, none⟩ (.int .u8 x)).heap.size = w.heap.size := by simp
  refine ⟨PS_frame hP ((PS_lt hP).2.2.1.setCell hqb _) (fun k hk ho => Below.heap_setCell _ _ _ _ (fun he => ?_)), Kd.R_far hR (p := ⟨q, j, none⟩) (fun k hk he => ?_) _, fun k hk => ⟨⟨?_, (hZ k hk).1.2⟩, (hZ k hk).2⟩, ?_⟩
  · subst he
    rcases ho with ho | ho | ho
    · exact ho.2 hq
    · exact hgb.1 ho
    · exact hgb.2 ho
  · subst he
    exact (hZ _ hk).2 hq
  · rw [hsz]
    exact (hZ k hk).1.1
  · have h := Kd.R_putn hC (j : Int) x
    simp only [Int.toNat_natCast] at h
    exact h
/-- Adding the row beside the pool. -/
theorem add_copy {A3 : Option Addr} {c3 : Nat} {l : List Int} (h : StC w0 g b Z v (.slice A3 l.length c3) w ys xs l) (hl : ∀ x ∈ l, 0 ≤ x ∧ x < 256) (hn : l.length ≤ 100000) (hx : ys.length < 16384) (hs : (ys.map List.length).sum + l.length ≤ 8388608) :
    Calls Try.prog 43 #[.pointer (some ⟨g, 0, none⟩), .slice A3 l.length c3] w fun e w' => ∃ (p : Nat) (fresh : Bool) (zs : List (List Int)), e = .returned (.tuple #[.int .i64 p, .bool fresh, .int .i64 0]) ∧ zs[p]? = some l ∧ ((l ∈ ys ∧ fresh = false ∧ zs = ys) ∨ (l ∉ ys ∧ fresh = true ∧ zs = ys ++ [l])) ∧ StC w0 g b Z v (.slice A3 l.length c3) w' zs xs l ∧ w.heap.size ≤ w'.heap.size := by
  have hlt := PS_lt h.1
  have hown : ∀ q, (Value.slice A3 l.length c3).ownBlock = some q → q < w.heap.size := Kd.R_lt h.2.2.2
  refine (add_law w0 w0.heap.size g b ys A3 c3 l _ w h.1 (fun k hk => hk.1.1) (fun k hk => ⟨⟨⟨by omega, by omega⟩, fun hz => by have := (h.2.2.1 k hz).1.1; omega⟩, fun he => by have := hown k he.symm; omega⟩) (fun w' _ hf => ?_) (Kd.R_reads' h.2.2.2).2.1 hl (by omega) hx hs).mono ?_
  · exact (Kd.R_reads' (Kd.R_step (Kd.R_tight rfl h.2.2.2) (fun q hq hlt => hf q (fun h2 => h2.2 hq) (h.2.2.2.1 q hq.symm).1 (h.2.2.2.1 q hq.symm).2 hlt))).2.2
  · rintro e w' ⟨p, fresh, zs, he, hp, hc, hP, hsz, hf⟩
    exact ⟨p, fresh, zs, he, hp, hc, StC_add h hP hsz hf, hsz⟩
end
end Go.Proofs.Ytgadcnlcldjhpaa.Pool
