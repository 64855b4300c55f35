/- Deltas: a delta is the same as itself, by the document's Same, as printed. -/
import Derived.Test.YtogplkochcalpaaPDd
import Derived.Test.YtogplkochcalpaaDA
set_option linter.unusedVariables false
set_option linter.unusedSimpArgs false
namespace Go.Proofs.Ytogplkochcalpaa.De
open Go.RowKit Go.Proofs.Ytogplkochcalpaa.PD Go.Proofs.Ytogplkochcalpaa.Fd Go.Proofs.Ytogplkochcalpaa.Bg Go.Proofs.YtogplkochcalpaaW.PrintWords Go.Proofs.YtogplkochcalpaaW.PrintLast Go.Proofs.YtogplkochcalpaaW.PrintMore
theorem same_l0 (l : List S37) (a0 a1 a2 a3 : Int) (hl : l.length ≤ 8388608) : ∀ (m i k : Nat), m + i = l.length → m < k → portmanteauref30_Same.l0 k (i : Int) a0 a1 a2 a3 l a0 a1 a2 a3 l = some true := by
  intro m
  induction m with
  | zero =>
    intro i k hm hk
    obtain ⟨k, rfl⟩ : ∃ q, k = q + 1 := ⟨k - 1, by omega⟩
    rw [portmanteauref30_Same.l0]
    rw [if_neg (by omega)]
  | succ m ih =>
    intro i k hm hk
    obtain ⟨k, rfl⟩ : ∃ q, k = q + 1 := ⟨k - 1, by omega⟩
    rw [portmanteauref30_Same.l0]
    rw [if_pos (by omega), if_pos (by omega), if_pos (by omega), if_pos rfl, if_pos rfl, if_pos rfl, wrap_in (by omega), show ((i : Int) + 1) = ((i + 1 : Nat) : Int) by omega, ih (i + 1) k (by omega) (by omega)]
theorem same_any (d : Dl) (A B : Option Addr) (c cb : Nat) (w : World) (hC : Kd.C k37 w A d.l.length d.l) (hc : d.l.length ≤ c) (hD : Kd.C k37 w B d.l.length d.l) (hd : d.l.length ≤ cb) (hl : d.l.length ≤ 8388608) : Calls Try.prog 13 #[dv d A c, dv d B cb] w fun e w' => e = .returned (.bool true) ∧ Below w.heap.size w w' := by
  refine portmanteauref30_Same.calls (d.l.length + 2) d.a d.b d.c d.d A c d.l d.a d.b d.c d.d B cb d.l true w hC hc hD hd ?_
  unfold portmanteauref30_Same.f
  rw [if_pos rfl, if_pos rfl, if_pos rfl, if_pos rfl, show ((d.l.length : Int) != (d.l.length : Int)) = false by simp, portmanteauref30_Same.j0]
  rw [if_neg (by simp)]
  exact same_l0 d.l d.a d.b d.c d.d hl d.l.length 0 (d.l.length + 1) (by omega) (by omega)
end Go.Proofs.Ytogplkochcalpaa.De
