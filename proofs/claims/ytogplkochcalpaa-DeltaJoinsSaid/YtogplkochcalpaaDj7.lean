/- Deltas joined: delta.Join and the document's, all cases. -/
import Derived.Test.YtogplkochcalpaaDj3
import Derived.Test.YtogplkochcalpaaDj6
set_option linter.unusedVariables false
set_option linter.unusedSimpArgs false
namespace Go.Proofs.Ytogplkochcalpaa.De
open Go.RowKit Go.Proofs.Ytogplkochcalpaa.PD Go.Proofs.Ytogplkochcalpaa.Fd Go.Proofs.Ytogplkochcalpaa.Bg Go.Proofs.YtogplkochcalpaaW.PrintWords Go.Proofs.YtogplkochcalpaaW.PrintLast Go.Proofs.YtogplkochcalpaaW.PrintMore
theorem joinP_max {d f : Dl} (h1 : rightD d = true) (h2 : rightD f = true) : (joinP d.l f.l).length ≤ 8388608 := by
  obtain ⟨a1, a2, a3, a4, a5, a6⟩ := right_parts h1
  obtain ⟨b1, b2, b3, b4, b5, b6⟩ := right_parts h2
  have := joinP_len a6 f.l f.a f.b b6
  omega
theorem joinR_len (d f : Dl) : (joinR d f).1.l.length ≤ 8388608 := by
  unfold joinR
  by_cases h : rightD d = true ∧ rightD f = true
  · rw [if_pos h]
    by_cases hk : d.b = f.a ∧ d.d = f.c
    · rw [if_pos hk]; exact joinP_max h.1 h.2
    · rw [if_neg hk]; simp [zeroD]
  · rw [if_neg h]; simp [zeroD]
section
variable (w : World) (d f : Dl) (A : Option Addr) (c : Nat) (B : Option Addr) (cb : Nat) (hd : Kd.C k37 w A d.l.length d.l) (hc : d.l.length ≤ c) (hf : Kd.C k37 w B f.l.length f.l) (hcb : f.l.length ≤ cb) (hwd : ∀ o ∈ d.l, WfO o) (hwf : ∀ o ∈ f.l, WfO o) (hld : d.l.length ≤ 8388608) (hlf : f.l.length ≤ 8388608)
include hd hc hwd hld hf hcb hwf hlf
theorem rjoin_any : Calls Try.prog 21 #[dv d A c, dv f B cb] w fun e w' => JR w (joinR d f) e w' := by
  unfold joinR
  cases hr : rightD d with
  | false =>
    rw [if_neg (fun h => by cases h.1)]
    exact rjoin_d w d f A c B cb hd hc hwd hld hr
  | true =>
    cases hr2 : rightD f with
    | false =>
      rw [if_neg (fun h => by cases h.2)]
      exact rjoin_f w d f A c B cb hd hc hf hcb hwd hwf hld hlf hr hr2
    | true =>
      rw [if_pos ⟨rfl, rfl⟩]
      by_cases hk : d.b = f.a ∧ d.d = f.c
      · rw [if_pos hk]
        exact rjoin_main w d f A c B cb hd hc hf hcb hwd hwf hld hlf hr hr2 hk (joinP_max hr hr2)
      · rw [if_neg hk]
        exact rjoin_kind w d f A c B cb hd hc hf hcb hwd hwf hld hlf hr hr2 hk
theorem join_any : Calls Try.prog 20 #[dv d A c, dv f B cb] w fun e w' => JR w (joinR d f) e w' := by
  unfold joinR
  cases hr : rightD d with
  | false =>
    rw [if_neg (fun h => by cases h.1)]
    exact join_d w d f A c B cb hd hc hwd hld hr
  | true =>
    cases hr2 : rightD f with
    | false =>
      rw [if_neg (fun h => by cases h.2)]
      exact join_f w d f A c B cb hd hc hf hcb hwd hwf hld hlf hr hr2
    | true =>
      rw [if_pos ⟨rfl, rfl⟩]
      by_cases hk : d.b = f.a ∧ d.d = f.c
      · rw [if_pos hk]
        exact join_main w d f A c B cb hd hc hf hcb hwd hwf hld hlf hr hr2 hk (joinP_max hr hr2)
      · rw [if_neg hk]
        exact join_kind w d f A c B cb hd hc hf hcb hwd hwf hld hlf hr hr2 hk
end
end Go.Proofs.Ytogplkochcalpaa.De
