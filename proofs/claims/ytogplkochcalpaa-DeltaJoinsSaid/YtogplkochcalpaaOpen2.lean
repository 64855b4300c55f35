/- How arguments that are read as data look in memory: structs as elements of slices. -/
import Derived.Test.YtogplkochcalpaaOpen
set_option linter.unusedVariables false
set_option linter.unusedSimpArgs false
namespace Go.Proofs.Ytogplkochcalpaa.Open
open Go.ChangeShapes Go.WideShapes Go.RowKit Go.Proofs.YtogplkochcalpaaW.PrintWords
theorem opens_two {α β : Type} {P : Program} {f : Field} {fs : List Field} {off sz sz' : Nat} {a : Kd α} {b : Kd β} {ga : α → Prop} {gb : β → Prop} (ho : f.offset = off) (hs : P.cellsOf f.type = sz)
    (h : Opens P f.type (fun w v cs => a.K w v cs ∧ ga v)) (hr : OpensAt P fs (off + sz) sz' (fun w v cs => b.K w v cs ∧ gb v)) : OpensAt P (f :: fs) off (sz + sz') (fun w (v : α × β) cs => (Kd.pair a b).K w v cs ∧ (ga v.1 ∧ gb v.2)) :=
  ⟨fun enc w fuel cs ys hl hy hw => by
    obtain ⟨v, c0, c1, e, ⟨h1, h2⟩, ⟨h3, h4⟩⟩ := (opens_more ho hs h hr).out enc w fuel cs ys hl hy hw
    exact ⟨v, ⟨c0, c1, e, h1, h3⟩, h2, h4⟩⟩
end Go.Proofs.Ytogplkochcalpaa.Open
