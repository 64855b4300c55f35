/-
  No cell of these rows narrows 'for every input' (looked for: loops, veiled, ifaces, maps, wideKeys, modest, calm, conditions, laid).
  DERIVED. THE GIVEN ROWS OF THIS SEAT. 12 by the template 'for every input the law returns true; each argument reads behind the call as it read before'; 0 by the template 'total and deterministic' (their statements: YtgadcnlcldjhpaaTotals.lean).
  GIVEN WITH THE SEED: the statements are not yours to turn. If you find one false, say at which input.
  Laid BY PROGRAM, IN A SANDBOX (cutbox-rows.mjs): the forced cells as the released guide's own fill.sh prints them over the translation b931e3b781858fed… (all of the seat's roots in one cut). By AI agents, Wed Nov 11 2026. No macro, syntax, notation, axiom, sorry.
-/
import Derived.Test.YtgadcnlcldjhpaaChecked
import GoSem.Claim
import GoSem.ClaimJoined
import GoSem.ClaimMapViews
import Derived.JoinedTies
import Derived.KernelRfl
namespace Go.Proofs.Ytgadcnlcldjhpaa
/- THE CELL 'sum', in the pinned program and in every row, IS THE sha256 OF THE DUMP (.gsa) THAT YtgadcnlcldjhpaaProg.lean LOADS. Nothing in Lean hashes anything: it is a label: what it is worth is what the hold of that sum in a sandbox is worth. -/
noncomputable def Try.pinned : Pinned := { name := "ytgadcnlcldjhpaa", sum := "b931e3b781858fedb5e375435b34daac5708a33e061ef4a836a0efef4538b3ca", checked := Try.checked }
namespace Rows
def none {H : Type} : Left H := { results := [], args := [] }

/-- 'portmanteaulaw02.SumTables': WHATEVER THE INPUT: true; the input reads as it did. -/
def sumTablesSpec : ChangeSpec := { name := "sumTables", fn := fun _ => fun
  | [d1, d2, d3] => { results := [.lit (.bool true)], args := [d1, d2, d3] }
  | _ => none }
def sumTablesRow : OpenClaim := { program := "ytgadcnlcldjhpaa", sum := "b931e3b781858fedb5e375435b34daac5708a33e061ef4a836a0efef4538b3ca", func := "portmanteau/portmanteaulaw02.SumTables", spec := "sumTables", apart := false }
def SumTablesSaid : Prop := sumTablesRow.holds Try.pinned (OpenSpec.ofChange sumTablesSpec)

/-- ITS FALSE NEIGHBOUR: 'it returns false'. Refute it at one input. -/
def sumTablesWrong : ChangeSpec := { name := "sumTables", fn := fun _ => fun
  | [d1, d2, d3] => { results := [.lit (.bool false)], args := [d1, d2, d3] }
  | _ => none }
def SumTablesWrongFalsely : Prop := sumTablesRow.holds Try.pinned (OpenSpec.ofChange sumTablesWrong)

/-- 'portmanteaulaw02.SumDigests': WHATEVER THE INPUT: true; the input reads as it did. -/
def sumDigestsSpec : ChangeSpec := { name := "sumDigests", fn := fun _ => fun
  | [d1, d2] => { results := [.lit (.bool true)], args := [d1, d2] }
  | _ => none }
def sumDigestsRow : OpenClaim := { program := "ytgadcnlcldjhpaa", sum := "b931e3b781858fedb5e375435b34daac5708a33e061ef4a836a0efef4538b3ca", func := "portmanteau/portmanteaulaw02.SumDigests", spec := "sumDigests", apart := false }
def SumDigestsSaid : Prop := sumDigestsRow.holds Try.pinned (OpenSpec.ofChange sumDigestsSpec)

/-- ITS FALSE NEIGHBOUR: 'it returns false'. Refute it at one input. -/
def sumDigestsWrong : ChangeSpec := { name := "sumDigests", fn := fun _ => fun
  | [d1, d2] => { results := [.lit (.bool false)], args := [d1, d2] }
  | _ => none }
def SumDigestsWrongFalsely : Prop := sumDigestsRow.holds Try.pinned (OpenSpec.ofChange sumDigestsWrong)

/-- 'portmanteaulaw02.SumParts': WHATEVER THE INPUT: true; the input reads as it did. -/
def sumPartsSpec : ChangeSpec := { name := "sumParts", fn := fun _ => fun
  | [d1, d2, d3] => { results := [.lit (.bool true)], args := [d1, d2, d3] }
  | _ => none }
def sumPartsRow : OpenClaim := { program := "ytgadcnlcldjhpaa", sum := "b931e3b781858fedb5e375435b34daac5708a33e061ef4a836a0efef4538b3ca", func := "portmanteau/portmanteaulaw02.SumParts", spec := "sumParts", apart := false }
def SumPartsSaid : Prop := sumPartsRow.holds Try.pinned (OpenSpec.ofChange sumPartsSpec)

/-- ITS FALSE NEIGHBOUR: 'it returns false'. Refute it at one input. -/
def sumPartsWrong : ChangeSpec := { name := "sumParts", fn := fun _ => fun
  | [d1, d2, d3] => { results := [.lit (.bool false)], args := [d1, d2, d3] }
  | _ => none }
def SumPartsWrongFalsely : Prop := sumPartsRow.holds Try.pinned (OpenSpec.ofChange sumPartsWrong)

/-- 'portmanteaulaw02.SumBursts': WHATEVER THE INPUT: true; the input reads as it did. -/
def sumBurstsSpec : ChangeSpec := { name := "sumBursts", fn := fun _ => fun
  | [d1, d2, d3] => { results := [.lit (.bool true)], args := [d1, d2, d3] }
  | _ => none }
def sumBurstsRow : OpenClaim := { program := "ytgadcnlcldjhpaa", sum := "b931e3b781858fedb5e375435b34daac5708a33e061ef4a836a0efef4538b3ca", func := "portmanteau/portmanteaulaw02.SumBursts", spec := "sumBursts", apart := false }
def SumBurstsSaid : Prop := sumBurstsRow.holds Try.pinned (OpenSpec.ofChange sumBurstsSpec)

/-- ITS FALSE NEIGHBOUR: 'it returns false'. Refute it at one input. -/
def sumBurstsWrong : ChangeSpec := { name := "sumBursts", fn := fun _ => fun
  | [d1, d2, d3] => { results := [.lit (.bool false)], args := [d1, d2, d3] }
  | _ => none }
def SumBurstsWrongFalsely : Prop := sumBurstsRow.holds Try.pinned (OpenSpec.ofChange sumBurstsWrong)

/-- 'portmanteaulaw02.SumCrcs': WHATEVER THE INPUT: true; the input reads as it did. -/
def sumCrcsSpec : ChangeSpec := { name := "sumCrcs", fn := fun _ => fun
  | [d1, d2] => { results := [.lit (.bool true)], args := [d1, d2] }
  | _ => none }
def sumCrcsRow : OpenClaim := { program := "ytgadcnlcldjhpaa", sum := "b931e3b781858fedb5e375435b34daac5708a33e061ef4a836a0efef4538b3ca", func := "portmanteau/portmanteaulaw02.SumCrcs", spec := "sumCrcs", apart := false }
def SumCrcsSaid : Prop := sumCrcsRow.holds Try.pinned (OpenSpec.ofChange sumCrcsSpec)

/-- ITS FALSE NEIGHBOUR: 'it returns false'. Refute it at one input. -/
def sumCrcsWrong : ChangeSpec := { name := "sumCrcs", fn := fun _ => fun
  | [d1, d2] => { results := [.lit (.bool false)], args := [d1, d2] }
  | _ => none }
def SumCrcsWrongFalsely : Prop := sumCrcsRow.holds Try.pinned (OpenSpec.ofChange sumCrcsWrong)

/-- 'portmanteaulaw02.SumTable': WHATEVER THE INPUT: true; the input reads as it did. -/
def sumTableSpec : ChangeSpec := { name := "sumTable", fn := fun _ => fun
  | [d1, d2] => { results := [.lit (.bool true)], args := [d1, d2] }
  | _ => none }
def sumTableRow : OpenClaim := { program := "ytgadcnlcldjhpaa", sum := "b931e3b781858fedb5e375435b34daac5708a33e061ef4a836a0efef4538b3ca", func := "portmanteau/portmanteaulaw02.SumTable", spec := "sumTable", apart := false }
def SumTableSaid : Prop := sumTableRow.holds Try.pinned (OpenSpec.ofChange sumTableSpec)

/-- ITS FALSE NEIGHBOUR: 'it returns false'. Refute it at one input. -/
def sumTableWrong : ChangeSpec := { name := "sumTable", fn := fun _ => fun
  | [d1, d2] => { results := [.lit (.bool false)], args := [d1, d2] }
  | _ => none }
def SumTableWrongFalsely : Prop := sumTableRow.holds Try.pinned (OpenSpec.ofChange sumTableWrong)

/-- 'portmanteaulaw07.PartMakes': WHATEVER THE INPUT: true; the input reads as it did. -/
def partMakesSpec : ChangeSpec := { name := "partMakes", fn := fun _ => fun
  | [d1, d2] => { results := [.lit (.bool true)], args := [d1, d2] }
  | _ => none }
def partMakesRow : OpenClaim := { program := "ytgadcnlcldjhpaa", sum := "b931e3b781858fedb5e375435b34daac5708a33e061ef4a836a0efef4538b3ca", func := "portmanteau/portmanteaulaw07.PartMakes", spec := "partMakes", apart := false }
def PartMakesSaid : Prop := partMakesRow.holds Try.pinned (OpenSpec.ofChange partMakesSpec)

/-- ITS FALSE NEIGHBOUR: 'it returns false'. Refute it at one input. -/
def partMakesWrong : ChangeSpec := { name := "partMakes", fn := fun _ => fun
  | [d1, d2] => { results := [.lit (.bool false)], args := [d1, d2] }
  | _ => none }
def PartMakesWrongFalsely : Prop := partMakesRow.holds Try.pinned (OpenSpec.ofChange partMakesWrong)

/-- 'portmanteaulaw07.PartPlaces': WHATEVER THE INPUT: true; the input reads as it did. -/
def partPlacesSpec : ChangeSpec := { name := "partPlaces", fn := fun _ => fun
  | [d1, d2, d3] => { results := [.lit (.bool true)], args := [d1, d2, d3] }
  | _ => none }
def partPlacesRow : OpenClaim := { program := "ytgadcnlcldjhpaa", sum := "b931e3b781858fedb5e375435b34daac5708a33e061ef4a836a0efef4538b3ca", func := "portmanteau/portmanteaulaw07.PartPlaces", spec := "partPlaces", apart := false }
def PartPlacesSaid : Prop := partPlacesRow.holds Try.pinned (OpenSpec.ofChange partPlacesSpec)

/-- ITS FALSE NEIGHBOUR: 'it returns false'. Refute it at one input. -/
def partPlacesWrong : ChangeSpec := { name := "partPlaces", fn := fun _ => fun
  | [d1, d2, d3] => { results := [.lit (.bool false)], args := [d1, d2, d3] }
  | _ => none }
def PartPlacesWrongFalsely : Prop := partPlacesRow.holds Try.pinned (OpenSpec.ofChange partPlacesWrong)

/-- 'portmanteaulaw07.PartApart': WHATEVER THE INPUT: true; the input reads as it did. -/
def partApartSpec : ChangeSpec := { name := "partApart", fn := fun _ => fun
  | [d1, d2, d3] => { results := [.lit (.bool true)], args := [d1, d2, d3] }
  | _ => none }
def partApartRow : OpenClaim := { program := "ytgadcnlcldjhpaa", sum := "b931e3b781858fedb5e375435b34daac5708a33e061ef4a836a0efef4538b3ca", func := "portmanteau/portmanteaulaw07.PartApart", spec := "partApart", apart := false }
def PartApartSaid : Prop := partApartRow.holds Try.pinned (OpenSpec.ofChange partApartSpec)

/-- ITS FALSE NEIGHBOUR: 'it returns false'. Refute it at one input. -/
def partApartWrong : ChangeSpec := { name := "partApart", fn := fun _ => fun
  | [d1, d2, d3] => { results := [.lit (.bool false)], args := [d1, d2, d3] }
  | _ => none }
def PartApartWrongFalsely : Prop := partApartRow.holds Try.pinned (OpenSpec.ofChange partApartWrong)

/-- 'portmanteaulaw20.PoolOnce': WHATEVER THE INPUT: true; the input reads as it did. -/
def poolOnceSpec : ChangeSpec := { name := "poolOnce", fn := fun _ => fun
  | [d] => { results := [.lit (.bool true)], args := [d] }
  | _ => none }
def poolOnceRow : OpenClaim := { program := "ytgadcnlcldjhpaa", sum := "b931e3b781858fedb5e375435b34daac5708a33e061ef4a836a0efef4538b3ca", func := "portmanteau/portmanteaulaw20.PoolOnce", spec := "poolOnce", apart := false }
def PoolOnceSaid : Prop := poolOnceRow.holds Try.pinned (OpenSpec.ofChange poolOnceSpec)

/-- ITS FALSE NEIGHBOUR: 'it returns false'. Refute it at one input. -/
def poolOnceWrong : ChangeSpec := { name := "poolOnce", fn := fun _ => fun
  | [d] => { results := [.lit (.bool false)], args := [d] }
  | _ => none }
def PoolOnceWrongFalsely : Prop := poolOnceRow.holds Try.pinned (OpenSpec.ofChange poolOnceWrong)

/-- 'portmanteaulaw20.PoolPlays': WHATEVER THE INPUT: true; the input reads as it did. -/
def poolPlaysSpec : ChangeSpec := { name := "poolPlays", fn := fun _ => fun
  | [d1, d2, d3] => { results := [.lit (.bool true)], args := [d1, d2, d3] }
  | _ => none }
def poolPlaysRow : OpenClaim := { program := "ytgadcnlcldjhpaa", sum := "b931e3b781858fedb5e375435b34daac5708a33e061ef4a836a0efef4538b3ca", func := "portmanteau/portmanteaulaw20.PoolPlays", spec := "poolPlays", apart := false }
def PoolPlaysSaid : Prop := poolPlaysRow.holds Try.pinned (OpenSpec.ofChange poolPlaysSpec)

/-- ITS FALSE NEIGHBOUR: 'it returns false'. Refute it at one input. -/
def poolPlaysWrong : ChangeSpec := { name := "poolPlays", fn := fun _ => fun
  | [d1, d2, d3] => { results := [.lit (.bool false)], args := [d1, d2, d3] }
  | _ => none }
def PoolPlaysWrongFalsely : Prop := poolPlaysRow.holds Try.pinned (OpenSpec.ofChange poolPlaysWrong)

/-- 'portmanteaulaw20.PoolBounds': WHATEVER THE INPUT: true; the input reads as it did. -/
def poolBoundsSpec : ChangeSpec := { name := "poolBounds", fn := fun _ => fun
  | [d1, d2] => { results := [.lit (.bool true)], args := [d1, d2] }
  | _ => none }
def poolBoundsRow : OpenClaim := { program := "ytgadcnlcldjhpaa", sum := "b931e3b781858fedb5e375435b34daac5708a33e061ef4a836a0efef4538b3ca", func := "portmanteau/portmanteaulaw20.PoolBounds", spec := "poolBounds", apart := false }
def PoolBoundsSaid : Prop := poolBoundsRow.holds Try.pinned (OpenSpec.ofChange poolBoundsSpec)

/-- ITS FALSE NEIGHBOUR: 'it returns false'. Refute it at one input. -/
def poolBoundsWrong : ChangeSpec := { name := "poolBounds", fn := fun _ => fun
  | [d1, d2] => { results := [.lit (.bool false)], args := [d1, d2] }
  | _ => none }
def PoolBoundsWrongFalsely : Prop := poolBoundsRow.holds Try.pinned (OpenSpec.ofChange poolBoundsWrong)

/- THE SECOND FORM. 'bulk': how many values and letters a reading holds, each counted each time it is reached (what is shared counts as often as it is met; a slice's spare places count too). A statement '..UptoSaid' is the law's where the arguments, and the package variables that the reading takes, are together of bulk at most 1048576: NARROWER than '..Said'. Prove '..Said' where nothing that the law and all that it calls make is longer than what came in: it says more and counts as full. Else prove '..UptoSaid'. A law counts once. -/
mutual
def uptoBulk {H : Type} : DataW H → Nat
  | .lit (.string bytes) => bytes.length + 1
  | .lit _ => 1
  | .nil => 1
  | .ptr d => uptoBulk d + 1
  | .slice elems spare => uptoBulkAll elems + uptoBulkAll spare + 1
  | .agg parts => uptoBulkAll parts + 1
  | .iface _ d => uptoBulk d + 1
  | .map entries => uptoBulkEntries entries + 1
  | .held _ => 1
def uptoBulkAll {H : Type} : List (DataW H) → Nat
  | [] => 0
  | d :: r => uptoBulk d + uptoBulkAll r
def uptoBulkEntries {H : Type} : List (Lit × DataW H) → Nat
  | [] => 0
  | x :: r => uptoBulkEntry x + uptoBulkEntries r
def uptoBulkEntry {H : Type} : Lit × DataW H → Nat
  | (.string bytes, d) => bytes.length + uptoBulk d + 1
  | (_, d) => uptoBulk d + 1
 end
def uptoSmall : (H : Type) → List (DataW H) → Bool := fun _ ds => decide (uptoBulkAll ds ≤ 1048576)
def OpenSpec.upto (s : _root_.Go.ChangeSpec) : _root_.Go.OpenSpec := { _root_.Go.OpenSpec.ofChange s with cond := some uptoSmall }

/-- 'portmanteaulaw02.SumTables', WHERE WHAT IT READS IS OF BULK AT MOST 1048576: true; the input reads as it did. -/
def sumTablesUptoRow : OpenClaim := { program := "ytgadcnlcldjhpaa", sum := "b931e3b781858fedb5e375435b34daac5708a33e061ef4a836a0efef4538b3ca", func := "portmanteau/portmanteaulaw02.SumTables", spec := "sumTables", apart := false, narrowed := true }
def SumTablesUptoSaid : Prop := sumTablesUptoRow.holds Try.pinned (OpenSpec.upto sumTablesSpec)

/-- 'portmanteaulaw02.SumDigests', WHERE WHAT IT READS IS OF BULK AT MOST 1048576: true; the input reads as it did. -/
def sumDigestsUptoRow : OpenClaim := { program := "ytgadcnlcldjhpaa", sum := "b931e3b781858fedb5e375435b34daac5708a33e061ef4a836a0efef4538b3ca", func := "portmanteau/portmanteaulaw02.SumDigests", spec := "sumDigests", apart := false, narrowed := true }
def SumDigestsUptoSaid : Prop := sumDigestsUptoRow.holds Try.pinned (OpenSpec.upto sumDigestsSpec)

/-- 'portmanteaulaw02.SumParts', WHERE WHAT IT READS IS OF BULK AT MOST 1048576: true; the input reads as it did. -/
def sumPartsUptoRow : OpenClaim := { program := "ytgadcnlcldjhpaa", sum := "b931e3b781858fedb5e375435b34daac5708a33e061ef4a836a0efef4538b3ca", func := "portmanteau/portmanteaulaw02.SumParts", spec := "sumParts", apart := false, narrowed := true }
def SumPartsUptoSaid : Prop := sumPartsUptoRow.holds Try.pinned (OpenSpec.upto sumPartsSpec)

/-- 'portmanteaulaw02.SumBursts', WHERE WHAT IT READS IS OF BULK AT MOST 1048576: true; the input reads as it did. -/
def sumBurstsUptoRow : OpenClaim := { program := "ytgadcnlcldjhpaa", sum := "b931e3b781858fedb5e375435b34daac5708a33e061ef4a836a0efef4538b3ca", func := "portmanteau/portmanteaulaw02.SumBursts", spec := "sumBursts", apart := false, narrowed := true }
def SumBurstsUptoSaid : Prop := sumBurstsUptoRow.holds Try.pinned (OpenSpec.upto sumBurstsSpec)

/-- 'portmanteaulaw02.SumCrcs', WHERE WHAT IT READS IS OF BULK AT MOST 1048576: true; the input reads as it did. -/
def sumCrcsUptoRow : OpenClaim := { program := "ytgadcnlcldjhpaa", sum := "b931e3b781858fedb5e375435b34daac5708a33e061ef4a836a0efef4538b3ca", func := "portmanteau/portmanteaulaw02.SumCrcs", spec := "sumCrcs", apart := false, narrowed := true }
def SumCrcsUptoSaid : Prop := sumCrcsUptoRow.holds Try.pinned (OpenSpec.upto sumCrcsSpec)

/-- 'portmanteaulaw02.SumTable', WHERE WHAT IT READS IS OF BULK AT MOST 1048576: true; the input reads as it did. -/
def sumTableUptoRow : OpenClaim := { program := "ytgadcnlcldjhpaa", sum := "b931e3b781858fedb5e375435b34daac5708a33e061ef4a836a0efef4538b3ca", func := "portmanteau/portmanteaulaw02.SumTable", spec := "sumTable", apart := false, narrowed := true }
def SumTableUptoSaid : Prop := sumTableUptoRow.holds Try.pinned (OpenSpec.upto sumTableSpec)

/-- 'portmanteaulaw07.PartMakes', WHERE WHAT IT READS IS OF BULK AT MOST 1048576: true; the input reads as it did. -/
def partMakesUptoRow : OpenClaim := { program := "ytgadcnlcldjhpaa", sum := "b931e3b781858fedb5e375435b34daac5708a33e061ef4a836a0efef4538b3ca", func := "portmanteau/portmanteaulaw07.PartMakes", spec := "partMakes", apart := false, narrowed := true }
def PartMakesUptoSaid : Prop := partMakesUptoRow.holds Try.pinned (OpenSpec.upto partMakesSpec)

/-- 'portmanteaulaw07.PartPlaces', WHERE WHAT IT READS IS OF BULK AT MOST 1048576: true; the input reads as it did. -/
def partPlacesUptoRow : OpenClaim := { program := "ytgadcnlcldjhpaa", sum := "b931e3b781858fedb5e375435b34daac5708a33e061ef4a836a0efef4538b3ca", func := "portmanteau/portmanteaulaw07.PartPlaces", spec := "partPlaces", apart := false, narrowed := true }
def PartPlacesUptoSaid : Prop := partPlacesUptoRow.holds Try.pinned (OpenSpec.upto partPlacesSpec)

/-- 'portmanteaulaw07.PartApart', WHERE WHAT IT READS IS OF BULK AT MOST 1048576: true; the input reads as it did. -/
def partApartUptoRow : OpenClaim := { program := "ytgadcnlcldjhpaa", sum := "b931e3b781858fedb5e375435b34daac5708a33e061ef4a836a0efef4538b3ca", func := "portmanteau/portmanteaulaw07.PartApart", spec := "partApart", apart := false, narrowed := true }
def PartApartUptoSaid : Prop := partApartUptoRow.holds Try.pinned (OpenSpec.upto partApartSpec)

/-- 'portmanteaulaw20.PoolOnce', WHERE WHAT IT READS IS OF BULK AT MOST 1048576: true; the input reads as it did. -/
def poolOnceUptoRow : OpenClaim := { program := "ytgadcnlcldjhpaa", sum := "b931e3b781858fedb5e375435b34daac5708a33e061ef4a836a0efef4538b3ca", func := "portmanteau/portmanteaulaw20.PoolOnce", spec := "poolOnce", apart := false, narrowed := true }
def PoolOnceUptoSaid : Prop := poolOnceUptoRow.holds Try.pinned (OpenSpec.upto poolOnceSpec)

/-- 'portmanteaulaw20.PoolPlays', WHERE WHAT IT READS IS OF BULK AT MOST 1048576: true; the input reads as it did. -/
def poolPlaysUptoRow : OpenClaim := { program := "ytgadcnlcldjhpaa", sum := "b931e3b781858fedb5e375435b34daac5708a33e061ef4a836a0efef4538b3ca", func := "portmanteau/portmanteaulaw20.PoolPlays", spec := "poolPlays", apart := false, narrowed := true }
def PoolPlaysUptoSaid : Prop := poolPlaysUptoRow.holds Try.pinned (OpenSpec.upto poolPlaysSpec)

/-- 'portmanteaulaw20.PoolBounds', WHERE WHAT IT READS IS OF BULK AT MOST 1048576: true; the input reads as it did. -/
def poolBoundsUptoRow : OpenClaim := { program := "ytgadcnlcldjhpaa", sum := "b931e3b781858fedb5e375435b34daac5708a33e061ef4a836a0efef4538b3ca", func := "portmanteau/portmanteaulaw20.PoolBounds", spec := "poolBounds", apart := false, narrowed := true }
def PoolBoundsUptoSaid : Prop := poolBoundsUptoRow.holds Try.pinned (OpenSpec.upto poolBoundsSpec)

end Rows
end Go.Proofs.Ytgadcnlcldjhpaa
