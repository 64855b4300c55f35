/-
  No cell of these rows narrows 'for every input' (looked for: loops, veiled, ifaces, maps, wideKeys, modest, calm, conditions, laid).
  DERIVED. THE GIVEN ROWS OF THIS SEAT. 9 by the template 'for every input the law returns true; each argument reads behind the call as it read before'; 0 by the template 'total and deterministic' (their statements: YtgplpcjlemjabaaTotals.lean).
  GIVEN WITH THE SEED: the statements are not yours to turn. If you find one false, say at which input.
  Laid BY PROGRAM, IN A SANDBOX (cutbox-rows.mjs): the forced cells as the released guide's own fill.sh prints them over the translation 49f66d448f48c4ed… (all of the seat's roots in one cut). By AI agents, Wed Nov 11 2026. No macro, syntax, notation, axiom, sorry.
-/
import Derived.Test.YtgplpcjlemjabaaChecked
import GoSem.Claim
import GoSem.ClaimJoined
import GoSem.ClaimMapViews
import Derived.JoinedTies
import Derived.KernelRfl
namespace Go.Proofs.Ytgplpcjlemjabaa
/- THE CELL 'sum', in the pinned program and in every row, IS THE sha256 OF THE DUMP (.gsa) THAT YtgplpcjlemjabaaProg.lean LOADS. Nothing in Lean hashes anything: it is a label: what it is worth is what the hold of that sum in a sandbox is worth. -/
noncomputable def Try.pinned : Pinned := { name := "ytgplpcjlemjabaa", sum := "49f66d448f48c4ed3cf2f14a0a03ad2554d82bcf3e66406114f82ab4a0af03d8", checked := Try.checked }
namespace Rows
def none {H : Type} : Left H := { results := [], args := [] }

/-- 'portmanteaulaw06.MatchEncodes': WHATEVER THE INPUT: true; the input reads as it did. -/
def matchEncodesSpec : ChangeSpec := { name := "matchEncodes", fn := fun _ => fun
  | [d] => { results := [.lit (.bool true)], args := [d] }
  | _ => none }
def matchEncodesRow : OpenClaim := { program := "ytgplpcjlemjabaa", sum := "49f66d448f48c4ed3cf2f14a0a03ad2554d82bcf3e66406114f82ab4a0af03d8", func := "portmanteau/portmanteaulaw06.MatchEncodes", spec := "matchEncodes", apart := false }
def MatchEncodesSaid : Prop := matchEncodesRow.holds Try.pinned (OpenSpec.ofChange matchEncodesSpec)

/-- ITS FALSE NEIGHBOUR: 'it returns false'. Refute it at one input. -/
def matchEncodesWrong : ChangeSpec := { name := "matchEncodes", fn := fun _ => fun
  | [d] => { results := [.lit (.bool false)], args := [d] }
  | _ => none }
def MatchEncodesWrongFalsely : Prop := matchEncodesRow.holds Try.pinned (OpenSpec.ofChange matchEncodesWrong)

/-- 'portmanteaulaw06.MatchBounds': WHATEVER THE INPUT: true; the input reads as it did. -/
def matchBoundsSpec : ChangeSpec := { name := "matchBounds", fn := fun _ => fun
  | [d] => { results := [.lit (.bool true)], args := [d] }
  | _ => none }
def matchBoundsRow : OpenClaim := { program := "ytgplpcjlemjabaa", sum := "49f66d448f48c4ed3cf2f14a0a03ad2554d82bcf3e66406114f82ab4a0af03d8", func := "portmanteau/portmanteaulaw06.MatchBounds", spec := "matchBounds", apart := false }
def MatchBoundsSaid : Prop := matchBoundsRow.holds Try.pinned (OpenSpec.ofChange matchBoundsSpec)

/-- ITS FALSE NEIGHBOUR: 'it returns false'. Refute it at one input. -/
def matchBoundsWrong : ChangeSpec := { name := "matchBounds", fn := fun _ => fun
  | [d] => { results := [.lit (.bool false)], args := [d] }
  | _ => none }
def MatchBoundsWrongFalsely : Prop := matchBoundsRow.holds Try.pinned (OpenSpec.ofChange matchBoundsWrong)

/-- 'portmanteaulaw06.MatchRepeats': WHATEVER THE INPUT: true; the input reads as it did. -/
def matchRepeatsSpec : ChangeSpec := { name := "matchRepeats", fn := fun _ => fun
  | [d1, d2] => { results := [.lit (.bool true)], args := [d1, d2] }
  | _ => none }
def matchRepeatsRow : OpenClaim := { program := "ytgplpcjlemjabaa", sum := "49f66d448f48c4ed3cf2f14a0a03ad2554d82bcf3e66406114f82ab4a0af03d8", func := "portmanteau/portmanteaulaw06.MatchRepeats", spec := "matchRepeats", apart := false }
def MatchRepeatsSaid : Prop := matchRepeatsRow.holds Try.pinned (OpenSpec.ofChange matchRepeatsSpec)

/-- ITS FALSE NEIGHBOUR: 'it returns false'. Refute it at one input. -/
def matchRepeatsWrong : ChangeSpec := { name := "matchRepeats", fn := fun _ => fun
  | [d1, d2] => { results := [.lit (.bool false)], args := [d1, d2] }
  | _ => none }
def MatchRepeatsWrongFalsely : Prop := matchRepeatsRow.holds Try.pinned (OpenSpec.ofChange matchRepeatsWrong)

/-- 'portmanteaulaw06.MatchUnpacks': WHATEVER THE INPUT: true; the input reads as it did. -/
def matchUnpacksSpec : ChangeSpec := { name := "matchUnpacks", fn := fun _ => fun
  | [d1, d2, d3] => { results := [.lit (.bool true)], args := [d1, d2, d3] }
  | _ => none }
def matchUnpacksRow : OpenClaim := { program := "ytgplpcjlemjabaa", sum := "49f66d448f48c4ed3cf2f14a0a03ad2554d82bcf3e66406114f82ab4a0af03d8", func := "portmanteau/portmanteaulaw06.MatchUnpacks", spec := "matchUnpacks", unfollowed := true, recurses := true, apart := false }
def MatchUnpacksSaid : Prop := matchUnpacksRow.holds Try.pinned (OpenSpec.ofChange matchUnpacksSpec)

/-- ITS FALSE NEIGHBOUR: 'it returns false'. Refute it at one input. -/
def matchUnpacksWrong : ChangeSpec := { name := "matchUnpacks", fn := fun _ => fun
  | [d1, d2, d3] => { results := [.lit (.bool false)], args := [d1, d2, d3] }
  | _ => none }
def MatchUnpacksWrongFalsely : Prop := matchUnpacksRow.holds Try.pinned (OpenSpec.ofChange matchUnpacksWrong)

/-- 'portmanteaulaw06.MatchPacks': WHATEVER THE INPUT: true; the input reads as it did. -/
def matchPacksSpec : ChangeSpec := { name := "matchPacks", fn := fun _ => fun
  | [d1, d2] => { results := [.lit (.bool true)], args := [d1, d2] }
  | _ => none }
def matchPacksRow : OpenClaim := { program := "ytgplpcjlemjabaa", sum := "49f66d448f48c4ed3cf2f14a0a03ad2554d82bcf3e66406114f82ab4a0af03d8", func := "portmanteau/portmanteaulaw06.MatchPacks", spec := "matchPacks", inPlace := ["math.Float64frombits"], unfollowed := true, recurses := true, apart := false }
def MatchPacksSaid : Prop := matchPacksRow.holds Try.pinned (OpenSpec.ofChange matchPacksSpec)

/-- ITS FALSE NEIGHBOUR: 'it returns false'. Refute it at one input. -/
def matchPacksWrong : ChangeSpec := { name := "matchPacks", fn := fun _ => fun
  | [d1, d2] => { results := [.lit (.bool false)], args := [d1, d2] }
  | _ => none }
def MatchPacksWrongFalsely : Prop := matchPacksRow.holds Try.pinned (OpenSpec.ofChange matchPacksWrong)

/-- 'portmanteaulaw08.BootEncodes': WHATEVER THE INPUT: true; the input reads as it did. -/
def bootEncodesSpec : ChangeSpec := { name := "bootEncodes", fn := fun _ => fun
  | [d1, d2] => { results := [.lit (.bool true)], args := [d1, d2] }
  | _ => none }
def bootEncodesRow : OpenClaim := { program := "ytgplpcjlemjabaa", sum := "49f66d448f48c4ed3cf2f14a0a03ad2554d82bcf3e66406114f82ab4a0af03d8", func := "portmanteau/portmanteaulaw08.BootEncodes", spec := "bootEncodes", unfollowed := true, recurses := true, apart := false }
def BootEncodesSaid : Prop := bootEncodesRow.holds Try.pinned (OpenSpec.ofChange bootEncodesSpec)

/-- ITS FALSE NEIGHBOUR: 'it returns false'. Refute it at one input. -/
def bootEncodesWrong : ChangeSpec := { name := "bootEncodes", fn := fun _ => fun
  | [d1, d2] => { results := [.lit (.bool false)], args := [d1, d2] }
  | _ => none }
def BootEncodesWrongFalsely : Prop := bootEncodesRow.holds Try.pinned (OpenSpec.ofChange bootEncodesWrong)

/-- 'portmanteaulaw08.BootDecodes': WHATEVER THE INPUT: true; the input reads as it did. -/
def bootDecodesSpec : ChangeSpec := { name := "bootDecodes", fn := fun _ => fun
  | [d] => { results := [.lit (.bool true)], args := [d] }
  | _ => none }
def bootDecodesRow : OpenClaim := { program := "ytgplpcjlemjabaa", sum := "49f66d448f48c4ed3cf2f14a0a03ad2554d82bcf3e66406114f82ab4a0af03d8", func := "portmanteau/portmanteaulaw08.BootDecodes", spec := "bootDecodes", unfollowed := true, recurses := true, apart := false }
def BootDecodesSaid : Prop := bootDecodesRow.holds Try.pinned (OpenSpec.ofChange bootDecodesSpec)

/-- ITS FALSE NEIGHBOUR: 'it returns false'. Refute it at one input. -/
def bootDecodesWrong : ChangeSpec := { name := "bootDecodes", fn := fun _ => fun
  | [d] => { results := [.lit (.bool false)], args := [d] }
  | _ => none }
def BootDecodesWrongFalsely : Prop := bootDecodesRow.holds Try.pinned (OpenSpec.ofChange bootDecodesWrong)

/-- 'portmanteaulaw08.BootChooses': WHATEVER THE INPUT: true; the input reads as it did. -/
def bootChoosesSpec : ChangeSpec := { name := "bootChooses", fn := fun _ => fun
  | [d1, d2] => { results := [.lit (.bool true)], args := [d1, d2] }
  | _ => none }
def bootChoosesRow : OpenClaim := { program := "ytgplpcjlemjabaa", sum := "49f66d448f48c4ed3cf2f14a0a03ad2554d82bcf3e66406114f82ab4a0af03d8", func := "portmanteau/portmanteaulaw08.BootChooses", spec := "bootChooses", unfollowed := true, recurses := true, apart := false }
def BootChoosesSaid : Prop := bootChoosesRow.holds Try.pinned (OpenSpec.ofChange bootChoosesSpec)

/-- ITS FALSE NEIGHBOUR: 'it returns false'. Refute it at one input. -/
def bootChoosesWrong : ChangeSpec := { name := "bootChooses", fn := fun _ => fun
  | [d1, d2] => { results := [.lit (.bool false)], args := [d1, d2] }
  | _ => none }
def BootChoosesWrongFalsely : Prop := bootChoosesRow.holds Try.pinned (OpenSpec.ofChange bootChoosesWrong)

/-- 'portmanteaulaw08.BootBursts': WHATEVER THE INPUT: true; the input reads as it did. -/
def bootBurstsSpec : ChangeSpec := { name := "bootBursts", fn := fun _ => fun
  | [d1, d2, d3] => { results := [.lit (.bool true)], args := [d1, d2, d3] }
  | _ => none }
def bootBurstsRow : OpenClaim := { program := "ytgplpcjlemjabaa", sum := "49f66d448f48c4ed3cf2f14a0a03ad2554d82bcf3e66406114f82ab4a0af03d8", func := "portmanteau/portmanteaulaw08.BootBursts", spec := "bootBursts", unfollowed := true, recurses := true, apart := false }
def BootBurstsSaid : Prop := bootBurstsRow.holds Try.pinned (OpenSpec.ofChange bootBurstsSpec)

/-- ITS FALSE NEIGHBOUR: 'it returns false'. Refute it at one input. -/
def bootBurstsWrong : ChangeSpec := { name := "bootBursts", fn := fun _ => fun
  | [d1, d2, d3] => { results := [.lit (.bool false)], args := [d1, d2, d3] }
  | _ => none }
def BootBurstsWrongFalsely : Prop := bootBurstsRow.holds Try.pinned (OpenSpec.ofChange bootBurstsWrong)

/- THE SECOND FORM. 'bulk': how many values and letters a reading holds, each counted each time it is reached (what is shared counts as often as it is met; a slice's spare places count too). A statement '..UptoSaid' is the law's where the arguments, and the package variables that the reading takes, are together of bulk at most 1048576: NARROWER than '..Said'. Prove '..Said' where nothing that the law and all that it calls make is longer than what came in: it says more and counts as full. Else prove '..UptoSaid'. A law counts once. -/
mutual
def uptoBulk {H : Type} : DataW H → Nat
  | .lit (.string bytes) => bytes.length + 1
  | .lit _ => 1
  | .nil => 1
  | .ptr d => uptoBulk d + 1
  | .slice elems spare => uptoBulkAll elems + uptoBulkAll spare + 1
  | .agg parts => uptoBulkAll parts + 1
  | .iface _ d => uptoBulk d + 1
  | .map entries => uptoBulkEntries entries + 1
  | .held _ => 1
def uptoBulkAll {H : Type} : List (DataW H) → Nat
  | [] => 0
  | d :: r => uptoBulk d + uptoBulkAll r
def uptoBulkEntries {H : Type} : List (Lit × DataW H) → Nat
  | [] => 0
  | x :: r => uptoBulkEntry x + uptoBulkEntries r
def uptoBulkEntry {H : Type} : Lit × DataW H → Nat
  | (.string bytes, d) => bytes.length + uptoBulk d + 1
  | (_, d) => uptoBulk d + 1
 end
def uptoSmall : (H : Type) → List (DataW H) → Bool := fun _ ds => decide (uptoBulkAll ds ≤ 1048576)
def OpenSpec.upto (s : _root_.Go.ChangeSpec) : _root_.Go.OpenSpec := { _root_.Go.OpenSpec.ofChange s with cond := some uptoSmall }

/-- 'portmanteaulaw06.MatchEncodes', WHERE WHAT IT READS IS OF BULK AT MOST 1048576: true; the input reads as it did. -/
def matchEncodesUptoRow : OpenClaim := { program := "ytgplpcjlemjabaa", sum := "49f66d448f48c4ed3cf2f14a0a03ad2554d82bcf3e66406114f82ab4a0af03d8", func := "portmanteau/portmanteaulaw06.MatchEncodes", spec := "matchEncodes", apart := false, narrowed := true }
def MatchEncodesUptoSaid : Prop := matchEncodesUptoRow.holds Try.pinned (OpenSpec.upto matchEncodesSpec)

/-- 'portmanteaulaw06.MatchBounds', WHERE WHAT IT READS IS OF BULK AT MOST 1048576: true; the input reads as it did. -/
def matchBoundsUptoRow : OpenClaim := { program := "ytgplpcjlemjabaa", sum := "49f66d448f48c4ed3cf2f14a0a03ad2554d82bcf3e66406114f82ab4a0af03d8", func := "portmanteau/portmanteaulaw06.MatchBounds", spec := "matchBounds", apart := false, narrowed := true }
def MatchBoundsUptoSaid : Prop := matchBoundsUptoRow.holds Try.pinned (OpenSpec.upto matchBoundsSpec)

/-- 'portmanteaulaw06.MatchRepeats', WHERE WHAT IT READS IS OF BULK AT MOST 1048576: true; the input reads as it did. -/
def matchRepeatsUptoRow : OpenClaim := { program := "ytgplpcjlemjabaa", sum := "49f66d448f48c4ed3cf2f14a0a03ad2554d82bcf3e66406114f82ab4a0af03d8", func := "portmanteau/portmanteaulaw06.MatchRepeats", spec := "matchRepeats", apart := false, narrowed := true }
def MatchRepeatsUptoSaid : Prop := matchRepeatsUptoRow.holds Try.pinned (OpenSpec.upto matchRepeatsSpec)

/-- 'portmanteaulaw06.MatchUnpacks', WHERE WHAT IT READS IS OF BULK AT MOST 1048576: true; the input reads as it did. -/
def matchUnpacksUptoRow : OpenClaim := { program := "ytgplpcjlemjabaa", sum := "49f66d448f48c4ed3cf2f14a0a03ad2554d82bcf3e66406114f82ab4a0af03d8", func := "portmanteau/portmanteaulaw06.MatchUnpacks", spec := "matchUnpacks", unfollowed := true, recurses := true, apart := false, narrowed := true }
def MatchUnpacksUptoSaid : Prop := matchUnpacksUptoRow.holds Try.pinned (OpenSpec.upto matchUnpacksSpec)

/-- 'portmanteaulaw06.MatchPacks', WHERE WHAT IT READS IS OF BULK AT MOST 1048576: true; the input reads as it did. -/
def matchPacksUptoRow : OpenClaim := { program := "ytgplpcjlemjabaa", sum := "49f66d448f48c4ed3cf2f14a0a03ad2554d82bcf3e66406114f82ab4a0af03d8", func := "portmanteau/portmanteaulaw06.MatchPacks", spec := "matchPacks", inPlace := ["math.Float64frombits"], unfollowed := true, recurses := true, apart := false, narrowed := true }
def MatchPacksUptoSaid : Prop := matchPacksUptoRow.holds Try.pinned (OpenSpec.upto matchPacksSpec)

/-- 'portmanteaulaw08.BootEncodes', WHERE WHAT IT READS IS OF BULK AT MOST 1048576: true; the input reads as it did. -/
def bootEncodesUptoRow : OpenClaim := { program := "ytgplpcjlemjabaa", sum := "49f66d448f48c4ed3cf2f14a0a03ad2554d82bcf3e66406114f82ab4a0af03d8", func := "portmanteau/portmanteaulaw08.BootEncodes", spec := "bootEncodes", unfollowed := true, recurses := true, apart := false, narrowed := true }
def BootEncodesUptoSaid : Prop := bootEncodesUptoRow.holds Try.pinned (OpenSpec.upto bootEncodesSpec)

/-- 'portmanteaulaw08.BootDecodes', WHERE WHAT IT READS IS OF BULK AT MOST 1048576: true; the input reads as it did. -/
def bootDecodesUptoRow : OpenClaim := { program := "ytgplpcjlemjabaa", sum := "49f66d448f48c4ed3cf2f14a0a03ad2554d82bcf3e66406114f82ab4a0af03d8", func := "portmanteau/portmanteaulaw08.BootDecodes", spec := "bootDecodes", unfollowed := true, recurses := true, apart := false, narrowed := true }
def BootDecodesUptoSaid : Prop := bootDecodesUptoRow.holds Try.pinned (OpenSpec.upto bootDecodesSpec)

/-- 'portmanteaulaw08.BootChooses', WHERE WHAT IT READS IS OF BULK AT MOST 1048576: true; the input reads as it did. -/
def bootChoosesUptoRow : OpenClaim := { program := "ytgplpcjlemjabaa", sum := "49f66d448f48c4ed3cf2f14a0a03ad2554d82bcf3e66406114f82ab4a0af03d8", func := "portmanteau/portmanteaulaw08.BootChooses", spec := "bootChooses", unfollowed := true, recurses := true, apart := false, narrowed := true }
def BootChoosesUptoSaid : Prop := bootChoosesUptoRow.holds Try.pinned (OpenSpec.upto bootChoosesSpec)

/-- 'portmanteaulaw08.BootBursts', WHERE WHAT IT READS IS OF BULK AT MOST 1048576: true; the input reads as it did. -/
def bootBurstsUptoRow : OpenClaim := { program := "ytgplpcjlemjabaa", sum := "49f66d448f48c4ed3cf2f14a0a03ad2554d82bcf3e66406114f82ab4a0af03d8", func := "portmanteau/portmanteaulaw08.BootBursts", spec := "bootBursts", unfollowed := true, recurses := true, apart := false, narrowed := true }
def BootBurstsUptoSaid : Prop := bootBurstsUptoRow.holds Try.pinned (OpenSpec.upto bootBurstsSpec)

end Rows
end Go.Proofs.Ytgplpcjlemjabaa
