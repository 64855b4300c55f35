/-
  No cell of these rows narrows 'for every input' (looked for: loops, veiled, ifaces, maps, wideKeys, modest, calm, conditions, laid).
  DERIVED. THE GIVEN ROWS OF THIS SEAT. 12 by the template 'for every input the law returns true; each argument reads behind the call as it read before'; 0 by the template 'total and deterministic' (their statements: YtpdggoapjbjmhaaTotals.lean).
  GIVEN WITH THE SEED: the statements are not yours to turn. If you find one false, say at which input.
  Laid BY PROGRAM, IN A SANDBOX (cutbox-rows.mjs): the forced cells as the released guide's own fill.sh prints them over the translation 1841c9d3fc8fbcb0… (all of the seat's roots in one cut). By AI agents, Wed Nov 11 2026. No macro, syntax, notation, axiom, sorry.
-/
import Derived.Test.YtpdggoapjbjmhaaChecked
import GoSem.Claim
import GoSem.ClaimJoined
import GoSem.ClaimMapViews
import Derived.JoinedTies
import Derived.KernelRfl
namespace Go.Proofs.Ytpdggoapjbjmhaa
/- THE CELL 'sum', in the pinned program and in every row, IS THE sha256 OF THE DUMP (.gsa) THAT YtpdggoapjbjmhaaProg.lean LOADS. Nothing in Lean hashes anything: it is a label: what it is worth is what the hold of that sum in a sandbox is worth. -/
noncomputable def Try.pinned : Pinned := { name := "ytpdggoapjbjmhaa", sum := "1841c9d3fc8fbcb0762fc3c61fd9557e453e80c812fae8369ed171d16f00d75f", checked := Try.checked }
namespace Rows
def none {H : Type} : Left H := { results := [], args := [] }

/-- 'portmanteaulaw18.BlocksWords': WHATEVER THE INPUT: true; the input reads as it did. -/
def blocksWordsSpec : ChangeSpec := { name := "blocksWords", fn := fun _ => fun
  | [d1, d2, d3] => { results := [.lit (.bool true)], args := [d1, d2, d3] }
  | _ => none }
def blocksWordsRow : OpenClaim := { program := "ytpdggoapjbjmhaa", sum := "1841c9d3fc8fbcb0762fc3c61fd9557e453e80c812fae8369ed171d16f00d75f", func := "portmanteau/portmanteaulaw18.BlocksWords", spec := "blocksWords", unfollowed := true, recurses := true, apart := false }
def BlocksWordsSaid : Prop := blocksWordsRow.holds Try.pinned (OpenSpec.ofChange blocksWordsSpec)

/-- ITS FALSE NEIGHBOUR: 'it returns false'. Refute it at one input. -/
def blocksWordsWrong : ChangeSpec := { name := "blocksWords", fn := fun _ => fun
  | [d1, d2, d3] => { results := [.lit (.bool false)], args := [d1, d2, d3] }
  | _ => none }
def BlocksWordsWrongFalsely : Prop := blocksWordsRow.holds Try.pinned (OpenSpec.ofChange blocksWordsWrong)

/-- 'portmanteaulaw18.BlocksExtents': WHATEVER THE INPUT: true; the input reads as it did. -/
def blocksExtentsSpec : ChangeSpec := { name := "blocksExtents", fn := fun _ => fun
  | [d1, d2] => { results := [.lit (.bool true)], args := [d1, d2] }
  | _ => none }
def blocksExtentsRow : OpenClaim := { program := "ytpdggoapjbjmhaa", sum := "1841c9d3fc8fbcb0762fc3c61fd9557e453e80c812fae8369ed171d16f00d75f", func := "portmanteau/portmanteaulaw18.BlocksExtents", spec := "blocksExtents", unfollowed := true, recurses := true, apart := false }
def BlocksExtentsSaid : Prop := blocksExtentsRow.holds Try.pinned (OpenSpec.ofChange blocksExtentsSpec)

/-- ITS FALSE NEIGHBOUR: 'it returns false'. Refute it at one input. -/
def blocksExtentsWrong : ChangeSpec := { name := "blocksExtents", fn := fun _ => fun
  | [d1, d2] => { results := [.lit (.bool false)], args := [d1, d2] }
  | _ => none }
def BlocksExtentsWrongFalsely : Prop := blocksExtentsRow.holds Try.pinned (OpenSpec.ofChange blocksExtentsWrong)

/-- 'portmanteaulaw18.BlocksSplits': WHATEVER THE INPUT: true; the input reads as it did. -/
def blocksSplitsSpec : ChangeSpec := { name := "blocksSplits", fn := fun _ => fun
  | [d1, d2, d3] => { results := [.lit (.bool true)], args := [d1, d2, d3] }
  | _ => none }
def blocksSplitsRow : OpenClaim := { program := "ytpdggoapjbjmhaa", sum := "1841c9d3fc8fbcb0762fc3c61fd9557e453e80c812fae8369ed171d16f00d75f", func := "portmanteau/portmanteaulaw18.BlocksSplits", spec := "blocksSplits", inPlace := ["math.Float64frombits"], unfollowed := true, recurses := true, apart := false }
def BlocksSplitsSaid : Prop := blocksSplitsRow.holds Try.pinned (OpenSpec.ofChange blocksSplitsSpec)

/-- ITS FALSE NEIGHBOUR: 'it returns false'. Refute it at one input. -/
def blocksSplitsWrong : ChangeSpec := { name := "blocksSplits", fn := fun _ => fun
  | [d1, d2, d3] => { results := [.lit (.bool false)], args := [d1, d2, d3] }
  | _ => none }
def BlocksSplitsWrongFalsely : Prop := blocksSplitsRow.holds Try.pinned (OpenSpec.ofChange blocksSplitsWrong)

/-- 'portmanteaulaw18.BlocksLoads': WHATEVER THE INPUT: true; the input reads as it did. -/
def blocksLoadsSpec : ChangeSpec := { name := "blocksLoads", fn := fun _ => fun
  | [d1, d2, d3, d4] => { results := [.lit (.bool true)], args := [d1, d2, d3, d4] }
  | _ => none }
def blocksLoadsRow : OpenClaim := { program := "ytpdggoapjbjmhaa", sum := "1841c9d3fc8fbcb0762fc3c61fd9557e453e80c812fae8369ed171d16f00d75f", func := "portmanteau/portmanteaulaw18.BlocksLoads", spec := "blocksLoads", unfollowed := true, recurses := true, apart := false }
def BlocksLoadsSaid : Prop := blocksLoadsRow.holds Try.pinned (OpenSpec.ofChange blocksLoadsSpec)

/-- ITS FALSE NEIGHBOUR: 'it returns false'. Refute it at one input. -/
def blocksLoadsWrong : ChangeSpec := { name := "blocksLoads", fn := fun _ => fun
  | [d1, d2, d3, d4] => { results := [.lit (.bool false)], args := [d1, d2, d3, d4] }
  | _ => none }
def BlocksLoadsWrongFalsely : Prop := blocksLoadsRow.holds Try.pinned (OpenSpec.ofChange blocksLoadsWrong)

/-- 'portmanteaulaw18.BlocksStores': WHATEVER THE INPUT: true; the input reads as it did. -/
def blocksStoresSpec : ChangeSpec := { name := "blocksStores", fn := fun _ => fun
  | [d1, d2, d3] => { results := [.lit (.bool true)], args := [d1, d2, d3] }
  | _ => none }
def blocksStoresRow : OpenClaim := { program := "ytpdggoapjbjmhaa", sum := "1841c9d3fc8fbcb0762fc3c61fd9557e453e80c812fae8369ed171d16f00d75f", func := "portmanteau/portmanteaulaw18.BlocksStores", spec := "blocksStores", inPlace := ["math.Float64frombits"], unfollowed := true, recurses := true, apart := false }
def BlocksStoresSaid : Prop := blocksStoresRow.holds Try.pinned (OpenSpec.ofChange blocksStoresSpec)

/-- ITS FALSE NEIGHBOUR: 'it returns false'. Refute it at one input. -/
def blocksStoresWrong : ChangeSpec := { name := "blocksStores", fn := fun _ => fun
  | [d1, d2, d3] => { results := [.lit (.bool false)], args := [d1, d2, d3] }
  | _ => none }
def BlocksStoresWrongFalsely : Prop := blocksStoresRow.holds Try.pinned (OpenSpec.ofChange blocksStoresWrong)

/-- 'portmanteaulaw18.BlocksBursts': WHATEVER THE INPUT: true; the input reads as it did. -/
def blocksBurstsSpec : ChangeSpec := { name := "blocksBursts", fn := fun _ => fun
  | [d1, d2, d3, d4] => { results := [.lit (.bool true)], args := [d1, d2, d3, d4] }
  | _ => none }
def blocksBurstsRow : OpenClaim := { program := "ytpdggoapjbjmhaa", sum := "1841c9d3fc8fbcb0762fc3c61fd9557e453e80c812fae8369ed171d16f00d75f", func := "portmanteau/portmanteaulaw18.BlocksBursts", spec := "blocksBursts", inPlace := ["math.Float64frombits"], unfollowed := true, recurses := true, apart := false }
def BlocksBurstsSaid : Prop := blocksBurstsRow.holds Try.pinned (OpenSpec.ofChange blocksBurstsSpec)

/-- ITS FALSE NEIGHBOUR: 'it returns false'. Refute it at one input. -/
def blocksBurstsWrong : ChangeSpec := { name := "blocksBursts", fn := fun _ => fun
  | [d1, d2, d3, d4] => { results := [.lit (.bool false)], args := [d1, d2, d3, d4] }
  | _ => none }
def BlocksBurstsWrongFalsely : Prop := blocksBurstsRow.holds Try.pinned (OpenSpec.ofChange blocksBurstsWrong)

/-- 'portmanteaulaw14.MetaEncodes': WHATEVER THE INPUT: true; the input reads as it did. -/
def metaEncodesSpec : ChangeSpec := { name := "metaEncodes", fn := fun _ => fun
  | [d1, d2] => { results := [.lit (.bool true)], args := [d1, d2] }
  | _ => none }
def metaEncodesRow : OpenClaim := { program := "ytpdggoapjbjmhaa", sum := "1841c9d3fc8fbcb0762fc3c61fd9557e453e80c812fae8369ed171d16f00d75f", func := "portmanteau/portmanteaulaw14.MetaEncodes", spec := "metaEncodes", inPlace := ["math.Float64frombits"], unfollowed := true, recurses := true, apart := false }
def MetaEncodesSaid : Prop := metaEncodesRow.holds Try.pinned (OpenSpec.ofChange metaEncodesSpec)

/-- ITS FALSE NEIGHBOUR: 'it returns false'. Refute it at one input. -/
def metaEncodesWrong : ChangeSpec := { name := "metaEncodes", fn := fun _ => fun
  | [d1, d2] => { results := [.lit (.bool false)], args := [d1, d2] }
  | _ => none }
def MetaEncodesWrongFalsely : Prop := metaEncodesRow.holds Try.pinned (OpenSpec.ofChange metaEncodesWrong)

/-- 'portmanteaulaw14.MetaSlices': WHATEVER THE INPUT: true; the input reads as it did. -/
def metaSlicesSpec : ChangeSpec := { name := "metaSlices", fn := fun _ => fun
  | [d1, d2, d3, d4] => { results := [.lit (.bool true)], args := [d1, d2, d3, d4] }
  | _ => none }
def metaSlicesRow : OpenClaim := { program := "ytpdggoapjbjmhaa", sum := "1841c9d3fc8fbcb0762fc3c61fd9557e453e80c812fae8369ed171d16f00d75f", func := "portmanteau/portmanteaulaw14.MetaSlices", spec := "metaSlices", unfollowed := true, recurses := true, apart := false }
def MetaSlicesSaid : Prop := metaSlicesRow.holds Try.pinned (OpenSpec.ofChange metaSlicesSpec)

/-- ITS FALSE NEIGHBOUR: 'it returns false'. Refute it at one input. -/
def metaSlicesWrong : ChangeSpec := { name := "metaSlices", fn := fun _ => fun
  | [d1, d2, d3, d4] => { results := [.lit (.bool false)], args := [d1, d2, d3, d4] }
  | _ => none }
def MetaSlicesWrongFalsely : Prop := metaSlicesRow.holds Try.pinned (OpenSpec.ofChange metaSlicesWrong)

/-- 'portmanteaulaw14.MetaChunks': WHATEVER THE INPUT: true; the input reads as it did. -/
def metaChunksSpec : ChangeSpec := { name := "metaChunks", fn := fun _ => fun
  | [d1, d2, d3, d4, d5] => { results := [.lit (.bool true)], args := [d1, d2, d3, d4, d5] }
  | _ => none }
def metaChunksRow : OpenClaim := { program := "ytpdggoapjbjmhaa", sum := "1841c9d3fc8fbcb0762fc3c61fd9557e453e80c812fae8369ed171d16f00d75f", func := "portmanteau/portmanteaulaw14.MetaChunks", spec := "metaChunks", unfollowed := true, recurses := true, apart := false }
def MetaChunksSaid : Prop := metaChunksRow.holds Try.pinned (OpenSpec.ofChange metaChunksSpec)

/-- ITS FALSE NEIGHBOUR: 'it returns false'. Refute it at one input. -/
def metaChunksWrong : ChangeSpec := { name := "metaChunks", fn := fun _ => fun
  | [d1, d2, d3, d4, d5] => { results := [.lit (.bool false)], args := [d1, d2, d3, d4, d5] }
  | _ => none }
def MetaChunksWrongFalsely : Prop := metaChunksRow.holds Try.pinned (OpenSpec.ofChange metaChunksWrong)

/-- 'portmanteaulaw14.MetaDecodes': WHATEVER THE INPUT: true; the input reads as it did. -/
def metaDecodesSpec : ChangeSpec := { name := "metaDecodes", fn := fun _ => fun
  | [d1, d2, d3, d4] => { results := [.lit (.bool true)], args := [d1, d2, d3, d4] }
  | _ => none }
def metaDecodesRow : OpenClaim := { program := "ytpdggoapjbjmhaa", sum := "1841c9d3fc8fbcb0762fc3c61fd9557e453e80c812fae8369ed171d16f00d75f", func := "portmanteau/portmanteaulaw14.MetaDecodes", spec := "metaDecodes", unfollowed := true, recurses := true, apart := false }
def MetaDecodesSaid : Prop := metaDecodesRow.holds Try.pinned (OpenSpec.ofChange metaDecodesSpec)

/-- ITS FALSE NEIGHBOUR: 'it returns false'. Refute it at one input. -/
def metaDecodesWrong : ChangeSpec := { name := "metaDecodes", fn := fun _ => fun
  | [d1, d2, d3, d4] => { results := [.lit (.bool false)], args := [d1, d2, d3, d4] }
  | _ => none }
def MetaDecodesWrongFalsely : Prop := metaDecodesRow.holds Try.pinned (OpenSpec.ofChange metaDecodesWrong)

/-- 'portmanteaulaw14.MetaBursts': WHATEVER THE INPUT: true; the input reads as it did. -/
def metaBurstsSpec : ChangeSpec := { name := "metaBursts", fn := fun _ => fun
  | [d1, d2, d3, d4, d5] => { results := [.lit (.bool true)], args := [d1, d2, d3, d4, d5] }
  | _ => none }
def metaBurstsRow : OpenClaim := { program := "ytpdggoapjbjmhaa", sum := "1841c9d3fc8fbcb0762fc3c61fd9557e453e80c812fae8369ed171d16f00d75f", func := "portmanteau/portmanteaulaw14.MetaBursts", spec := "metaBursts", inPlace := ["math.Float64frombits"], unfollowed := true, recurses := true, apart := false }
def MetaBurstsSaid : Prop := metaBurstsRow.holds Try.pinned (OpenSpec.ofChange metaBurstsSpec)

/-- ITS FALSE NEIGHBOUR: 'it returns false'. Refute it at one input. -/
def metaBurstsWrong : ChangeSpec := { name := "metaBursts", fn := fun _ => fun
  | [d1, d2, d3, d4, d5] => { results := [.lit (.bool false)], args := [d1, d2, d3, d4, d5] }
  | _ => none }
def MetaBurstsWrongFalsely : Prop := metaBurstsRow.holds Try.pinned (OpenSpec.ofChange metaBurstsWrong)

/-- 'portmanteaulaw14.MetaParts': WHATEVER THE INPUT: true; the input reads as it did. -/
def metaPartsSpec : ChangeSpec := { name := "metaParts", fn := fun _ => fun
  | [d1, d2, d3, d4] => { results := [.lit (.bool true)], args := [d1, d2, d3, d4] }
  | _ => none }
def metaPartsRow : OpenClaim := { program := "ytpdggoapjbjmhaa", sum := "1841c9d3fc8fbcb0762fc3c61fd9557e453e80c812fae8369ed171d16f00d75f", func := "portmanteau/portmanteaulaw14.MetaParts", spec := "metaParts", inPlace := ["math.Float64frombits"], unfollowed := true, recurses := true, apart := false }
def MetaPartsSaid : Prop := metaPartsRow.holds Try.pinned (OpenSpec.ofChange metaPartsSpec)

/-- ITS FALSE NEIGHBOUR: 'it returns false'. Refute it at one input. -/
def metaPartsWrong : ChangeSpec := { name := "metaParts", fn := fun _ => fun
  | [d1, d2, d3, d4] => { results := [.lit (.bool false)], args := [d1, d2, d3, d4] }
  | _ => none }
def MetaPartsWrongFalsely : Prop := metaPartsRow.holds Try.pinned (OpenSpec.ofChange metaPartsWrong)

/- THE SECOND FORM. 'bulk': how many values and letters a reading holds, each counted each time it is reached (what is shared counts as often as it is met; a slice's spare places count too). A statement '..UptoSaid' is the law's where the arguments, and the package variables that the reading takes, are together of bulk at most 1048576: NARROWER than '..Said'. Prove '..Said' where nothing that the law and all that it calls make is longer than what came in: it says more and counts as full. Else prove '..UptoSaid'. A law counts once. -/
mutual
def uptoBulk {H : Type} : DataW H → Nat
  | .lit (.string bytes) => bytes.length + 1
  | .lit _ => 1
  | .nil => 1
  | .ptr d => uptoBulk d + 1
  | .slice elems spare => uptoBulkAll elems + uptoBulkAll spare + 1
  | .agg parts => uptoBulkAll parts + 1
  | .iface _ d => uptoBulk d + 1
  | .map entries => uptoBulkEntries entries + 1
  | .held _ => 1
def uptoBulkAll {H : Type} : List (DataW H) → Nat
  | [] => 0
  | d :: r => uptoBulk d + uptoBulkAll r
def uptoBulkEntries {H : Type} : List (Lit × DataW H) → Nat
  | [] => 0
  | x :: r => uptoBulkEntry x + uptoBulkEntries r
def uptoBulkEntry {H : Type} : Lit × DataW H → Nat
  | (.string bytes, d) => bytes.length + uptoBulk d + 1
  | (_, d) => uptoBulk d + 1
 end
def uptoSmall : (H : Type) → List (DataW H) → Bool := fun _ ds => decide (uptoBulkAll ds ≤ 1048576)
def OpenSpec.upto (s : _root_.Go.ChangeSpec) : _root_.Go.OpenSpec := { _root_.Go.OpenSpec.ofChange s with cond := some uptoSmall }

/-- 'portmanteaulaw18.BlocksWords', WHERE WHAT IT READS IS OF BULK AT MOST 1048576: true; the input reads as it did. -/
def blocksWordsUptoRow : OpenClaim := { program := "ytpdggoapjbjmhaa", sum := "1841c9d3fc8fbcb0762fc3c61fd9557e453e80c812fae8369ed171d16f00d75f", func := "portmanteau/portmanteaulaw18.BlocksWords", spec := "blocksWords", unfollowed := true, recurses := true, apart := false, narrowed := true }
def BlocksWordsUptoSaid : Prop := blocksWordsUptoRow.holds Try.pinned (OpenSpec.upto blocksWordsSpec)

/-- 'portmanteaulaw18.BlocksExtents', WHERE WHAT IT READS IS OF BULK AT MOST 1048576: true; the input reads as it did. -/
def blocksExtentsUptoRow : OpenClaim := { program := "ytpdggoapjbjmhaa", sum := "1841c9d3fc8fbcb0762fc3c61fd9557e453e80c812fae8369ed171d16f00d75f", func := "portmanteau/portmanteaulaw18.BlocksExtents", spec := "blocksExtents", unfollowed := true, recurses := true, apart := false, narrowed := true }
def BlocksExtentsUptoSaid : Prop := blocksExtentsUptoRow.holds Try.pinned (OpenSpec.upto blocksExtentsSpec)

/-- 'portmanteaulaw18.BlocksSplits', WHERE WHAT IT READS IS OF BULK AT MOST 1048576: true; the input reads as it did. -/
def blocksSplitsUptoRow : OpenClaim := { program := "ytpdggoapjbjmhaa", sum := "1841c9d3fc8fbcb0762fc3c61fd9557e453e80c812fae8369ed171d16f00d75f", func := "portmanteau/portmanteaulaw18.BlocksSplits", spec := "blocksSplits", inPlace := ["math.Float64frombits"], unfollowed := true, recurses := true, apart := false, narrowed := true }
def BlocksSplitsUptoSaid : Prop := blocksSplitsUptoRow.holds Try.pinned (OpenSpec.upto blocksSplitsSpec)

/-- 'portmanteaulaw18.BlocksLoads', WHERE WHAT IT READS IS OF BULK AT MOST 1048576: true; the input reads as it did. -/
def blocksLoadsUptoRow : OpenClaim := { program := "ytpdggoapjbjmhaa", sum := "1841c9d3fc8fbcb0762fc3c61fd9557e453e80c812fae8369ed171d16f00d75f", func := "portmanteau/portmanteaulaw18.BlocksLoads", spec := "blocksLoads", unfollowed := true, recurses := true, apart := false, narrowed := true }
def BlocksLoadsUptoSaid : Prop := blocksLoadsUptoRow.holds Try.pinned (OpenSpec.upto blocksLoadsSpec)

/-- 'portmanteaulaw18.BlocksStores', WHERE WHAT IT READS IS OF BULK AT MOST 1048576: true; the input reads as it did. -/
def blocksStoresUptoRow : OpenClaim := { program := "ytpdggoapjbjmhaa", sum := "1841c9d3fc8fbcb0762fc3c61fd9557e453e80c812fae8369ed171d16f00d75f", func := "portmanteau/portmanteaulaw18.BlocksStores", spec := "blocksStores", inPlace := ["math.Float64frombits"], unfollowed := true, recurses := true, apart := false, narrowed := true }
def BlocksStoresUptoSaid : Prop := blocksStoresUptoRow.holds Try.pinned (OpenSpec.upto blocksStoresSpec)

/-- 'portmanteaulaw18.BlocksBursts', WHERE WHAT IT READS IS OF BULK AT MOST 1048576: true; the input reads as it did. -/
def blocksBurstsUptoRow : OpenClaim := { program := "ytpdggoapjbjmhaa", sum := "1841c9d3fc8fbcb0762fc3c61fd9557e453e80c812fae8369ed171d16f00d75f", func := "portmanteau/portmanteaulaw18.BlocksBursts", spec := "blocksBursts", inPlace := ["math.Float64frombits"], unfollowed := true, recurses := true, apart := false, narrowed := true }
def BlocksBurstsUptoSaid : Prop := blocksBurstsUptoRow.holds Try.pinned (OpenSpec.upto blocksBurstsSpec)

/-- 'portmanteaulaw14.MetaEncodes', WHERE WHAT IT READS IS OF BULK AT MOST 1048576: true; the input reads as it did. -/
def metaEncodesUptoRow : OpenClaim := { program := "ytpdggoapjbjmhaa", sum := "1841c9d3fc8fbcb0762fc3c61fd9557e453e80c812fae8369ed171d16f00d75f", func := "portmanteau/portmanteaulaw14.MetaEncodes", spec := "metaEncodes", inPlace := ["math.Float64frombits"], unfollowed := true, recurses := true, apart := false, narrowed := true }
def MetaEncodesUptoSaid : Prop := metaEncodesUptoRow.holds Try.pinned (OpenSpec.upto metaEncodesSpec)

/-- 'portmanteaulaw14.MetaSlices', WHERE WHAT IT READS IS OF BULK AT MOST 1048576: true; the input reads as it did. -/
def metaSlicesUptoRow : OpenClaim := { program := "ytpdggoapjbjmhaa", sum := "1841c9d3fc8fbcb0762fc3c61fd9557e453e80c812fae8369ed171d16f00d75f", func := "portmanteau/portmanteaulaw14.MetaSlices", spec := "metaSlices", unfollowed := true, recurses := true, apart := false, narrowed := true }
def MetaSlicesUptoSaid : Prop := metaSlicesUptoRow.holds Try.pinned (OpenSpec.upto metaSlicesSpec)

/-- 'portmanteaulaw14.MetaChunks', WHERE WHAT IT READS IS OF BULK AT MOST 1048576: true; the input reads as it did. -/
def metaChunksUptoRow : OpenClaim := { program := "ytpdggoapjbjmhaa", sum := "1841c9d3fc8fbcb0762fc3c61fd9557e453e80c812fae8369ed171d16f00d75f", func := "portmanteau/portmanteaulaw14.MetaChunks", spec := "metaChunks", unfollowed := true, recurses := true, apart := false, narrowed := true }
def MetaChunksUptoSaid : Prop := metaChunksUptoRow.holds Try.pinned (OpenSpec.upto metaChunksSpec)

/-- 'portmanteaulaw14.MetaDecodes', WHERE WHAT IT READS IS OF BULK AT MOST 1048576: true; the input reads as it did. -/
def metaDecodesUptoRow : OpenClaim := { program := "ytpdggoapjbjmhaa", sum := "1841c9d3fc8fbcb0762fc3c61fd9557e453e80c812fae8369ed171d16f00d75f", func := "portmanteau/portmanteaulaw14.MetaDecodes", spec := "metaDecodes", unfollowed := true, recurses := true, apart := false, narrowed := true }
def MetaDecodesUptoSaid : Prop := metaDecodesUptoRow.holds Try.pinned (OpenSpec.upto metaDecodesSpec)

/-- 'portmanteaulaw14.MetaBursts', WHERE WHAT IT READS IS OF BULK AT MOST 1048576: true; the input reads as it did. -/
def metaBurstsUptoRow : OpenClaim := { program := "ytpdggoapjbjmhaa", sum := "1841c9d3fc8fbcb0762fc3c61fd9557e453e80c812fae8369ed171d16f00d75f", func := "portmanteau/portmanteaulaw14.MetaBursts", spec := "metaBursts", inPlace := ["math.Float64frombits"], unfollowed := true, recurses := true, apart := false, narrowed := true }
def MetaBurstsUptoSaid : Prop := metaBurstsUptoRow.holds Try.pinned (OpenSpec.upto metaBurstsSpec)

/-- 'portmanteaulaw14.MetaParts', WHERE WHAT IT READS IS OF BULK AT MOST 1048576: true; the input reads as it did. -/
def metaPartsUptoRow : OpenClaim := { program := "ytpdggoapjbjmhaa", sum := "1841c9d3fc8fbcb0762fc3c61fd9557e453e80c812fae8369ed171d16f00d75f", func := "portmanteau/portmanteaulaw14.MetaParts", spec := "metaParts", inPlace := ["math.Float64frombits"], unfollowed := true, recurses := true, apart := false, narrowed := true }
def MetaPartsUptoSaid : Prop := metaPartsUptoRow.holds Try.pinned (OpenSpec.upto metaPartsSpec)

end Rows
end Go.Proofs.Ytpdggoapjbjmhaa
