/-
  No cell of these rows narrows 'for every input' (looked for: loops, veiled, ifaces, maps, wideKeys, modest, calm, conditions, laid).
  DERIVED. THE GIVEN ROWS OF THIS SEAT. 11 by the template 'for every input the law returns true; each argument reads behind the call as it read before'; 0 by the template 'total and deterministic' (their statements: YtbnkglcgblhjeaaTotals.lean).
  GIVEN WITH THE SEED: the statements are not yours to turn. If you find one false, say at which input.
  Laid BY PROGRAM, IN A SANDBOX (cutbox-rows.mjs): the forced cells as the released guide's own fill.sh prints them over the translation 51990f15a0ebebab… (all of the seat's roots in one cut). By AI agents, Wed Nov 11 2026. No macro, syntax, notation, axiom, sorry.
-/
import Derived.Test.YtbnkglcgblhjeaaChecked
import GoSem.Claim
import GoSem.ClaimJoined
import GoSem.ClaimMapViews
import Derived.JoinedTies
import Derived.KernelRfl
namespace Go.Proofs.Ytbnkglcgblhjeaa
/- THE CELL 'sum', in the pinned program and in every row, IS THE sha256 OF THE DUMP (.gsa) THAT YtbnkglcgblhjeaaProg.lean LOADS. Nothing in Lean hashes anything: it is a label: what it is worth is what the hold of that sum in a sandbox is worth. -/
noncomputable def Try.pinned : Pinned := { name := "ytbnkglcgblhjeaa", sum := "51990f15a0ebebab9a895c379e7248527e5e7cf648474ee62e6564302611f660", checked := Try.checked }
namespace Rows
def none {H : Type} : Left H := { results := [], args := [] }

/-- 'portmanteaulaw05.LzDecodes': WHATEVER THE INPUT: true; the input reads as it did. -/
def lzDecodesSpec : ChangeSpec := { name := "lzDecodes", fn := fun _ => fun
  | [d1, d2] => { results := [.lit (.bool true)], args := [d1, d2] }
  | _ => none }
def lzDecodesRow : OpenClaim := { program := "ytbnkglcgblhjeaa", sum := "51990f15a0ebebab9a895c379e7248527e5e7cf648474ee62e6564302611f660", func := "portmanteau/portmanteaulaw05.LzDecodes", spec := "lzDecodes", unfollowed := true, recurses := true, apart := false }
def LzDecodesSaid : Prop := lzDecodesRow.holds Try.pinned (OpenSpec.ofChange lzDecodesSpec)

/-- ITS FALSE NEIGHBOUR: 'it returns false'. Refute it at one input. -/
def lzDecodesWrong : ChangeSpec := { name := "lzDecodes", fn := fun _ => fun
  | [d1, d2] => { results := [.lit (.bool false)], args := [d1, d2] }
  | _ => none }
def LzDecodesWrongFalsely : Prop := lzDecodesRow.holds Try.pinned (OpenSpec.ofChange lzDecodesWrong)

/-- 'portmanteaulaw05.LzPlain': WHATEVER THE INPUT: true; the input reads as it did. -/
def lzPlainSpec : ChangeSpec := { name := "lzPlain", fn := fun _ => fun
  | [d] => { results := [.lit (.bool true)], args := [d] }
  | _ => none }
def lzPlainRow : OpenClaim := { program := "ytbnkglcgblhjeaa", sum := "51990f15a0ebebab9a895c379e7248527e5e7cf648474ee62e6564302611f660", func := "portmanteau/portmanteaulaw05.LzPlain", spec := "lzPlain", unfollowed := true, recurses := true, apart := false }
def LzPlainSaid : Prop := lzPlainRow.holds Try.pinned (OpenSpec.ofChange lzPlainSpec)

/-- ITS FALSE NEIGHBOUR: 'it returns false'. Refute it at one input. -/
def lzPlainWrong : ChangeSpec := { name := "lzPlain", fn := fun _ => fun
  | [d] => { results := [.lit (.bool false)], args := [d] }
  | _ => none }
def LzPlainWrongFalsely : Prop := lzPlainRow.holds Try.pinned (OpenSpec.ofChange lzPlainWrong)

/-- 'portmanteaulaw05.LzBounds': WHATEVER THE INPUT: true; the input reads as it did. -/
def lzBoundsSpec : ChangeSpec := { name := "lzBounds", fn := fun _ => fun
  | [d1, d2] => { results := [.lit (.bool true)], args := [d1, d2] }
  | _ => none }
def lzBoundsRow : OpenClaim := { program := "ytbnkglcgblhjeaa", sum := "51990f15a0ebebab9a895c379e7248527e5e7cf648474ee62e6564302611f660", func := "portmanteau/portmanteaulaw05.LzBounds", spec := "lzBounds", unfollowed := true, recurses := true, apart := false }
def LzBoundsSaid : Prop := lzBoundsRow.holds Try.pinned (OpenSpec.ofChange lzBoundsSpec)

/-- ITS FALSE NEIGHBOUR: 'it returns false'. Refute it at one input. -/
def lzBoundsWrong : ChangeSpec := { name := "lzBounds", fn := fun _ => fun
  | [d1, d2] => { results := [.lit (.bool false)], args := [d1, d2] }
  | _ => none }
def LzBoundsWrongFalsely : Prop := lzBoundsRow.holds Try.pinned (OpenSpec.ofChange lzBoundsWrong)

/-- 'portmanteaulaw05.LzCuts': WHATEVER THE INPUT: true; the input reads as it did. -/
def lzCutsSpec : ChangeSpec := { name := "lzCuts", fn := fun _ => fun
  | [d] => { results := [.lit (.bool true)], args := [d] }
  | _ => none }
def lzCutsRow : OpenClaim := { program := "ytbnkglcgblhjeaa", sum := "51990f15a0ebebab9a895c379e7248527e5e7cf648474ee62e6564302611f660", func := "portmanteau/portmanteaulaw05.LzCuts", spec := "lzCuts", unfollowed := true, recurses := true, apart := false }
def LzCutsSaid : Prop := lzCutsRow.holds Try.pinned (OpenSpec.ofChange lzCutsSpec)

/-- ITS FALSE NEIGHBOUR: 'it returns false'. Refute it at one input. -/
def lzCutsWrong : ChangeSpec := { name := "lzCuts", fn := fun _ => fun
  | [d] => { results := [.lit (.bool false)], args := [d] }
  | _ => none }
def LzCutsWrongFalsely : Prop := lzCutsRow.holds Try.pinned (OpenSpec.ofChange lzCutsWrong)

/-- 'portmanteaulaw05.LzJoins': WHATEVER THE INPUT: true; the input reads as it did. -/
def lzJoinsSpec : ChangeSpec := { name := "lzJoins", fn := fun _ => fun
  | [d] => { results := [.lit (.bool true)], args := [d] }
  | _ => none }
def lzJoinsRow : OpenClaim := { program := "ytbnkglcgblhjeaa", sum := "51990f15a0ebebab9a895c379e7248527e5e7cf648474ee62e6564302611f660", func := "portmanteau/portmanteaulaw05.LzJoins", spec := "lzJoins", unfollowed := true, recurses := true, apart := false }
def LzJoinsSaid : Prop := lzJoinsRow.holds Try.pinned (OpenSpec.ofChange lzJoinsSpec)

/-- ITS FALSE NEIGHBOUR: 'it returns false'. Refute it at one input. -/
def lzJoinsWrong : ChangeSpec := { name := "lzJoins", fn := fun _ => fun
  | [d] => { results := [.lit (.bool false)], args := [d] }
  | _ => none }
def LzJoinsWrongFalsely : Prop := lzJoinsRow.holds Try.pinned (OpenSpec.ofChange lzJoinsWrong)

/-- 'portmanteaulaw05.LzRuns': WHATEVER THE INPUT: true; the input reads as it did. -/
def lzRunsSpec : ChangeSpec := { name := "lzRuns", fn := fun _ => fun
  | [d1, d2] => { results := [.lit (.bool true)], args := [d1, d2] }
  | _ => none }
def lzRunsRow : OpenClaim := { program := "ytbnkglcgblhjeaa", sum := "51990f15a0ebebab9a895c379e7248527e5e7cf648474ee62e6564302611f660", func := "portmanteau/portmanteaulaw05.LzRuns", spec := "lzRuns", unfollowed := true, recurses := true, apart := false }
def LzRunsSaid : Prop := lzRunsRow.holds Try.pinned (OpenSpec.ofChange lzRunsSpec)

/-- ITS FALSE NEIGHBOUR: 'it returns false'. Refute it at one input. -/
def lzRunsWrong : ChangeSpec := { name := "lzRuns", fn := fun _ => fun
  | [d1, d2] => { results := [.lit (.bool false)], args := [d1, d2] }
  | _ => none }
def LzRunsWrongFalsely : Prop := lzRunsRow.holds Try.pinned (OpenSpec.ofChange lzRunsWrong)

/-- 'portmanteaulaw05.LzBack': WHATEVER THE INPUT: true; the input reads as it did. -/
def lzBackSpec : ChangeSpec := { name := "lzBack", fn := fun _ => fun
  | [d1, d2] => { results := [.lit (.bool true)], args := [d1, d2] }
  | _ => none }
def lzBackRow : OpenClaim := { program := "ytbnkglcgblhjeaa", sum := "51990f15a0ebebab9a895c379e7248527e5e7cf648474ee62e6564302611f660", func := "portmanteau/portmanteaulaw05.LzBack", spec := "lzBack", unfollowed := true, recurses := true, apart := false }
def LzBackSaid : Prop := lzBackRow.holds Try.pinned (OpenSpec.ofChange lzBackSpec)

/-- ITS FALSE NEIGHBOUR: 'it returns false'. Refute it at one input. -/
def lzBackWrong : ChangeSpec := { name := "lzBack", fn := fun _ => fun
  | [d1, d2] => { results := [.lit (.bool false)], args := [d1, d2] }
  | _ => none }
def LzBackWrongFalsely : Prop := lzBackRow.holds Try.pinned (OpenSpec.ofChange lzBackWrong)

/-- 'portmanteaulaw19.FragFull': WHATEVER THE INPUT: true; the input reads as it did. -/
def fragFullSpec : ChangeSpec := { name := "fragFull", fn := fun _ => fun
  | [d] => { results := [.lit (.bool true)], args := [d] }
  | _ => none }
def fragFullRow : OpenClaim := { program := "ytbnkglcgblhjeaa", sum := "51990f15a0ebebab9a895c379e7248527e5e7cf648474ee62e6564302611f660", func := "portmanteau/portmanteaulaw19.FragFull", spec := "fragFull", unfollowed := true, recurses := true, apart := false }
def FragFullSaid : Prop := fragFullRow.holds Try.pinned (OpenSpec.ofChange fragFullSpec)

/-- ITS FALSE NEIGHBOUR: 'it returns false'. Refute it at one input. -/
def fragFullWrong : ChangeSpec := { name := "fragFull", fn := fun _ => fun
  | [d] => { results := [.lit (.bool false)], args := [d] }
  | _ => none }
def FragFullWrongFalsely : Prop := fragFullRow.holds Try.pinned (OpenSpec.ofChange fragFullWrong)

/-- 'portmanteaulaw19.FragNils': WHATEVER THE INPUT: true; the input reads as it did. -/
def fragNilsSpec : ChangeSpec := { name := "fragNils", fn := fun _ => fun
  | [d1, d2] => { results := [.lit (.bool true)], args := [d1, d2] }
  | _ => none }
def fragNilsRow : OpenClaim := { program := "ytbnkglcgblhjeaa", sum := "51990f15a0ebebab9a895c379e7248527e5e7cf648474ee62e6564302611f660", func := "portmanteau/portmanteaulaw19.FragNils", spec := "fragNils", unfollowed := true, recurses := true, apart := false }
def FragNilsSaid : Prop := fragNilsRow.holds Try.pinned (OpenSpec.ofChange fragNilsSpec)

/-- ITS FALSE NEIGHBOUR: 'it returns false'. Refute it at one input. -/
def fragNilsWrong : ChangeSpec := { name := "fragNils", fn := fun _ => fun
  | [d1, d2] => { results := [.lit (.bool false)], args := [d1, d2] }
  | _ => none }
def FragNilsWrongFalsely : Prop := fragNilsRow.holds Try.pinned (OpenSpec.ofChange fragNilsWrong)

/-- 'portmanteaulaw19.FragPlays': WHATEVER THE INPUT: true; the input reads as it did. -/
def fragPlaysSpec : ChangeSpec := { name := "fragPlays", fn := fun _ => fun
  | [d1, d2, d3, d4] => { results := [.lit (.bool true)], args := [d1, d2, d3, d4] }
  | _ => none }
def fragPlaysRow : OpenClaim := { program := "ytbnkglcgblhjeaa", sum := "51990f15a0ebebab9a895c379e7248527e5e7cf648474ee62e6564302611f660", func := "portmanteau/portmanteaulaw19.FragPlays", spec := "fragPlays", inPlace := ["math.Float64frombits"], unfollowed := true, recurses := true, apart := false }
def FragPlaysSaid : Prop := fragPlaysRow.holds Try.pinned (OpenSpec.ofChange fragPlaysSpec)

/-- ITS FALSE NEIGHBOUR: 'it returns false'. Refute it at one input. -/
def fragPlaysWrong : ChangeSpec := { name := "fragPlays", fn := fun _ => fun
  | [d1, d2, d3, d4] => { results := [.lit (.bool false)], args := [d1, d2, d3, d4] }
  | _ => none }
def FragPlaysWrongFalsely : Prop := fragPlaysRow.holds Try.pinned (OpenSpec.ofChange fragPlaysWrong)

/-- 'portmanteaulaw19.FragCuts': WHATEVER THE INPUT: true; the input reads as it did. -/
def fragCutsSpec : ChangeSpec := { name := "fragCuts", fn := fun _ => fun
  | [d1, d2, d3, d4] => { results := [.lit (.bool true)], args := [d1, d2, d3, d4] }
  | _ => none }
def fragCutsRow : OpenClaim := { program := "ytbnkglcgblhjeaa", sum := "51990f15a0ebebab9a895c379e7248527e5e7cf648474ee62e6564302611f660", func := "portmanteau/portmanteaulaw19.FragCuts", spec := "fragCuts", unfollowed := true, recurses := true, apart := false }
def FragCutsSaid : Prop := fragCutsRow.holds Try.pinned (OpenSpec.ofChange fragCutsSpec)

/-- ITS FALSE NEIGHBOUR: 'it returns false'. Refute it at one input. -/
def fragCutsWrong : ChangeSpec := { name := "fragCuts", fn := fun _ => fun
  | [d1, d2, d3, d4] => { results := [.lit (.bool false)], args := [d1, d2, d3, d4] }
  | _ => none }
def FragCutsWrongFalsely : Prop := fragCutsRow.holds Try.pinned (OpenSpec.ofChange fragCutsWrong)

/- THE SECOND FORM. 'bulk': how many values and letters a reading holds, each counted each time it is reached (what is shared counts as often as it is met; a slice's spare places count too). A statement '..UptoSaid' is the law's where the arguments, and the package variables that the reading takes, are together of bulk at most 1048576: NARROWER than '..Said'. Prove '..Said' where nothing that the law and all that it calls make is longer than what came in: it says more and counts as full. Else prove '..UptoSaid'. A law counts once. -/
mutual
def uptoBulk {H : Type} : DataW H → Nat
  | .lit (.string bytes) => bytes.length + 1
  | .lit _ => 1
  | .nil => 1
  | .ptr d => uptoBulk d + 1
  | .slice elems spare => uptoBulkAll elems + uptoBulkAll spare + 1
  | .agg parts => uptoBulkAll parts + 1
  | .iface _ d => uptoBulk d + 1
  | .map entries => uptoBulkEntries entries + 1
  | .held _ => 1
def uptoBulkAll {H : Type} : List (DataW H) → Nat
  | [] => 0
  | d :: r => uptoBulk d + uptoBulkAll r
def uptoBulkEntries {H : Type} : List (Lit × DataW H) → Nat
  | [] => 0
  | x :: r => uptoBulkEntry x + uptoBulkEntries r
def uptoBulkEntry {H : Type} : Lit × DataW H → Nat
  | (.string bytes, d) => bytes.length + uptoBulk d + 1
  | (_, d) => uptoBulk d + 1
 end
def uptoSmall : (H : Type) → List (DataW H) → Bool := fun _ ds => decide (uptoBulkAll ds ≤ 1048576)
def OpenSpec.upto (s : _root_.Go.ChangeSpec) : _root_.Go.OpenSpec := { _root_.Go.OpenSpec.ofChange s with cond := some uptoSmall }

/-- 'portmanteaulaw05.LzDecodes', WHERE WHAT IT READS IS OF BULK AT MOST 1048576: true; the input reads as it did. -/
def lzDecodesUptoRow : OpenClaim := { program := "ytbnkglcgblhjeaa", sum := "51990f15a0ebebab9a895c379e7248527e5e7cf648474ee62e6564302611f660", func := "portmanteau/portmanteaulaw05.LzDecodes", spec := "lzDecodes", unfollowed := true, recurses := true, apart := false, narrowed := true }
def LzDecodesUptoSaid : Prop := lzDecodesUptoRow.holds Try.pinned (OpenSpec.upto lzDecodesSpec)

/-- 'portmanteaulaw05.LzPlain', WHERE WHAT IT READS IS OF BULK AT MOST 1048576: true; the input reads as it did. -/
def lzPlainUptoRow : OpenClaim := { program := "ytbnkglcgblhjeaa", sum := "51990f15a0ebebab9a895c379e7248527e5e7cf648474ee62e6564302611f660", func := "portmanteau/portmanteaulaw05.LzPlain", spec := "lzPlain", unfollowed := true, recurses := true, apart := false, narrowed := true }
def LzPlainUptoSaid : Prop := lzPlainUptoRow.holds Try.pinned (OpenSpec.upto lzPlainSpec)

/-- 'portmanteaulaw05.LzBounds', WHERE WHAT IT READS IS OF BULK AT MOST 1048576: true; the input reads as it did. -/
def lzBoundsUptoRow : OpenClaim := { program := "ytbnkglcgblhjeaa", sum := "51990f15a0ebebab9a895c379e7248527e5e7cf648474ee62e6564302611f660", func := "portmanteau/portmanteaulaw05.LzBounds", spec := "lzBounds", unfollowed := true, recurses := true, apart := false, narrowed := true }
def LzBoundsUptoSaid : Prop := lzBoundsUptoRow.holds Try.pinned (OpenSpec.upto lzBoundsSpec)

/-- 'portmanteaulaw05.LzCuts', WHERE WHAT IT READS IS OF BULK AT MOST 1048576: true; the input reads as it did. -/
def lzCutsUptoRow : OpenClaim := { program := "ytbnkglcgblhjeaa", sum := "51990f15a0ebebab9a895c379e7248527e5e7cf648474ee62e6564302611f660", func := "portmanteau/portmanteaulaw05.LzCuts", spec := "lzCuts", unfollowed := true, recurses := true, apart := false, narrowed := true }
def LzCutsUptoSaid : Prop := lzCutsUptoRow.holds Try.pinned (OpenSpec.upto lzCutsSpec)

/-- 'portmanteaulaw05.LzJoins', WHERE WHAT IT READS IS OF BULK AT MOST 1048576: true; the input reads as it did. -/
def lzJoinsUptoRow : OpenClaim := { program := "ytbnkglcgblhjeaa", sum := "51990f15a0ebebab9a895c379e7248527e5e7cf648474ee62e6564302611f660", func := "portmanteau/portmanteaulaw05.LzJoins", spec := "lzJoins", unfollowed := true, recurses := true, apart := false, narrowed := true }
def LzJoinsUptoSaid : Prop := lzJoinsUptoRow.holds Try.pinned (OpenSpec.upto lzJoinsSpec)

/-- 'portmanteaulaw05.LzRuns', WHERE WHAT IT READS IS OF BULK AT MOST 1048576: true; the input reads as it did. -/
def lzRunsUptoRow : OpenClaim := { program := "ytbnkglcgblhjeaa", sum := "51990f15a0ebebab9a895c379e7248527e5e7cf648474ee62e6564302611f660", func := "portmanteau/portmanteaulaw05.LzRuns", spec := "lzRuns", unfollowed := true, recurses := true, apart := false, narrowed := true }
def LzRunsUptoSaid : Prop := lzRunsUptoRow.holds Try.pinned (OpenSpec.upto lzRunsSpec)

/-- 'portmanteaulaw05.LzBack', WHERE WHAT IT READS IS OF BULK AT MOST 1048576: true; the input reads as it did. -/
def lzBackUptoRow : OpenClaim := { program := "ytbnkglcgblhjeaa", sum := "51990f15a0ebebab9a895c379e7248527e5e7cf648474ee62e6564302611f660", func := "portmanteau/portmanteaulaw05.LzBack", spec := "lzBack", unfollowed := true, recurses := true, apart := false, narrowed := true }
def LzBackUptoSaid : Prop := lzBackUptoRow.holds Try.pinned (OpenSpec.upto lzBackSpec)

/-- 'portmanteaulaw19.FragFull', WHERE WHAT IT READS IS OF BULK AT MOST 1048576: true; the input reads as it did. -/
def fragFullUptoRow : OpenClaim := { program := "ytbnkglcgblhjeaa", sum := "51990f15a0ebebab9a895c379e7248527e5e7cf648474ee62e6564302611f660", func := "portmanteau/portmanteaulaw19.FragFull", spec := "fragFull", unfollowed := true, recurses := true, apart := false, narrowed := true }
def FragFullUptoSaid : Prop := fragFullUptoRow.holds Try.pinned (OpenSpec.upto fragFullSpec)

/-- 'portmanteaulaw19.FragNils', WHERE WHAT IT READS IS OF BULK AT MOST 1048576: true; the input reads as it did. -/
def fragNilsUptoRow : OpenClaim := { program := "ytbnkglcgblhjeaa", sum := "51990f15a0ebebab9a895c379e7248527e5e7cf648474ee62e6564302611f660", func := "portmanteau/portmanteaulaw19.FragNils", spec := "fragNils", unfollowed := true, recurses := true, apart := false, narrowed := true }
def FragNilsUptoSaid : Prop := fragNilsUptoRow.holds Try.pinned (OpenSpec.upto fragNilsSpec)

/-- 'portmanteaulaw19.FragPlays', WHERE WHAT IT READS IS OF BULK AT MOST 1048576: true; the input reads as it did. -/
def fragPlaysUptoRow : OpenClaim := { program := "ytbnkglcgblhjeaa", sum := "51990f15a0ebebab9a895c379e7248527e5e7cf648474ee62e6564302611f660", func := "portmanteau/portmanteaulaw19.FragPlays", spec := "fragPlays", inPlace := ["math.Float64frombits"], unfollowed := true, recurses := true, apart := false, narrowed := true }
def FragPlaysUptoSaid : Prop := fragPlaysUptoRow.holds Try.pinned (OpenSpec.upto fragPlaysSpec)

/-- 'portmanteaulaw19.FragCuts', WHERE WHAT IT READS IS OF BULK AT MOST 1048576: true; the input reads as it did. -/
def fragCutsUptoRow : OpenClaim := { program := "ytbnkglcgblhjeaa", sum := "51990f15a0ebebab9a895c379e7248527e5e7cf648474ee62e6564302611f660", func := "portmanteau/portmanteaulaw19.FragCuts", spec := "fragCuts", unfollowed := true, recurses := true, apart := false, narrowed := true }
def FragCutsUptoSaid : Prop := fragCutsUptoRow.holds Try.pinned (OpenSpec.upto fragCutsSpec)

end Rows
end Go.Proofs.Ytbnkglcgblhjeaa
