/-
  No cell of these rows narrows 'for every input' (looked for: loops, veiled, ifaces, maps, wideKeys, modest, calm, conditions, laid).
  DERIVED. THE GIVEN ROWS OF THIS SEAT. 8 by the template 'for every input the law returns true; each argument reads behind the call as it read before'; 0 by the template 'total and deterministic' (their statements: YtepmgkmbmejkjaaTotals.lean).
  GIVEN WITH THE SEED: the statements are not yours to turn. If you find one false, say at which input.
  Laid BY PROGRAM, IN A SANDBOX (cutbox-rows.mjs): the forced cells as the released guide's own fill.sh prints them over the translation f4baa2d10eb8afc2… (all of the seat's roots in one cut). By AI agents, Wed Nov 11 2026. No macro, syntax, notation, axiom, sorry.
-/
import Derived.Test.YtepmgkmbmejkjaaChecked
import GoSem.Claim
import GoSem.ClaimJoined
import GoSem.ClaimMapViews
import Derived.JoinedTies
import Derived.KernelRfl
namespace Go.Proofs.Ytepmgkmbmejkjaa
/- THE CELL 'sum', in the pinned program and in every row, IS THE sha256 OF THE DUMP (.gsa) THAT YtepmgkmbmejkjaaProg.lean LOADS. Nothing in Lean hashes anything: it is a label: what it is worth is what the hold of that sum in a sandbox is worth. -/
noncomputable def Try.pinned : Pinned := { name := "ytepmgkmbmejkjaa", sum := "f4baa2d10eb8afc25f6860f825dda6ee068f56018f429a878adef55fa8e913bd", checked := Try.checked }
namespace Rows
def none {H : Type} : Left H := { results := [], args := [] }

/-- 'portmanteaulaw04.FlashChecks': WHATEVER THE INPUT: true; the input reads as it did. -/
def flashChecksSpec : ChangeSpec := { name := "flashChecks", fn := fun _ => fun
  | [d] => { results := [.lit (.bool true)], args := [d] }
  | _ => none }
def flashChecksRow : OpenClaim := { program := "ytepmgkmbmejkjaa", sum := "f4baa2d10eb8afc25f6860f825dda6ee068f56018f429a878adef55fa8e913bd", func := "portmanteau/portmanteaulaw04.FlashChecks", spec := "flashChecks", apart := false }
def FlashChecksSaid : Prop := flashChecksRow.holds Try.pinned (OpenSpec.ofChange flashChecksSpec)

/-- ITS FALSE NEIGHBOUR: 'it returns false'. Refute it at one input. -/
def flashChecksWrong : ChangeSpec := { name := "flashChecks", fn := fun _ => fun
  | [d] => { results := [.lit (.bool false)], args := [d] }
  | _ => none }
def FlashChecksWrongFalsely : Prop := flashChecksRow.holds Try.pinned (OpenSpec.ofChange flashChecksWrong)

/-- 'portmanteaulaw04.FlashReads': WHATEVER THE INPUT: true; the input reads as it did. -/
def flashReadsSpec : ChangeSpec := { name := "flashReads", fn := fun _ => fun
  | [d1, d2, d3, d4, d5] => { results := [.lit (.bool true)], args := [d1, d2, d3, d4, d5] }
  | _ => none }
def flashReadsRow : OpenClaim := { program := "ytepmgkmbmejkjaa", sum := "f4baa2d10eb8afc25f6860f825dda6ee068f56018f429a878adef55fa8e913bd", func := "portmanteau/portmanteaulaw04.FlashReads", spec := "flashReads", apart := false }
def FlashReadsSaid : Prop := flashReadsRow.holds Try.pinned (OpenSpec.ofChange flashReadsSpec)

/-- ITS FALSE NEIGHBOUR: 'it returns false'. Refute it at one input. -/
def flashReadsWrong : ChangeSpec := { name := "flashReads", fn := fun _ => fun
  | [d1, d2, d3, d4, d5] => { results := [.lit (.bool false)], args := [d1, d2, d3, d4, d5] }
  | _ => none }
def FlashReadsWrongFalsely : Prop := flashReadsRow.holds Try.pinned (OpenSpec.ofChange flashReadsWrong)

/-- 'portmanteaulaw04.FlashKeeps': WHATEVER THE INPUT: true; the input reads as it did. -/
def flashKeepsSpec : ChangeSpec := { name := "flashKeeps", fn := fun _ => fun
  | [d1, d2, d3, d4] => { results := [.lit (.bool true)], args := [d1, d2, d3, d4] }
  | _ => none }
def flashKeepsRow : OpenClaim := { program := "ytepmgkmbmejkjaa", sum := "f4baa2d10eb8afc25f6860f825dda6ee068f56018f429a878adef55fa8e913bd", func := "portmanteau/portmanteaulaw04.FlashKeeps", spec := "flashKeeps", apart := false }
def FlashKeepsSaid : Prop := flashKeepsRow.holds Try.pinned (OpenSpec.ofChange flashKeepsSpec)

/-- ITS FALSE NEIGHBOUR: 'it returns false'. Refute it at one input. -/
def flashKeepsWrong : ChangeSpec := { name := "flashKeeps", fn := fun _ => fun
  | [d1, d2, d3, d4] => { results := [.lit (.bool false)], args := [d1, d2, d3, d4] }
  | _ => none }
def FlashKeepsWrongFalsely : Prop := flashKeepsRow.holds Try.pinned (OpenSpec.ofChange flashKeepsWrong)

/-- 'portmanteaulaw04.FlashPlays': WHATEVER THE INPUT: true; the input reads as it did. -/
def flashPlaysSpec : ChangeSpec := { name := "flashPlays", fn := fun _ => fun
  | [d1, d2] => { results := [.lit (.bool true)], args := [d1, d2] }
  | _ => none }
def flashPlaysRow : OpenClaim := { program := "ytepmgkmbmejkjaa", sum := "f4baa2d10eb8afc25f6860f825dda6ee068f56018f429a878adef55fa8e913bd", func := "portmanteau/portmanteaulaw04.FlashPlays", spec := "flashPlays", apart := false }
def FlashPlaysSaid : Prop := flashPlaysRow.holds Try.pinned (OpenSpec.ofChange flashPlaysSpec)

/-- ITS FALSE NEIGHBOUR: 'it returns false'. Refute it at one input. -/
def flashPlaysWrong : ChangeSpec := { name := "flashPlays", fn := fun _ => fun
  | [d1, d2] => { results := [.lit (.bool false)], args := [d1, d2] }
  | _ => none }
def FlashPlaysWrongFalsely : Prop := flashPlaysRow.holds Try.pinned (OpenSpec.ofChange flashPlaysWrong)

/-- 'portmanteaulaw04.FlashNils': WHATEVER THE INPUT: true; the input reads as it did. -/
def flashNilsSpec : ChangeSpec := { name := "flashNils", fn := fun _ => fun
  | [d] => { results := [.lit (.bool true)], args := [d] }
  | _ => none }
def flashNilsRow : OpenClaim := { program := "ytepmgkmbmejkjaa", sum := "f4baa2d10eb8afc25f6860f825dda6ee068f56018f429a878adef55fa8e913bd", func := "portmanteau/portmanteaulaw04.FlashNils", spec := "flashNils", apart := false }
def FlashNilsSaid : Prop := flashNilsRow.holds Try.pinned (OpenSpec.ofChange flashNilsSpec)

/-- ITS FALSE NEIGHBOUR: 'it returns false'. Refute it at one input. -/
def flashNilsWrong : ChangeSpec := { name := "flashNils", fn := fun _ => fun
  | [d] => { results := [.lit (.bool false)], args := [d] }
  | _ => none }
def FlashNilsWrongFalsely : Prop := flashNilsRow.holds Try.pinned (OpenSpec.ofChange flashNilsWrong)

/-- 'portmanteaulaw13.SuperAreas': WHATEVER THE INPUT: true; the input reads as it did. -/
def superAreasSpec : ChangeSpec := { name := "superAreas", fn := fun _ => fun
  | [d1, d2] => { results := [.lit (.bool true)], args := [d1, d2] }
  | _ => none }
def superAreasRow : OpenClaim := { program := "ytepmgkmbmejkjaa", sum := "f4baa2d10eb8afc25f6860f825dda6ee068f56018f429a878adef55fa8e913bd", func := "portmanteau/portmanteaulaw13.SuperAreas", spec := "superAreas", apart := false }
def SuperAreasSaid : Prop := superAreasRow.holds Try.pinned (OpenSpec.ofChange superAreasSpec)

/-- ITS FALSE NEIGHBOUR: 'it returns false'. Refute it at one input. -/
def superAreasWrong : ChangeSpec := { name := "superAreas", fn := fun _ => fun
  | [d1, d2] => { results := [.lit (.bool false)], args := [d1, d2] }
  | _ => none }
def SuperAreasWrongFalsely : Prop := superAreasRow.holds Try.pinned (OpenSpec.ofChange superAreasWrong)

/-- 'portmanteaulaw13.SuperEncodes': WHATEVER THE INPUT: true; the input reads as it did. -/
def superEncodesSpec : ChangeSpec := { name := "superEncodes", fn := fun _ => fun
  | [d1, d2] => { results := [.lit (.bool true)], args := [d1, d2] }
  | _ => none }
def superEncodesRow : OpenClaim := { program := "ytepmgkmbmejkjaa", sum := "f4baa2d10eb8afc25f6860f825dda6ee068f56018f429a878adef55fa8e913bd", func := "portmanteau/portmanteaulaw13.SuperEncodes", spec := "superEncodes", apart := false }
def SuperEncodesSaid : Prop := superEncodesRow.holds Try.pinned (OpenSpec.ofChange superEncodesSpec)

/-- ITS FALSE NEIGHBOUR: 'it returns false'. Refute it at one input. -/
def superEncodesWrong : ChangeSpec := { name := "superEncodes", fn := fun _ => fun
  | [d1, d2] => { results := [.lit (.bool false)], args := [d1, d2] }
  | _ => none }
def SuperEncodesWrongFalsely : Prop := superEncodesRow.holds Try.pinned (OpenSpec.ofChange superEncodesWrong)

/-- 'portmanteaulaw13.SuperBursts': WHATEVER THE INPUT: true; the input reads as it did. -/
def superBurstsSpec : ChangeSpec := { name := "superBursts", fn := fun _ => fun
  | [d1, d2, d3] => { results := [.lit (.bool true)], args := [d1, d2, d3] }
  | _ => none }
def superBurstsRow : OpenClaim := { program := "ytepmgkmbmejkjaa", sum := "f4baa2d10eb8afc25f6860f825dda6ee068f56018f429a878adef55fa8e913bd", func := "portmanteau/portmanteaulaw13.SuperBursts", spec := "superBursts", apart := false }
def SuperBurstsSaid : Prop := superBurstsRow.holds Try.pinned (OpenSpec.ofChange superBurstsSpec)

/-- ITS FALSE NEIGHBOUR: 'it returns false'. Refute it at one input. -/
def superBurstsWrong : ChangeSpec := { name := "superBursts", fn := fun _ => fun
  | [d1, d2, d3] => { results := [.lit (.bool false)], args := [d1, d2, d3] }
  | _ => none }
def SuperBurstsWrongFalsely : Prop := superBurstsRow.holds Try.pinned (OpenSpec.ofChange superBurstsWrong)

/- THE SECOND FORM. 'bulk': how many values and letters a reading holds, each counted each time it is reached (what is shared counts as often as it is met; a slice's spare places count too). A statement '..UptoSaid' is the law's where the arguments, and the package variables that the reading takes, are together of bulk at most 1048576: NARROWER than '..Said'. Prove '..Said' where nothing that the law and all that it calls make is longer than what came in: it says more and counts as full. Else prove '..UptoSaid'. A law counts once. -/
mutual
def uptoBulk {H : Type} : DataW H → Nat
  | .lit (.string bytes) => bytes.length + 1
  | .lit _ => 1
  | .nil => 1
  | .ptr d => uptoBulk d + 1
  | .slice elems spare => uptoBulkAll elems + uptoBulkAll spare + 1
  | .agg parts => uptoBulkAll parts + 1
  | .iface _ d => uptoBulk d + 1
  | .map entries => uptoBulkEntries entries + 1
  | .held _ => 1
def uptoBulkAll {H : Type} : List (DataW H) → Nat
  | [] => 0
  | d :: r => uptoBulk d + uptoBulkAll r
def uptoBulkEntries {H : Type} : List (Lit × DataW H) → Nat
  | [] => 0
  | x :: r => uptoBulkEntry x + uptoBulkEntries r
def uptoBulkEntry {H : Type} : Lit × DataW H → Nat
  | (.string bytes, d) => bytes.length + uptoBulk d + 1
  | (_, d) => uptoBulk d + 1
 end
def uptoSmall : (H : Type) → List (DataW H) → Bool := fun _ ds => decide (uptoBulkAll ds ≤ 1048576)
def OpenSpec.upto (s : _root_.Go.ChangeSpec) : _root_.Go.OpenSpec := { _root_.Go.OpenSpec.ofChange s with cond := some uptoSmall }

/-- 'portmanteaulaw04.FlashChecks', WHERE WHAT IT READS IS OF BULK AT MOST 1048576: true; the input reads as it did. -/
def flashChecksUptoRow : OpenClaim := { program := "ytepmgkmbmejkjaa", sum := "f4baa2d10eb8afc25f6860f825dda6ee068f56018f429a878adef55fa8e913bd", func := "portmanteau/portmanteaulaw04.FlashChecks", spec := "flashChecks", apart := false, narrowed := true }
def FlashChecksUptoSaid : Prop := flashChecksUptoRow.holds Try.pinned (OpenSpec.upto flashChecksSpec)

/-- 'portmanteaulaw04.FlashReads', WHERE WHAT IT READS IS OF BULK AT MOST 1048576: true; the input reads as it did. -/
def flashReadsUptoRow : OpenClaim := { program := "ytepmgkmbmejkjaa", sum := "f4baa2d10eb8afc25f6860f825dda6ee068f56018f429a878adef55fa8e913bd", func := "portmanteau/portmanteaulaw04.FlashReads", spec := "flashReads", apart := false, narrowed := true }
def FlashReadsUptoSaid : Prop := flashReadsUptoRow.holds Try.pinned (OpenSpec.upto flashReadsSpec)

/-- 'portmanteaulaw04.FlashKeeps', WHERE WHAT IT READS IS OF BULK AT MOST 1048576: true; the input reads as it did. -/
def flashKeepsUptoRow : OpenClaim := { program := "ytepmgkmbmejkjaa", sum := "f4baa2d10eb8afc25f6860f825dda6ee068f56018f429a878adef55fa8e913bd", func := "portmanteau/portmanteaulaw04.FlashKeeps", spec := "flashKeeps", apart := false, narrowed := true }
def FlashKeepsUptoSaid : Prop := flashKeepsUptoRow.holds Try.pinned (OpenSpec.upto flashKeepsSpec)

/-- 'portmanteaulaw04.FlashPlays', WHERE WHAT IT READS IS OF BULK AT MOST 1048576: true; the input reads as it did. -/
def flashPlaysUptoRow : OpenClaim := { program := "ytepmgkmbmejkjaa", sum := "f4baa2d10eb8afc25f6860f825dda6ee068f56018f429a878adef55fa8e913bd", func := "portmanteau/portmanteaulaw04.FlashPlays", spec := "flashPlays", apart := false, narrowed := true }
def FlashPlaysUptoSaid : Prop := flashPlaysUptoRow.holds Try.pinned (OpenSpec.upto flashPlaysSpec)

/-- 'portmanteaulaw04.FlashNils', WHERE WHAT IT READS IS OF BULK AT MOST 1048576: true; the input reads as it did. -/
def flashNilsUptoRow : OpenClaim := { program := "ytepmgkmbmejkjaa", sum := "f4baa2d10eb8afc25f6860f825dda6ee068f56018f429a878adef55fa8e913bd", func := "portmanteau/portmanteaulaw04.FlashNils", spec := "flashNils", apart := false, narrowed := true }
def FlashNilsUptoSaid : Prop := flashNilsUptoRow.holds Try.pinned (OpenSpec.upto flashNilsSpec)

/-- 'portmanteaulaw13.SuperAreas', WHERE WHAT IT READS IS OF BULK AT MOST 1048576: true; the input reads as it did. -/
def superAreasUptoRow : OpenClaim := { program := "ytepmgkmbmejkjaa", sum := "f4baa2d10eb8afc25f6860f825dda6ee068f56018f429a878adef55fa8e913bd", func := "portmanteau/portmanteaulaw13.SuperAreas", spec := "superAreas", apart := false, narrowed := true }
def SuperAreasUptoSaid : Prop := superAreasUptoRow.holds Try.pinned (OpenSpec.upto superAreasSpec)

/-- 'portmanteaulaw13.SuperEncodes', WHERE WHAT IT READS IS OF BULK AT MOST 1048576: true; the input reads as it did. -/
def superEncodesUptoRow : OpenClaim := { program := "ytepmgkmbmejkjaa", sum := "f4baa2d10eb8afc25f6860f825dda6ee068f56018f429a878adef55fa8e913bd", func := "portmanteau/portmanteaulaw13.SuperEncodes", spec := "superEncodes", apart := false, narrowed := true }
def SuperEncodesUptoSaid : Prop := superEncodesUptoRow.holds Try.pinned (OpenSpec.upto superEncodesSpec)

/-- 'portmanteaulaw13.SuperBursts', WHERE WHAT IT READS IS OF BULK AT MOST 1048576: true; the input reads as it did. -/
def superBurstsUptoRow : OpenClaim := { program := "ytepmgkmbmejkjaa", sum := "f4baa2d10eb8afc25f6860f825dda6ee068f56018f429a878adef55fa8e913bd", func := "portmanteau/portmanteaulaw13.SuperBursts", spec := "superBursts", apart := false, narrowed := true }
def SuperBurstsUptoSaid : Prop := superBurstsUptoRow.holds Try.pinned (OpenSpec.upto superBurstsSpec)

end Rows
end Go.Proofs.Ytepmgkmbmejkjaa
