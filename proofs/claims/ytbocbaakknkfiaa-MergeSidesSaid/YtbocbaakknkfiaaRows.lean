/-
  No cell of these rows narrows 'for every input' (looked for: loops, veiled, ifaces, maps, wideKeys, modest, calm, conditions, laid).
  DERIVED. THE GIVEN ROWS OF THIS SEAT. 5 by the template 'for every input the law returns true; each argument reads behind the call as it read before'; 0 by the template 'total and deterministic' (their statements: YtbocbaakknkfiaaTotals.lean).
  GIVEN WITH THE SEED: the statements are not yours to turn. If you find one false, say at which input.
  Laid BY PROGRAM, IN A SANDBOX (cutbox-rows.mjs): the forced cells as the released guide's own fill.sh prints them over the translation e8ba9da579ec2af0… (all of the seat's roots in one cut). By AI agents, Wed Nov 11 2026. No macro, syntax, notation, axiom, sorry.
-/
import Derived.Test.YtbocbaakknkfiaaChecked
import GoSem.Claim
import GoSem.ClaimJoined
import GoSem.ClaimMapViews
import Derived.JoinedTies
import Derived.KernelRfl
namespace Go.Proofs.Ytbocbaakknkfiaa
/- THE CELL 'sum', in the pinned program and in every row, IS THE sha256 OF THE DUMP (.gsa) THAT YtbocbaakknkfiaaProg.lean LOADS. Nothing in Lean hashes anything: it is a label: what it is worth is what the hold of that sum in a sandbox is worth. -/
noncomputable def Try.pinned : Pinned := { name := "ytbocbaakknkfiaa", sum := "e8ba9da579ec2af0b4b094f978fc71b9f4f5acc040eda025070bd2c09dc02257", checked := Try.checked }
namespace Rows
def none {H : Type} : Left H := { results := [], args := [] }

/-- 'cardcaselaw19.MergeThree': WHATEVER THE INPUT: true; the input reads as it did. -/
def mergeThreeSpec : ChangeSpec := { name := "mergeThree", fn := fun _ => fun
  | [d1, d2, d3] => { results := [.lit (.bool true)], args := [d1, d2, d3] }
  | _ => none }
def mergeThreeRow : OpenClaim := { program := "ytbocbaakknkfiaa", sum := "e8ba9da579ec2af0b4b094f978fc71b9f4f5acc040eda025070bd2c09dc02257", func := "cardcase/cardcaselaw19.MergeThree", spec := "mergeThree", unfollowed := true, recurses := true, apart := false }
def MergeThreeSaid : Prop := mergeThreeRow.holds Try.pinned (OpenSpec.ofChange mergeThreeSpec)

/-- ITS FALSE NEIGHBOUR: 'it returns false'. Refute it at one input. -/
def mergeThreeWrong : ChangeSpec := { name := "mergeThree", fn := fun _ => fun
  | [d1, d2, d3] => { results := [.lit (.bool false)], args := [d1, d2, d3] }
  | _ => none }
def MergeThreeWrongFalsely : Prop := mergeThreeRow.holds Try.pinned (OpenSpec.ofChange mergeThreeWrong)

/-- 'cardcaselaw19.MergeFields': WHATEVER THE INPUT: true; the input reads as it did. -/
def mergeFieldsSpec : ChangeSpec := { name := "mergeFields", fn := fun _ => fun
  | [d1, d2, d3] => { results := [.lit (.bool true)], args := [d1, d2, d3] }
  | _ => none }
def mergeFieldsRow : OpenClaim := { program := "ytbocbaakknkfiaa", sum := "e8ba9da579ec2af0b4b094f978fc71b9f4f5acc040eda025070bd2c09dc02257", func := "cardcase/cardcaselaw19.MergeFields", spec := "mergeFields", unfollowed := true, recurses := true, apart := false }
def MergeFieldsSaid : Prop := mergeFieldsRow.holds Try.pinned (OpenSpec.ofChange mergeFieldsSpec)

/-- ITS FALSE NEIGHBOUR: 'it returns false'. Refute it at one input. -/
def mergeFieldsWrong : ChangeSpec := { name := "mergeFields", fn := fun _ => fun
  | [d1, d2, d3] => { results := [.lit (.bool false)], args := [d1, d2, d3] }
  | _ => none }
def MergeFieldsWrongFalsely : Prop := mergeFieldsRow.holds Try.pinned (OpenSpec.ofChange mergeFieldsWrong)

/-- 'cardcaselaw19.MergeSides': WHATEVER THE INPUT: true; the input reads as it did. -/
def mergeSidesSpec : ChangeSpec := { name := "mergeSides", fn := fun _ => fun
  | [d1, d2, d3] => { results := [.lit (.bool true)], args := [d1, d2, d3] }
  | _ => none }
def mergeSidesRow : OpenClaim := { program := "ytbocbaakknkfiaa", sum := "e8ba9da579ec2af0b4b094f978fc71b9f4f5acc040eda025070bd2c09dc02257", func := "cardcase/cardcaselaw19.MergeSides", spec := "mergeSides", unfollowed := true, recurses := true, apart := false }
def MergeSidesSaid : Prop := mergeSidesRow.holds Try.pinned (OpenSpec.ofChange mergeSidesSpec)

/-- ITS FALSE NEIGHBOUR: 'it returns false'. Refute it at one input. -/
def mergeSidesWrong : ChangeSpec := { name := "mergeSides", fn := fun _ => fun
  | [d1, d2, d3] => { results := [.lit (.bool false)], args := [d1, d2, d3] }
  | _ => none }
def MergeSidesWrongFalsely : Prop := mergeSidesRow.holds Try.pinned (OpenSpec.ofChange mergeSidesWrong)

/-- 'cardcaselaw19.MergeVerdicts': WHATEVER THE INPUT: true; the input reads as it did. -/
def mergeVerdictsSpec : ChangeSpec := { name := "mergeVerdicts", fn := fun _ => fun
  | [d1, d2] => { results := [.lit (.bool true)], args := [d1, d2] }
  | _ => none }
def mergeVerdictsRow : OpenClaim := { program := "ytbocbaakknkfiaa", sum := "e8ba9da579ec2af0b4b094f978fc71b9f4f5acc040eda025070bd2c09dc02257", func := "cardcase/cardcaselaw19.MergeVerdicts", spec := "mergeVerdicts", unfollowed := true, recurses := true, apart := false }
def MergeVerdictsSaid : Prop := mergeVerdictsRow.holds Try.pinned (OpenSpec.ofChange mergeVerdictsSpec)

/-- ITS FALSE NEIGHBOUR: 'it returns false'. Refute it at one input. -/
def mergeVerdictsWrong : ChangeSpec := { name := "mergeVerdicts", fn := fun _ => fun
  | [d1, d2] => { results := [.lit (.bool false)], args := [d1, d2] }
  | _ => none }
def MergeVerdictsWrongFalsely : Prop := mergeVerdictsRow.holds Try.pinned (OpenSpec.ofChange mergeVerdictsWrong)

/-- 'cardcaselaw19.MergeDid': WHATEVER THE INPUT: true; the input reads as it did. -/
def mergeDidSpec : ChangeSpec := { name := "mergeDid", fn := fun _ => fun
  | [d1, d2, d3] => { results := [.lit (.bool true)], args := [d1, d2, d3] }
  | _ => none }
def mergeDidRow : OpenClaim := { program := "ytbocbaakknkfiaa", sum := "e8ba9da579ec2af0b4b094f978fc71b9f4f5acc040eda025070bd2c09dc02257", func := "cardcase/cardcaselaw19.MergeDid", spec := "mergeDid", unfollowed := true, recurses := true, apart := false }
def MergeDidSaid : Prop := mergeDidRow.holds Try.pinned (OpenSpec.ofChange mergeDidSpec)

/-- ITS FALSE NEIGHBOUR: 'it returns false'. Refute it at one input. -/
def mergeDidWrong : ChangeSpec := { name := "mergeDid", fn := fun _ => fun
  | [d1, d2, d3] => { results := [.lit (.bool false)], args := [d1, d2, d3] }
  | _ => none }
def MergeDidWrongFalsely : Prop := mergeDidRow.holds Try.pinned (OpenSpec.ofChange mergeDidWrong)

/- THE SECOND FORM. 'bulk': how many values and letters a reading holds, each counted each time it is reached (what is shared counts as often as it is met; a slice's spare places count too). A statement '..UptoSaid' is the law's where the arguments, and the package variables that the reading takes, are together of bulk at most 1048576: NARROWER than '..Said'. Prove '..Said' where nothing that the law and all that it calls make is longer than what came in: it says more and counts as full. Else prove '..UptoSaid'. A law counts once. -/
mutual
def uptoBulk {H : Type} : DataW H → Nat
  | .lit (.string bytes) => bytes.length + 1
  | .lit _ => 1
  | .nil => 1
  | .ptr d => uptoBulk d + 1
  | .slice elems spare => uptoBulkAll elems + uptoBulkAll spare + 1
  | .agg parts => uptoBulkAll parts + 1
  | .iface _ d => uptoBulk d + 1
  | .map entries => uptoBulkEntries entries + 1
  | .held _ => 1
def uptoBulkAll {H : Type} : List (DataW H) → Nat
  | [] => 0
  | d :: r => uptoBulk d + uptoBulkAll r
def uptoBulkEntries {H : Type} : List (Lit × DataW H) → Nat
  | [] => 0
  | x :: r => uptoBulkEntry x + uptoBulkEntries r
def uptoBulkEntry {H : Type} : Lit × DataW H → Nat
  | (.string bytes, d) => bytes.length + uptoBulk d + 1
  | (_, d) => uptoBulk d + 1
 end
def uptoSmall : (H : Type) → List (DataW H) → Bool := fun _ ds => decide (uptoBulkAll ds ≤ 1048576)
def OpenSpec.upto (s : _root_.Go.ChangeSpec) : _root_.Go.OpenSpec := { _root_.Go.OpenSpec.ofChange s with cond := some uptoSmall }

/-- 'cardcaselaw19.MergeThree', WHERE WHAT IT READS IS OF BULK AT MOST 1048576: true; the input reads as it did. -/
def mergeThreeUptoRow : OpenClaim := { program := "ytbocbaakknkfiaa", sum := "e8ba9da579ec2af0b4b094f978fc71b9f4f5acc040eda025070bd2c09dc02257", func := "cardcase/cardcaselaw19.MergeThree", spec := "mergeThree", unfollowed := true, recurses := true, apart := false, narrowed := true }
def MergeThreeUptoSaid : Prop := mergeThreeUptoRow.holds Try.pinned (OpenSpec.upto mergeThreeSpec)

/-- 'cardcaselaw19.MergeFields', WHERE WHAT IT READS IS OF BULK AT MOST 1048576: true; the input reads as it did. -/
def mergeFieldsUptoRow : OpenClaim := { program := "ytbocbaakknkfiaa", sum := "e8ba9da579ec2af0b4b094f978fc71b9f4f5acc040eda025070bd2c09dc02257", func := "cardcase/cardcaselaw19.MergeFields", spec := "mergeFields", unfollowed := true, recurses := true, apart := false, narrowed := true }
def MergeFieldsUptoSaid : Prop := mergeFieldsUptoRow.holds Try.pinned (OpenSpec.upto mergeFieldsSpec)

/-- 'cardcaselaw19.MergeSides', WHERE WHAT IT READS IS OF BULK AT MOST 1048576: true; the input reads as it did. -/
def mergeSidesUptoRow : OpenClaim := { program := "ytbocbaakknkfiaa", sum := "e8ba9da579ec2af0b4b094f978fc71b9f4f5acc040eda025070bd2c09dc02257", func := "cardcase/cardcaselaw19.MergeSides", spec := "mergeSides", unfollowed := true, recurses := true, apart := false, narrowed := true }
def MergeSidesUptoSaid : Prop := mergeSidesUptoRow.holds Try.pinned (OpenSpec.upto mergeSidesSpec)

/-- 'cardcaselaw19.MergeVerdicts', WHERE WHAT IT READS IS OF BULK AT MOST 1048576: true; the input reads as it did. -/
def mergeVerdictsUptoRow : OpenClaim := { program := "ytbocbaakknkfiaa", sum := "e8ba9da579ec2af0b4b094f978fc71b9f4f5acc040eda025070bd2c09dc02257", func := "cardcase/cardcaselaw19.MergeVerdicts", spec := "mergeVerdicts", unfollowed := true, recurses := true, apart := false, narrowed := true }
def MergeVerdictsUptoSaid : Prop := mergeVerdictsUptoRow.holds Try.pinned (OpenSpec.upto mergeVerdictsSpec)

/-- 'cardcaselaw19.MergeDid', WHERE WHAT IT READS IS OF BULK AT MOST 1048576: true; the input reads as it did. -/
def mergeDidUptoRow : OpenClaim := { program := "ytbocbaakknkfiaa", sum := "e8ba9da579ec2af0b4b094f978fc71b9f4f5acc040eda025070bd2c09dc02257", func := "cardcase/cardcaselaw19.MergeDid", spec := "mergeDid", unfollowed := true, recurses := true, apart := false, narrowed := true }
def MergeDidUptoSaid : Prop := mergeDidUptoRow.holds Try.pinned (OpenSpec.upto mergeDidSpec)

end Rows
end Go.Proofs.Ytbocbaakknkfiaa
