/-
  NARROWER THAN 'FOR EVERY INPUT', by the rows' own cells (each row's printed sentence says how): BerCuts: loops · BerCommon: loops · BerEncodes: loops · BerSame: loops.
  DERIVED. THE GIVEN ROWS OF THIS SEAT. 7 by the template 'for every input the law returns true; each argument reads behind the call as it read before'; 0 by the template 'total and deterministic' (their statements: YtlmelbnmfhpacaaTotals.lean).
  GIVEN WITH THE SEED: the statements are not yours to turn. If you find one false, say at which input.
  Laid BY PROGRAM, IN A SANDBOX (cutbox-rows.mjs): the forced cells as the released guide's own fill.sh prints them over the translation 153e3b3bd92aebc3… (all of the seat's roots in one cut). By AI agents, Wed Nov 11 2026. No macro, syntax, notation, axiom, sorry.
-/
import Derived.Test.YtlmelbnmfhpacaaChecked
import GoSem.Claim
import GoSem.ClaimJoined
import GoSem.ClaimMapViews
import Derived.JoinedTies
import Derived.KernelRfl
namespace Go.Proofs.Ytlmelbnmfhpacaa
/- THE CELL 'sum', in the pinned program and in every row, IS THE sha256 OF THE DUMP (.gsa) THAT YtlmelbnmfhpacaaProg.lean LOADS. Nothing in Lean hashes anything: it is a label: what it is worth is what the hold of that sum in a sandbox is worth. -/
noncomputable def Try.pinned : Pinned := { name := "ytlmelbnmfhpacaa", sum := "153e3b3bd92aebc34a004078e1b1b641b36c931d412fb3baa99f09ebb9043c4d", checked := Try.checked }
namespace Rows
def none {H : Type} : Left H := { results := [], args := [] }

/-- 'cardcaselaw05.BerBounds': WHATEVER THE INPUT: true; the input reads as it did. -/
def berBoundsSpec : ChangeSpec := { name := "berBounds", fn := fun _ => fun
  | [d1, d2] => { results := [.lit (.bool true)], args := [d1, d2] }
  | _ => none }
def berBoundsRow : OpenClaim := { program := "ytlmelbnmfhpacaa", sum := "153e3b3bd92aebc34a004078e1b1b641b36c931d412fb3baa99f09ebb9043c4d", func := "cardcase/cardcaselaw05.BerBounds", spec := "berBounds", unfollowed := true, recurses := true, apart := false }
def BerBoundsSaid : Prop := berBoundsRow.holds Try.pinned (OpenSpec.ofChange berBoundsSpec)

/-- ITS FALSE NEIGHBOUR: 'it returns false'. Refute it at one input. -/
def berBoundsWrong : ChangeSpec := { name := "berBounds", fn := fun _ => fun
  | [d1, d2] => { results := [.lit (.bool false)], args := [d1, d2] }
  | _ => none }
def BerBoundsWrongFalsely : Prop := berBoundsRow.holds Try.pinned (OpenSpec.ofChange berBoundsWrong)

/-- 'cardcaselaw05.BerLengths': WHATEVER THE INPUT: true; the input reads as it did. -/
def berLengthsSpec : ChangeSpec := { name := "berLengths", fn := fun _ => fun
  | [d] => { results := [.lit (.bool true)], args := [d] }
  | _ => none }
def berLengthsRow : OpenClaim := { program := "ytlmelbnmfhpacaa", sum := "153e3b3bd92aebc34a004078e1b1b641b36c931d412fb3baa99f09ebb9043c4d", func := "cardcase/cardcaselaw05.BerLengths", spec := "berLengths", unfollowed := true, recurses := true, apart := false }
def BerLengthsSaid : Prop := berLengthsRow.holds Try.pinned (OpenSpec.ofChange berLengthsSpec)

/-- ITS FALSE NEIGHBOUR: 'it returns false'. Refute it at one input. -/
def berLengthsWrong : ChangeSpec := { name := "berLengths", fn := fun _ => fun
  | [d] => { results := [.lit (.bool false)], args := [d] }
  | _ => none }
def BerLengthsWrongFalsely : Prop := berLengthsRow.holds Try.pinned (OpenSpec.ofChange berLengthsWrong)

/-- 'cardcaselaw05.BerCuts': WHATEVER THE INPUT: true; the input reads as it did. -/
def berCutsSpec : ChangeSpec := { name := "berCuts", fn := fun _ => fun
  | [d1, d2, d3] => { results := [.lit (.bool true)], args := [d1, d2, d3] }
  | _ => none }
def berCutsRow : OpenClaim := { program := "ytlmelbnmfhpacaa", sum := "153e3b3bd92aebc34a004078e1b1b641b36c931d412fb3baa99f09ebb9043c4d", func := "cardcase/cardcaselaw05.BerCuts", spec := "berCuts", unfollowed := true, recurses := true, loops := true, apart := false }
def BerCutsSaid : Prop := berCutsRow.holds Try.pinned (OpenSpec.ofChange berCutsSpec)

/-- ITS FALSE NEIGHBOUR: 'it returns false'. Refute it at one input. -/
def berCutsWrong : ChangeSpec := { name := "berCuts", fn := fun _ => fun
  | [d1, d2, d3] => { results := [.lit (.bool false)], args := [d1, d2, d3] }
  | _ => none }
def BerCutsWrongFalsely : Prop := berCutsRow.holds Try.pinned (OpenSpec.ofChange berCutsWrong)

/-- 'cardcaselaw05.BerNumbers': WHATEVER THE INPUT: true; the input reads as it did. -/
def berNumbersSpec : ChangeSpec := { name := "berNumbers", fn := fun _ => fun
  | [d1, d2, d3] => { results := [.lit (.bool true)], args := [d1, d2, d3] }
  | _ => none }
def berNumbersRow : OpenClaim := { program := "ytlmelbnmfhpacaa", sum := "153e3b3bd92aebc34a004078e1b1b641b36c931d412fb3baa99f09ebb9043c4d", func := "cardcase/cardcaselaw05.BerNumbers", spec := "berNumbers", unfollowed := true, recurses := true, apart := false }
def BerNumbersSaid : Prop := berNumbersRow.holds Try.pinned (OpenSpec.ofChange berNumbersSpec)

/-- ITS FALSE NEIGHBOUR: 'it returns false'. Refute it at one input. -/
def berNumbersWrong : ChangeSpec := { name := "berNumbers", fn := fun _ => fun
  | [d1, d2, d3] => { results := [.lit (.bool false)], args := [d1, d2, d3] }
  | _ => none }
def BerNumbersWrongFalsely : Prop := berNumbersRow.holds Try.pinned (OpenSpec.ofChange berNumbersWrong)

/-- 'cardcaselaw05.BerCommon': WHATEVER THE INPUT: true; the input reads as it did. -/
def berCommonSpec : ChangeSpec := { name := "berCommon", fn := fun _ => fun
  | [d1, d2, d3] => { results := [.lit (.bool true)], args := [d1, d2, d3] }
  | _ => none }
def berCommonRow : OpenClaim := { program := "ytlmelbnmfhpacaa", sum := "153e3b3bd92aebc34a004078e1b1b641b36c931d412fb3baa99f09ebb9043c4d", func := "cardcase/cardcaselaw05.BerCommon", spec := "berCommon", unfollowed := true, recurses := true, loops := true, apart := false }
def BerCommonSaid : Prop := berCommonRow.holds Try.pinned (OpenSpec.ofChange berCommonSpec)

/-- ITS FALSE NEIGHBOUR: 'it returns false'. Refute it at one input. -/
def berCommonWrong : ChangeSpec := { name := "berCommon", fn := fun _ => fun
  | [d1, d2, d3] => { results := [.lit (.bool false)], args := [d1, d2, d3] }
  | _ => none }
def BerCommonWrongFalsely : Prop := berCommonRow.holds Try.pinned (OpenSpec.ofChange berCommonWrong)

/-- 'cardcaselaw05.BerEncodes': WHATEVER THE INPUT: true; the input reads as it did. -/
def berEncodesSpec : ChangeSpec := { name := "berEncodes", fn := fun _ => fun
  | [d] => { results := [.lit (.bool true)], args := [d] }
  | _ => none }
def berEncodesRow : OpenClaim := { program := "ytlmelbnmfhpacaa", sum := "153e3b3bd92aebc34a004078e1b1b641b36c931d412fb3baa99f09ebb9043c4d", func := "cardcase/cardcaselaw05.BerEncodes", spec := "berEncodes", unfollowed := true, recurses := true, loops := true, apart := false }
def BerEncodesSaid : Prop := berEncodesRow.holds Try.pinned (OpenSpec.ofChange berEncodesSpec)

/-- ITS FALSE NEIGHBOUR: 'it returns false'. Refute it at one input. -/
def berEncodesWrong : ChangeSpec := { name := "berEncodes", fn := fun _ => fun
  | [d] => { results := [.lit (.bool false)], args := [d] }
  | _ => none }
def BerEncodesWrongFalsely : Prop := berEncodesRow.holds Try.pinned (OpenSpec.ofChange berEncodesWrong)

/-- 'cardcaselaw05.BerSame': WHATEVER THE INPUT: true; the input reads as it did. -/
def berSameSpec : ChangeSpec := { name := "berSame", fn := fun _ => fun
  | [d1, d2] => { results := [.lit (.bool true)], args := [d1, d2] }
  | _ => none }
def berSameRow : OpenClaim := { program := "ytlmelbnmfhpacaa", sum := "153e3b3bd92aebc34a004078e1b1b641b36c931d412fb3baa99f09ebb9043c4d", func := "cardcase/cardcaselaw05.BerSame", spec := "berSame", unfollowed := true, recurses := true, loops := true, apart := false }
def BerSameSaid : Prop := berSameRow.holds Try.pinned (OpenSpec.ofChange berSameSpec)

/-- ITS FALSE NEIGHBOUR: 'it returns false'. Refute it at one input. -/
def berSameWrong : ChangeSpec := { name := "berSame", fn := fun _ => fun
  | [d1, d2] => { results := [.lit (.bool false)], args := [d1, d2] }
  | _ => none }
def BerSameWrongFalsely : Prop := berSameRow.holds Try.pinned (OpenSpec.ofChange berSameWrong)

/- THE SECOND FORM. 'bulk': how many values and letters a reading holds, each counted each time it is reached (what is shared counts as often as it is met; a slice's spare places count too). A statement '..UptoSaid' is the law's where the arguments, and the package variables that the reading takes, are together of bulk at most 1048576: NARROWER than '..Said'. Prove '..Said' where nothing that the law and all that it calls make is longer than what came in: it says more and counts as full. Else prove '..UptoSaid'. A law counts once. -/
mutual
def uptoBulk {H : Type} : DataW H → Nat
  | .lit (.string bytes) => bytes.length + 1
  | .lit _ => 1
  | .nil => 1
  | .ptr d => uptoBulk d + 1
  | .slice elems spare => uptoBulkAll elems + uptoBulkAll spare + 1
  | .agg parts => uptoBulkAll parts + 1
  | .iface _ d => uptoBulk d + 1
  | .map entries => uptoBulkEntries entries + 1
  | .held _ => 1
def uptoBulkAll {H : Type} : List (DataW H) → Nat
  | [] => 0
  | d :: r => uptoBulk d + uptoBulkAll r
def uptoBulkEntries {H : Type} : List (Lit × DataW H) → Nat
  | [] => 0
  | x :: r => uptoBulkEntry x + uptoBulkEntries r
def uptoBulkEntry {H : Type} : Lit × DataW H → Nat
  | (.string bytes, d) => bytes.length + uptoBulk d + 1
  | (_, d) => uptoBulk d + 1
 end
def uptoSmall : (H : Type) → List (DataW H) → Bool := fun _ ds => decide (uptoBulkAll ds ≤ 1048576)
def OpenSpec.upto (s : _root_.Go.ChangeSpec) : _root_.Go.OpenSpec := { _root_.Go.OpenSpec.ofChange s with cond := some uptoSmall }

/-- 'cardcaselaw05.BerBounds', WHERE WHAT IT READS IS OF BULK AT MOST 1048576: true; the input reads as it did. -/
def berBoundsUptoRow : OpenClaim := { program := "ytlmelbnmfhpacaa", sum := "153e3b3bd92aebc34a004078e1b1b641b36c931d412fb3baa99f09ebb9043c4d", func := "cardcase/cardcaselaw05.BerBounds", spec := "berBounds", unfollowed := true, recurses := true, apart := false, narrowed := true }
def BerBoundsUptoSaid : Prop := berBoundsUptoRow.holds Try.pinned (OpenSpec.upto berBoundsSpec)

/-- 'cardcaselaw05.BerLengths', WHERE WHAT IT READS IS OF BULK AT MOST 1048576: true; the input reads as it did. -/
def berLengthsUptoRow : OpenClaim := { program := "ytlmelbnmfhpacaa", sum := "153e3b3bd92aebc34a004078e1b1b641b36c931d412fb3baa99f09ebb9043c4d", func := "cardcase/cardcaselaw05.BerLengths", spec := "berLengths", unfollowed := true, recurses := true, apart := false, narrowed := true }
def BerLengthsUptoSaid : Prop := berLengthsUptoRow.holds Try.pinned (OpenSpec.upto berLengthsSpec)

/-- 'cardcaselaw05.BerCuts', WHERE WHAT IT READS IS OF BULK AT MOST 1048576: true; the input reads as it did. -/
def berCutsUptoRow : OpenClaim := { program := "ytlmelbnmfhpacaa", sum := "153e3b3bd92aebc34a004078e1b1b641b36c931d412fb3baa99f09ebb9043c4d", func := "cardcase/cardcaselaw05.BerCuts", spec := "berCuts", unfollowed := true, recurses := true, loops := true, apart := false, narrowed := true }
def BerCutsUptoSaid : Prop := berCutsUptoRow.holds Try.pinned (OpenSpec.upto berCutsSpec)

/-- 'cardcaselaw05.BerNumbers', WHERE WHAT IT READS IS OF BULK AT MOST 1048576: true; the input reads as it did. -/
def berNumbersUptoRow : OpenClaim := { program := "ytlmelbnmfhpacaa", sum := "153e3b3bd92aebc34a004078e1b1b641b36c931d412fb3baa99f09ebb9043c4d", func := "cardcase/cardcaselaw05.BerNumbers", spec := "berNumbers", unfollowed := true, recurses := true, apart := false, narrowed := true }
def BerNumbersUptoSaid : Prop := berNumbersUptoRow.holds Try.pinned (OpenSpec.upto berNumbersSpec)

/-- 'cardcaselaw05.BerCommon', WHERE WHAT IT READS IS OF BULK AT MOST 1048576: true; the input reads as it did. -/
def berCommonUptoRow : OpenClaim := { program := "ytlmelbnmfhpacaa", sum := "153e3b3bd92aebc34a004078e1b1b641b36c931d412fb3baa99f09ebb9043c4d", func := "cardcase/cardcaselaw05.BerCommon", spec := "berCommon", unfollowed := true, recurses := true, loops := true, apart := false, narrowed := true }
def BerCommonUptoSaid : Prop := berCommonUptoRow.holds Try.pinned (OpenSpec.upto berCommonSpec)

/-- 'cardcaselaw05.BerEncodes', WHERE WHAT IT READS IS OF BULK AT MOST 1048576: true; the input reads as it did. -/
def berEncodesUptoRow : OpenClaim := { program := "ytlmelbnmfhpacaa", sum := "153e3b3bd92aebc34a004078e1b1b641b36c931d412fb3baa99f09ebb9043c4d", func := "cardcase/cardcaselaw05.BerEncodes", spec := "berEncodes", unfollowed := true, recurses := true, loops := true, apart := false, narrowed := true }
def BerEncodesUptoSaid : Prop := berEncodesUptoRow.holds Try.pinned (OpenSpec.upto berEncodesSpec)

/-- 'cardcaselaw05.BerSame', WHERE WHAT IT READS IS OF BULK AT MOST 1048576: true; the input reads as it did. -/
def berSameUptoRow : OpenClaim := { program := "ytlmelbnmfhpacaa", sum := "153e3b3bd92aebc34a004078e1b1b641b36c931d412fb3baa99f09ebb9043c4d", func := "cardcase/cardcaselaw05.BerSame", spec := "berSame", unfollowed := true, recurses := true, loops := true, apart := false, narrowed := true }
def BerSameUptoSaid : Prop := berSameUptoRow.holds Try.pinned (OpenSpec.upto berSameSpec)

end Rows
end Go.Proofs.Ytlmelbnmfhpacaa
