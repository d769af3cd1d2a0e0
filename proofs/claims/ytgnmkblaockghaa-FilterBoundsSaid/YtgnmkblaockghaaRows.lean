/-
  NARROWER THAN 'FOR EVERY INPUT', by the rows' own cells (each row's printed sentence says how): FilterMeans: loops · FilterTurns: loops · FilterMore: loops · FilterSame: loops.
  DERIVED. THE GIVEN ROWS OF THIS SEAT. 7 by the template 'for every input the law returns true; each argument reads behind the call as it read before'; 0 by the template 'total and deterministic' (their statements: YtgnmkblaockghaaTotals.lean).
  GIVEN WITH THE SEED: the statements are not yours to turn. If you find one false, say at which input.
  Laid BY PROGRAM, IN A SANDBOX (cutbox-rows.mjs): the forced cells as the released guide's own fill.sh prints them over the translation 512ed41d50fa93db… (all of the seat's roots in one cut). By AI agents, Wed Nov 11 2026. No macro, syntax, notation, axiom, sorry.
-/
import Derived.Test.YtgnmkblaockghaaChecked
import GoSem.Claim
import GoSem.ClaimJoined
import GoSem.ClaimMapViews
import Derived.JoinedTies
import Derived.KernelRfl
namespace Go.Proofs.Ytgnmkblaockghaa
/- THE CELL 'sum', in the pinned program and in every row, IS THE sha256 OF THE DUMP (.gsa) THAT YtgnmkblaockghaaProg.lean LOADS. Nothing in Lean hashes anything: it is a label: what it is worth is what the hold of that sum in a sandbox is worth. -/
noncomputable def Try.pinned : Pinned := { name := "ytgnmkblaockghaa", sum := "512ed41d50fa93db18647469999fc4ed0e0c41ffba511c936fde0baf9effe22e", checked := Try.checked }
namespace Rows
def none {H : Type} : Left H := { results := [], args := [] }

/-- 'cardcaselaw08.FilterMeans': WHATEVER THE INPUT: true; the input reads as it did. -/
def filterMeansSpec : ChangeSpec := { name := "filterMeans", fn := fun _ => fun
  | [d1, d2] => { results := [.lit (.bool true)], args := [d1, d2] }
  | _ => none }
def filterMeansRow : OpenClaim := { program := "ytgnmkblaockghaa", sum := "512ed41d50fa93db18647469999fc4ed0e0c41ffba511c936fde0baf9effe22e", func := "cardcase/cardcaselaw08.FilterMeans", spec := "filterMeans", inPlace := ["internal/bytealg.IndexByteString"], unfollowed := true, recurses := true, loops := true, apart := false }
def FilterMeansSaid : Prop := filterMeansRow.holds Try.pinned (OpenSpec.ofChange filterMeansSpec)

/-- ITS FALSE NEIGHBOUR: 'it returns false'. Refute it at one input. -/
def filterMeansWrong : ChangeSpec := { name := "filterMeans", fn := fun _ => fun
  | [d1, d2] => { results := [.lit (.bool false)], args := [d1, d2] }
  | _ => none }
def FilterMeansWrongFalsely : Prop := filterMeansRow.holds Try.pinned (OpenSpec.ofChange filterMeansWrong)

/-- 'cardcaselaw08.FilterParses': WHATEVER THE INPUT: true; the input reads as it did. -/
def filterParsesSpec : ChangeSpec := { name := "filterParses", fn := fun _ => fun
  | [d] => { results := [.lit (.bool true)], args := [d] }
  | _ => none }
def filterParsesRow : OpenClaim := { program := "ytgnmkblaockghaa", sum := "512ed41d50fa93db18647469999fc4ed0e0c41ffba511c936fde0baf9effe22e", func := "cardcase/cardcaselaw08.FilterParses", spec := "filterParses", inPlace := ["internal/bytealg.IndexByteString"], unfollowed := true, recurses := true, apart := false }
def FilterParsesSaid : Prop := filterParsesRow.holds Try.pinned (OpenSpec.ofChange filterParsesSpec)

/-- ITS FALSE NEIGHBOUR: 'it returns false'. Refute it at one input. -/
def filterParsesWrong : ChangeSpec := { name := "filterParses", fn := fun _ => fun
  | [d] => { results := [.lit (.bool false)], args := [d] }
  | _ => none }
def FilterParsesWrongFalsely : Prop := filterParsesRow.holds Try.pinned (OpenSpec.ofChange filterParsesWrong)

/-- 'cardcaselaw08.FilterTurns': WHATEVER THE INPUT: true; the input reads as it did. -/
def filterTurnsSpec : ChangeSpec := { name := "filterTurns", fn := fun _ => fun
  | [d1, d2, d3] => { results := [.lit (.bool true)], args := [d1, d2, d3] }
  | _ => none }
def filterTurnsRow : OpenClaim := { program := "ytgnmkblaockghaa", sum := "512ed41d50fa93db18647469999fc4ed0e0c41ffba511c936fde0baf9effe22e", func := "cardcase/cardcaselaw08.FilterTurns", spec := "filterTurns", inPlace := ["internal/bytealg.IndexByteString"], unfollowed := true, recurses := true, loops := true, apart := false }
def FilterTurnsSaid : Prop := filterTurnsRow.holds Try.pinned (OpenSpec.ofChange filterTurnsSpec)

/-- ITS FALSE NEIGHBOUR: 'it returns false'. Refute it at one input. -/
def filterTurnsWrong : ChangeSpec := { name := "filterTurns", fn := fun _ => fun
  | [d1, d2, d3] => { results := [.lit (.bool false)], args := [d1, d2, d3] }
  | _ => none }
def FilterTurnsWrongFalsely : Prop := filterTurnsRow.holds Try.pinned (OpenSpec.ofChange filterTurnsWrong)

/-- 'cardcaselaw08.FilterLetters': WHATEVER THE INPUT: true; the input reads as it did. -/
def filterLettersSpec : ChangeSpec := { name := "filterLetters", fn := fun _ => fun
  | [d1, d2, d3] => { results := [.lit (.bool true)], args := [d1, d2, d3] }
  | _ => none }
def filterLettersRow : OpenClaim := { program := "ytgnmkblaockghaa", sum := "512ed41d50fa93db18647469999fc4ed0e0c41ffba511c936fde0baf9effe22e", func := "cardcase/cardcaselaw08.FilterLetters", spec := "filterLetters", inPlace := ["internal/bytealg.IndexByteString"], unfollowed := true, recurses := true, apart := false }
def FilterLettersSaid : Prop := filterLettersRow.holds Try.pinned (OpenSpec.ofChange filterLettersSpec)

/-- ITS FALSE NEIGHBOUR: 'it returns false'. Refute it at one input. -/
def filterLettersWrong : ChangeSpec := { name := "filterLetters", fn := fun _ => fun
  | [d1, d2, d3] => { results := [.lit (.bool false)], args := [d1, d2, d3] }
  | _ => none }
def FilterLettersWrongFalsely : Prop := filterLettersRow.holds Try.pinned (OpenSpec.ofChange filterLettersWrong)

/-- 'cardcaselaw08.FilterMore': WHATEVER THE INPUT: true; the input reads as it did. -/
def filterMoreSpec : ChangeSpec := { name := "filterMore", fn := fun _ => fun
  | [d1, d2, d3] => { results := [.lit (.bool true)], args := [d1, d2, d3] }
  | _ => none }
def filterMoreRow : OpenClaim := { program := "ytgnmkblaockghaa", sum := "512ed41d50fa93db18647469999fc4ed0e0c41ffba511c936fde0baf9effe22e", func := "cardcase/cardcaselaw08.FilterMore", spec := "filterMore", inPlace := ["internal/bytealg.IndexByteString"], unfollowed := true, recurses := true, loops := true, apart := false }
def FilterMoreSaid : Prop := filterMoreRow.holds Try.pinned (OpenSpec.ofChange filterMoreSpec)

/-- ITS FALSE NEIGHBOUR: 'it returns false'. Refute it at one input. -/
def filterMoreWrong : ChangeSpec := { name := "filterMore", fn := fun _ => fun
  | [d1, d2, d3] => { results := [.lit (.bool false)], args := [d1, d2, d3] }
  | _ => none }
def FilterMoreWrongFalsely : Prop := filterMoreRow.holds Try.pinned (OpenSpec.ofChange filterMoreWrong)

/-- 'cardcaselaw08.FilterSame': WHATEVER THE INPUT: true; the input reads as it did. -/
def filterSameSpec : ChangeSpec := { name := "filterSame", fn := fun _ => fun
  | [d1, d2] => { results := [.lit (.bool true)], args := [d1, d2] }
  | _ => none }
def filterSameRow : OpenClaim := { program := "ytgnmkblaockghaa", sum := "512ed41d50fa93db18647469999fc4ed0e0c41ffba511c936fde0baf9effe22e", func := "cardcase/cardcaselaw08.FilterSame", spec := "filterSame", inPlace := ["internal/bytealg.IndexByteString"], unfollowed := true, recurses := true, loops := true, apart := false }
def FilterSameSaid : Prop := filterSameRow.holds Try.pinned (OpenSpec.ofChange filterSameSpec)

/-- ITS FALSE NEIGHBOUR: 'it returns false'. Refute it at one input. -/
def filterSameWrong : ChangeSpec := { name := "filterSame", fn := fun _ => fun
  | [d1, d2] => { results := [.lit (.bool false)], args := [d1, d2] }
  | _ => none }
def FilterSameWrongFalsely : Prop := filterSameRow.holds Try.pinned (OpenSpec.ofChange filterSameWrong)

/-- 'cardcaselaw08.FilterBounds': WHATEVER THE INPUT: true; the input reads as it did. -/
def filterBoundsSpec : ChangeSpec := { name := "filterBounds", fn := fun _ => fun
  | [d1, d2] => { results := [.lit (.bool true)], args := [d1, d2] }
  | _ => none }
def filterBoundsRow : OpenClaim := { program := "ytgnmkblaockghaa", sum := "512ed41d50fa93db18647469999fc4ed0e0c41ffba511c936fde0baf9effe22e", func := "cardcase/cardcaselaw08.FilterBounds", spec := "filterBounds", inPlace := ["internal/bytealg.IndexByteString"], unfollowed := true, recurses := true, apart := false }
def FilterBoundsSaid : Prop := filterBoundsRow.holds Try.pinned (OpenSpec.ofChange filterBoundsSpec)

/-- ITS FALSE NEIGHBOUR: 'it returns false'. Refute it at one input. -/
def filterBoundsWrong : ChangeSpec := { name := "filterBounds", fn := fun _ => fun
  | [d1, d2] => { results := [.lit (.bool false)], args := [d1, d2] }
  | _ => none }
def FilterBoundsWrongFalsely : Prop := filterBoundsRow.holds Try.pinned (OpenSpec.ofChange filterBoundsWrong)

/- THE SECOND FORM. 'bulk': how many values and letters a reading holds, each counted each time it is reached (what is shared counts as often as it is met; a slice's spare places count too). A statement '..UptoSaid' is the law's where the arguments, and the package variables that the reading takes, are together of bulk at most 1048576: NARROWER than '..Said'. Prove '..Said' where nothing that the law and all that it calls make is longer than what came in: it says more and counts as full. Else prove '..UptoSaid'. A law counts once. -/
mutual
def uptoBulk {H : Type} : DataW H → Nat
  | .lit (.string bytes) => bytes.length + 1
  | .lit _ => 1
  | .nil => 1
  | .ptr d => uptoBulk d + 1
  | .slice elems spare => uptoBulkAll elems + uptoBulkAll spare + 1
  | .agg parts => uptoBulkAll parts + 1
  | .iface _ d => uptoBulk d + 1
  | .map entries => uptoBulkEntries entries + 1
  | .held _ => 1
def uptoBulkAll {H : Type} : List (DataW H) → Nat
  | [] => 0
  | d :: r => uptoBulk d + uptoBulkAll r
def uptoBulkEntries {H : Type} : List (Lit × DataW H) → Nat
  | [] => 0
  | x :: r => uptoBulkEntry x + uptoBulkEntries r
def uptoBulkEntry {H : Type} : Lit × DataW H → Nat
  | (.string bytes, d) => bytes.length + uptoBulk d + 1
  | (_, d) => uptoBulk d + 1
 end
def uptoSmall : (H : Type) → List (DataW H) → Bool := fun _ ds => decide (uptoBulkAll ds ≤ 1048576)
def OpenSpec.upto (s : _root_.Go.ChangeSpec) : _root_.Go.OpenSpec := { _root_.Go.OpenSpec.ofChange s with cond := some uptoSmall }

/-- 'cardcaselaw08.FilterMeans', WHERE WHAT IT READS IS OF BULK AT MOST 1048576: true; the input reads as it did. -/
def filterMeansUptoRow : OpenClaim := { program := "ytgnmkblaockghaa", sum := "512ed41d50fa93db18647469999fc4ed0e0c41ffba511c936fde0baf9effe22e", func := "cardcase/cardcaselaw08.FilterMeans", spec := "filterMeans", inPlace := ["internal/bytealg.IndexByteString"], unfollowed := true, recurses := true, loops := true, apart := false, narrowed := true }
def FilterMeansUptoSaid : Prop := filterMeansUptoRow.holds Try.pinned (OpenSpec.upto filterMeansSpec)

/-- 'cardcaselaw08.FilterParses', WHERE WHAT IT READS IS OF BULK AT MOST 1048576: true; the input reads as it did. -/
def filterParsesUptoRow : OpenClaim := { program := "ytgnmkblaockghaa", sum := "512ed41d50fa93db18647469999fc4ed0e0c41ffba511c936fde0baf9effe22e", func := "cardcase/cardcaselaw08.FilterParses", spec := "filterParses", inPlace := ["internal/bytealg.IndexByteString"], unfollowed := true, recurses := true, apart := false, narrowed := true }
def FilterParsesUptoSaid : Prop := filterParsesUptoRow.holds Try.pinned (OpenSpec.upto filterParsesSpec)

/-- 'cardcaselaw08.FilterTurns', WHERE WHAT IT READS IS OF BULK AT MOST 1048576: true; the input reads as it did. -/
def filterTurnsUptoRow : OpenClaim := { program := "ytgnmkblaockghaa", sum := "512ed41d50fa93db18647469999fc4ed0e0c41ffba511c936fde0baf9effe22e", func := "cardcase/cardcaselaw08.FilterTurns", spec := "filterTurns", inPlace := ["internal/bytealg.IndexByteString"], unfollowed := true, recurses := true, loops := true, apart := false, narrowed := true }
def FilterTurnsUptoSaid : Prop := filterTurnsUptoRow.holds Try.pinned (OpenSpec.upto filterTurnsSpec)

/-- 'cardcaselaw08.FilterLetters', WHERE WHAT IT READS IS OF BULK AT MOST 1048576: true; the input reads as it did. -/
def filterLettersUptoRow : OpenClaim := { program := "ytgnmkblaockghaa", sum := "512ed41d50fa93db18647469999fc4ed0e0c41ffba511c936fde0baf9effe22e", func := "cardcase/cardcaselaw08.FilterLetters", spec := "filterLetters", inPlace := ["internal/bytealg.IndexByteString"], unfollowed := true, recurses := true, apart := false, narrowed := true }
def FilterLettersUptoSaid : Prop := filterLettersUptoRow.holds Try.pinned (OpenSpec.upto filterLettersSpec)

/-- 'cardcaselaw08.FilterMore', WHERE WHAT IT READS IS OF BULK AT MOST 1048576: true; the input reads as it did. -/
def filterMoreUptoRow : OpenClaim := { program := "ytgnmkblaockghaa", sum := "512ed41d50fa93db18647469999fc4ed0e0c41ffba511c936fde0baf9effe22e", func := "cardcase/cardcaselaw08.FilterMore", spec := "filterMore", inPlace := ["internal/bytealg.IndexByteString"], unfollowed := true, recurses := true, loops := true, apart := false, narrowed := true }
def FilterMoreUptoSaid : Prop := filterMoreUptoRow.holds Try.pinned (OpenSpec.upto filterMoreSpec)

/-- 'cardcaselaw08.FilterSame', WHERE WHAT IT READS IS OF BULK AT MOST 1048576: true; the input reads as it did. -/
def filterSameUptoRow : OpenClaim := { program := "ytgnmkblaockghaa", sum := "512ed41d50fa93db18647469999fc4ed0e0c41ffba511c936fde0baf9effe22e", func := "cardcase/cardcaselaw08.FilterSame", spec := "filterSame", inPlace := ["internal/bytealg.IndexByteString"], unfollowed := true, recurses := true, loops := true, apart := false, narrowed := true }
def FilterSameUptoSaid : Prop := filterSameUptoRow.holds Try.pinned (OpenSpec.upto filterSameSpec)

/-- 'cardcaselaw08.FilterBounds', WHERE WHAT IT READS IS OF BULK AT MOST 1048576: true; the input reads as it did. -/
def filterBoundsUptoRow : OpenClaim := { program := "ytgnmkblaockghaa", sum := "512ed41d50fa93db18647469999fc4ed0e0c41ffba511c936fde0baf9effe22e", func := "cardcase/cardcaselaw08.FilterBounds", spec := "filterBounds", inPlace := ["internal/bytealg.IndexByteString"], unfollowed := true, recurses := true, apart := false, narrowed := true }
def FilterBoundsUptoSaid : Prop := filterBoundsUptoRow.holds Try.pinned (OpenSpec.upto filterBoundsSpec)

end Rows
end Go.Proofs.Ytgnmkblaockghaa
