/- DiskNil: as the row wants it. -/
import Derived.Test.YtolighikimpbfaaE4
set_option linter.unusedVariables false
set_option linter.unusedSimpArgs false
namespace Go.Proofs.Ytolighikimpbfaa
open Go.RowKit Go.Proofs.YtolighikimpbfaaW.PrintWords Go.Proofs.YtolighikimpbfaaW.PrintMore
theorem diskNil_row (W : World) (n : Int) (_wf : (Lit.int .i64 n).wf = true) (A : Option Addr) (c : Nat) (l : List Int) (hlc : l.length ≤ c) (_hcm : c ≤ maxLen) (hC : u8.C W A l.length l) (_hG : ∀ y ∈ l, (Lit.int .u8 y).wf = true) :
    Calls Try.prog 8 #[.int .i64 n, .slice A l.length c] W fun e w' => e = .returned (.bool true) ∧ Below W.heap.size W w' := by
  by_cases h : 100 < l.length
  · exact diskNil_long n A c _ W h (Kd.C_max hC)
  · exact diskNil_go n A c _ W h
end Go.Proofs.Ytolighikimpbfaa
