/- BerCommon, behind what came in. -/
import Derived.Test.YtlmelbnmfhpacaaBj
set_option linter.unusedVariables false
set_option linter.unusedSimpArgs false
namespace Go.Proofs.Ytlmelbnmfhpacaa
open Go.RowKit Go.ChangeShapes Go.WideShapes Go.Proofs.YtlmelbnmfhpacaaW.PrintWords Go.Proofs.YtlmelbnmfhpacaaW.PrintMore

theorem berCommon_row (W : World) (s : ByteArray) (_ : s.size ≤ 140737488351232) (A : Option Addr) (c : Nat) (l : List T) (hlc : l.length ≤ c) (_hcm : c ≤ maxLen) (hC : kT.C W A l.length l) (hG : ∀ y ∈ l, byteT y) (is : Bool) :
    Calls Try.prog 7 #[.string s, .slice A l.length c, .bool is] W fun e w' => e = .returned (.bool true) ∧ Below W.heap.size W w' :=
  common_walk s A c l is W hC hlc ((byteL_iff l).2 hG)
end Go.Proofs.Ytlmelbnmfhpacaa
