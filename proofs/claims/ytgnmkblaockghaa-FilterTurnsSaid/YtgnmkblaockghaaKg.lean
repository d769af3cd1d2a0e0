/- FilterTurns, behind what came in. -/
import Derived.Test.YtgnmkblaockghaaKc
set_option linter.unusedVariables false
set_option linter.unusedSimpArgs false
namespace Go.Proofs.Ytgnmkblaockghaa
open Go.RowKit Go.Shelf Go.Deep Go.ChangeShapes Go.WideShapes Go.Proofs.YtgnmkblaockghaaW.PrintWords Go.Proofs.YtgnmkblaockghaaW.PrintMore Go.Proofs.YtgnmkblaockghaaW.PrintLast

set_option maxRecDepth 20000 in
/-- FilterTurns, behind what came in. -/
theorem filterTurns_row (W : World) (v : Value) (x : Ft) (hK : kF.K W x v.cells.toList) (hG : byteF x) (hv : Value.okWide Try.prog W .any 0 25 v) (v' : Value) (x' : Ft) (hK' : kF.K W x' v'.cells.toList) (hG' : byteF x') (hv' : Value.okWide Try.prog W .any 0 25 v')
    (A : Option Addr) (c : Nat) (l : List At) (hlc : l.length ≤ c) (hcm : c ≤ maxLen) (hC : kA.C W A l.length l) (hGl : ∀ y ∈ l, True) :
    Calls Try.prog 5 #[v, v', .slice A l.length c] W fun e w' => e = .returned (.bool true) ∧ Below W.heap.size W w' := by
  obtain ⟨B, d, rfl, hb⟩ := filt_of hK hv
  obtain ⟨B', d', rfl, hb'⟩ := filt_of hK' hv'
  exact filterTurns_walk x x' B d B' d' l A c W hb hb' hlc hC
end Go.Proofs.Ytgnmkblaockghaa
