/- BerEncodes, behind what came in. -/
import Derived.Test.YtlmelbnmfhpacaaBr
set_option linter.unusedVariables false
set_option linter.unusedSimpArgs false
namespace Go.Proofs.Ytlmelbnmfhpacaa
open Go.RowKit Go.ChangeShapes Go.WideShapes Go.Proofs.YtlmelbnmfhpacaaW.PrintWords Go.Proofs.YtlmelbnmfhpacaaW.PrintMore

theorem berEncodes_row (W : World) (v : Value) (x : T) (hK : kT.K W x v.cells.toList) (hG : byteT x) (hv : Value.okWide Try.prog W .any 0 26 v) :
    Calls Try.prog 8 #[v] W fun e w' => e = .returned (.bool true) ∧ Below W.heap.size W w' := by
  obtain ⟨A, c, B, d, rfl, hb⟩ := ber_of hK hv
  exact encodes_walk x A c B d W hb hG
end Go.Proofs.Ytlmelbnmfhpacaa
