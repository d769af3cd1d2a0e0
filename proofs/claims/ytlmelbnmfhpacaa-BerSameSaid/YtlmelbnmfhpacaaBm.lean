/- BerSame, behind what came in. -/
import Derived.Test.YtlmelbnmfhpacaaBl
set_option linter.unusedVariables false
set_option linter.unusedSimpArgs false
namespace Go.Proofs.Ytlmelbnmfhpacaa
open Go.RowKit Go.ChangeShapes Go.WideShapes Go.Proofs.YtlmelbnmfhpacaaW.PrintWords Go.Proofs.YtlmelbnmfhpacaaW.PrintMore

theorem berSame_row (W : World) (v : Value) (x : T) (hK : kT.K W x v.cells.toList) (hG : byteT x) (hv : Value.okWide Try.prog W .any 0 26 v) (v' : Value) (x' : T) (hK' : kT.K W x' v'.cells.toList) (hG' : byteT x') (hv' : Value.okWide Try.prog W .any 0 26 v') :
    Calls Try.prog 9 #[v, v'] W fun e w' => e = .returned (.bool true) ∧ Below W.heap.size W w' := by
  obtain ⟨A, c, B, d, rfl, hb⟩ := ber_of hK hv
  obtain ⟨A', c', B', d', rfl, hb'⟩ := ber_of hK' hv'
  exact bersame_walk x x' A c B d A' c' B' d' W hb hb' hG hG'
end Go.Proofs.Ytlmelbnmfhpacaa
