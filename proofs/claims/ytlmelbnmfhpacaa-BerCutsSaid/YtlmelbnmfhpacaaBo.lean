/- BerCuts, behind what came in. -/
import Derived.Test.YtlmelbnmfhpacaaBn
set_option linter.unusedVariables false
set_option linter.unusedSimpArgs false
namespace Go.Proofs.Ytlmelbnmfhpacaa
open Go.RowKit Go.ChangeShapes Go.WideShapes Go.Proofs.YtlmelbnmfhpacaaW.PrintWords Go.Proofs.YtlmelbnmfhpacaaW.PrintMore

theorem whole_bounds {n : Int} (h : (Lit.int .i64 n).wf = true) : -9223372036854775808 ≤ n ∧ n ≤ 9223372036854775807 := by
  simp [Lit.wf, IntKind.min, IntKind.max, IntKind.signed, IntKind.bits] at h
  exact h
theorem berCuts_row (W : World) (v : Value) (x : T) (hK : kT.K W x v.cells.toList) (hG : byteT x) (hv : Value.okWide Try.prog W .any 0 26 v) (n : Int) (wf : (Lit.int .i64 n).wf = true) (y : Int) (wy : (Lit.int .u8 y).wf = true) :
    Calls Try.prog 5 #[v, .int .i64 n, .int .u8 y] W fun e w' => e = .returned (.bool true) ∧ Below W.heap.size W w' := by
  obtain ⟨A, c, B, d, rfl, hb⟩ := ber_of hK hv
  exact cuts_walk x n y A c B d W hb hG (whole_bounds wf) (byte_bounds wy)
end Go.Proofs.Ytlmelbnmfhpacaa
