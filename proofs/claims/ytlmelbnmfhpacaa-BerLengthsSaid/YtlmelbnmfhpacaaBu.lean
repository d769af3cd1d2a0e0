/- BerLengths, behind what came in. -/
import Derived.Test.YtlmelbnmfhpacaaBt
import Derived.Test.YtlmelbnmfhpacaaBg
set_option linter.unusedVariables false
set_option linter.unusedSimpArgs false
namespace Go.Proofs.Ytlmelbnmfhpacaa
open Go.RowKit Go.ChangeShapes Go.WideShapes Go.Proofs.YtlmelbnmfhpacaaW.PrintWords Go.Proofs.YtlmelbnmfhpacaaW.PrintMore

theorem size_bounds {n : Int} (h : (Lit.int .i64 n).wf = true) : -9223372036854775808 ≤ n ∧ n ≤ 9223372036854775807 := by
  simp [Lit.wf, IntKind.min, IntKind.max, IntKind.signed, IntKind.bits] at h
  exact h
theorem berLengths_row (W : World) (n : Int) (wf : (Lit.int .i64 n).wf = true) :
    Calls Try.prog 4 #[.int .i64 n] W fun e w' => e = .returned (.bool true) ∧ Below W.heap.size W w' :=
  lengths_walk n W (size_bounds wf)
end Go.Proofs.Ytlmelbnmfhpacaa
