/- BerNumbers, behind what came in. -/
import Derived.Test.YtlmelbnmfhpacaaBf
import Derived.Test.YtlmelbnmfhpacaaBg
set_option linter.unusedVariables false
set_option linter.unusedSimpArgs false
namespace Go.Proofs.Ytlmelbnmfhpacaa
open Go.RowKit Go.ChangeShapes Go.WideShapes Go.Proofs.YtlmelbnmfhpacaaW.PrintWords Go.Proofs.YtlmelbnmfhpacaaW.PrintMore

theorem long_bounds {n : Int} (h : (Lit.int .i64 n).wf = true) : -9223372036854775808 ≤ n ∧ n ≤ 9223372036854775807 := by
  simp [Lit.wf, IntKind.min, IntKind.max, IntKind.signed, IntKind.bits] at h
  exact h
theorem berNumbers_row (W : World) (n : Int) (wf : (Lit.int .i64 n).wf = true) (A : Option Addr) (c : Nat) (l : List Int) (hlc : l.length ≤ c) (_hcm : c ≤ maxLen) (hC : kU.C W A l.length l) (hG : ∀ y ∈ l, 0 ≤ y ∧ y < 256)
    (v : Value) (y : Int × Int × Bool) (hK : (Kd.pair kU (Kd.pair kU Kd.bool)).K W y v.cells.toList) (_ : True) (hv : Value.okWide Try.prog W .any 0 44 v) :
    Calls Try.prog 6 #[.int .i64 n, .slice A l.length c, v] W fun e w' => e = .returned (.bool true) ∧ Below W.heap.size W w' := by
  rw [tag_of hK hv]
  exact numbers_walk n A c l y.1 y.2.1 y.2.2 W (long_bounds wf) hC hlc hG
end Go.Proofs.Ytlmelbnmfhpacaa
