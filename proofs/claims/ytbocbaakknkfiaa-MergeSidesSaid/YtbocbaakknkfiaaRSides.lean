/- MergeSides: as the row wants it. -/
import Derived.Test.YtbocbaakknkfiaaOv
import Derived.Test.YtbocbaakknkfiaaOl
set_option linter.unusedVariables false
set_option linter.unusedSimpArgs false
namespace Go.Proofs.Ytbocbaakknkfiaa
open Go.RowKit Go.ChangeShapes Go.WideShapes Go.Proofs.YtbocbaakknkfiaaW.PrintWords Go.Proofs.YtbocbaakknkfiaaW.PrintMore
theorem mergeSides_row (W : World) (v0 : Value) (x : CT) (hK0 : v0.cells.toList = (conV x.V).toList ∧ Con W x.A x.c x.L) (_ : True) (hv0 : Value.okWide Try.prog W .any 0 24 v0)
    (v1 : Value) (y : CT) (hK1 : v1.cells.toList = (conV y.V).toList ∧ Con W y.A y.c y.L) (_ : True) (hv1 : Value.okWide Try.prog W .any 0 24 v1)
    (v2 : Value) (z : CT) (hK2 : v2.cells.toList = (conV z.V).toList ∧ Con W z.A z.c z.L) (_ : True) (hv2 : Value.okWide Try.prog W .any 0 24 v2) :
    Calls Try.prog 5 #[v0, v1, v2] W fun e w' => e = .returned (.bool true) ∧ Below W.heap.size W w' := by
  obtain ⟨rfl, hx⟩ := con_of hK0 hv0
  obtain ⟨rfl, hy⟩ := con_of hK1 hv1
  obtain ⟨rfl, hz⟩ := con_of hK2 hv2
  exact mergeSides_all x y z W hx hy hz
end Go.Proofs.Ytbocbaakknkfiaa
