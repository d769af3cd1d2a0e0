/- Whatever filters, entries and texts came in: what the heap holds of them. -/
import Derived.Test.YtgnmkblaockghaaQJh
import Derived.Deep.Slices
import Derived.OpenShut
import Derived.ChangeOld
set_option linter.unusedVariables false
set_option linter.unusedSimpArgs false
namespace Go.Proofs.Ytgnmkblaockghaa
open Go.RowKit Go.Deep Go.ChangeShapes Go.WideShapes Go.Proofs.YtgnmkblaockghaaW.PrintWords Go.Proofs.YtgnmkblaockghaaW.PrintMore

section
variable {H : Type} (enc : TypeId × Value → H) (P : Program) (w : World)

variable {enc P w}

end
section
variable {H : Type} {enc : TypeId × Value → H} {w : World}
end
end Go.Proofs.Ytgnmkblaockghaa
