/- The pure statement of the law InlinePlain, over numbers and lists alone. -/
import Derived.Test.YtebbngeamnpgjaaDoorPIax14
import Derived.Test.YtebbngeamnpgjaaDoorKindsIa
namespace Go.Proofs.YtebbngeamnpgjaaDoor.PIa
open Go.RowKit Go.Proofs.YtebbngeamnpgjaaDoorW.PrintWords Go.Proofs.YtebbngeamnpgjaaDoorW.PrintMore
open Go.Proofs.YtebbngeamnpgjaaDoor
set_option linter.unusedVariables false
/-- THE PURE STATEMENT of emenderlaw14_InlinePlain. -/
def emenderlaw14_InlinePlain.PureG : Prop := ∀ (l0 : List Int), l0.length * 1 ≤ 140737488351232 → (∀ y_ ∈ l0, (Lit.int .u8 y_).wf = true) → ∃ k, emenderlaw14_InlinePlain.f k l0 = some true
end Go.Proofs.YtebbngeamnpgjaaDoor.PIa
