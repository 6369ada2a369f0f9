/- The pure statement of the law InlineRight, over numbers and lists alone. -/
import Derived.Test.YtebbngeamnpgjaaDoorPIax12
import Derived.Test.YtebbngeamnpgjaaDoorKindsIa
namespace Go.Proofs.YtebbngeamnpgjaaDoor.PIa
open Go.RowKit Go.Proofs.YtebbngeamnpgjaaDoorW.PrintWords Go.Proofs.YtebbngeamnpgjaaDoorW.PrintMore
open Go.Proofs.YtebbngeamnpgjaaDoor
set_option linter.unusedVariables false
/-- THE PURE STATEMENT of emenderlaw14_InlineRight. -/
def emenderlaw14_InlineRight.PureG : Prop := ∀ (a0 : ByteArray), a0.size ≤ 140737488351232 → ∃ k, emenderlaw14_InlineRight.f k a0 = some true
end Go.Proofs.YtebbngeamnpgjaaDoor.PIa
