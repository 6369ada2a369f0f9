/- The pure statement of the law InlineEscapes, over numbers and lists alone. -/
import Derived.Test.YtebbngeamnpgjaaDoorPIax15
import Derived.Test.YtebbngeamnpgjaaDoorKindsIa
namespace Go.Proofs.YtebbngeamnpgjaaDoor.PIa
open Go.RowKit Go.Proofs.YtebbngeamnpgjaaDoorW.PrintWords Go.Proofs.YtebbngeamnpgjaaDoorW.PrintMore
open Go.Proofs.YtebbngeamnpgjaaDoor
set_option linter.unusedVariables false
/-- THE PURE STATEMENT of emenderlaw14_InlineEscapes. -/
def emenderlaw14_InlineEscapes.PureG : Prop := ∀ (a0 : Int), (Lit.int .u32 a0).wf = true → ∃ k, emenderlaw14_InlineEscapes.f k a0 = some true
end Go.Proofs.YtebbngeamnpgjaaDoor.PIa
