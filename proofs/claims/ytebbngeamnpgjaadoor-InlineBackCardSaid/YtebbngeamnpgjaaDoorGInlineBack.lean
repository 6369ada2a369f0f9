/- The pure statement of the law InlineBack, over numbers and lists alone. -/
import Derived.Test.YtebbngeamnpgjaaDoorPIax12
import Derived.Test.YtebbngeamnpgjaaDoorKindsIa
namespace Go.Proofs.YtebbngeamnpgjaaDoor.PIa
open Go.RowKit Go.Proofs.YtebbngeamnpgjaaDoorW.PrintWords Go.Proofs.YtebbngeamnpgjaaDoorW.PrintMore
open Go.Proofs.YtebbngeamnpgjaaDoor
set_option linter.unusedVariables false
/-- THE PURE STATEMENT of emenderlaw14_InlineBack. -/
def emenderlaw14_InlineBack.Pure : Prop := ∀ (l0 : List (S36)), l0.length * 32 ≤ 140737488351232 → (∀ y_ ∈ l0, op36_wf y_) → ∃ k, emenderlaw14_InlineBack.f k l0 = some true
end Go.Proofs.YtebbngeamnpgjaaDoor.PIa
