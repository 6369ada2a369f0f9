/- The pure statement of the law InlinePrints, over numbers and lists alone. -/
import Derived.Test.YtebbngeamnpgjaaPIpx10
import Derived.Test.YtebbngeamnpgjaaKindsIp
namespace Go.Proofs.Ytebbngeamnpgjaa.PIp
open Go.RowKit Go.Proofs.YtebbngeamnpgjaaW.PrintWords Go.Proofs.YtebbngeamnpgjaaW.PrintMore
open Go.Proofs.Ytebbngeamnpgjaa
set_option linter.unusedVariables false
/-- THE PURE STATEMENT of emenderlaw14_InlinePrints. -/
def emenderlaw14_InlinePrints.Pure : Prop := ∀ (l0 : List (S31)), l0.length * 32 ≤ 140737488351232 → (∀ y_ ∈ l0, op31_wf y_) → ∃ k, emenderlaw14_InlinePrints.f k l0 = some true
end Go.Proofs.Ytebbngeamnpgjaa.PIp
