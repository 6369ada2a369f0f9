/- The pure statement of the law AnchorZero, over numbers and lists alone. -/
import Derived.Test.YtgafgkojbbndmaaPAzx1
import Derived.Test.YtgafgkojbbndmaaKindsAz
namespace Go.Proofs.Ytgafgkojbbndmaa.PAz
open Go.RowKit Go.Proofs.YtgafgkojbbndmaaW.PrintWords Go.Proofs.YtgafgkojbbndmaaW.PrintMore
open Go.Proofs.Ytgafgkojbbndmaa
set_option linter.unusedVariables false
/-- THE PURE STATEMENT of emenderlaw25_AnchorZero. -/
def emenderlaw25_AnchorZero.Pure : Prop := ∀ (l0 : List (S23)), l0.length * 24 ≤ 140737488351232 → (∀ y_ ∈ l0, op23_wf y_) → emenderlaw25_AnchorZero.f l0 = some true
end Go.Proofs.Ytgafgkojbbndmaa.PAz
