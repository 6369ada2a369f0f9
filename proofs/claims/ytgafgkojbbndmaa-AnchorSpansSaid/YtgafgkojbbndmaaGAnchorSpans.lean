/- The pure statement of the law AnchorSpans, over numbers and lists alone. -/
import Derived.Test.YtgafgkojbbndmaaPAsx6
import Derived.Test.YtgafgkojbbndmaaKindsAs
namespace Go.Proofs.Ytgafgkojbbndmaa.PAs
open Go.RowKit Go.Proofs.YtgafgkojbbndmaaW.PrintWords Go.Proofs.YtgafgkojbbndmaaW.PrintMore
open Go.Proofs.Ytgafgkojbbndmaa
set_option linter.unusedVariables false
/-- THE PURE STATEMENT of emenderlaw25_AnchorSpans. -/
def emenderlaw25_AnchorSpans.Pure : Prop := ∀ (l0 : List (S37)) (a1 : Int), l0.length * 16 ≤ 140737488351232 → (∀ y_ ∈ l0, op37_wf y_) → (Lit.int .i64 a1).wf = true → emenderlaw25_AnchorSpans.f l0 a1 = some true
end Go.Proofs.Ytgafgkojbbndmaa.PAs
