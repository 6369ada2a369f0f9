/- The pure statement of the law PosOrder, over numbers and lists alone. -/
import Derived.Test.YtcoolajjjnkfpaaPPax7
import Derived.Test.YtcoolajjjnkfpaaKindsPa
namespace Go.Proofs.Ytcoolajjjnkfpaa.PPa
open Go.RowKit Go.Proofs.YtcoolajjjnkfpaaW.PrintWords Go.Proofs.YtcoolajjjnkfpaaW.PrintMore
open Go.Proofs.Ytcoolajjjnkfpaa
set_option linter.unusedVariables false
/-- THE PURE STATEMENT of emenderlaw08_PosOrder. -/
def emenderlaw08_PosOrder.Pure : Prop := ∀ (l0 : List (S37)) (a1 : Int) (a2 : Int) (a3 : Int), l0.length * 24 ≤ 140737488351232 → (∀ y_ ∈ l0, op37_wf y_) → (Lit.int .i64 a1).wf = true → (Lit.int .i64 a2).wf = true → (Lit.int .i64 a3).wf = true → ∃ k, emenderlaw08_PosOrder.f k l0 a1 a2 a3 = some true
end Go.Proofs.Ytcoolajjjnkfpaa.PPa
