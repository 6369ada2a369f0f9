/- The pure statement of the law PosBack, over numbers and lists alone. -/
import Derived.Test.YtcoolajjjnkfpaaPPbx9
import Derived.Test.YtcoolajjjnkfpaaKindsPb
namespace Go.Proofs.Ytcoolajjjnkfpaa.PPb
open Go.RowKit Go.Proofs.YtcoolajjjnkfpaaW.PrintWords Go.Proofs.YtcoolajjjnkfpaaW.PrintMore
open Go.Proofs.Ytcoolajjjnkfpaa
set_option linter.unusedVariables false
/-- THE PURE STATEMENT of emenderlaw08_PosBack. -/
def emenderlaw08_PosBack.Pure : Prop := ∀ (l0 : List (S37)) (a1 : Int) (a2 : Int), l0.length * 24 ≤ 140737488351232 → (∀ y_ ∈ l0, op37_wf y_) → (Lit.int .i64 a1).wf = true → (Lit.int .i64 a2).wf = true → ∃ k, emenderlaw08_PosBack.f k l0 a1 a2 = some true
end Go.Proofs.Ytcoolajjjnkfpaa.PPb
