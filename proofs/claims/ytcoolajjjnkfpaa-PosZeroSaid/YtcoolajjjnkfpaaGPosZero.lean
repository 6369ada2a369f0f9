/- The pure statement of the law PosZero, over numbers and lists alone. -/
import Derived.Test.YtcoolajjjnkfpaaPPzx1
import Derived.Test.YtcoolajjjnkfpaaKindsPz
namespace Go.Proofs.Ytcoolajjjnkfpaa.PPz
open Go.RowKit Go.Proofs.YtcoolajjjnkfpaaW.PrintWords Go.Proofs.YtcoolajjjnkfpaaW.PrintMore
open Go.Proofs.Ytcoolajjjnkfpaa
set_option linter.unusedVariables false
/-- THE PURE STATEMENT of emenderlaw08_PosZero. -/
def emenderlaw08_PosZero.Pure : Prop := ∀ (l0 : List (S37)) (a1 : Int), l0.length * 24 ≤ 140737488351232 → (∀ y_ ∈ l0, op37_wf y_) → (Lit.int .i64 a1).wf = true → emenderlaw08_PosZero.f l0 a1 = some true
end Go.Proofs.Ytcoolajjjnkfpaa.PPz
