/- The pure statement of the law PosEmpty, over numbers and lists alone. -/
import Derived.Test.YtcoolajjjnkfpaaPPax8
import Derived.Test.YtcoolajjjnkfpaaKindsPa
namespace Go.Proofs.Ytcoolajjjnkfpaa.PPa
open Go.RowKit Go.Proofs.YtcoolajjjnkfpaaW.PrintWords Go.Proofs.YtcoolajjjnkfpaaW.PrintMore
open Go.Proofs.Ytcoolajjjnkfpaa
set_option linter.unusedVariables false
/-- THE PURE STATEMENT of emenderlaw08_PosEmpty. -/
def emenderlaw08_PosEmpty.PureG : Prop := ∀ (l0 : List Int) (a1 : Int) (a2 : Int), l0.length * 2 ≤ 140737488351232 → (∀ y_ ∈ l0, (Lit.int .u16 y_).wf = true) → (Lit.int .i64 a1).wf = true → (Lit.int .i64 a2).wf = true → ∃ k, emenderlaw08_PosEmpty.f k l0 a1 a2 = some true
end Go.Proofs.Ytcoolajjjnkfpaa.PPa
