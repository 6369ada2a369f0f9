/- The pure statement of the law PosRows, over numbers and lists alone. -/
import Derived.Test.YtcoolajjjnkfpaaPPdx16
import Derived.Test.YtcoolajjjnkfpaaKindsPd
namespace Go.Proofs.Ytcoolajjjnkfpaa.PPd
open Go.RowKit Go.Proofs.YtcoolajjjnkfpaaW.PrintWords Go.Proofs.YtcoolajjjnkfpaaW.PrintMore
open Go.Proofs.Ytcoolajjjnkfpaa
set_option linter.unusedVariables false
/-- THE PURE STATEMENT of emenderlaw08_PosRows. -/
def emenderlaw08_PosRows.Pure : Prop := ∀ (l0 : List (List (S37))) (l1 : List (S66)) (a2 : Int) (a3 : Int) (a4 : Int), l0.length * 24 ≤ 140737488351232 → (∀ y_ ∈ l0, (∀ y__ ∈ y_, op37_wf y__)) → l1.length * 16 ≤ 140737488351232 → (∀ y_ ∈ l1, op66_wf y_) → (Lit.int .i64 a2).wf = true → (Lit.int .i64 a3).wf = true → (Lit.int .i64 a4).wf = true → ∃ k, emenderlaw08_PosRows.f k l0 l1 a2 a3 a4 = some true
end Go.Proofs.Ytcoolajjjnkfpaa.PPd
