/- The pure statement of the law PosAdds, over numbers and lists alone. -/
import Derived.Test.YtcoolajjjnkfpaaPPdx8
import Derived.Test.YtcoolajjjnkfpaaKindsPd
namespace Go.Proofs.Ytcoolajjjnkfpaa.PPd
open Go.RowKit Go.Proofs.YtcoolajjjnkfpaaW.PrintWords Go.Proofs.YtcoolajjjnkfpaaW.PrintMore
open Go.Proofs.Ytcoolajjjnkfpaa
set_option linter.unusedVariables false
/-- THE PURE STATEMENT of emenderlaw08_PosAdds. -/
def emenderlaw08_PosAdds.Pure : Prop := ∀ (l0 : List (List (S37))) (a1 : Int) (a2 : Int), l0.length * 24 ≤ 140737488351232 → (∀ y_ ∈ l0, (∀ y__ ∈ y_, op37_wf y__)) → (Lit.int .i64 a1).wf = true → (Lit.int .i64 a2).wf = true → ∃ k, emenderlaw08_PosAdds.f k l0 a1 a2 = some true
end Go.Proofs.Ytcoolajjjnkfpaa.PPd
