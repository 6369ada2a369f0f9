/- The pure statement of the law PosMirrors, over numbers and lists alone. -/
import Derived.Test.YtcoolajjjnkfpaaPPdx11
import Derived.Test.YtcoolajjjnkfpaaKindsPd
namespace Go.Proofs.Ytcoolajjjnkfpaa.PPd
open Go.RowKit Go.Proofs.YtcoolajjjnkfpaaW.PrintWords Go.Proofs.YtcoolajjjnkfpaaW.PrintMore
open Go.Proofs.Ytcoolajjjnkfpaa
set_option linter.unusedVariables false
/-- THE PURE STATEMENT of emenderlaw08_PosMirrors. -/
def emenderlaw08_PosMirrors.Pure : Prop := ∀ (a0_0 : Int) (a0_1 : Int) (a0_2 : Int) (a1 : Int) (a2 : Int), (Lit.int .i64 a0_0).wf = true → (Lit.int .i64 a0_1).wf = true → (Lit.int .i64 a0_2).wf = true → (Lit.int .i64 a1).wf = true → (Lit.int .i64 a2).wf = true → ∃ k, emenderlaw08_PosMirrors.f k a0_0 a0_1 a0_2 a1 a2 = some true
end Go.Proofs.Ytcoolajjjnkfpaa.PPd
