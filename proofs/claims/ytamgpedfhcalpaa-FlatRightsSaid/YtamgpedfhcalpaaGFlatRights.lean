/- The pure statement of the law FlatRights, over numbers and lists alone. -/
import Derived.Test.YtamgpedfhcalpaaPFlx5
import Derived.Test.YtamgpedfhcalpaaKindsFl
namespace Go.Proofs.Ytamgpedfhcalpaa.PFl
open Go.RowKit Go.Proofs.YtamgpedfhcalpaaW.PrintWords Go.Proofs.YtamgpedfhcalpaaW.PrintMore
open Go.Proofs.Ytamgpedfhcalpaa
set_option linter.unusedVariables false
/-- THE PURE STATEMENT of emenderlaw04_FlatRights. -/
def emenderlaw04_FlatRights.Pure : Prop := ∀ (a0_0 : Int) (a0_1 : Int) (a0_2 : Int) (a0_3 : Int), (Lit.int .i64 a0_0).wf = true → (Lit.int .i64 a0_1).wf = true → (Lit.int .i64 a0_2).wf = true → (Lit.int .i64 a0_3).wf = true → ∃ k, emenderlaw04_FlatRights.f k a0_0 a0_1 a0_2 a0_3 = some true
end Go.Proofs.Ytamgpedfhcalpaa.PFl
