/- The pure statement of the law FlatJoins, over numbers and lists alone. -/
import Derived.Test.YtamgpedfhcalpaaPFmx5
import Derived.Test.YtamgpedfhcalpaaKindsFm
namespace Go.Proofs.Ytamgpedfhcalpaa.PFm
open Go.RowKit Go.Proofs.YtamgpedfhcalpaaW.PrintWords Go.Proofs.YtamgpedfhcalpaaW.PrintMore
open Go.Proofs.Ytamgpedfhcalpaa
set_option linter.unusedVariables false
/-- THE PURE STATEMENT of emenderlaw04_FlatJoins. -/
def emenderlaw04_FlatJoins.Pure : Prop := ∀ (l0 : List (S23)) (l1 : List (S23)) (a2 : Int), l0.length * 32 ≤ 140737488351232 → (∀ y_ ∈ l0, op23_wf y_) → l1.length * 32 ≤ 140737488351232 → (∀ y_ ∈ l1, op23_wf y_) → (Lit.int .u8 a2).wf = true → ∃ k, emenderlaw04_FlatJoins.f k l0 l1 a2 = some true
end Go.Proofs.Ytamgpedfhcalpaa.PFm
