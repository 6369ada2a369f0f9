/- The pure statement of the law FlatText, over numbers and lists alone. -/
import Derived.Test.YtamgpedfhcalpaaPFmx9
import Derived.Test.YtamgpedfhcalpaaKindsFm
namespace Go.Proofs.Ytamgpedfhcalpaa.PFm
open Go.RowKit Go.Proofs.YtamgpedfhcalpaaW.PrintWords Go.Proofs.YtamgpedfhcalpaaW.PrintMore
open Go.Proofs.Ytamgpedfhcalpaa
set_option linter.unusedVariables false
/-- THE PURE STATEMENT of emenderlaw04_FlatText. -/
def emenderlaw04_FlatText.Pure : Prop := ∀ (l0 : List (S23)) (a1 : Int), l0.length * 32 ≤ 140737488351232 → (∀ y_ ∈ l0, op23_wf y_) → (Lit.int .u16 a1).wf = true → ∃ k, emenderlaw04_FlatText.f k l0 a1 = some true
end Go.Proofs.Ytamgpedfhcalpaa.PFm
