/- The pure statement of the law FlatCuts, over numbers and lists alone. -/
import Derived.Test.YtamgpedfhcalpaaPFmx9
import Derived.Test.YtamgpedfhcalpaaKindsFm
namespace Go.Proofs.Ytamgpedfhcalpaa.PFm
open Go.RowKit Go.Proofs.YtamgpedfhcalpaaW.PrintWords Go.Proofs.YtamgpedfhcalpaaW.PrintMore
open Go.Proofs.Ytamgpedfhcalpaa
set_option linter.unusedVariables false
/-- THE PURE STATEMENT of emenderlaw04_FlatCuts. -/
def emenderlaw04_FlatCuts.Pure : Prop := ∀ (l0 : List (S23)) (l1 : List (S23)) (a2 : Int) (a3 : Int), l0.length * 32 ≤ 140737488351232 → (∀ y_ ∈ l0, op23_wf y_) → l1.length * 32 ≤ 140737488351232 → (∀ y_ ∈ l1, op23_wf y_) → (Lit.int .i64 a2).wf = true → (Lit.int .i64 a3).wf = true → ∃ k, emenderlaw04_FlatCuts.f k l0 l1 a2 a3 = some true
end Go.Proofs.Ytamgpedfhcalpaa.PFm
