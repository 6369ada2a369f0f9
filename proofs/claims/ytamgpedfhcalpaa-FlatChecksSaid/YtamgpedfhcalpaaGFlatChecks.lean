/- The pure statement of the law FlatChecks, over numbers and lists alone. -/
import Derived.Test.YtamgpedfhcalpaaPFlx17
import Derived.Test.YtamgpedfhcalpaaKindsFl
namespace Go.Proofs.Ytamgpedfhcalpaa.PFl
open Go.RowKit Go.Proofs.YtamgpedfhcalpaaW.PrintWords Go.Proofs.YtamgpedfhcalpaaW.PrintMore
open Go.Proofs.Ytamgpedfhcalpaa
set_option linter.unusedVariables false
/-- THE PURE STATEMENT of emenderlaw04_FlatChecks. -/
def emenderlaw04_FlatChecks.Pure : Prop := ∀ (l0 : List (S23)) (a1 : Int), l0.length * 32 ≤ 140737488351232 → (∀ y_ ∈ l0, op23_wf y_) → (Lit.int .i64 a1).wf = true → ∃ k, emenderlaw04_FlatChecks.f k l0 a1 = some true
end Go.Proofs.Ytamgpedfhcalpaa.PFl
