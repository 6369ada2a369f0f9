/- The pure statement of the law FlatPairs, over numbers and lists alone. -/
import Derived.Test.YtamgpedfhcalpaaPFlx14
import Derived.Test.YtamgpedfhcalpaaKindsFl
namespace Go.Proofs.Ytamgpedfhcalpaa.PFl
open Go.RowKit Go.Proofs.YtamgpedfhcalpaaW.PrintWords Go.Proofs.YtamgpedfhcalpaaW.PrintMore
open Go.Proofs.Ytamgpedfhcalpaa
set_option linter.unusedVariables false
/-- THE PURE STATEMENT of emenderlaw04_FlatPairs. -/
def emenderlaw04_FlatPairs.Pure : Prop := ∀ (l0 : List (S23)), l0.length * 32 ≤ 140737488351232 → (∀ y_ ∈ l0, op23_wf y_) → ∃ k, emenderlaw04_FlatPairs.f k l0 = some true
end Go.Proofs.Ytamgpedfhcalpaa.PFl
