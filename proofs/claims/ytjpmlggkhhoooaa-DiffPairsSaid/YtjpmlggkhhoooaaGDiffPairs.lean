/- The pure statement of the law DiffPairs, over numbers and lists alone. -/
import Derived.Test.YtjpmlggkhhoooaaPDpx15
import Derived.Test.YtjpmlggkhhoooaaKindsDp
namespace Go.Proofs.Ytjpmlggkhhoooaa.PDp
open Go.RowKit Go.Proofs.YtjpmlggkhhoooaaW.PrintWords Go.Proofs.YtjpmlggkhhoooaaW.PrintMore
open Go.Proofs.Ytjpmlggkhhoooaa
set_option linter.unusedVariables false
/-- THE PURE STATEMENT of emenderlaw23_DiffPairs. -/
def emenderlaw23_DiffPairs.Pure : Prop := ∀ (l0 : List (S64)) (l1 : List (S64)), l0.length * 32 ≤ 140737488351232 → (∀ y_ ∈ l0, op64_wf y_) → l1.length * 32 ≤ 140737488351232 → (∀ y_ ∈ l1, op64_wf y_) → ∃ k, emenderlaw23_DiffPairs.f k l0 l1 = some true
end Go.Proofs.Ytjpmlggkhhoooaa.PDp
