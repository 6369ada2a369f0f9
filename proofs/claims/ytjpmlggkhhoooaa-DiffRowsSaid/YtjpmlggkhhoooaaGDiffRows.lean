/- The pure statement of the law DiffRows, over numbers and lists alone. -/
import Derived.Test.YtjpmlggkhhoooaaPDqy8
import Derived.Test.YtjpmlggkhhoooaaKindsDq
namespace Go.Proofs.Ytjpmlggkhhoooaa.PDq
open Go.RowKit Go.Proofs.YtjpmlggkhhoooaaW.PrintWords Go.Proofs.YtjpmlggkhhoooaaW.PrintMore
open Go.Proofs.Ytjpmlggkhhoooaa
set_option linter.unusedVariables false
/-- THE PURE STATEMENT of emenderlaw23_DiffRows. -/
def emenderlaw23_DiffRows.Pure : Prop := ∀ (l0 : List (S64)) (l1 : List (S64)), l0.length * 32 ≤ 140737488351232 → (∀ y_ ∈ l0, op64_wf y_) → l1.length * 32 ≤ 140737488351232 → (∀ y_ ∈ l1, op64_wf y_) → ∃ k, emenderlaw23_DiffRows.f k l0 l1 = some true
end Go.Proofs.Ytjpmlggkhhoooaa.PDq
