/- The pure statement of the law FindPuts, over numbers and lists alone. -/
import Derived.Test.YtfcfomconcoimaaDoorPFay8
import Derived.Test.YtfcfomconcoimaaDoorKindsFa
namespace Go.Proofs.YtfcfomconcoimaaDoor.PFa
open Go.RowKit Go.Proofs.YtfcfomconcoimaaDoorW.PrintWords Go.Proofs.YtfcfomconcoimaaDoorW.PrintMore
open Go.Proofs.YtfcfomconcoimaaDoor
set_option linter.unusedVariables false
/-- THE PURE STATEMENT of emenderlaw26_FindPuts. -/
def emenderlaw26_FindPuts.Pure : Prop := ∀ (l0 : List (S48)) (l1 : List (S28)) (a2 : ByteArray), l0.length * 32 ≤ 140737488351232 → (∀ y_ ∈ l0, op48_wf y_) → l1.length * 16 ≤ 140737488351232 → (∀ y_ ∈ l1, op28_wf y_) → a2.size ≤ 140737488351232 → ∃ k, emenderlaw26_FindPuts.f k l0 l1 a2 = some true
end Go.Proofs.YtfcfomconcoimaaDoor.PFa
