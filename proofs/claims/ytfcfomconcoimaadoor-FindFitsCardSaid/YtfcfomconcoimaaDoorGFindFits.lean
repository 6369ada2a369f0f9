/- The pure statement of the law FindFits, over numbers and lists alone. -/
import Derived.Test.YtfcfomconcoimaaDoorPFax12
import Derived.Test.YtfcfomconcoimaaDoorKindsFa
namespace Go.Proofs.YtfcfomconcoimaaDoor.PFa
open Go.RowKit Go.Proofs.YtfcfomconcoimaaDoorW.PrintWords Go.Proofs.YtfcfomconcoimaaDoorW.PrintMore
open Go.Proofs.YtfcfomconcoimaaDoor
set_option linter.unusedVariables false
/-- THE PURE STATEMENT of emenderlaw26_FindFits. -/
def emenderlaw26_FindFits.Pure : Prop := ∀ (l0 : List (S48)) (a1 : ByteArray), l0.length * 32 ≤ 140737488351232 → (∀ y_ ∈ l0, op48_wf y_) → a1.size ≤ 140737488351232 → ∃ k, emenderlaw26_FindFits.f k l0 a1 = some true
end Go.Proofs.YtfcfomconcoimaaDoor.PFa
