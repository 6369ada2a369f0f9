/- The pure statement of the law FindSelf, over numbers and lists alone. -/
import Derived.Test.YtfcfomconcoimaaDoorPFay5
import Derived.Test.YtfcfomconcoimaaDoorKindsFa
namespace Go.Proofs.YtfcfomconcoimaaDoor.PFa
open Go.RowKit Go.Proofs.YtfcfomconcoimaaDoorW.PrintWords Go.Proofs.YtfcfomconcoimaaDoorW.PrintMore
open Go.Proofs.YtfcfomconcoimaaDoor
set_option linter.unusedVariables false
/-- THE PURE STATEMENT of emenderlaw26_FindSelf. -/
def emenderlaw26_FindSelf.Pure : Prop := ∀ (l0 : List (S48)) (a1 : ByteArray) (a2 : ByteArray), l0.length * 32 ≤ 140737488351232 → (∀ y_ ∈ l0, op48_wf y_) → a1.size ≤ 140737488351232 → a2.size ≤ 140737488351232 → ∃ k, emenderlaw26_FindSelf.f k l0 a1 a2 = some true
end Go.Proofs.YtfcfomconcoimaaDoor.PFa
