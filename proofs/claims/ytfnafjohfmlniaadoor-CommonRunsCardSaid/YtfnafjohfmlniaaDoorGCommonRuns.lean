/- The pure statement of the law CommonRuns, over numbers and lists alone. -/
import Derived.Test.YtfnafjohfmlniaaDoorPCrx21
import Derived.Test.YtfnafjohfmlniaaDoorKindsCr
namespace Go.Proofs.YtfnafjohfmlniaaDoor.PCr
open Go.RowKit Go.Proofs.YtfnafjohfmlniaaDoorW.PrintWords Go.Proofs.YtfnafjohfmlniaaDoorW.PrintMore
open Go.Proofs.YtfnafjohfmlniaaDoor
set_option linter.unusedVariables false
/-- THE PURE STATEMENT of emenderlaw28_CommonRuns. -/
def emenderlaw28_CommonRuns.PureG : Prop := ∀ (a0 : ByteArray), a0.size ≤ 140737488351232 → ∃ k, emenderlaw28_CommonRuns.f k a0 = some true
end Go.Proofs.YtfnafjohfmlniaaDoor.PCr
