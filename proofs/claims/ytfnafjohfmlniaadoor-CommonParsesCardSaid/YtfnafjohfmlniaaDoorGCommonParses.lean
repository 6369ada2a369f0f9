/- The pure statement of the law CommonParses, over numbers and lists alone. -/
import Derived.Test.YtfnafjohfmlniaaDoorPCsy7
import Derived.Test.YtfnafjohfmlniaaDoorKindsCs
namespace Go.Proofs.YtfnafjohfmlniaaDoor.PCs
open Go.RowKit Go.Proofs.YtfnafjohfmlniaaDoorW.PrintWords Go.Proofs.YtfnafjohfmlniaaDoorW.PrintMore
open Go.Proofs.YtfnafjohfmlniaaDoor
set_option linter.unusedVariables false
/-- THE PURE STATEMENT of emenderlaw28_CommonParses. -/
def emenderlaw28_CommonParses.PureG : Prop := ∀ (a0 : ByteArray), a0.size ≤ 140737488351232 → ∃ k, emenderlaw28_CommonParses.f k a0 = some true
end Go.Proofs.YtfnafjohfmlniaaDoor.PCs
