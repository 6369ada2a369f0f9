/- The pure statement of the law CommonRight, over numbers and lists alone. -/
import Derived.Test.YtfnafjohfmlniaaDoorPCbx17
import Derived.Test.YtfnafjohfmlniaaDoorKindsCb
namespace Go.Proofs.YtfnafjohfmlniaaDoor.PCb
open Go.RowKit Go.Proofs.YtfnafjohfmlniaaDoorW.PrintWords Go.Proofs.YtfnafjohfmlniaaDoorW.PrintMore
open Go.Proofs.YtfnafjohfmlniaaDoor
set_option linter.unusedVariables false
/-- THE PURE STATEMENT of emenderlaw28_CommonRight. -/
def emenderlaw28_CommonRight.PureG : Prop := ∀ (a0 : ByteArray), a0.size ≤ 140737488351232 → ∃ k, emenderlaw28_CommonRight.f k a0 = some true
end Go.Proofs.YtfnafjohfmlniaaDoor.PCb
