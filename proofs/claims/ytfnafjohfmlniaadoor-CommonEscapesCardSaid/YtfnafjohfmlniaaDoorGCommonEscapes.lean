/- The pure statement of the law CommonEscapes, over numbers and lists alone. -/
import Derived.Test.YtfnafjohfmlniaaDoorPCbx18
import Derived.Test.YtfnafjohfmlniaaDoorKindsCb
namespace Go.Proofs.YtfnafjohfmlniaaDoor.PCb
open Go.RowKit Go.Proofs.YtfnafjohfmlniaaDoorW.PrintWords Go.Proofs.YtfnafjohfmlniaaDoorW.PrintMore
open Go.Proofs.YtfnafjohfmlniaaDoor
set_option linter.unusedVariables false
/-- THE PURE STATEMENT of emenderlaw28_CommonEscapes. -/
def emenderlaw28_CommonEscapes.PureG : Prop := ∀ (a0 : Int) (l1 : List Int), (Lit.int .u8 a0).wf = true → l1.length * 1 ≤ 140737488351232 → (∀ y_ ∈ l1, (Lit.int .u8 y_).wf = true) → ∃ k, emenderlaw28_CommonEscapes.f k a0 l1 = some true
end Go.Proofs.YtfnafjohfmlniaaDoor.PCb
