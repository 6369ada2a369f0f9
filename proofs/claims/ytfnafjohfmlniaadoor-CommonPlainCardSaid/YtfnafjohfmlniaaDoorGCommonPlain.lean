/- The pure statement of the law CommonPlain, over numbers and lists alone. -/
import Derived.Test.YtfnafjohfmlniaaDoorPCbx15
import Derived.Test.YtfnafjohfmlniaaDoorKindsCb
namespace Go.Proofs.YtfnafjohfmlniaaDoor.PCb
open Go.RowKit Go.Proofs.YtfnafjohfmlniaaDoorW.PrintWords Go.Proofs.YtfnafjohfmlniaaDoorW.PrintMore
open Go.Proofs.YtfnafjohfmlniaaDoor
set_option linter.unusedVariables false
/-- THE PURE STATEMENT of emenderlaw28_CommonPlain. -/
def emenderlaw28_CommonPlain.PureG : Prop := ∀ (l0 : List Int), l0.length * 1 ≤ 140737488351232 → (∀ y_ ∈ l0, (Lit.int .u8 y_).wf = true) → ∃ k, emenderlaw28_CommonPlain.f k l0 = some true
end Go.Proofs.YtfnafjohfmlniaaDoor.PCb
