/- The pure statement of the law CommonMarks, over numbers and lists alone. -/
import Derived.Test.YtfnafjohfmlniaaDoorPCbx16
import Derived.Test.YtfnafjohfmlniaaDoorKindsCb
namespace Go.Proofs.YtfnafjohfmlniaaDoor.PCb
open Go.RowKit Go.Proofs.YtfnafjohfmlniaaDoorW.PrintWords Go.Proofs.YtfnafjohfmlniaaDoorW.PrintMore
open Go.Proofs.YtfnafjohfmlniaaDoor
set_option linter.unusedVariables false
/-- THE PURE STATEMENT of emenderlaw28_CommonMarks. -/
def emenderlaw28_CommonMarks.PureG : Prop := ∀ (l0 : List Int) (a1 : Int), l0.length * 1 ≤ 140737488351232 → (∀ y_ ∈ l0, (Lit.int .u8 y_).wf = true) → (Lit.int .u8 a1).wf = true → ∃ k, emenderlaw28_CommonMarks.f k l0 a1 = some true
end Go.Proofs.YtfnafjohfmlniaaDoor.PCb
