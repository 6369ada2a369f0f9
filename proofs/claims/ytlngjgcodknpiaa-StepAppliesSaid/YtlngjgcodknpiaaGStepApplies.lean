/- The pure statement of the law StepApplies, over numbers and lists alone. -/
import Derived.Test.YtlngjgcodknpiaaPSax22
import Derived.Test.YtlngjgcodknpiaaKindsSa
namespace Go.Proofs.Ytlngjgcodknpiaa.PSa
open Go.RowKit Go.Proofs.YtlngjgcodknpiaaW.PrintWords Go.Proofs.YtlngjgcodknpiaaW.PrintMore
open Go.Proofs.Ytlngjgcodknpiaa
set_option linter.unusedVariables false
/-- THE PURE STATEMENT of emenderlaw09_StepApplies. -/
def emenderlaw09_StepApplies.Pure : Prop := ∀ (l0 : List (S57)) (a1_0 : Int) (a1_1 : Int) (a1_2 : Int) (a1_3 : Int) (a1_4 : Int) (a1_5 : Int) (l1_6 : List (S57)) (a1_7 : Int), l0.length * 32 ≤ 140737488351232 → (∀ y_ ∈ l0, op57_wf y_) → (Lit.int .i64 a1_0).wf = true → (Lit.int .i64 a1_1).wf = true → (Lit.int .i64 a1_2).wf = true → (Lit.int .i64 a1_3).wf = true → (Lit.int .i64 a1_4).wf = true → (Lit.int .i64 a1_5).wf = true → l1_6.length ≤ 9223372036854775807 → (∀ y_ ∈ l1_6, op57_wf y_) → (Lit.int .i64 a1_7).wf = true → ∃ k, emenderlaw09_StepApplies.f k l0 a1_0 a1_1 a1_2 a1_3 a1_4 a1_5 l1_6 a1_7 = some true
end Go.Proofs.Ytlngjgcodknpiaa.PSa
