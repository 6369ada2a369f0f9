/- The pure statement of the law StepMerges, over numbers and lists alone. -/
import Derived.Test.YtlngjgcodknpiaaPSkx13
import Derived.Test.YtlngjgcodknpiaaKindsSk
namespace Go.Proofs.Ytlngjgcodknpiaa.PSk
open Go.RowKit Go.Proofs.YtlngjgcodknpiaaW.PrintWords Go.Proofs.YtlngjgcodknpiaaW.PrintMore
open Go.Proofs.Ytlngjgcodknpiaa
set_option linter.unusedVariables false
/-- THE PURE STATEMENT of emenderlaw09_StepMerges. -/
def emenderlaw09_StepMerges.Pure : Prop := ∀ (l0 : List (S57)) (a1_0 : Int) (a1_1 : Int) (a1_2 : Int) (a1_3 : Int) (a1_4 : Int) (a1_5 : Int) (l1_6 : List (S57)) (a1_7 : Int) (a2_0 : Int) (a2_1 : Int) (a2_2 : Int) (a2_3 : Int) (a2_4 : Int) (a2_5 : Int) (l2_6 : List (S57)) (a2_7 : Int), l0.length * 32 ≤ 140737488351232 → (∀ y_ ∈ l0, op57_wf y_) → (Lit.int .i64 a1_0).wf = true → (Lit.int .i64 a1_1).wf = true → (Lit.int .i64 a1_2).wf = true → (Lit.int .i64 a1_3).wf = true → (Lit.int .i64 a1_4).wf = true → (Lit.int .i64 a1_5).wf = true → l1_6.length ≤ 9223372036854775807 → (∀ y_ ∈ l1_6, op57_wf y_) → (Lit.int .i64 a1_7).wf = true → (Lit.int .i64 a2_0).wf = true → (Lit.int .i64 a2_1).wf = true → (Lit.int .i64 a2_2).wf = true → (Lit.int .i64 a2_3).wf = true → (Lit.int .i64 a2_4).wf = true → (Lit.int .i64 a2_5).wf = true → l2_6.length ≤ 9223372036854775807 → (∀ y_ ∈ l2_6, op57_wf y_) → (Lit.int .i64 a2_7).wf = true → ∃ k, emenderlaw09_StepMerges.f k l0 a1_0 a1_1 a1_2 a1_3 a1_4 a1_5 l1_6 a1_7 a2_0 a2_1 a2_2 a2_3 a2_4 a2_5 l2_6 a2_7 = some true
end Go.Proofs.Ytlngjgcodknpiaa.PSk
