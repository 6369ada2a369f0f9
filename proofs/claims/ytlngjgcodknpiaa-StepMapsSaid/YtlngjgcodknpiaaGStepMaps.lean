/- The pure statement of the law StepMaps, over numbers and lists alone. -/
import Derived.Test.YtlngjgcodknpiaaPSmx21
import Derived.Test.YtlngjgcodknpiaaKindsSm
namespace Go.Proofs.Ytlngjgcodknpiaa.PSm
open Go.RowKit Go.Proofs.YtlngjgcodknpiaaW.PrintWords Go.Proofs.YtlngjgcodknpiaaW.PrintMore
open Go.Proofs.Ytlngjgcodknpiaa
set_option linter.unusedVariables false
/-- THE PURE STATEMENT of emenderlaw09_StepMaps. -/
def emenderlaw09_StepMaps.Pure : Prop := ∀ (a0_0 : Int) (a0_1 : Int) (a0_2 : Int) (a0_3 : Int) (a0_4 : Int) (a0_5 : Int) (l0_6 : List (S57)) (a0_7 : Int) (a1_0 : Int) (a1_1 : Int) (a1_2 : Int) (a1_3 : Int) (a1_4 : Int) (a1_5 : Int) (l1_6 : List (S57)) (a1_7 : Int), (Lit.int .i64 a0_0).wf = true → (Lit.int .i64 a0_1).wf = true → (Lit.int .i64 a0_2).wf = true → (Lit.int .i64 a0_3).wf = true → (Lit.int .i64 a0_4).wf = true → (Lit.int .i64 a0_5).wf = true → l0_6.length ≤ 9223372036854775807 → (∀ y_ ∈ l0_6, op57_wf y_) → (Lit.int .i64 a0_7).wf = true → (Lit.int .i64 a1_0).wf = true → (Lit.int .i64 a1_1).wf = true → (Lit.int .i64 a1_2).wf = true → (Lit.int .i64 a1_3).wf = true → (Lit.int .i64 a1_4).wf = true → (Lit.int .i64 a1_5).wf = true → l1_6.length ≤ 9223372036854775807 → (∀ y_ ∈ l1_6, op57_wf y_) → (Lit.int .i64 a1_7).wf = true → ∃ k, emenderlaw09_StepMaps.f k a0_0 a0_1 a0_2 a0_3 a0_4 a0_5 l0_6 a0_7 a1_0 a1_1 a1_2 a1_3 a1_4 a1_5 l1_6 a1_7 = some true
end Go.Proofs.Ytlngjgcodknpiaa.PSm
