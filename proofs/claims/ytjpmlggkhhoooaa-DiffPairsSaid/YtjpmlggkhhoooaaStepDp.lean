/- A step that may be done, from what is known of it; tokens of a document are right; what is the same is equal. -/
import Derived.Test.YtjpmlggkhhoooaaPDpx0
import Derived.Test.YtjpmlggkhhoooaaStepBp
namespace Go.Proofs.Ytjpmlggkhhoooaa.StepD
open Go.RowKit Go.Proofs.YtjpmlggkhhoooaaW.PrintWords Go.Proofs.YtjpmlggkhhoooaaW.PrintMore
open Go.Proofs.Ytjpmlggkhhoooaa Go.Proofs.Ytjpmlggkhhoooaa.PDp Go.Proofs.Ytjpmlggkhhoooaa.StepA Go.Proofs.Ytjpmlggkhhoooaa.StepB
set_option linter.unusedSimpArgs false
set_option linter.unusedVariables false

theorem mem_mid {l : List S64} {a b : Nat} : ∀ t ∈ (l.take a).drop b, t ∈ l := fun t ht => List.mem_of_mem_take (List.mem_of_mem_drop ht)
theorem glue (l : List S64) {a b : Nat} (h : a ≤ b) : l.take a ++ (l.take b).drop a = l.take b := by
  have := List.take_append_drop a (l.take b)
  rwa [List.take_take, Nat.min_eq_left h] at this
theorem eqT_eq (t u : S64) (h : eqT t u = true) : t = u := by
  cases t; cases u
  simp [eqT] at h
  simp [h]
theorem eqT_refl (t : S64) : eqT t t = true := by simp [eqT]
theorem sameL_eq : ∀ (a b : List S64), sameL a b = true → a = b
  | [], [], _ => rfl
  | t :: a, u :: b, h => by
    simp only [sameL, Bool.and_eq_true] at h
    rw [sameL_eq a b h.2, eqT_eq t u h.1]
  | [], _ :: _, h => by cases h
  | _ :: _, [], h => by cases h
end Go.Proofs.Ytjpmlggkhhoooaa.StepD
