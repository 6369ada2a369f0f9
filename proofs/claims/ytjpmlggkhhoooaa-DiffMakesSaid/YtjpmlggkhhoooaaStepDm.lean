/- A step that may be done, from what is known of it; tokens of a document are right; what is the same is equal. -/
import Derived.Test.YtjpmlggkhhoooaaPDmx0
import Derived.Test.YtjpmlggkhhoooaaPDmx3
import Derived.Test.YtjpmlggkhhoooaaStepBm
namespace Go.Proofs.Ytjpmlggkhhoooaa.StepD
open Go.RowKit Go.Proofs.YtjpmlggkhhoooaaW.PrintWords Go.Proofs.YtjpmlggkhhoooaaW.PrintMore
open Go.Proofs.Ytjpmlggkhhoooaa Go.Proofs.Ytjpmlggkhhoooaa.PDm Go.Proofs.Ytjpmlggkhhoooaa.StepA Go.Proofs.Ytjpmlggkhhoooaa.StepB
set_option linter.unusedSimpArgs false
set_option linter.unusedVariables false

theorem chk_of {K F T GF GT N : Int} {sl : List S64} {M : Int} (h : Sound K F T GF GT N sl M) : chk K F T GF GT N sl M = 0 := by
  unfold chk
  rw [if_neg (by have := h.len; omega), if_pos]
  rw [h.kind, h.all, decide_eq_true ⟨h.f0, h.ft, h.t⟩]
  rfl
theorem A_of {x l : List S64} {K F T GF GT N : Int} {sl : List S64} {M : Int} (h : Sound K F T GF GT N sl M) (hx : (fc x).2 = 0) (hT : T ≤ (x.length : Int)) (hD : D x K F T GF GT N sl M = l) (hl : (fc l).2 = 0) : A x K F T GF GT N sl M = (l, 0) := by
  unfold A
  rw [if_pos hx, if_pos (chk_of h), if_neg (by omega), hD, if_pos hl]
theorem rt_l0 : ∀ (l : List S64) (n i : Int), ((flat_Check.l0 l n i).getD (0, 0)).2 = 0 → l.all rt = true
  | [], _, _, _ => rfl
  | x :: xs, n, i, h => by
    unfold flat_Check.l0 at h
    rw [flat_right, Option.bind_some] at h
    by_cases c : right x.f0 x.f1 x.f2 x.f3 = true
    · rw [if_pos c] at h
      have hx : rt x = true := c
      rw [List.all_cons, hx, Bool.true_and]
      split at h
      · split at h
        · cases h
        · exact rt_l0 xs _ _ h
      · split at h
        · split at h
          · cases h
          · exact rt_l0 xs _ _ h
        · exact rt_l0 xs _ _ h
    · rw [if_neg c] at h
      cases h
theorem rt_all {l : List S64} (h : (fc l).2 = 0) : ∀ t ∈ l, rt t = true := by
  have : l.all rt = true := by
    unfold fc flat_Check.f at h
    split at h
    · cases h
    · exact rt_l0 l 0 0 h
  exact fun t ht => List.all_eq_true.1 this t ht
theorem rt_part {l p : List S64} (h : (fc l).2 = 0) (hp : ∀ t ∈ p, t ∈ l) : p.all rt = true := List.all_eq_true.2 fun t ht => rt_all h t (hp t ht)
theorem mem_mid {l : List S64} {a b : Nat} : ∀ t ∈ (l.take a).drop b, t ∈ l := fun t ht => List.mem_of_mem_take (List.mem_of_mem_drop ht)
theorem glue (l : List S64) {a b : Nat} (h : a ≤ b) : l.take a ++ (l.take b).drop a = l.take b := by
  have := List.take_append_drop a (l.take b)
  rwa [List.take_take, Nat.min_eq_left h] at this
theorem eqT_eq (t u : S64) (h : eqT t u = true) : t = u := by
  cases t; cases u
  simp [eqT] at h
  simp [h]
theorem eqT_refl (t : S64) : eqT t t = true := by simp [eqT]
theorem sameL_eq : ∀ (a b : List S64), sameL a b = true → a = b
  | [], [], _ => rfl
  | t :: a, u :: b, h => by
    simp only [sameL, Bool.and_eq_true] at h
    rw [sameL_eq a b h.2, eqT_eq t u h.1]
  | [], _ :: _, h => by cases h
  | _ :: _, [], h => by cases h
end Go.Proofs.Ytjpmlggkhhoooaa.StepD
