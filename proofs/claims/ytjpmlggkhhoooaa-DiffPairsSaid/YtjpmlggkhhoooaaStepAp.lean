/- What the printed functions of step tell: the check of a step, the doing of it, in plain words. -/
import Derived.Test.YtjpmlggkhhoooaaPDpx0
namespace Go.Proofs.Ytjpmlggkhhoooaa.StepA
open Go.RowKit Go.Proofs.YtjpmlggkhhoooaaW.PrintWords Go.Proofs.YtjpmlggkhhoooaaW.PrintMore
open Go.Proofs.Ytjpmlggkhhoooaa Go.Proofs.Ytjpmlggkhhoooaa.PDp
set_option linter.unusedSimpArgs false
set_option linter.unusedVariables false

theorem w64 {i : Int} (h : -9223372036854775808 ≤ i ∧ i ≤ 9223372036854775807) : wrap64 i = i := by unfold wrap64; omega
theorem wf64 {n : Int} (h : (Lit.int .i64 n).wf = true) : -9223372036854775808 ≤ n ∧ n ≤ 9223372036854775807 := by
  simp [Lit.wf, IntKind.min, IntKind.max, IntKind.signed, IntKind.bits] at h
  omega
theorem rd_get (l : List S64) (i : Int) (h : i.toNat < l.length) : rd_T64 l i = l[i.toNat] := by
  simp [rd_T64, List.getD_eq_getElem?_getD, List.getElem?_eq_getElem h]
theorem lift {α : Type} (f : Nat → Option α) (hm : ∀ k, LeO (f k) (f (k + 1))) {k : Nat} {v : α} (h : f k = some v) : ∀ j, f (k + j) = some v
  | 0 => h
  | j + 1 => hm (k + j) v (lift f hm h j)
theorem lift_le {α : Type} (f : Nat → Option α) (hm : ∀ k, LeO (f k) (f (k + 1))) {k n : Nat} {v : α} (h : f k = some v) (hn : k ≤ n) : f n = some v := by
  have := lift f hm h (n - k)
  rwa [show k + (n - k) = n by omega] at this

/-! ### What is right -/
/-- What the check of tokens answers. -/
def one (m : Int) : Bool := decide (m = 1 ∨ m = 2 ∨ m = 4)
def mayE (s m : Int) : Int := if one m = true then (if 0 ≤ s ∧ s ≤ 4 then 0 else 4) else 1
def okKind (K F T GF GT N : Int) (l : List S64) (M : Int) : Bool :=
  if K = 1 then decide (F ≤ GF ∧ GF < GT ∧ GT ≤ T ∧ 0 ≤ N ∧ N ≤ (l.length : Int)) && M == 0
  else if K = 0 then M == 0 && (GF == 0 && (GT == 0 && N == 0))
  else if K = 2 ∨ K = 3 then decide (F < T ∧ one M = true ∧ (l.length : Int) = 0) && (GF == 0 && (GT == 0 && N == 0))
  else false
end Go.Proofs.Ytjpmlggkhhoooaa.StepA
