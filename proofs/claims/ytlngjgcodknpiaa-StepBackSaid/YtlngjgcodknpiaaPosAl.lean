/- What the printed functions of layer 8 tell, in plain words. -/
import Derived.Test.YtlngjgcodknpiaaPSlx0
import Derived.Test.YtlngjgcodknpiaaPSlx10
import Derived.Test.YtlngjgcodknpiaaPSlx11
namespace Go.Proofs.Ytlngjgcodknpiaa.PosA
open Go.RowKit Go.Proofs.YtlngjgcodknpiaaW.PrintWords Go.Proofs.YtlngjgcodknpiaaW.PrintMore
open Go.Proofs.Ytlngjgcodknpiaa Go.Proofs.Ytlngjgcodknpiaa.PSl

theorem w64 {i : Int} (h : -9223372036854775808 ≤ i ∧ i ≤ 9223372036854775807) : wrap64 i = i := by unfold wrap64; omega
theorem wf64 {n : Int} (h : (Lit.int .i64 n).wf = true) : -9223372036854775808 ≤ n ∧ n ≤ 9223372036854775807 := by
  simp [Lit.wf, IntKind.min, IntKind.max, IntKind.signed, IntKind.bits] at h
  omega
theorem rd_get (l : List S51) (i : Nat) (h : i < l.length) : rd_T51 l (i : Int) = l[i] := by
  simp [rd_T51, List.getD_eq_getElem?_getD, List.getElem?_eq_getElem h]

/-! ### Right -/
theorem right_f (l : List S51) (hs : l.length ≤ 4611686018427387904) (k : Nat) (h : l.length + 2 ≤ k) : pos_Right.f k l = some (pos_Right.okB l) := by
  have := pos_Right.mono_le l _ _ (pos_Right.f_eq l hs) (k - (l.length + 2))
  rwa [show l.length + 2 + (k - (l.length + 2)) = k by omega] at this
theorem okL_bad {last : Int} {r : S51} {rs : List S51} (h : r.f0 < last ∨ r.f0 > 65536 ∨ r.f1 < 0 ∨ r.f1 > 65536 ∨ r.f2 < 0 ∨ r.f2 > 65536) : pos_Right.okL last (r :: rs) = false := by
  unfold pos_Right.okL mx mn
  by_cases a1 : r.f0 < last
  · rw [if_pos a1]
  rw [if_neg a1]
  by_cases a2 : (if (if r.f0 < r.f1 then r.f1 else r.f0) < r.f2 then r.f2 else if r.f0 < r.f1 then r.f1 else r.f0) > 65536
  · rw [if_pos a2]
  rw [if_neg a2]
  by_cases a3 : (if r.f2 < r.f1 then r.f2 else r.f1) < 0
  · rw [if_pos a3]
  exfalso
  split at a2 <;> split at a2 <;> split at a3 <;> omega
theorem okL_good {last : Int} {r : S51} {rs : List S51} (h : ¬ (r.f0 < last ∨ r.f0 > 65536 ∨ r.f1 < 0 ∨ r.f1 > 65536 ∨ r.f2 < 0 ∨ r.f2 > 65536)) : pos_Right.okL last (r :: rs) = pos_Right.okL (r.f0 + r.f1) rs := by
  rw [pos_Right.okL]
  unfold mx mn
  rw [if_neg (by omega), if_neg, if_neg]
  · split <;> omega
  · split <;> split <;> omega
theorem sorted : ∀ (l : List S51) (last : Int), pos_Right.okL last l = true → ∀ i (hi : i < l.length), last ≤ l[i].f0 ∧ ∀ j (hj : j < l.length), i < j → l[i].f0 + l[i].f1 ≤ l[j].f0
  | [], _, _, i, hi => by simp at hi
  | r :: rs, last, h, i, hi => by
    have hb : ¬ (r.f0 < last ∨ r.f0 > 65536 ∨ r.f1 < 0 ∨ r.f1 > 65536 ∨ r.f2 < 0 ∨ r.f2 > 65536) := fun hb => by rw [okL_bad hb] at h; cases h
    rw [okL_good hb] at h
    have ih := sorted rs _ h
    cases i with
    | zero =>
      refine ⟨by simp only [List.getElem_cons_zero]; omega, fun j hj hij => ?_⟩
      cases j with
      | zero => omega
      | succ j => simpa using (ih j (by simpa using hj)).1
    | succ i =>
      have := ih i (by simpa using hi)
      refine ⟨by simp only [List.getElem_cons_succ]; omega, fun j hj hij => ?_⟩
      cases j with
      | zero => omega
      | succ j => simpa using this.2 j (by simpa using hj) (by omega)

/-! ### shift -/
end Go.Proofs.Ytlngjgcodknpiaa.PosA
