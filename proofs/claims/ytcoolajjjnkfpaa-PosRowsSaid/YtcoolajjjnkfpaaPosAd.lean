/- What the printed functions of layer 8 tell, in plain words. -/
import Derived.Test.YtcoolajjjnkfpaaPPdx0
import Derived.Test.YtcoolajjjnkfpaaPPdx1
import Derived.Test.YtcoolajjjnkfpaaPPdx12
import Derived.Test.YtcoolajjjnkfpaaPPdx2
namespace Go.Proofs.Ytcoolajjjnkfpaa.PosA
open Go.RowKit Go.Proofs.YtcoolajjjnkfpaaW.PrintWords Go.Proofs.YtcoolajjjnkfpaaW.PrintMore
open Go.Proofs.Ytcoolajjjnkfpaa Go.Proofs.Ytcoolajjjnkfpaa.PPd

theorem w64 {i : Int} (h : -9223372036854775808 ≤ i ∧ i ≤ 9223372036854775807) : wrap64 i = i := by unfold wrap64; omega
theorem wf64 {n : Int} (h : (Lit.int .i64 n).wf = true) : -9223372036854775808 ≤ n ∧ n ≤ 9223372036854775807 := by
  simp [Lit.wf, IntKind.min, IntKind.max, IntKind.signed, IntKind.bits] at h
  omega
theorem rd_get (l : List S37) (i : Nat) (h : i < l.length) : rd_T37 l (i : Int) = l[i] := by
  simp [rd_T37, List.getD_eq_getElem?_getD, List.getElem?_eq_getElem h]

/-! ### Right -/
theorem right_f (l : List S37) (hs : l.length ≤ 9223372036854775807) (k : Nat) (h : l.length + 2 ≤ k) : pos_Right.f k l = some (pos_Right.okB l) := by
  have := pos_Right.mono_le l _ _ (pos_Right.f_eq l hs) (k - (l.length + 2))
  rwa [show l.length + 2 + (k - (l.length + 2)) = k by omega] at this
theorem okL_bad {last : Int} {r : S37} {rs : List S37} (h : r.f0 < last ∨ r.f0 > 65536 ∨ r.f1 < 0 ∨ r.f1 > 65536 ∨ r.f2 < 0 ∨ r.f2 > 65536) : pos_Right.okL last (r :: rs) = false := by
  unfold pos_Right.okL mx mn
  by_cases a1 : r.f0 < last
  · rw [if_pos a1]
  rw [if_neg a1]
  by_cases a2 : (if (if r.f0 < r.f1 then r.f1 else r.f0) < r.f2 then r.f2 else if r.f0 < r.f1 then r.f1 else r.f0) > 65536
  · rw [if_pos a2]
  rw [if_neg a2]
  by_cases a3 : (if r.f2 < r.f1 then r.f2 else r.f1) < 0
  · rw [if_pos a3]
  exfalso
  split at a2 <;> split at a2 <;> split at a3 <;> omega
theorem okL_good {last : Int} {r : S37} {rs : List S37} (h : ¬ (r.f0 < last ∨ r.f0 > 65536 ∨ r.f1 < 0 ∨ r.f1 > 65536 ∨ r.f2 < 0 ∨ r.f2 > 65536)) : pos_Right.okL last (r :: rs) = pos_Right.okL (r.f0 + r.f1) rs := by
  rw [pos_Right.okL]
  unfold mx mn
  rw [if_neg (by omega), if_neg, if_neg]
  · split <;> omega
  · split <;> split <;> omega
theorem refRight_l0 (l : List S37) (h4 : l.length ≤ 4) : ∀ (k i : Nat) (last : Int), i ≤ l.length → l.length - i < k → 0 ≤ last → emenderref08_Right.l0 k l last (i : Int) = some (pos_Right.okL last (l.drop i))
  | 0, _, _, _, h, _ => by omega
  | k + 1, i, last, hi, hk, h0 => by
    unfold emenderref08_Right.l0
    by_cases hlt : i < l.length
    · have k1 : i + 1 ≤ l.length := hlt
      have k2 : l.length - (i + 1) < k := by omega
      have w2 : wrap64 ((i : Int) + 1) = ((i + 1 : Nat) : Int) := w64 (by omega)
      rw [if_pos (by omega), if_pos (by omega), rd_get l i hlt, List.drop_eq_getElem_cons hlt]
      by_cases hb : l[i].f0 < last ∨ l[i].f0 > 65536 ∨ l[i].f1 < 0 ∨ l[i].f1 > 65536 ∨ l[i].f2 < 0 ∨ l[i].f2 > 65536
      · rw [okL_bad hb]
        by_cases b1 : l[i].f0 < last
        · rw [if_pos b1]
        rw [if_neg b1]
        by_cases b2 : l[i].f0 > 65536
        · rw [if_pos b2]
        rw [if_neg b2]
        by_cases b3 : l[i].f1 < 0
        · rw [if_pos b3]
        rw [if_neg b3]
        by_cases b4 : l[i].f1 > 65536
        · rw [if_pos b4]
        rw [if_neg b4]
        by_cases b5 : l[i].f2 < 0
        · rw [if_pos b5]
        rw [if_neg b5, if_pos (by omega)]
      · rw [okL_good hb, if_neg (by omega), if_neg (by omega), if_neg (by omega), if_neg (by omega), if_neg (by omega), if_neg (by omega), w2, w64 (by omega)]
        exact refRight_l0 l h4 k (i + 1) _ k1 k2 (by omega)
    · rw [if_neg (by omega), List.drop_of_length_le (by omega)]
      rfl
theorem refRight_f (l : List S37) (k : Nat) (h : l.length + 2 ≤ k) : emenderref08_Right.f k l = some (pos_Right.okB l) := by
  unfold emenderref08_Right.f pos_Right.okB
  by_cases h4 : (l.length : Int) > 4
  · rw [if_pos h4, decide_eq_false (by omega), Bool.and_false]
  · rw [if_neg h4, decide_eq_true (by omega), Bool.and_true]
    exact refRight_l0 l (by omega) k 0 0 (by omega) (by omega) (by omega)
theorem sorted : ∀ (l : List S37) (last : Int), pos_Right.okL last l = true → ∀ i (hi : i < l.length), last ≤ l[i].f0 ∧ ∀ j (hj : j < l.length), i < j → l[i].f0 + l[i].f1 ≤ l[j].f0
  | [], _, _, i, hi => by simp at hi
  | r :: rs, last, h, i, hi => by
    have hb : ¬ (r.f0 < last ∨ r.f0 > 65536 ∨ r.f1 < 0 ∨ r.f1 > 65536 ∨ r.f2 < 0 ∨ r.f2 > 65536) := fun hb => by rw [okL_bad hb] at h; cases h
    rw [okL_good hb] at h
    have ih := sorted rs _ h
    cases i with
    | zero =>
      refine ⟨by simp only [List.getElem_cons_zero]; omega, fun j hj hij => ?_⟩
      cases j with
      | zero => omega
      | succ j => simpa using (ih j (by simpa using hj)).1
    | succ i =>
      have := ih i (by simpa using hi)
      refine ⟨by simp only [List.getElem_cons_succ]; omega, fun j hj hij => ?_⟩
      cases j with
      | zero => omega
      | succ j => simpa using this.2 j (by simpa using hj) (by omega)

/-! ### shift -/
theorem shift_l0 (l : List S37) (hok : pos_each.Ok l) (n : Nat) (hn : n ≤ l.length) : ∀ (k j : Nat), j ≤ n → n - j < k → emenderref08_shift.l0 k l (n : Int) (pos_each.sh l j) (j : Int) = some (pos_each.sh l n)
  | 0, _, _, h => by omega
  | k + 1, j, hj, hk => by
    unfold emenderref08_shift.l0
    by_cases hlt : j < n
    · have hb := pos_each.sh_bound hok j (by omega)
      have h4 := hok.1
      have hg := hok.get (j : Int) (by omega)
      have hs := pos_each.sh_succ l (j : Int) (by omega)
      rw [Int.toNat_natCast] at hs
      rw [if_pos (by omega), if_pos (by omega), if_pos (by omega), w64 (i := pos_each.sh l j + _) (by omega), w64 (i := (j : Int) + 1) (by omega), w64 (by omega), show pos_each.sh l j + (rd_T37 l (j : Int)).f2 - (rd_T37 l (j : Int)).f1 = pos_each.sh l (j + 1) by omega]
      exact shift_l0 l hok n hn k (j + 1) hlt (by omega)
    · obtain rfl : j = n := by omega
      rw [if_neg (by omega)]
theorem shift_f (l : List S37) (hok : pos_each.Ok l) (n : Nat) (hn : n ≤ l.length) (k : Nat) (hk : n < k) : emenderref08_shift.f k l (n : Int) = some (pos_each.sh l n) := shift_l0 l hok n hn k 0 (by omega) (by omega)

end Go.Proofs.Ytcoolajjjnkfpaa.PosA
