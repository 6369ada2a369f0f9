/- What two lists share at both ends, in plain words. -/
import Derived.Test.YtjpmlggkhhoooaaPDpx0
import Derived.Test.YtjpmlggkhhoooaaPDpx4
import Derived.Test.YtjpmlggkhhoooaaPDpx5
import Derived.Test.YtjpmlggkhhoooaaPDpx6
import Derived.Test.YtjpmlggkhhoooaaStepDp
namespace Go.Proofs.Ytjpmlggkhhoooaa.DiffA
open Go.RowKit Go.Proofs.YtjpmlggkhhoooaaW.PrintWords Go.Proofs.YtjpmlggkhhoooaaW.PrintMore
open Go.Proofs.Ytjpmlggkhhoooaa Go.Proofs.Ytjpmlggkhhoooaa.PDp Go.Proofs.Ytjpmlggkhhoooaa.StepA Go.Proofs.Ytjpmlggkhhoooaa.StepB Go.Proofs.Ytjpmlggkhhoooaa.StepD
set_option linter.unusedSimpArgs false
set_option linter.unusedVariables false

/-- How many are the same at the beginning. -/
def com : List S64 → List S64 → Nat
  | t :: a, u :: b => if eqT t u = true then com a b + 1 else 0
  | _, _ => 0
theorem com_le1 : ∀ a b : List S64, com a b ≤ a.length
  | [], _ => by simp [com]
  | _ :: _, [] => by simp [com]
  | t :: a, u :: b => by
    unfold com
    split
    · have := com_le1 a b
      simp only [List.length_cons]; omega
    · omega
theorem com_le2 : ∀ a b : List S64, com a b ≤ b.length
  | [], _ => by simp [com]
  | _ :: _, [] => by simp [com]
  | t :: a, u :: b => by
    unfold com
    split
    · have := com_le2 a b
      simp only [List.length_cons]; omega
    · omega
theorem com_take : ∀ a b : List S64, a.take (com a b) = b.take (com a b)
  | [], _ => by simp [com]
  | _ :: _, [] => by simp [com]
  | t :: a, u :: b => by
    unfold com
    split
    · rename_i h
      rw [List.take_succ_cons, List.take_succ_cons, com_take a b, eqT_eq t u h]
    · rfl
theorem com_self : ∀ a : List S64, com a a = a.length
  | [] => rfl
  | t :: a => by
    unfold com
    rw [if_pos (eqT_refl t), com_self a, List.length_cons]
theorem shared_l0 (a b : List S64) (ha : a.length ≤ 4611686018427387904) (hb : b.length ≤ 4611686018427387904) : ∀ (k i : Nat), i ≤ a.length → i ≤ b.length → a.length - i < k → api_Token_26.l0 k a b (i : Int) = some (((i + com (a.drop i) (b.drop i) : Nat)) : Int)
  | 0, _, _, _, h => by omega
  | k + 1, i, h1, h2, hk => by
    rw [api_Token_26.l0]
    have hmn : (mn (a.length : Int) (b.length : Int)) = ((min a.length b.length : Nat) : Int) := by unfold mn; split <;> omega
    rw [hmn]
    by_cases c : i < min a.length b.length
    · have hia : i < a.length := by omega
      have hib : i < b.length := by omega
      rw [if_pos (by omega), if_pos (by omega), if_pos (by omega), if_pos (by omega), rd_get a (i : Int) (by simpa using hia), rd_get b (i : Int) (by simpa using hib)]
      simp only [Int.toNat_natCast]
      rw [List.drop_eq_getElem_cons hia, List.drop_eq_getElem_cons hib, com]
      change (if eqT a[i] b[i] = true then _ else _) = _
      by_cases e : eqT a[i] b[i] = true
      · rw [if_pos e, if_pos e, w64 (by omega)]
        have := shared_l0 a b ha hb k (i + 1) (by omega) (by omega) (by omega)
        rw [show ((i : Int) + 1) = ((i + 1 : Nat) : Int) by omega, this, show i + 1 + com (a.drop (i + 1)) (b.drop (i + 1)) = i + (com (a.drop (i + 1)) (b.drop (i + 1)) + 1) by omega]
      · rw [if_neg e, if_neg e, Nat.add_zero]
    · rw [if_neg (by omega)]
      have : com (a.drop i) (b.drop i) = 0 := by
        by_cases d : a.length ≤ i
        · have := com_le1 (a.drop i) (b.drop i)
          rw [List.length_drop] at this
          omega
        · have := com_le2 (a.drop i) (b.drop i)
          rw [List.length_drop] at this
          omega
      rw [this, Nat.add_zero]
theorem shared_f (a b : List S64) (ha : a.length ≤ 4611686018427387904) (hb : b.length ≤ 4611686018427387904) (k : Nat) (hk : a.length < k) : api_Token_26.f k a b = some ((com a b : Nat) : Int) := by
  unfold api_Token_26.f
  have := shared_l0 a b ha hb k 0 (by omega) (by omega) (by omega)
  rw [Nat.zero_add] at this
  simpa using this
theorem clone_f (a : List S64) (ha : a.length < 4398046511104) : api_Token_27.f a = some a := by
  unfold api_Token_27.f
  rw [Option.bind_some, if_pos (by simpa using ha)]
  rfl
theorem reverse_l0 : ∀ (d k i j : Nat) (x : List S64), x.length ≤ 4611686018427387904 → (i < j → j < x.length) → j ≤ 4611686018427387904 → i ≤ 4611686018427387904 → j - i ≤ d → d < k → ∃ y, api_Token_28.l0 k x (i : Int) (j : Int) = some y ∧ y.length = x.length ∧ ∀ p : Nat, y[p]? = if i ≤ p ∧ p ≤ j then x[i + j - p]? else x[p]? := by
  intro d
  induction d using Nat.strongRecOn with
  | ind d ih =>
    intro k i j x hx hj hj2 hi2 hd hk
    obtain ⟨k, rfl⟩ : ∃ m, k = m + 1 := ⟨k - 1, by omega⟩
    rw [api_Token_28.l0]
    by_cases c : i < j
    · have hjl := hj c
      have hil : i < x.length := by omega
      rw [if_pos (by omega), if_pos (by omega), if_pos (by omega), if_pos (by omega), if_pos (by omega), rd_get x (j : Int) (by simpa using hjl), rd_get x (i : Int) (by simpa using hil), w64 (by omega), w64 (by omega)]
      simp only [Int.toNat_natCast]
      obtain ⟨y, h1, h2, h3⟩ := ih (d - 1) (by omega) k (i + 1) (j - 1) ((x.set i x[j]).set j x[i]) (by simpa using hx) (by simp; omega) (by omega) (by omega) (by omega) (by omega)
      refine ⟨y, ?_, by simpa using h2, fun p => ?_⟩
      · rw [show ((i : Int) + 1) = ((i + 1 : Nat) : Int) by omega, show ((j : Int) - 1) = ((j - 1 : Nat) : Int) by omega]
        exact h1
      · rw [h3 p]
        by_cases q1 : p = i
        · subst q1
          rw [if_neg (by omega), if_pos (by omega), show p + j - p = j by omega, List.getElem?_set_ne (by omega), List.getElem?_set_self hil, List.getElem?_eq_getElem hjl]
        · by_cases q2 : p = j
          · subst q2
            rw [if_neg (by omega), if_pos (by omega), show i + p - p = i by omega, List.getElem?_set_self (by simpa using hjl), List.getElem?_eq_getElem hil]
          · by_cases q3 : i ≤ p ∧ p ≤ j
            · rw [if_pos (by omega), if_pos q3, show i + 1 + (j - 1) - p = i + j - p by omega, List.getElem?_set_ne (by omega), List.getElem?_set_ne (by omega)]
            · rw [if_neg (by omega), if_neg q3, List.getElem?_set_ne (by omega), List.getElem?_set_ne (by omega)]
    · rw [if_neg (by omega)]
      refine ⟨x, rfl, rfl, fun p => ?_⟩
      split
      · rw [show i + j - p = p by omega]
      · rfl
theorem reverse_f (x : List S64) (hx : x.length ≤ 4611686018427387904) (k : Nat) (hk : x.length < k) : api_Token_28.f k x = some x.reverse := by
  unfold api_Token_28.f
  rw [w64 (by omega)]
  by_cases c : x.length = 0
  · obtain rfl := List.length_eq_zero_iff.mp c
    obtain ⟨k, rfl⟩ : ∃ m, k = m + 1 := ⟨k - 1, by omega⟩
    rw [api_Token_28.l0, if_neg (by simp)]
    rfl
  · obtain ⟨y, h1, h2, h3⟩ := reverse_l0 (x.length - 1) k 0 (x.length - 1) x hx (by omega) (by omega) (by omega) (by omega) (by omega)
    rw [show ((x.length : Int) - 1) = ((x.length - 1 : Nat) : Int) by omega]
    rw [Int.natCast_zero] at h1
    rw [h1]
    congr 1
    refine List.ext_getElem? fun p => ?_
    rw [h3 p]
    by_cases q : p < x.length
    · rw [if_pos (by omega), List.getElem?_reverse q, show 0 + (x.length - 1) - p = x.length - 1 - p by omega]
    · rw [if_neg (by omega), List.getElem?_eq_none (by omega), List.getElem?_eq_none (by simpa using by omega)]
/-- What is the same at the end. -/
def tailN (a b : List S64) : Nat := com (a.drop (com a b)).reverse (b.drop (com a b)).reverse
theorem ends_f (a b : List S64) (ha : a.length < 4398046511104) (hb : b.length < 4398046511104) (k : Nat) (hk : a.length + b.length < k) : diff_Ends.f k a b = some (((com a b : Nat) : Int), ((tailN a b : Nat) : Int)) := by
  have l1 := com_le1 a b
  have l2 := com_le2 a b
  unfold diff_Ends.f
  rw [shared_f a b (by omega) (by omega) k (by omega), Option.bind_some, if_pos (by omega), if_pos (by omega)]
  simp only [Int.toNat_natCast]
  rw [clone_f _ (by rw [List.length_drop]; omega), Option.bind_some, if_pos (by omega), clone_f _ (by rw [List.length_drop]; omega), Option.bind_some,
    reverse_f _ (by rw [List.length_drop]; omega) k (by rw [List.length_drop]; omega), Option.bind_some, reverse_f _ (by rw [List.length_drop]; omega) k (by rw [List.length_drop]; omega), Option.bind_some,
    shared_f _ _ (by rw [List.length_reverse, List.length_drop]; omega) (by rw [List.length_reverse, List.length_drop]; omega) k (by rw [List.length_reverse, List.length_drop]; omega), Option.bind_some]
  rfl
theorem tailN_le1 (a b : List S64) : com a b + tailN a b ≤ a.length := by
  have := com_le1 (a.drop (com a b)).reverse (b.drop (com a b)).reverse
  rw [List.length_reverse, List.length_drop] at this
  have := com_le1 a b
  unfold tailN
  omega
theorem tailN_le2 (a b : List S64) : com a b + tailN a b ≤ b.length := by
  have := com_le2 (a.drop (com a b)).reverse (b.drop (com a b)).reverse
  rw [List.length_reverse, List.length_drop] at this
  have := com_le2 a b
  unfold tailN
  omega
theorem tail_drop (a b : List S64) : a.drop (a.length - tailN a b) = b.drop (b.length - tailN a b) := by
  have h := com_take (a.drop (com a b)).reverse (b.drop (com a b)).reverse
  change List.take (tailN a b) _ = List.take (tailN a b) _ at h
  have l1 := tailN_le1 a b
  have l2 := tailN_le2 a b
  rw [List.take_reverse, List.take_reverse] at h
  have h := List.reverse_inj.mp h
  rw [List.drop_drop, List.drop_drop, List.length_drop, List.length_drop] at h
  rwa [show com a b + (a.length - com a b - tailN a b) = a.length - tailN a b by omega, show com a b + (b.length - com a b - tailN a b) = b.length - tailN a b by omega] at h
theorem tailN_self (a : List S64) : tailN a a = 0 := by
  unfold tailN
  have h : a.drop (com a a) = [] := by rw [com_self, List.drop_length]
  rw [h]
  rfl
/-- What is between both ends, put in the place of the other's. -/
theorem glued (a b : List S64) : a.take (com a b) ++ ((b.take (b.length - tailN a b)).drop (com a b) ++ a.drop (a.length - tailN a b)) = b := by
  have l2 := tailN_le2 a b
  rw [com_take, tail_drop, ← List.append_assoc, glue b (by omega), List.take_append_drop]
theorem awake23 (k : Nat) (hk : 10 ≤ k) : emenderlaw23_awake.f k = some true := by
  unfold emenderlaw23_awake.f
  rw [ends_f _ _ (by simp) (by simp) k (by simp; omega), Option.bind_some]
  rfl
end Go.Proofs.Ytjpmlggkhhoooaa.DiffA
