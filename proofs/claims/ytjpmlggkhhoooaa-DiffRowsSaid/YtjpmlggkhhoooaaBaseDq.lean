/- Plain laws under one roof. -/
import Derived.Test.YtjpmlggkhhoooaaPDqx0
import Derived.Test.YtjpmlggkhhoooaaPDqy1
import Derived.Test.YtjpmlggkhhoooaaPDqy0
import Derived.Test.YtjpmlggkhhoooaaPDqy2
import Derived.Test.YtjpmlggkhhoooaaPDqy5
import Derived.Test.YtjpmlggkhhoooaaPDqy6
import Derived.Test.YtjpmlggkhhoooaaPDqy4
import Derived.Test.YtjpmlggkhhoooaaPDqy7
/- What the printed functions of step tell: the check of a step, the doing of it, in plain words. -/
namespace Go.Proofs.Ytjpmlggkhhoooaa.StepA
open Go.RowKit Go.Proofs.YtjpmlggkhhoooaaW.PrintWords Go.Proofs.YtjpmlggkhhoooaaW.PrintMore
open Go.Proofs.Ytjpmlggkhhoooaa Go.Proofs.Ytjpmlggkhhoooaa.PDq
set_option linter.unusedSimpArgs false
set_option linter.unusedVariables false

theorem w64 {i : Int} (h : -9223372036854775808 ≤ i ∧ i ≤ 9223372036854775807) : wrap64 i = i := by unfold wrap64; omega
theorem rd_get (l : List S64) (i : Int) (h : i.toNat < l.length) : rd_T64 l i = l[i.toNat] := by
  simp [rd_T64, List.getD_eq_getElem?_getD, List.getElem?_eq_getElem h]

def right (a b c d : Int) : Bool := (flat_Right.f a b c d).getD false
theorem flat_right (a b c d : Int) : flat_Right.f a b c d = some (right a b c d) := by
  have h : ∃ r, flat_Right.f a b c d = some r := by
    unfold flat_Right.f mark_Right.f
    repeat' split
    all_goals first | exact ⟨_, rfl⟩ | (simp only [Option.bind_some]; exact ⟨_, rfl⟩)
  obtain ⟨r, h⟩ := h
  rw [right, h]
  rfl
def rt (t : S64) : Bool := right t.f0 t.f1 t.f2 t.f3
theorem check_some : ∀ (l : List S64) (n i : Int), ∃ r, flat_Check.l0 l n i = some r
  | [], n, i => by
    unfold flat_Check.l0
    split <;> exact ⟨_, rfl⟩
  | t :: ts, n, i => by
    unfold flat_Check.l0
    rw [flat_right, Option.bind_some]
    split
    · split
      · split
        · exact ⟨_, rfl⟩
        · exact check_some ts _ _
      · split
        · split
          · exact ⟨_, rfl⟩
          · exact check_some ts _ _
        · exact check_some ts _ _
    · exact ⟨_, rfl⟩
def fc (l : List S64) : Int × Int := (flat_Check.f l).getD (0, 0)
theorem flat_check (l : List S64) : flat_Check.f l = some (fc l) := by
  have : ∃ r, flat_Check.f l = some r := by
    unfold flat_Check.f
    split
    · exact ⟨_, rfl⟩
    · exact check_some l 0 0
  obtain ⟨r, h⟩ := this
  rw [fc, h]
  rfl

def one (m : Int) : Bool := decide (m = 1 ∨ m = 2 ∨ m = 4)
def okKind (K F T GF GT N : Int) (l : List S64) (M : Int) : Bool :=
  if K = 1 then decide (F ≤ GF ∧ GF < GT ∧ GT ≤ T ∧ 0 ≤ N ∧ N ≤ (l.length : Int)) && M == 0
  else if K = 0 then M == 0 && (GF == 0 && (GT == 0 && N == 0))
  else if K = 2 ∨ K = 3 then decide (F < T ∧ one M = true ∧ (l.length : Int) = 0) && (GF == 0 && (GT == 0 && N == 0))
  else false
structure Sound (K F T GF GT N : Int) (l : List S64) (M : Int) : Prop where
  len : l.length ≤ 2048
  f0 : 0 ≤ F
  ft : F ≤ T
  t : T ≤ 2048
  kind : okKind K F T GF GT N l M = true
  all : l.all rt = true
end Go.Proofs.Ytjpmlggkhhoooaa.StepA
/- The doing of a step, in plain words. -/
namespace Go.Proofs.Ytjpmlggkhhoooaa.StepB
open Go.RowKit Go.Proofs.YtjpmlggkhhoooaaW.PrintWords Go.Proofs.YtjpmlggkhhoooaaW.PrintMore
open Go.Proofs.Ytjpmlggkhhoooaa Go.Proofs.Ytjpmlggkhhoooaa.PDq Go.Proofs.Ytjpmlggkhhoooaa.StepA
set_option linter.unusedSimpArgs false
set_option linter.unusedVariables false

def eqT (t u : S64) : Bool := t.f0 == u.f0 && (t.f1 == u.f1 && (t.f2 == u.f2 && t.f3 == u.f3))
def sameL : List S64 → List S64 → Bool
  | [], [] => true
  | t :: a, u :: b => eqT t u && sameL a b
  | _, _ => false
theorem sameL_refl : ∀ a : List S64, sameL a a = true
  | [] => rfl
  | t :: a => by simp [sameL, eqT, sameL_refl a]
theorem sameL_length : ∀ (a b : List S64), a.length ≠ b.length → sameL a b = false
  | [], [], h => absurd rfl h
  | [], _ :: _, _ => rfl
  | _ :: _, [], _ => rfl
  | t :: a, u :: b, h => by
    simp only [sameL]
    rw [sameL_length a b (by simpa using h)]
    simp
theorem ne_test (t u : S64) : (!(t.f0 == u.f0) || (!(t.f1 == u.f1) || (!(t.f2 == u.f2) || (!(t.f3 == u.f3))))) = !(eqT t u) := by
  unfold eqT
  cases t.f0 == u.f0 <;> cases t.f1 == u.f1 <;> cases t.f2 == u.f2 <;> cases t.f3 == u.f3 <;> rfl
theorem alike_loop (a b : List S64) (hab : a.length = b.length) (hl : a.length < 17592186044416) : ∀ (d k : Nat) (i : Int), 0 ≤ i → i + d = a.length → d < k → emenderlaw23_alike.l0 k a b i = some (sameL (a.drop i.toNat) (b.drop i.toNat)) := by
  intro d
  induction d with
  | zero =>
    intro k i h0 h1 hk
    obtain ⟨k, rfl⟩ : ∃ m, k = m + 1 := ⟨k - 1, by omega⟩
    simp only [emenderlaw23_alike.l0]
    rw [if_neg (by omega), List.drop_eq_nil_of_le (by omega), List.drop_eq_nil_of_le (by omega)]
    rfl
  | succ d ih =>
    intro k i h0 h1 hk
    obtain ⟨k, rfl⟩ : ∃ m, k = m + 1 := ⟨k - 1, by omega⟩
    have ha : i.toNat < a.length := by omega
    have hb : i.toNat < b.length := by omega
    simp only [emenderlaw23_alike.l0]
    rw [if_pos (by omega), if_pos h0, if_pos (by omega), rd_get a i ha, rd_get b i hb, ne_test, w64 (by omega), List.drop_eq_getElem_cons ha, List.drop_eq_getElem_cons hb]
    simp only [sameL]
    cases e : eqT a[i.toNat] b[i.toNat] with
    | false => simp
    | true =>
      rw [if_neg (by decide), ih k (i + 1) (by omega) (by omega) (by omega), show (i + 1).toNat = i.toNat + 1 by omega]
      simp
theorem alike (a b : List S64) (hl : a.length < 17592186044416) (k : Nat) (hk : a.length < k) : emenderlaw23_alike.f k a b = some (sameL a b) := by
  unfold emenderlaw23_alike.f
  by_cases h : (a.length : Int) = (b.length : Int)
  · rw [if_pos h, alike_loop a b (by omega) hl a.length k 0 (by omega) (by omega) hk]
    rfl
  · rw [if_neg h, sameL_length a b (by omega)]
end Go.Proofs.Ytjpmlggkhhoooaa.StepB
/- A step that may be done, from what is known of it; tokens of a document are right; what is the same is equal. -/
namespace Go.Proofs.Ytjpmlggkhhoooaa.StepD
open Go.RowKit Go.Proofs.YtjpmlggkhhoooaaW.PrintWords Go.Proofs.YtjpmlggkhhoooaaW.PrintMore
open Go.Proofs.Ytjpmlggkhhoooaa Go.Proofs.Ytjpmlggkhhoooaa.PDq Go.Proofs.Ytjpmlggkhhoooaa.StepA Go.Proofs.Ytjpmlggkhhoooaa.StepB
set_option linter.unusedSimpArgs false
set_option linter.unusedVariables false

end Go.Proofs.Ytjpmlggkhhoooaa.StepD
/- What two lists share at both ends, in plain words. -/
namespace Go.Proofs.Ytjpmlggkhhoooaa.DiffA
open Go.RowKit Go.Proofs.YtjpmlggkhhoooaaW.PrintWords Go.Proofs.YtjpmlggkhhoooaaW.PrintMore
open Go.Proofs.Ytjpmlggkhhoooaa Go.Proofs.Ytjpmlggkhhoooaa.PDq Go.Proofs.Ytjpmlggkhhoooaa.StepA Go.Proofs.Ytjpmlggkhhoooaa.StepB Go.Proofs.Ytjpmlggkhhoooaa.StepD
set_option linter.unusedSimpArgs false
set_option linter.unusedVariables false

def com : List S64 → List S64 → Nat
  | t :: a, u :: b => if eqT t u = true then com a b + 1 else 0
  | _, _ => 0
theorem com_le1 : ∀ a b : List S64, com a b ≤ a.length
  | [], _ => by simp [com]
  | _ :: _, [] => by simp [com]
  | t :: a, u :: b => by
    unfold com
    split
    · have := com_le1 a b
      simp only [List.length_cons]; omega
    · omega
theorem com_le2 : ∀ a b : List S64, com a b ≤ b.length
  | [], _ => by simp [com]
  | _ :: _, [] => by simp [com]
  | t :: a, u :: b => by
    unfold com
    split
    · have := com_le2 a b
      simp only [List.length_cons]; omega
    · omega
theorem shared_l0 (a b : List S64) (ha : a.length ≤ 4611686018427387904) (hb : b.length ≤ 4611686018427387904) : ∀ (k i : Nat), i ≤ a.length → i ≤ b.length → a.length - i < k → api_Token_26.l0 k a b (i : Int) = some (((i + com (a.drop i) (b.drop i) : Nat)) : Int)
  | 0, _, _, _, h => by omega
  | k + 1, i, h1, h2, hk => by
    rw [api_Token_26.l0]
    have hmn : (mn (a.length : Int) (b.length : Int)) = ((min a.length b.length : Nat) : Int) := by unfold mn; split <;> omega
    rw [hmn]
    by_cases c : i < min a.length b.length
    · have hia : i < a.length := by omega
      have hib : i < b.length := by omega
      rw [if_pos (by omega), if_pos (by omega), if_pos (by omega), if_pos (by omega), rd_get a (i : Int) (by simpa using hia), rd_get b (i : Int) (by simpa using hib)]
      simp only [Int.toNat_natCast]
      rw [List.drop_eq_getElem_cons hia, List.drop_eq_getElem_cons hib, com]
      change (if eqT a[i] b[i] = true then _ else _) = _
      by_cases e : eqT a[i] b[i] = true
      · rw [if_pos e, if_pos e, w64 (by omega)]
        have := shared_l0 a b ha hb k (i + 1) (by omega) (by omega) (by omega)
        rw [show ((i : Int) + 1) = ((i + 1 : Nat) : Int) by omega, this, show i + 1 + com (a.drop (i + 1)) (b.drop (i + 1)) = i + (com (a.drop (i + 1)) (b.drop (i + 1)) + 1) by omega]
      · rw [if_neg e, if_neg e, Nat.add_zero]
    · rw [if_neg (by omega)]
      have : com (a.drop i) (b.drop i) = 0 := by
        by_cases d : a.length ≤ i
        · have := com_le1 (a.drop i) (b.drop i)
          rw [List.length_drop] at this
          omega
        · have := com_le2 (a.drop i) (b.drop i)
          rw [List.length_drop] at this
          omega
      rw [this, Nat.add_zero]
theorem shared_f (a b : List S64) (ha : a.length ≤ 4611686018427387904) (hb : b.length ≤ 4611686018427387904) (k : Nat) (hk : a.length < k) : api_Token_26.f k a b = some ((com a b : Nat) : Int) := by
  unfold api_Token_26.f
  have := shared_l0 a b ha hb k 0 (by omega) (by omega) (by omega)
  rw [Nat.zero_add] at this
  simpa using this
theorem clone_f (a : List S64) (ha : a.length < 4398046511104) : api_Token_27.f a = some a := by
  unfold api_Token_27.f
  rw [Option.bind_some, if_pos (by simpa using ha)]
  rfl
theorem reverse_l0 : ∀ (d k i j : Nat) (x : List S64), x.length ≤ 4611686018427387904 → (i < j → j < x.length) → j ≤ 4611686018427387904 → i ≤ 4611686018427387904 → j - i ≤ d → d < k → ∃ y, api_Token_28.l0 k x (i : Int) (j : Int) = some y ∧ y.length = x.length ∧ ∀ p : Nat, y[p]? = if i ≤ p ∧ p ≤ j then x[i + j - p]? else x[p]? := by
  intro d
  induction d using Nat.strongRecOn with
  | ind d ih =>
    intro k i j x hx hj hj2 hi2 hd hk
    obtain ⟨k, rfl⟩ : ∃ m, k = m + 1 := ⟨k - 1, by omega⟩
    rw [api_Token_28.l0]
    by_cases c : i < j
    · have hjl := hj c
      have hil : i < x.length := by omega
      rw [if_pos (by omega), if_pos (by omega), if_pos (by omega), if_pos (by omega), if_pos (by omega), rd_get x (j : Int) (by simpa using hjl), rd_get x (i : Int) (by simpa using hil), w64 (by omega), w64 (by omega)]
      simp only [Int.toNat_natCast]
      obtain ⟨y, h1, h2, h3⟩ := ih (d - 1) (by omega) k (i + 1) (j - 1) ((x.set i x[j]).set j x[i]) (by simpa using hx) (by simp; omega) (by omega) (by omega) (by omega) (by omega)
      refine ⟨y, ?_, by simpa using h2, fun p => ?_⟩
      · rw [show ((i : Int) + 1) = ((i + 1 : Nat) : Int) by omega, show ((j : Int) - 1) = ((j - 1 : Nat) : Int) by omega]
        exact h1
      · rw [h3 p]
        by_cases q1 : p = i
        · subst q1
          rw [if_neg (by omega), if_pos (by omega), show p + j - p = j by omega, List.getElem?_set_ne (by omega), List.getElem?_set_self hil, List.getElem?_eq_getElem hjl]
        · by_cases q2 : p = j
          · subst q2
            rw [if_neg (by omega), if_pos (by omega), show i + p - p = i by omega, List.getElem?_set_self (by simpa using hjl), List.getElem?_eq_getElem hil]
          · by_cases q3 : i ≤ p ∧ p ≤ j
            · rw [if_pos (by omega), if_pos q3, show i + 1 + (j - 1) - p = i + j - p by omega, List.getElem?_set_ne (by omega), List.getElem?_set_ne (by omega)]
            · rw [if_neg (by omega), if_neg q3, List.getElem?_set_ne (by omega), List.getElem?_set_ne (by omega)]
    · rw [if_neg (by omega)]
      refine ⟨x, rfl, rfl, fun p => ?_⟩
      split
      · rw [show i + j - p = p by omega]
      · rfl
theorem reverse_f (x : List S64) (hx : x.length ≤ 4611686018427387904) (k : Nat) (hk : x.length < k) : api_Token_28.f k x = some x.reverse := by
  unfold api_Token_28.f
  rw [w64 (by omega)]
  by_cases c : x.length = 0
  · obtain rfl := List.length_eq_zero_iff.mp c
    obtain ⟨k, rfl⟩ : ∃ m, k = m + 1 := ⟨k - 1, by omega⟩
    rw [api_Token_28.l0, if_neg (by simp)]
    rfl
  · obtain ⟨y, h1, h2, h3⟩ := reverse_l0 (x.length - 1) k 0 (x.length - 1) x hx (by omega) (by omega) (by omega) (by omega) (by omega)
    rw [show ((x.length : Int) - 1) = ((x.length - 1 : Nat) : Int) by omega]
    rw [Int.natCast_zero] at h1
    rw [h1]
    congr 1
    refine List.ext_getElem? fun p => ?_
    rw [h3 p]
    by_cases q : p < x.length
    · rw [if_pos (by omega), List.getElem?_reverse q, show 0 + (x.length - 1) - p = x.length - 1 - p by omega]
    · rw [if_neg (by omega), List.getElem?_eq_none (by omega), List.getElem?_eq_none (by simpa using by omega)]
def tailN (a b : List S64) : Nat := com (a.drop (com a b)).reverse (b.drop (com a b)).reverse
theorem ends_f (a b : List S64) (ha : a.length < 4398046511104) (hb : b.length < 4398046511104) (k : Nat) (hk : a.length + b.length < k) : diff_Ends.f k a b = some (((com a b : Nat) : Int), ((tailN a b : Nat) : Int)) := by
  have l1 := com_le1 a b
  have l2 := com_le2 a b
  unfold diff_Ends.f
  rw [shared_f a b (by omega) (by omega) k (by omega), Option.bind_some, if_pos (by omega), if_pos (by omega)]
  simp only [Int.toNat_natCast]
  rw [clone_f _ (by rw [List.length_drop]; omega), Option.bind_some, if_pos (by omega), clone_f _ (by rw [List.length_drop]; omega), Option.bind_some,
    reverse_f _ (by rw [List.length_drop]; omega) k (by rw [List.length_drop]; omega), Option.bind_some, reverse_f _ (by rw [List.length_drop]; omega) k (by rw [List.length_drop]; omega), Option.bind_some,
    shared_f _ _ (by rw [List.length_reverse, List.length_drop]; omega) (by rw [List.length_reverse, List.length_drop]; omega) k (by rw [List.length_reverse, List.length_drop]; omega), Option.bind_some]
  rfl
theorem tailN_le1 (a b : List S64) : com a b + tailN a b ≤ a.length := by
  have := com_le1 (a.drop (com a b)).reverse (b.drop (com a b)).reverse
  rw [List.length_reverse, List.length_drop] at this
  have := com_le1 a b
  unfold tailN
  omega
theorem tailN_le2 (a b : List S64) : com a b + tailN a b ≤ b.length := by
  have := com_le2 (a.drop (com a b)).reverse (b.drop (com a b)).reverse
  rw [List.length_reverse, List.length_drop] at this
  have := com_le2 a b
  unfold tailN
  omega
theorem awake23 (k : Nat) (hk : 10 ≤ k) : emenderlaw23_awake.f k = some true := by
  unfold emenderlaw23_awake.f
  rw [ends_f _ _ (by simp) (by simp) k (by simp; omega), Option.bind_some]
  rfl
end Go.Proofs.Ytjpmlggkhhoooaa.DiffA
/- What the printed functions of layer 4 tell, as plain functions on lists of tokens. -/
namespace Go.Proofs.Ytjpmlggkhhoooaa.FlatA
open Go.RowKit Go.Proofs.YtjpmlggkhhoooaaW.PrintWords Go.Proofs.YtjpmlggkhhoooaaW.PrintMore
open Go.Proofs.Ytjpmlggkhhoooaa Go.Proofs.Ytjpmlggkhhoooaa.PDq

theorem rd_get (l : List S64) (i : Int) (h : i.toNat < l.length) : rd_T64 l i = l[i.toNat] := by
  simp [rd_T64, List.getD_eq_getElem?_getD, List.getElem?_eq_getElem h]
theorem rdi_get (l : List Int) (i : Int) (h : i.toNat < l.length) : rd l i = l[i.toNat] := by
  simp [rd, List.getD_eq_getElem?_getD, List.getElem?_eq_getElem h]
theorem w64 {i : Int} (h0 : -9223372036854775808 ≤ i) (h1 : i ≤ 9223372036854775807) : wrap64 i = i := by unfold wrap64; omega

def right (a b c d : Int) : Bool := (flat_Right.f a b c d).getD false
theorem flat_right (a b c d : Int) : flat_Right.f a b c d = some (right a b c d) := by
  have h : ∃ r, flat_Right.f a b c d = some r := by
    unfold flat_Right.f mark_Right.f
    repeat' split
    all_goals first | exact ⟨_, rfl⟩ | (simp only [Option.bind_some]; exact ⟨_, rfl⟩)
  obtain ⟨r, h⟩ := h
  rw [right, h]
  rfl
theorem ref_right (k : Nat) (a b c d : Int) : emenderref04_Right.f (k + 1) a b c d = some (right a b c d) := by
  rw [← flat_right]
  unfold emenderref04_Right.f flat_Right.f mark_Right.f emenderref04_Point.f emenderref03_Right.f emenderref04_Right.j0
  by_cases h0 : a = 0
  · subst h0
    simp only [if_true]
    by_cases h1 : b = 0
    · simp only [h1, if_true]
      by_cases h2 : c ≥ 0
      · by_cases h3 : c ≤ 1114111
        · simp only [if_pos h2, if_pos h3]
          by_cases h4 : c < 55296
          · have h5 : ¬ (c / 2048 = 27) := by omega
            simp only [if_pos h4, if_neg h5, Option.bind_some, if_true]
          · by_cases h6 : c > 57343
            · have h5 : ¬ (c / 2048 = 27) := by omega
              simp only [if_neg h4, if_neg h5, Option.bind_some, decide_eq_true h6, if_true]
            · have h5 : (c / 2048 = 27) := by omega
              simp only [if_neg h4, if_pos h5, Option.bind_some, decide_eq_false h6]
              rfl
        · simp only [if_pos h2, if_neg h3, Option.bind_some]
          rfl
      · simp only [if_neg h2, Option.bind_some]
        rfl
    · simp only [if_neg h1]
  · simp only [if_neg h0]
    by_cases h1 : a = 1
    · subst h1
      simp (config := {decide := true}) only [if_true, if_false]
      by_cases hb : b > 0
      · have hb' : b ≥ 1 := by omega
        simp only [if_pos hb, if_pos hb']
        by_cases hb2 : b < 16
        · simp only [if_pos hb2]
          by_cases hc : c ≥ 0
          · simp only [if_pos hc]
            by_cases hc2 : c < 16
            · have : c ≤ 15 := by omega
              simp only [if_pos hc2, if_pos this]
            · have : ¬ c ≤ 15 := by omega
              simp only [if_neg hc2, if_neg this]
          · simp only [if_neg hc]
        · simp only [if_neg hb2]
      · have hb' : ¬ b ≥ 1 := by omega
        simp only [if_neg hb, if_neg hb']
    · simp only [if_neg h1]
      by_cases h3 : a = 3
      · subst h3
        simp (config := {decide := true}) only [if_true, if_false]
        by_cases hb : b > 0
        · have hb' : b ≥ 1 := by omega
          simp only [if_pos hb, if_pos hb']
          by_cases hb2 : b < 16
          · simp only [if_pos hb2]
            by_cases hc : c ≥ 0
            · simp only [if_pos hc]
              by_cases hc2 : c < 16
              · have : c ≤ 15 := by omega
                simp only [if_pos hc2, if_pos this]
              · have : ¬ c ≤ 15 := by omega
                simp only [if_neg hc2, if_neg this]
            · simp only [if_neg hc]
          · simp only [if_neg hb2]
        · have hb' : ¬ b ≥ 1 := by omega
          simp only [if_neg hb, if_neg hb']
      · have h3' : (a == 3) = false := by simpa using h3
        simp only [if_neg h3, h3', if_neg (show ¬ (false = true) by decide)]
        by_cases h2 : a = 2
        · subst h2
          simp only [if_true]
          by_cases hb : b = 0
          · by_cases hc : c = 0
            · simp [hb, hc]
            · simp [hb, hc]
          · simp [hb]
        · simp only [if_neg h2]

def stk : List S64 → Int → List Int → List Int
  | [], _, s => s
  | t :: ts, i, s => stk ts (i + 1) (if t.f0 = 1 then s ++ [i] else if t.f0 = 2 then s.dropLast else s)
def stackAt (l : List S64) (a : Int) : List Int := if a > (l.length : Int) then [] else stk (l.take a.toNat) 0 []
theorem take_last (s : List Int) (hs : s.length < 4611686018427387904) : s.take (wrap64 ((s.length : Int) - 1)).toNat = s.dropLast := by
  rw [w64 (by omega) (by omega), List.dropLast_eq_take]
  congr 1
  omega
theorem stack_l0 (x : List S64) (hx : x.length < 17592186044416) : ∀ (d k : Nat) (s : List Int) (i : Int), 0 ≤ i → i + d = x.length → d < k → (s.length : Int) ≤ i → flat_stack.l0 k s x (x.length : Int) i = some (stk (x.drop i.toNat) i s) := by
  intro d
  induction d with
  | zero =>
    intro k s i h0 h1 hk hs
    obtain ⟨k, rfl⟩ : ∃ m, k = m + 1 := ⟨k - 1, by omega⟩
    simp only [flat_stack.l0]
    rw [if_neg (by omega), List.drop_eq_nil_of_le (by omega)]
    rfl
  | succ d ih =>
    intro k s i h0 h1 hk hs
    obtain ⟨k, rfl⟩ : ∃ m, k = m + 1 := ⟨k - 1, by omega⟩
    have hlt : i.toNat < x.length := by omega
    have hw : wrap64 (i + 1) = i + 1 := w64 (by omega) (by omega)
    have ht : (i + 1).toNat = i.toNat + 1 := by omega
    simp only [flat_stack.l0]
    rw [if_pos (by omega), if_pos h0, if_pos (by omega), hw, List.drop_eq_getElem_cons hlt, rd_get x i hlt]
    simp only [stk]
    rw [← ht]
    by_cases h : x[i.toNat].f0 = 1
    · rw [if_pos h, if_pos h, if_pos (by omega)]
      exact ih k (s ++ [i]) (i + 1) (by omega) (by omega) (by omega) (by simp; omega)
    · rw [if_neg h, if_neg h]
      by_cases h2 : x[i.toNat].f0 = 2
      · rw [if_pos h2, if_pos h2]
        by_cases h3 : (s.length : Int) > 0
        · have h4 : wrap64 ((s.length : Int) - 1) = s.length - 1 := w64 (by omega) (by omega)
          rw [if_pos h3, if_pos (by omega), if_pos (by omega), take_last s (by omega)]
          exact ih k s.dropLast (i + 1) (by omega) (by omega) (by omega) (by simp; omega)
        · rw [if_neg h3]
          have : s = [] := List.eq_nil_of_length_eq_zero (by omega)
          subst this
          exact ih k [] (i + 1) (by omega) (by omega) (by omega) (by simp; omega)
      · rw [if_neg h2, if_neg h2]
        exact ih k s (i + 1) (by omega) (by omega) (by omega) (by omega)
theorem flat_stack_at (l : List S64) (hl : l.length < 17592186044416) (a : Int) (k : Nat) (hk : l.length < k) : flat_stack.f k l a = some (stackAt l a) := by
  unfold flat_stack.f stackAt
  by_cases h : a > (l.length : Int)
  · rw [if_pos h, if_pos h]
  · rw [if_neg h, if_neg h]
    have hm : (mx a 0).toNat = a.toNat := by unfold mx; split <;> omega
    have h0 : 0 ≤ mx a 0 := by unfold mx; split <;> omega
    have h1 : mx a 0 ≤ (l.length : Int) := by unfold mx; split <;> omega
    rw [if_pos h0, if_pos h1, hm]
    simp only [Option.bind_some]
    have := stack_l0 (l.take a.toNat) (by rw [List.length_take]; omega) (l.take a.toNat).length k [] 0 (by omega) (by omega) (by rw [List.length_take]; omega) (by simp)
    simpa using this
theorem open_l0 (x : List S64) (hx : x.length < 17592186044416) (a : Int) (ha : a ≤ x.length) : ∀ (d k : Nat) (s : List Int) (i : Int), 0 ≤ i → i ≤ a → i + d = a → 2 * d + 1 < k → (s.length : Int) ≤ i → emenderref04_open.l0 k x a s i = some (stk ((x.take a.toNat).drop i.toNat) i s) := by
  intro d
  induction d with
  | zero =>
    intro k s i h0 hia h1 hk hs
    obtain ⟨k, rfl⟩ : ∃ m, k = m + 2 := ⟨k - 2, by omega⟩
    simp only [emenderref04_open.l0, emenderref04_open.j1]
    rw [if_neg (by omega), if_neg (by decide), List.drop_eq_nil_of_le (by rw [List.length_take]; omega)]
    rfl
  | succ d ih =>
    intro k s i h0 hia h1 hk hs
    obtain ⟨k, rfl⟩ : ∃ m, k = m + 2 := ⟨k - 2, by omega⟩
    have hlt : i.toNat < x.length := by omega
    have hlt2 : i.toNat < (x.take a.toNat).length := by rw [List.length_take]; omega
    have hw : wrap64 (i + 1) = i + 1 := w64 (by omega) (by omega)
    have ht : (i + 1).toNat = i.toNat + 1 := by omega
    simp only [emenderref04_open.l0, emenderref04_open.j1]
    rw [if_pos (by omega), if_pos (by omega), if_pos (decide_eq_true (by omega)), if_pos h0, if_pos (by omega), hw, List.drop_eq_getElem_cons hlt2, rd_get x i hlt, List.getElem_take]
    simp only [stk]
    rw [← ht]
    have hs2 : ∀ s : List Int, (s.length : Int) ≤ i + 1 → (if (s.length : Int) > 0 then (if 0 ≤ (wrap64 ((s.length : Int) - 1)) then (if (wrap64 ((s.length : Int) - 1)) ≤ (s.length : Int) then (emenderref04_open.l0 k x a (s.take ((wrap64 ((s.length : Int) - 1)) : Int).toNat) (i + 1)) else (none)) else (none)) else (emenderref04_open.l0 k x a s (i + 1))) = emenderref04_open.l0 k x a s.dropLast (i + 1) := by
      intro s hs
      by_cases h3 : (s.length : Int) > 0
      · have h4 : wrap64 ((s.length : Int) - 1) = s.length - 1 := w64 (by omega) (by omega)
        rw [if_pos h3, if_pos (by omega), if_pos (by omega), take_last s (by omega)]
      · rw [if_neg h3]
        have : s = [] := List.eq_nil_of_length_eq_zero (by omega)
        subst this
        rfl
    by_cases h : x[i.toNat].f0 = 1
    · rw [if_pos h, if_pos h, if_pos (by omega)]
      simp only [Option.bind_some]
      rw [if_neg (by omega)]
      exact ih k (s ++ [i]) (i + 1) (by omega) (by omega) (by omega) (by omega) (by simp; omega)
    · rw [if_neg h, if_neg h]
      by_cases h2 : x[i.toNat].f0 = 2
      · rw [if_pos h2, if_pos h2, hs2 s (by omega)]
        exact ih k s.dropLast (i + 1) (by omega) (by omega) (by omega) (by omega) (by simp; omega)
      · rw [if_neg h2, if_neg h2]
        exact ih k s (i + 1) (by omega) (by omega) (by omega) (by omega) (by omega)
theorem ref_open_at (l : List S64) (hl : l.length < 17592186044416) (a : Int) (k : Nat) (hk : 2 * l.length + 2 < k) : emenderref04_open.f k l a = some (stackAt l a) := by
  unfold emenderref04_open.f stackAt
  by_cases h : a > (l.length : Int)
  · rw [if_pos h]
    obtain ⟨k, rfl⟩ : ∃ m, k = m + 2 := ⟨k - 2, by omega⟩
    simp only [emenderref04_open.l0, emenderref04_open.j1]
    by_cases h1 : (0 : Int) < l.length
    · rw [if_pos (by omega), if_pos h1, if_neg (by simp; omega)]
    · rw [if_pos (by omega), if_neg h1, if_neg (by decide)]
  · rw [if_neg h]
    by_cases h0 : 0 ≤ a
    · have := open_l0 l hl a (by omega) a.toNat k [] 0 (by omega) (by omega) (by omega) (by omega) (by simp)
      simpa using this
    · obtain ⟨k, rfl⟩ : ∃ m, k = m + 2 := ⟨k - 2, by omega⟩
      have : a.toNat = 0 := by omega
      simp only [emenderref04_open.l0, emenderref04_open.j1]
      rw [if_neg (by omega), if_neg (by decide), this]
      rfl
theorem stk_length : ∀ (l : List S64) (i : Int) (s : List Int), (stk l i s).length ≤ s.length + l.length
  | [], i, s => by simp [stk]
  | t :: ts, i, s => by
    have := stk_length ts (i + 1) (if t.f0 = 1 then s ++ [i] else if t.f0 = 2 then s.dropLast else s)
    simp only [stk]
    refine Nat.le_trans this ?_
    split
    · simp; omega
    · split
      · simp; omega
      · simp
theorem stackAt_length (l : List S64) (a : Int) : (stackAt l a).length ≤ l.length := by
  unfold stackAt
  split
  · simp
  · refine Nat.le_trans (stk_length _ _ _) ?_
    simp [List.length_take]
    omega
def top (s : List Int) : Int := s.getLast?.getD (-1)
theorem around_of (s : List Int) (hs : s.length < 4611686018427387904) : (if (s.length : Int) = 0 then (some (-1)) else (if 0 ≤ (wrap64 ((s.length : Int) - 1)) then (if (wrap64 ((s.length : Int) - 1)) < (s.length : Int) then (some (rd s (wrap64 ((s.length : Int) - 1)))) else (none)) else (none))) = some (top s) := by
  by_cases h : (s.length : Int) = 0
  · have : s = [] := List.eq_nil_of_length_eq_zero (by omega)
    subst this
    rfl
  · have h4 : wrap64 ((s.length : Int) - 1) = s.length - 1 := w64 (by omega) (by omega)
    rw [if_neg h, h4, if_pos (by omega), if_pos (by omega), rdi_get s _ (by omega), top, List.getLast?_eq_getElem?]
    congr 1
    have : ((s.length : Int) - 1).toNat = s.length - 1 := by omega
    simp only [this]
    rw [List.getElem?_eq_getElem (by omega)]
    rfl
theorem flat_around (l : List S64) (hl : l.length < 17592186044416) (a : Int) (k : Nat) (hk : l.length < k) : flat_Around.f k l a = some (top (stackAt l a)) := by
  unfold flat_Around.f
  rw [flat_stack_at l hl a k hk, Option.bind_some]
  exact around_of _ (by have := stackAt_length l a; omega)
theorem ref_around (l : List S64) (hl : l.length < 17592186044416) (a : Int) (k : Nat) (hk : 2 * l.length + 2 < k) : emenderref04_Around.f k l a = some (top (stackAt l a)) := by
  unfold emenderref04_Around.f
  rw [ref_open_at l hl a k hk, Option.bind_some]
  exact around_of _ (by have := stackAt_length l a; omega)
end Go.Proofs.Ytjpmlggkhhoooaa.FlatA
/- More of what is open in tokens: how it changes from place to place. -/
namespace Go.Proofs.Ytjpmlggkhhoooaa.FlatB
open Go.RowKit Go.Proofs.YtjpmlggkhhoooaaW.PrintWords Go.Proofs.YtjpmlggkhhoooaaW.PrintMore
open Go.Proofs.Ytjpmlggkhhoooaa Go.Proofs.Ytjpmlggkhhoooaa.PDq Go.Proofs.Ytjpmlggkhhoooaa.FlatA

def upd (s : List Int) (i : Int) (t : S64) : List Int := if t.f0 = 1 then s ++ [i] else if t.f0 = 2 then s.dropLast else s
theorem stk_snoc : ∀ (l : List S64) (t : S64) (i : Int) (s : List Int), stk (l ++ [t]) i s = upd (stk l i s) (i + l.length) t
  | [], t, i, s => by simp [stk, upd]
  | x :: l, t, i, s => by
    have := stk_snoc l t (i + 1) (if x.f0 = 1 then s ++ [i] else if x.f0 = 2 then s.dropLast else s)
    simp only [List.cons_append, stk]
    rw [this]
    congr 1
    simp only [List.length_cons]
    omega
theorem stackAt_zero (l : List S64) : stackAt l 0 = [] := by
  unfold stackAt
  rw [if_neg (by omega)]
  rfl
theorem stackAt_succ (l : List S64) (i : Int) (h0 : 0 ≤ i) (h : i.toNat < l.length) : stackAt l (i + 1) = upd (stackAt l i) i l[i.toNat] := by
  unfold stackAt
  have e : (i + 1).toNat = i.toNat + 1 := by omega
  rw [if_neg (by omega), if_neg (by omega), e, List.take_succ_eq_append_getElem h, stk_snoc, List.length_take]
  congr 1
  omega
theorem dropLast_mem {s : List Int} {x : Int} (h : x ∈ s.dropLast) : x ∈ s := List.dropLast_subset s h
theorem stackAt_mem (l : List S64) : ∀ (n : Nat), n ≤ l.length → ∀ x ∈ stackAt l n, 0 ≤ x ∧ x < n
  | 0, _, x, hx => by
    rw [show ((0 : Nat) : Int) = 0 from rfl, stackAt_zero] at hx
    simp at hx
  | n + 1, hn, x, hx => by
    have := stackAt_succ l n (by omega) (by omega)
    rw [show (((n + 1 : Nat)) : Int) = (n : Int) + 1 by omega, this] at hx
    have ih := stackAt_mem l n (by omega)
    unfold upd at hx
    split at hx
    · rcases List.mem_append.1 hx with hx | hx
      · have := ih x hx
        omega
      · have : x = (n : Int) := by simpa using hx
        omega
    · split at hx
      · have := ih x (dropLast_mem hx)
        omega
      · have := ih x hx
        omega
theorem stackAt_mem' (l : List S64) (a : Int) : ∀ x ∈ stackAt l a, 0 ≤ x ∧ x < a := by
  intro x hx
  by_cases h : a > (l.length : Int)
  · unfold stackAt at hx
    rw [if_pos h] at hx
    simp at hx
  · by_cases h0 : 0 ≤ a
    · have := stackAt_mem l a.toNat (by omega) x (by rw [show ((a.toNat : Nat) : Int) = a by omega]; exact hx)
      omega
    · unfold stackAt at hx
      rw [if_neg h, show a.toNat = 0 by omega] at hx
      simp [stk] at hx
theorem top_append (s : List Int) (x : Int) : top (s ++ [x]) = x := by simp [top]
theorem top_mem {s : List Int} (h : s ≠ []) : top s ∈ s := by
  unfold top
  rw [List.getLast?_eq_some_getLast h]
  exact List.getLast_mem h
theorem base_top {b u : List Int} {i : Int} (hb : top b = i) (hu : ∀ x ∈ u, i < x) : top (b ++ u) = i ↔ u = [] := by
  constructor
  · intro h
    by_cases e : u = []
    · exact e
    · have h1 : top (b ++ u) = top u := by
        unfold top
        rw [List.getLast?_append, List.getLast?_eq_some_getLast e]
        rfl
      rw [h1] at h
      have := hu _ (top_mem e)
      omega
  · rintro rfl
    simpa using hb
end Go.Proofs.Ytjpmlggkhhoooaa.FlatB
/- The partner of a place, what stands just in a place, and the check, told by the program and by the document's answer: the same. -/
namespace Go.Proofs.Ytjpmlggkhhoooaa.FlatC
open Go.RowKit Go.Proofs.YtjpmlggkhhoooaaW.PrintWords Go.Proofs.YtjpmlggkhhoooaaW.PrintMore
open Go.Proofs.Ytjpmlggkhhoooaa Go.Proofs.Ytjpmlggkhhoooaa.PDq Go.Proofs.Ytjpmlggkhhoooaa.FlatA Go.Proofs.Ytjpmlggkhhoooaa.FlatB

def Closes (l : List S64) (i j r : Int) : Prop :=
  (r = -1 ∧ stackAt l l.length ≠ []) ∨ (j ≤ r ∧ r < l.length ∧ (∀ h : r.toNat < l.length, l[r.toNat].f0 = 2) ∧ stackAt l r = stackAt l i ++ [i] ∧ ∀ j' : Int, j ≤ j' → j' ≤ r → ∃ u, stackAt l j' = stackAt l i ++ [i] ++ u ∧ ∀ x ∈ u, i < x)
theorem partner_loop (l : List S64) (hl : l.length < 17592186044416) (i : Int) (h0 : 0 ≤ i) (hi : i.toNat < l.length) : ∀ (d : Nat) (j : Int) (u : List Int), i < j → j + d = l.length → stackAt l j = stackAt l i ++ [i] ++ u → (∀ x ∈ u, i < x) →
    ∃ r, (∀ k, d < k → flat_Partner.l0 k i ((u.length : Int) + 1) (l.drop i.toNat) ((l.drop i.toNat).length : Int) (j - i) = some r) ∧ (∀ k, d + (2 * l.length + 3) < k → emenderref04_Partner.l0 k l i j = some r) ∧ Closes l i j r := by
  intro d
  induction d with
  | zero =>
    intro j u hij hd hs hu
    refine ⟨-1, fun k hk => ?_, fun k hk => ?_, .inl ⟨rfl, ?_⟩⟩
    · obtain ⟨k, rfl⟩ : ∃ m, k = m + 1 := ⟨k - 1, by omega⟩
      simp only [flat_Partner.l0]
      rw [if_neg (by rw [List.length_drop]; omega)]
    · obtain ⟨k, rfl⟩ : ∃ m, k = m + 1 := ⟨k - 1, by omega⟩
      simp only [emenderref04_Partner.l0]
      rw [if_neg (by omega)]
    · rw [show (l.length : Int) = j by omega, hs]
      simp
  | succ d ih =>
    intro j u hij hd hs hu
    have hj : j.toNat < l.length := by omega
    have hul : u.length ≤ l.length := by
      have := stackAt_length l j
      rw [hs] at this
      simp at this
      omega
    have hsu := stackAt_succ l j (by omega) hj
    have hw : wrap64 (j + 1) = j + 1 := w64 (by omega) (by omega)
    have hwi : wrap64 (j - i + 1) = j - i + 1 := w64 (by omega) (by omega)
    have hwd : wrap64 ((u.length : Int) + 1 + 1) = (u.length : Int) + 1 + 1 := w64 (by omega) (by omega)
    have hwe : wrap64 ((u.length : Int) + 1 - 1) = (u.length : Int) := by rw [w64 (by omega) (by omega)]; omega
    have hrd : rd_T64 (l.drop i.toNat) (j - i) = l[j.toNat] := by
      rw [rd_get _ _ (by rw [List.length_drop]; omega), List.getElem_drop]
      congr 1
      omega
    have flat : ∀ k, flat_Partner.l0 (k + 1) i ((u.length : Int) + 1) (l.drop i.toNat) ((l.drop i.toNat).length : Int) (j - i) = (if l[j.toNat].f0 = 1 then flat_Partner.l0 k i ((u.length : Int) + 1 + 1) (l.drop i.toNat) ((l.drop i.toNat).length : Int) (j + 1 - i) else if l[j.toNat].f0 = 2 then (if (u.length : Int) = 0 then some j else flat_Partner.l0 k i (u.length : Int) (l.drop i.toNat) ((l.drop i.toNat).length : Int) (j + 1 - i)) else flat_Partner.l0 k i ((u.length : Int) + 1) (l.drop i.toNat) ((l.drop i.toNat).length : Int) (j + 1 - i)) := by
      intro k
      simp only [flat_Partner.l0]
      rw [if_pos (by rw [List.length_drop]; omega), if_pos (by omega), if_pos (by rw [List.length_drop]; omega), hrd, hwd, hwe, hwi, show j - i + 1 = j + 1 - i by omega, show wrap64 (i + (j - i)) = j by rw [w64 (by omega) (by omega)]; omega]
    have ref : ∀ k, 2 * l.length + 2 < k → emenderref04_Partner.l0 (k + 1) l i j = (if l[j.toNat].f0 = 2 then (if top (stackAt l j) = i then some j else emenderref04_Partner.l0 k l i (j + 1)) else emenderref04_Partner.l0 k l i (j + 1)) := by
      intro k hk
      simp only [emenderref04_Partner.l0]
      rw [if_pos (by omega), if_pos (by omega), rd_get l j hj, hw, ref_around l hl j k hk, Option.bind_some]
    have hb : top (stackAt l i ++ [i]) = i := top_append _ _
    have htop := base_top hb hu
    rw [← hs] at htop
    have more : ∀ u' : List Int, stackAt l (j + 1) = stackAt l i ++ [i] ++ u' → (∀ x ∈ u', i < x) → ∃ r, (∀ k, d < k → flat_Partner.l0 k i ((u'.length : Int) + 1) (l.drop i.toNat) ((l.drop i.toNat).length : Int) (j + 1 - i) = some r) ∧ (∀ k, d + (2 * l.length + 3) < k → emenderref04_Partner.l0 k l i (j + 1) = some r) ∧ Closes l i j r := by
      intro u' h1 h2
      obtain ⟨r, a, b, c⟩ := ih (j + 1) u' (by omega) (by omega) h1 h2
      refine ⟨r, a, b, ?_⟩
      rcases c with c | ⟨c1, c2, c3, c4, c5⟩
      · exact .inl c
      · refine .inr ⟨by omega, c2, c3, c4, fun j' hj' hr' => ?_⟩
        by_cases e : j' = j
        · subst e
          exact ⟨u, hs, hu⟩
        · exact c5 j' (by omega) hr'
    by_cases k1 : l[j.toNat].f0 = 1
    · have : stackAt l (j + 1) = stackAt l i ++ [i] ++ (u ++ [j]) := by
        rw [hsu, hs]
        unfold upd
        rw [if_pos k1]
        simp
      obtain ⟨r, a, b, c⟩ := more (u ++ [j]) this (by
        intro x hx
        rcases List.mem_append.1 hx with hx | hx
        · exact hu x hx
        · have : x = j := by simpa using hx
          omega)
      refine ⟨r, fun k hk => ?_, fun k hk => ?_, c⟩
      · obtain ⟨k, rfl⟩ : ∃ m, k = m + 1 := ⟨k - 1, by omega⟩
        rw [flat k, if_pos k1]
        have := a k (by omega)
        simpa using this
      · obtain ⟨k, rfl⟩ : ∃ m, k = m + 1 := ⟨k - 1, by omega⟩
        rw [ref k (by omega), if_neg (by omega)]
        exact b k (by omega)
    · by_cases k2 : l[j.toNat].f0 = 2
      · by_cases hu0 : u = []
        · subst hu0
          refine ⟨j, fun k hk => ?_, fun k hk => ?_, .inr ⟨Int.le_refl _, by omega, fun _ => k2, by simpa using hs, fun j' hj' hr' => ?_⟩⟩
          · obtain ⟨k, rfl⟩ : ∃ m, k = m + 1 := ⟨k - 1, by omega⟩
            rw [flat k, if_neg k1, if_pos k2, if_pos (by simp)]
          · obtain ⟨k, rfl⟩ : ∃ m, k = m + 1 := ⟨k - 1, by omega⟩
            rw [ref k (by omega), if_pos k2, if_pos (htop.2 rfl)]
          · obtain rfl : j' = j := by omega
            exact ⟨[], hs, hu⟩
        · have hlen : u.length ≠ 0 := fun h => hu0 (List.eq_nil_of_length_eq_zero h)
          have : stackAt l (j + 1) = stackAt l i ++ [i] ++ u.dropLast := by
            rw [hsu, hs]
            unfold upd
            rw [if_neg k1, if_pos k2, List.dropLast_append_of_ne_nil hu0]
          obtain ⟨r, a, b, c⟩ := more u.dropLast this (fun x hx => hu x (dropLast_mem hx))
          refine ⟨r, fun k hk => ?_, fun k hk => ?_, c⟩
          · obtain ⟨k, rfl⟩ : ∃ m, k = m + 1 := ⟨k - 1, by omega⟩
            rw [flat k, if_neg k1, if_pos k2, if_neg (by omega)]
            have := a k (by omega)
            rw [List.length_dropLast, show ((u.length - 1 : Nat) : Int) + 1 = u.length by omega] at this
            exact this
          · obtain ⟨k, rfl⟩ : ∃ m, k = m + 1 := ⟨k - 1, by omega⟩
            rw [ref k (by omega), if_pos k2, if_neg (fun h => hu0 (htop.1 h))]
            exact b k (by omega)
      · have : stackAt l (j + 1) = stackAt l i ++ [i] ++ u := by
          rw [hsu, hs]
          unfold upd
          rw [if_neg k1, if_neg k2]
        obtain ⟨r, a, b, c⟩ := more u this hu
        refine ⟨r, fun k hk => ?_, fun k hk => ?_, c⟩
        · obtain ⟨k, rfl⟩ : ∃ m, k = m + 1 := ⟨k - 1, by omega⟩
          rw [flat k, if_neg k1, if_neg k2]
          exact a k (by omega)
        · obtain ⟨k, rfl⟩ : ∃ m, k = m + 1 := ⟨k - 1, by omega⟩
          rw [ref k (by omega), if_neg k2]
          exact b k (by omega)
theorem stack_open (l : List S64) (i : Int) (h0 : 0 ≤ i) (hi : i.toNat < l.length) (h1 : l[i.toNat].f0 = 1) : stackAt l (i + 1) = stackAt l i ++ [i] := by
  rw [stackAt_succ l i h0 hi]
  unfold upd
  rw [if_pos h1]
theorem partner (l : List S64) (hl : l.length < 17592186044416) (i : Int) : ∃ r, (∀ k, l.length + 3 < k → flat_Partner.f k l i = some r) ∧ (∀ k, 3 * l.length + 6 < k → emenderref04_Partner.f k l i = some r) ∧
    (0 ≤ i → ∀ hi : i.toNat < l.length, (l[i.toNat].f0 = 1 → Closes l i (i + 1) r) ∧ (l[i.toNat].f0 = 2 → r = top (stackAt l i)) ∧ (l[i.toNat].f0 ≠ 1 → l[i.toNat].f0 ≠ 2 → r = -1)) := by
  by_cases h0 : i < 0
  · refine ⟨-1, fun k hk => ?_, fun k hk => ?_, fun h => absurd h (by omega)⟩
    · obtain ⟨k, rfl⟩ : ∃ m, k = m + 1 := ⟨k - 1, by omega⟩
      unfold flat_Partner.f
      rw [if_pos h0]
      simp only [flat_Partner.j0]
      rw [if_pos trivial]
    · obtain ⟨k, rfl⟩ : ∃ m, k = m + 1 := ⟨k - 1, by omega⟩
      unfold emenderref04_Partner.f
      rw [if_pos h0]
      simp only [emenderref04_Partner.j0]
      rw [if_pos trivial]
  · by_cases hlt : i ≥ (l.length : Int)
    · refine ⟨-1, fun k hk => ?_, fun k hk => ?_, fun h hi => absurd hi (by omega)⟩
      · obtain ⟨k, rfl⟩ : ∃ m, k = m + 1 := ⟨k - 1, by omega⟩
        unfold flat_Partner.f
        rw [if_neg h0]
        simp only [flat_Partner.j0]
        rw [if_pos (decide_eq_true hlt)]
      · obtain ⟨k, rfl⟩ : ∃ m, k = m + 1 := ⟨k - 1, by omega⟩
        unfold emenderref04_Partner.f
        rw [if_neg h0]
        simp only [emenderref04_Partner.j0]
        rw [if_pos (decide_eq_true hlt)]
    · have hi : i.toNat < l.length := by omega
      have flat : ∀ k, flat_Partner.f (k + 1) l i = (if l[i.toNat].f0 = 2 then (flat_Around.f k l i).bind fun t => some t else if l[i.toNat].f0 = 1 then flat_Partner.l0 k i 0 (l.drop i.toNat) ((l.drop i.toNat).length : Int) 0 else some (-1)) := by
        intro k
        unfold flat_Partner.f
        rw [if_neg h0]
        simp only [flat_Partner.j0]
        rw [if_neg (by simp; omega), if_pos (by omega), if_pos (by omega), rd_get l i hi, if_pos (show i ≤ (l.length : Int) by omega)]
        rfl
      have ref : ∀ k, emenderref04_Partner.f (k + 1) l i = (if l[i.toNat].f0 = 2 then (emenderref04_Around.f k l i).bind fun t => some t else if l[i.toNat].f0 = 1 then emenderref04_Partner.l0 k l i (i + 1) else some (-1)) := by
        intro k
        unfold emenderref04_Partner.f
        rw [if_neg h0]
        simp only [emenderref04_Partner.j0]
        rw [if_neg (by simp; omega), if_pos (by omega), if_pos (by omega), rd_get l i hi, w64 (by omega) (by omega)]
      by_cases k2 : l[i.toNat].f0 = 2
      · refine ⟨top (stackAt l i), fun k hk => ?_, fun k hk => ?_, fun _ _ => ⟨fun h => by omega, fun _ => rfl, fun _ h => absurd k2 h⟩⟩
        · obtain ⟨k, rfl⟩ : ∃ m, k = m + 1 := ⟨k - 1, by omega⟩
          rw [flat, if_pos k2, flat_around l hl i k (by omega)]
          rfl
        · obtain ⟨k, rfl⟩ : ∃ m, k = m + 1 := ⟨k - 1, by omega⟩
          rw [ref, if_pos k2, ref_around l hl i k (by omega)]
          rfl
      · by_cases k1 : l[i.toNat].f0 = 1
        · obtain ⟨r, a, b, c⟩ := partner_loop l hl i (by omega) hi (l.length - i.toNat - 1) (i + 1) [] (by omega) (by omega) (by simpa using stack_open l i (by omega) hi k1) (by simp)
          refine ⟨r, fun k hk => ?_, fun k hk => ?_, fun _ _ => ⟨fun _ => c, fun h => absurd h k2, fun h => absurd k1 h⟩⟩
          · obtain ⟨k, rfl⟩ : ∃ m, k = m + 2 := ⟨k - 2, by omega⟩
            rw [flat, if_neg k2, if_pos k1]
            simp only [flat_Partner.l0]
            rw [if_pos (by rw [List.length_drop]; omega), if_pos (by omega), if_pos (by rw [List.length_drop]; omega), rd_get _ _ (by rw [List.length_drop]; omega), List.getElem_drop]
            have := a k (by omega)
            have e : l[i.toNat + (0 : Int).toNat] = l[i.toNat] := by congr 1
            rw [e, if_pos k1, w64 (by omega) (by omega)]
            rw [show i + 1 - i = 0 + 1 by omega] at this
            exact this
          · obtain ⟨k, rfl⟩ : ∃ m, k = m + 1 := ⟨k - 1, by omega⟩
            rw [ref, if_neg k2, if_pos k1]
            exact b k (by omega)
        · refine ⟨-1, fun k hk => ?_, fun k hk => ?_, fun _ _ => ⟨fun h => absurd h k1, fun h => absurd h k2, fun _ _ => rfl⟩⟩
          · obtain ⟨k, rfl⟩ : ∃ m, k = m + 1 := ⟨k - 1, by omega⟩
            rw [flat, if_neg k2, if_neg k1]
          · obtain ⟨k, rfl⟩ : ∃ m, k = m + 1 := ⟨k - 1, by omega⟩
            rw [ref, if_neg k2, if_neg k1]
theorem ref_check_l0 (l : List S64) (hl : l.length < 17592186044416) : ∀ (d k : Nat) (n i : Int), 0 ≤ i → i + d = l.length → 0 ≤ n → n ≤ 32 → 3 * d + 1 < k → emenderref04_Check.l0 k l n i = flat_Check.l0 (l.drop i.toNat) n i := by
  intro d
  induction d with
  | zero =>
    intro k n i h0 h1 hn hn2 hk
    obtain ⟨k, rfl⟩ : ∃ m, k = m + 1 := ⟨k - 1, by omega⟩
    simp only [emenderref04_Check.l0]
    rw [if_neg (by omega), List.drop_eq_nil_of_le (by omega)]
    unfold flat_Check.l0
    rw [show (l.length : Int) = i by omega]
  | succ d ih =>
    intro k n i h0 h1 hn hn2 hk
    obtain ⟨k, rfl⟩ : ∃ m, k = m + 4 := ⟨k - 4, by omega⟩
    have hlt : i.toNat < l.length := by omega
    have hw : wrap64 (i + 1) = i + 1 := w64 (by omega) (by omega)
    have hwn : wrap64 (n + 1) = n + 1 := w64 (by omega) (by omega)
    have e : i.toNat + 1 = (i + 1).toNat := by omega
    rw [flat_Check.step l n i hlt, flat_right, Option.bind_some, rd_get l i hlt, e]
    simp only [emenderref04_Check.l0]
    rw [if_pos (by omega), if_pos h0, rd_get l i hlt, ref_right, Option.bind_some]
    simp only [emenderref04_Check.j1, emenderref04_Check.j2]
    have hlt' : i < (l.length : Int) := by omega
    simp only [rd_get l i hlt, if_pos h0, if_pos hlt', hw, hwn]
    by_cases c1 : right l[i.toNat].f0 l[i.toNat].f1 l[i.toNat].f2 l[i.toNat].f3 = true
    · rw [if_pos c1, if_pos c1]
      by_cases k2 : l[i.toNat].f0 = 2
      · have k1 : ¬ l[i.toNat].f0 = 1 := by omega
        simp only [if_pos k2, if_neg k1]
        by_cases c3 : n = 0
        · rw [if_pos (by simpa using c3), if_pos c3]
        · have hwm : wrap64 (n - 1) = n - 1 := w64 (by omega) (by omega)
          rw [if_neg (by simpa using c3), if_neg c3, hwm, if_neg (by omega)]
          exact ih (k + 1) (n - 1) (i + 1) (by omega) (by omega) (by omega) (by omega) (by omega)
      · simp only [if_neg k2]
        rw [if_neg (by decide)]
        by_cases k1 : l[i.toNat].f0 = 1
        · simp only [if_pos k1]
          by_cases c5 : n = 32
          · rw [if_pos (by omega), if_pos c5]
          · rw [if_neg (by omega), if_neg c5]
            exact ih (k + 1) (n + 1) (i + 1) (by omega) (by omega) (by omega) (by omega) (by omega)
        · simp only [if_neg k1]
          rw [if_neg (by omega)]
          exact ih (k + 1) n (i + 1) (by omega) (by omega) (by omega) (by omega) (by omega)
    · rw [if_neg c1, if_neg c1]
      rw [if_pos trivial]
theorem ref_check (l : List S64) (hl : l.length < 17592186044416) (k : Nat) (hk : 3 * l.length + 2 < k) : emenderref04_Check.f k l = flat_Check.f l := by
  unfold emenderref04_Check.f flat_Check.f
  by_cases h : (l.length : Int) > 2048
  · rw [if_pos h, if_pos h]
  · rw [if_neg h, if_neg h]
    have := ref_check_l0 l hl l.length k 0 0 (by omega) (by omega) (by omega) (by omega) (by omega)
    simpa using this
theorem check_some : ∀ (l : List S64) (n i : Int), ∃ r, flat_Check.l0 l n i = some r
  | [], n, i => by
    unfold flat_Check.l0
    split <;> exact ⟨_, rfl⟩
  | t :: ts, n, i => by
    unfold flat_Check.l0
    rw [flat_right, Option.bind_some]
    split
    · split
      · split
        · exact ⟨_, rfl⟩
        · exact check_some ts _ _
      · split
        · split
          · exact ⟨_, rfl⟩
          · exact check_some ts _ _
        · exact check_some ts _ _
    · exact ⟨_, rfl⟩
end Go.Proofs.Ytjpmlggkhhoooaa.FlatC
/- What stands just in a place, in plain words (out of FlatKids' proof). -/
namespace Go.Proofs.Ytjpmlggkhhoooaa.FlatK
open Go.RowKit Go.Proofs.YtjpmlggkhhoooaaW.PrintWords Go.Proofs.YtjpmlggkhhoooaaW.PrintMore
open Go.Proofs.Ytjpmlggkhhoooaa Go.Proofs.Ytjpmlggkhhoooaa.PDq Go.Proofs.Ytjpmlggkhhoooaa.FlatA Go.Proofs.Ytjpmlggkhhoooaa.FlatB Go.Proofs.Ytjpmlggkhhoooaa.FlatC

set_option linter.unusedSimpArgs false
theorem kids_loop (l : List S64) (hl : l.length < 17592186044415) (a : Int) (b : List Int) (hb : top b = a) (ha : a ≥ 0 ∨ (a = -1 ∧ b = [])) : ∀ (d : Nat) (j : Int) (u out : List Int), 0 ≤ j → a < j → j + d = l.length → stackAt l j = b ++ u → (∀ x ∈ u, a < x) → (out.length : Int) ≤ j →
    ∃ r : List Int, r.length ≤ l.length ∧ (∀ k, 2 * d < k → flat_Kids.l0 k l a out (u.length : Int) j = some r) ∧ (∀ k, 2 * d + (2 * l.length + 4) < k → emenderref04_Kids.l0 k l a out j = some r) := by
  intro d
  induction d with
  | zero =>
    intro j u out h0 haj hd hs hu ho
    refine ⟨out, by omega, fun k hk => ?_, fun k hk => ?_⟩
    · obtain ⟨k, rfl⟩ : ∃ m, k = m + 1 := ⟨k - 1, by omega⟩
      simp only [flat_Kids.l0]
      rw [if_neg (by omega)]
    · obtain ⟨k, rfl⟩ : ∃ m, k = m + 1 := ⟨k - 1, by omega⟩
      simp only [emenderref04_Kids.l0]
      rw [if_neg (by omega)]
  | succ d ih =>
    intro j u out h0 haj hd hs hu ho
    have hj : j.toNat < l.length := by omega
    have hj' : j < (l.length : Int) := by omega
    have hul : u.length ≤ l.length := by
      have := stackAt_length l j
      rw [hs] at this
      simp at this
      omega
    have hsu := stackAt_succ l j h0 hj
    have hw : wrap64 (j + 1) = j + 1 := w64 (by omega) (by omega)
    have hwd : wrap64 ((u.length : Int) + 1) = (u.length : Int) + 1 := w64 (by omega) (by omega)
    have hwe : wrap64 ((u.length : Int) - 1) = (u.length : Int) - 1 := w64 (by omega) (by omega)
    have htop := base_top hb hu
    rw [← hs] at htop
    have hul0 : (u.length : Int) = 0 ↔ u = [] := ⟨fun h => List.eq_nil_of_length_eq_zero (by omega), fun h => by simp [h]⟩
    by_cases k2 : l[j.toNat].f0 = 2
    · have flat : ∀ k, flat_Kids.l0 (k + 1) l a out (u.length : Int) j = (if u = [] then (if a ≥ 0 then some out else flat_Kids.l0 k l a out 0 (j + 1)) else flat_Kids.l0 k l a out ((u.dropLast).length : Int) (j + 1)) := by
        intro k
        simp only [flat_Kids.l0]
        rw [if_pos hj', if_pos h0, rd_get l j hj, if_pos k2, hw, hwe]
        by_cases e : u = []
        · subst e
          rw [if_pos (by simp), if_pos rfl]
          rfl
        · have : u.length ≠ 0 := fun h => e (List.eq_nil_of_length_eq_zero h)
          rw [if_neg (by omega), if_neg e, List.length_dropLast]
          congr 1
          unfold mx
          split <;> omega
      have ref : ∀ k, 2 * l.length + 2 < k → emenderref04_Kids.l0 (k + 2) l a out j = (if u = [] then (if a ≥ 0 then some out else emenderref04_Kids.l0 k l a out (j + 1)) else emenderref04_Kids.l0 k l a out (j + 1)) := by
        intro k hk
        simp only [emenderref04_Kids.l0, emenderref04_Kids.j2]
        rw [if_pos hj', if_pos h0, rd_get l j hj, if_pos k2, ref_around l (by omega) j _ (by omega), Option.bind_some]
        simp only [if_pos h0, if_pos hj', if_pos k2, hw]
        by_cases e : u = []
        · rw [if_pos (htop.2 e), if_pos e]
          by_cases c : a ≥ 0
          · rw [if_pos (decide_eq_true c), if_pos c]
          · rw [if_neg (by simpa using c), if_neg c]
        · rw [if_neg (fun h => e (htop.1 h)), if_neg e, if_neg (by decide)]
      by_cases e : u = []
      · subst e
        rcases ha with ha | ⟨ha, hbe⟩
        · refine ⟨out, by omega, fun k hk => ?_, fun k hk => ?_⟩
          · obtain ⟨k, rfl⟩ : ∃ m, k = m + 1 := ⟨k - 1, by omega⟩
            rw [flat, if_pos rfl, if_pos ha]
          · obtain ⟨k, rfl⟩ : ∃ m, k = m + 2 := ⟨k - 2, by omega⟩
            rw [ref k (by omega), if_pos rfl, if_pos ha]
        · obtain ⟨r, q1, q2, q3⟩ := ih (j + 1) [] out (by omega) (by omega) (by omega) (by rw [hsu, hs, hbe]; unfold upd; rw [if_neg (by omega), if_pos k2]; rfl) (by simp) (by omega)
          refine ⟨r, q1, fun k hk => ?_, fun k hk => ?_⟩
          · obtain ⟨k, rfl⟩ : ∃ m, k = m + 1 := ⟨k - 1, by omega⟩
            rw [flat, if_pos rfl, if_neg (by omega)]
            exact q2 k (by omega)
          · obtain ⟨k, rfl⟩ : ∃ m, k = m + 2 := ⟨k - 2, by omega⟩
            rw [ref k (by omega), if_pos rfl, if_neg (by omega)]
            exact q3 k (by omega)
      · obtain ⟨r, q1, q2, q3⟩ := ih (j + 1) u.dropLast out (by omega) (by omega) (by omega) (by rw [hsu, hs]; unfold upd; rw [if_neg (by omega), if_pos k2, List.dropLast_append_of_ne_nil e]) (fun x hx => hu x (dropLast_mem hx)) (by omega)
        refine ⟨r, q1, fun k hk => ?_, fun k hk => ?_⟩
        · obtain ⟨k, rfl⟩ : ∃ m, k = m + 1 := ⟨k - 1, by omega⟩
          rw [flat, if_neg e]
          exact q2 k (by omega)
        · obtain ⟨k, rfl⟩ : ∃ m, k = m + 2 := ⟨k - 2, by omega⟩
          rw [ref k (by omega), if_neg e]
          exact q3 k (by omega)
    · -- no end
      have told : ∀ out' : List Int, out' = (if u = [] ∧ 0 ≤ l[j.toNat].f0 ∧ l[j.toNat].f0 ≤ 3 then out ++ [j] else out) → ∀ u' : List Int, u' = (if l[j.toNat].f0 = 1 then u ++ [j] else u) → ∃ r : List Int, r.length ≤ l.length ∧ (∀ k, 2 * d < k → flat_Kids.l0 k l a out' (u'.length : Int) (j + 1) = some r) ∧ (∀ k, 2 * d + (2 * l.length + 4) < k → emenderref04_Kids.l0 k l a out' (j + 1) = some r) := by
        intro out' h1 u' h2
        refine ih (j + 1) u' out' (by omega) (by omega) (by omega) ?_ ?_ ?_
        · rw [hsu, hs, h2]
          unfold upd
          split
          · simp
          · first
            | rfl
            | rw [if_neg k2]
        · rw [h2]
          split
          · intro x hx
            rcases List.mem_append.1 hx with hx | hx
            · exact hu x hx
            · have : x = j := by simpa using hx
              omega
          · exact hu
        · rw [h1]
          split
          · simp
            omega
          · omega
      obtain ⟨r, q1, q2, q3⟩ := told _ rfl _ rfl
      have flat : ∀ k, flat_Kids.l0 (k + 2) l a out (u.length : Int) j = flat_Kids.l0 k l a (if u = [] ∧ 0 ≤ l[j.toNat].f0 ∧ l[j.toNat].f0 ≤ 3 then out ++ [j] else out) (((if l[j.toNat].f0 = 1 then u ++ [j] else u) : List Int).length : Int) (j + 1) := by
        intro k
        simp only [flat_Kids.l0, flat_Kids.j2]
        rw [if_pos hj', if_pos h0, rd_get l j hj, if_neg k2, if_pos (show out.length < 17592186044416 by omega), hw, hwd]
        simp only [Option.bind_some]
        by_cases e : u = []
        · rw [if_pos (hul0.2 e)]
          by_cases c0 : l[j.toNat].f0 ≥ 0
          · rw [if_pos c0]
            by_cases c3 : l[j.toNat].f0 ≤ 3
            · rw [if_pos (decide_eq_true c3), if_pos (show u = [] ∧ 0 ≤ l[j.toNat].f0 ∧ l[j.toNat].f0 ≤ 3 from ⟨e, c0, c3⟩)]
              by_cases c1 : l[j.toNat].f0 = 1
              · rw [if_pos c1, if_pos c1]
                simp
              · rw [if_neg c1, if_neg c1]
            · rw [if_neg (by simpa using c3), if_neg (show ¬ (u = [] ∧ 0 ≤ l[j.toNat].f0 ∧ l[j.toNat].f0 ≤ 3) from fun h => c3 h.2.2)]
              by_cases c1 : l[j.toNat].f0 = 1
              · omega
              · rw [if_neg c1, if_neg c1]
          · rw [if_neg c0, if_neg (by decide), if_neg (show ¬ (u = [] ∧ 0 ≤ l[j.toNat].f0 ∧ l[j.toNat].f0 ≤ 3) from fun h => c0 h.2.1)]
            by_cases c1 : l[j.toNat].f0 = 1
            · omega
            · rw [if_neg c1, if_neg c1]
        · rw [if_neg (fun h => e (hul0.1 h)), if_neg (by decide), if_neg (show ¬ (u = [] ∧ 0 ≤ l[j.toNat].f0 ∧ l[j.toNat].f0 ≤ 3) from fun h => e h.1)]
          by_cases c1 : l[j.toNat].f0 = 1
          · rw [if_pos c1, if_pos c1]
            simp
          · rw [if_neg c1, if_neg c1]
      have ref : ∀ k, 2 * l.length + 2 < k → emenderref04_Kids.l0 (k + 2) l a out j = emenderref04_Kids.l0 k l a (if u = [] ∧ 0 ≤ l[j.toNat].f0 ∧ l[j.toNat].f0 ≤ 3 then out ++ [j] else out) (j + 1) := by
        intro k hk
        simp only [emenderref04_Kids.l0, emenderref04_Kids.j2]
        rw [if_pos hj', if_pos h0, rd_get l j hj, if_neg k2, if_neg (by decide), if_pos h0, if_pos hj', if_neg k2, if_pos (show out.length < 17592186044416 by omega), hw, ref_around l (by omega) j _ (by omega), Option.bind_some]
        by_cases c0 : l[j.toNat].f0 ≥ 0
        · rw [if_pos c0]
          by_cases c3 : l[j.toNat].f0 ≤ 3
          · rw [if_pos c3]
            by_cases e : u = []
            · rw [if_pos (htop.2 e), if_pos (show u = [] ∧ 0 ≤ l[j.toNat].f0 ∧ l[j.toNat].f0 ≤ 3 from ⟨e, c0, c3⟩)]
            · rw [if_neg (fun h => e (htop.1 h)), if_neg (show ¬ (u = [] ∧ 0 ≤ l[j.toNat].f0 ∧ l[j.toNat].f0 ≤ 3) from fun h => e h.1)]
          · rw [if_neg c3, if_neg (show ¬ (u = [] ∧ 0 ≤ l[j.toNat].f0 ∧ l[j.toNat].f0 ≤ 3) from fun h => c3 h.2.2)]
        · rw [if_neg c0, if_neg (show ¬ (u = [] ∧ 0 ≤ l[j.toNat].f0 ∧ l[j.toNat].f0 ≤ 3) from fun h => c0 h.2.1)]
      refine ⟨r, q1, fun k hk => ?_, fun k hk => ?_⟩
      · obtain ⟨k, rfl⟩ : ∃ m, k = m + 2 := ⟨k - 2, by omega⟩
        rw [flat]
        exact q2 k (by omega)
      · obtain ⟨k, rfl⟩ : ∃ m, k = m + 2 := ⟨k - 2, by omega⟩
        rw [ref k (by omega)]
        exact q3 k (by omega)
theorem kids (l : List S64) (hl : l.length < 17592186044415) (a : Int) (ha : -9223372036854775808 ≤ a) : ∃ r : List Int, r.length ≤ l.length ∧ (∀ k, 2 * l.length + 3 < k → flat_Kids.f k l a = some r) ∧ (∀ k, 4 * l.length + 8 < k → emenderref04_Kids.f k l a = some r) := by
  have none_ : (∀ k, 0 < k → flat_Kids.f k l a = flat_Kids.j0 k l a true) → (∀ k, 0 < k → emenderref04_Kids.f k l a = emenderref04_Kids.j0 k l a [] true) → ∃ r : List Int, r.length ≤ l.length ∧ (∀ k, 2 * l.length + 3 < k → flat_Kids.f k l a = some r) ∧ (∀ k, 4 * l.length + 8 < k → emenderref04_Kids.f k l a = some r) := by
    intro h1 h2
    refine ⟨[], by simp, fun k hk => ?_, fun k hk => ?_⟩
    · obtain ⟨k, rfl⟩ : ∃ m, k = m + 1 := ⟨k - 1, by omega⟩
      rw [h1 _ (by omega)]
      simp only [flat_Kids.j0]
      rw [if_pos trivial]
    · obtain ⟨k, rfl⟩ : ∃ m, k = m + 1 := ⟨k - 1, by omega⟩
      rw [h2 _ (by omega)]
      simp only [emenderref04_Kids.j0]
      rw [if_pos trivial]
  have some_ : ∀ b : List Int, top b = a → (a ≥ 0 ∨ (a = -1 ∧ b = [])) → a + 1 ≤ l.length → stackAt l (a + 1) = b → (∀ k, 0 < k → flat_Kids.f k l a = flat_Kids.j0 k l a false) → (∀ k, 0 < k → emenderref04_Kids.f k l a = emenderref04_Kids.j0 k l a [] false) → ∃ r : List Int, r.length ≤ l.length ∧ (∀ k, 2 * l.length + 3 < k → flat_Kids.f k l a = some r) ∧ (∀ k, 4 * l.length + 8 < k → emenderref04_Kids.f k l a = some r) := by
    intro b hb hab hal hs h1 h2
    have hw : wrap64 (a + 1) = a + 1 := w64 (by omega) (by omega)
    obtain ⟨r, q1, q2, q3⟩ := kids_loop l hl a b hb hab (l.length - (a + 1).toNat) (a + 1) [] [] (by omega) (by omega) (by omega) (by simpa using hs) (by simp) (by simp; omega)
    refine ⟨r, q1, fun k hk => ?_, fun k hk => ?_⟩
    · obtain ⟨k, rfl⟩ : ∃ m, k = m + 1 := ⟨k - 1, by omega⟩
      rw [h1 _ (by omega)]
      simp only [flat_Kids.j0]
      rw [if_neg (by decide), hw]
      exact q2 k (by omega)
    · obtain ⟨k, rfl⟩ : ∃ m, k = m + 1 := ⟨k - 1, by omega⟩
      rw [h2 _ (by omega)]
      simp only [emenderref04_Kids.j0]
      rw [if_neg (by decide), hw]
      exact q3 k (by omega)
  by_cases c1 : a < -1
  · exact none_ (fun k _ => by unfold flat_Kids.f; rw [if_pos c1]) (fun k _ => by unfold emenderref04_Kids.f; rw [if_pos c1])
  · by_cases c2 : a ≥ (l.length : Int)
    · exact none_ (fun k _ => by unfold flat_Kids.f; rw [if_neg c1, if_pos c2]) (fun k _ => by unfold emenderref04_Kids.f; rw [if_neg c1, if_pos c2])
    · by_cases c3 : a ≥ 0
      · have hi : a.toNat < l.length := by omega
        by_cases c4 : l[a.toNat].f0 = 1
        · exact some_ (stackAt l a ++ [a]) (top_append _ _) (.inl c3) (by omega) (stack_open l a c3 hi c4)
            (fun k _ => by unfold flat_Kids.f; rw [if_neg c1, if_neg c2, if_pos c3, if_pos c3, if_pos (by omega), rd_get l a hi]; simp [c4])
            (fun k _ => by unfold emenderref04_Kids.f; rw [if_neg c1, if_neg c2, if_pos c3, if_pos c3, if_pos (by omega), rd_get l a hi]; simp [c4])
        · have c5 : (l[a.toNat].f0 != 1) = true := by simpa using c4
          exact none_ (fun k _ => by unfold flat_Kids.f; rw [if_neg c1, if_neg c2, if_pos c3, if_pos c3, if_pos (by omega), rd_get l a hi, c5])
            (fun k _ => by unfold emenderref04_Kids.f; rw [if_neg c1, if_neg c2, if_pos c3, if_pos c3, if_pos (by omega), rd_get l a hi, c5])
      · obtain rfl : a = -1 := by omega
        exact some_ [] rfl (.inr ⟨rfl, rfl⟩) (by omega) (stackAt_zero l) (fun k _ => by unfold flat_Kids.f; rw [if_neg c1, if_neg c2, if_neg c3]) (fun k _ => by unfold emenderref04_Kids.f; rw [if_neg c1, if_neg c2, if_neg c3])
end Go.Proofs.Ytjpmlggkhhoooaa.FlatK
/- The blocks of two lists of tokens, in plain words: what diff.parts and diff.Rows compute. -/
namespace Go.Proofs.Ytjpmlggkhhoooaa.DiffP
open Go.RowKit Go.Proofs.YtjpmlggkhhoooaaW.PrintWords Go.Proofs.YtjpmlggkhhoooaaW.PrintMore
open Go.Proofs Go.Proofs.Ytjpmlggkhhoooaa Go.Proofs.Ytjpmlggkhhoooaa.PDq Go.Proofs.Ytjpmlggkhhoooaa.StepA Go.Proofs.Ytjpmlggkhhoooaa.StepB Go.Proofs.Ytjpmlggkhhoooaa.StepD Go.Proofs.Ytjpmlggkhhoooaa.DiffA
set_option linter.unusedSimpArgs false
set_option linter.unusedVariables false

theorem kids_in (x : List S64) (hx : x.length ≤ 4611686018427387904) (x1 : Int) : ∀ k, (∀ (out : List Int) (n i : Int) (r : List Int), 0 ≤ i → i ≤ (x.length : Int) → flat_Kids.l0 k x x1 out n i = some r → ∀ e ∈ r, e ∈ out ∨ (0 ≤ e ∧ e < (x.length : Int))) ∧
    (∀ (out : List Int) (n i c : Int) (b : Bool) (r : List Int), 0 ≤ i → i < (x.length : Int) → flat_Kids.j2 k x x1 out n i c b = some r → ∀ e ∈ r, e ∈ out ∨ (0 ≤ e ∧ e < (x.length : Int)))
  | 0 => ⟨fun _ _ _ _ _ _ h => by simp [flat_Kids.l0] at h, fun _ _ _ _ _ _ _ _ h => by simp [flat_Kids.j2] at h⟩
  | k + 1 => by
    obtain ⟨ih1, ih2⟩ := kids_in x hx x1 k
    have step : ∀ (out : List Int) (n i : Int) (r : List Int), 0 ≤ i → i < (x.length : Int) → flat_Kids.l0 k x x1 out n (wrap64 (i + 1)) = some r → ∀ e ∈ r, e ∈ out ∨ (0 ≤ e ∧ e < (x.length : Int)) := by
      intro out n i r h0 h1 h
      rw [w64 (by omega)] at h
      exact ih1 out n (i + 1) r (by omega) (by omega) h
    refine ⟨?_, ?_⟩
    · intro out n i r h0 h1 h
      simp only [flat_Kids.l0] at h
      by_cases c : i < (x.length : Int)
      · rw [if_pos c, if_pos h0] at h
        repeat' split at h
        all_goals first
          | exact step _ _ _ _ h0 c h
          | exact ih2 _ _ _ _ _ _ h0 c h
          | (cases h; exact fun e he => .inl he)
          | cases h
      · rw [if_neg c] at h
        cases h
        exact fun e he => .inl he
    · intro out n i c b r h0 h1 h
      simp only [flat_Kids.j2] at h
      have more : ∀ (n' : Int), flat_Kids.l0 k x x1 (out ++ [i]) n' (wrap64 (i + 1)) = some r → ∀ e ∈ r, e ∈ out ∨ (0 ≤ e ∧ e < (x.length : Int)) := by
        intro n' h e he
        rcases step _ _ _ _ h0 h1 h e he with h2 | h2
        · rcases List.mem_append.1 h2 with h3 | h3
          · exact .inl h3
          · rw [List.mem_singleton] at h3
            subst h3
            exact .inr ⟨h0, h1⟩
        · exact .inr h2
      repeat' split at h
      all_goals first
        | exact more _ h
        | (rw [Option.bind_some] at h; split at h <;> exact more _ h)
        | exact step _ _ _ _ h0 h1 h
        | cases h
theorem rdI (X : List Int) (i : Nat) (h : i < X.length) : rd X (i : Int) = X[i] := by simp [rd, List.getD_eq_getElem?_getD, List.getElem?_eq_getElem h]
def pt (a : List S64) (x : Int) : Int := (flat_Partner.f (a.length + 4) a x).getD (-1)
def partOf (a : List S64) (x : Int) : S86 := ⟨x, (a.take (mx (pt a x) x + 1).toNat).drop x.toNat⟩
theorem partOf_f0 (a : List S64) (x : Int) : (partOf a x).f0 = x := rfl
theorem partOf_f1 (a : List S64) (x : Int) : (partOf a x).f1 = (a.take (mx (pt a x) x + 1).toNat).drop x.toNat := rfl
theorem pt_spec (a : List S64) (hl : a.length < 17592186044416) (x : Int) (h0 : 0 ≤ x) (h1 : x < (a.length : Int)) : (∀ k, a.length + 3 < k → flat_Partner.f k a x = some (pt a x)) ∧ (∀ k, 3 * a.length + 6 < k → emenderref04_Partner.f k a x = some (pt a x)) ∧ -1 ≤ pt a x ∧ pt a x < (a.length : Int) := by
  obtain ⟨r, q1, q2, q3⟩ := FlatC.partner a hl x
  have e : pt a x = r := by unfold pt; rw [q1 _ (by omega)]; rfl
  rw [e]
  refine ⟨q1, q2, ?_⟩
  obtain ⟨p1, p2, p3⟩ := q3 h0 (by omega)
  by_cases c1 : (a[x.toNat]'(by omega)).f0 = 1
  · rcases p1 c1 with ⟨rfl, _⟩ | ⟨h2, h3, _⟩ <;> omega
  · by_cases c2 : (a[x.toNat]'(by omega)).f0 = 2
    · have e2 := p2 c2
      by_cases hs : FlatA.stackAt a x = []
      · rw [hs] at e2
        have e3 : r = -1 := e2
        omega
      · have := FlatB.stackAt_mem' a x _ (FlatB.top_mem hs)
        omega
    · have := p3 c1 c2
      omega
theorem mx_end {p x n : Int} (h0 : 0 ≤ x) (h1 : x < n) (h2 : -1 ≤ p) (h3 : p < n) : x ≤ mx p x + 1 ∧ mx p x + 1 ≤ n := by
  unfold mx
  split <;> omega
theorem part_length (a : List S64) (x : Int) : (partOf a x).f1.length ≤ a.length := by
  rw [partOf_f1, List.length_drop, List.length_take]
  omega
theorem parts_l0 (a : List S64) (ha : a.length ≤ 2048) (X : List Int) (hX : X.length ≤ a.length) (hin : ∀ x ∈ X, 0 ≤ x ∧ x < (a.length : Int)) : ∀ (d k i : Nat) (out : List S86), i + d = X.length → out.length ≤ i → a.length + 4 + d < k → diff_parts.l0 k a out X (X.length : Int) (i : Int) = some (out ++ (X.drop i).map (partOf a)) := by
  intro d
  induction d with
  | zero =>
    intro k i out h1 h2 hk
    obtain ⟨k, rfl⟩ : ∃ m, k = m + 1 := ⟨k - 1, by omega⟩
    simp only [diff_parts.l0]
    rw [if_neg (by omega), List.drop_eq_nil_of_le (by omega)]
    simp
  | succ d ih =>
    intro k i out h1 h2 hk
    obtain ⟨k, rfl⟩ : ∃ m, k = m + 1 := ⟨k - 1, by omega⟩
    have hi : i < X.length := by omega
    have i1 : (i : Int) < (X.length : Int) := by omega
    have i0 : (0 : Int) ≤ (i : Int) := by omega
    have w3 : wrap64 ((i : Int) + 1) = ((i + 1 : Nat) : Int) := by rw [w64 (by omega)]; omega
    have o1 : out.length < 4398046511104 := by omega
    obtain ⟨x0, x1⟩ := hin X[i] (List.getElem_mem hi)
    obtain ⟨p1, _, p3, p4⟩ := pt_spec a (by omega) X[i] x0 x1
    have p1 := p1 k (by omega)
    have ih' := fun o (ho : o.length ≤ i + 1) => ih k (i + 1) o (by omega) ho (by omega)
    have hd : (X.drop i).map (partOf a) = partOf a X[i] :: (X.drop (i + 1)).map (partOf a) := by rw [List.drop_eq_getElem_cons hi, List.map_cons]
    have hr := rdI X i hi
    have hp : partOf a X[i] = ⟨X[i], (a.take (mx (pt a X[i]) X[i] + 1).toNat).drop X[i].toNat⟩ := rfl
    rw [hd]
    clear hd ih hin hX h1
    generalize partOf a X[i] = pa at hp ⊢
    generalize pt a X[i] = p at p1 p3 p4 hp
    generalize X[i] = x at x0 x1 p1 hr hp
    have w1 : wrap64 (x + 1) = x + 1 := w64 (by omega)
    have w2 : wrap64 (p + 1) = p + 1 := w64 (by omega)
    simp only [diff_parts.l0]
    rw [if_pos i1, if_pos i0, if_pos i1, hr, p1, Option.bind_some, w1, w2, w3]
    by_cases c : p > x
    · have e2 : mx p x = p := by unfold mx; split <;> omega
      rw [e2] at hp
      rw [if_pos c, if_pos x0, if_pos (by omega), if_pos (by omega), if_pos o1, ih' _ (by simp; omega), hp, List.append_assoc]
      rfl
    · have e2 : mx p x = x := by unfold mx; split <;> omega
      rw [e2] at hp
      rw [if_neg c, if_pos x0, if_pos (by omega), if_pos (by omega), if_pos o1, ih' _ (by simp; omega), hp, List.append_assoc]
      rfl
theorem blocks (a : List S64) (ha : a.length ≤ 2048) : ∃ X : List Int, X.length ≤ a.length ∧ (∀ x ∈ X, 0 ≤ x ∧ x < (a.length : Int)) ∧ (∀ k, 2 * a.length + 3 < k → flat_Kids.f k a (-1) = some X) ∧ (∀ k, 4 * a.length + 8 < k → emenderref04_Kids.f k a (-1) = some X) ∧ (∀ k, 2 * a.length + 5 < k → diff_parts.f k a = some (X.map (partOf a))) := by
  obtain ⟨X, q1, q2, q3⟩ := FlatK.kids a (by omega) (-1) (by omega)
  have hin : ∀ x ∈ X, 0 ≤ x ∧ x < (a.length : Int) := by
    have h := q2 (2 * a.length + 6) (by omega)
    unfold flat_Kids.f at h
    rw [if_neg (by omega)] at h
    by_cases c : (-1 : Int) ≥ (a.length : Int)
    · omega
    · rw [if_neg c, if_neg (by omega)] at h
      simp only [flat_Kids.j0] at h
      rw [if_neg (by decide), w64 (by omega)] at h
      intro x hx
      rcases (kids_in a (by omega) (-1) _).1 _ _ _ X (by omega) (by omega) h x hx with h1 | h1
      · simp at h1
      · exact h1
  refine ⟨X, q1, hin, q2, q3, fun k hk => ?_⟩
  unfold diff_parts.f
  rw [q2 k (by omega), Option.bind_some]
  have := parts_l0 a ha X q1 hin X.length k 0 [] (by omega) (by simp) (by omega)
  simpa using this
theorem same_loop (a b : List S64) (hab : a.length = b.length) (hl : a.length < 17592186044416) : ∀ (d k : Nat) (i : Int), 0 ≤ i → i + d = a.length → d < k → flat_Same.l0 k a b (a.length : Int) i = some (sameL (a.drop i.toNat) (b.drop i.toNat)) := by
  intro d
  induction d with
  | zero =>
    intro k i h0 h1 hk
    obtain ⟨k, rfl⟩ : ∃ m, k = m + 1 := ⟨k - 1, by omega⟩
    simp only [flat_Same.l0]
    rw [if_neg (by omega), List.drop_eq_nil_of_le (by omega), List.drop_eq_nil_of_le (by omega)]
    rfl
  | succ d ih =>
    intro k i h0 h1 hk
    obtain ⟨k, rfl⟩ : ∃ m, k = m + 1 := ⟨k - 1, by omega⟩
    have ha : i.toNat < a.length := by omega
    have hb : i.toNat < b.length := by omega
    simp only [flat_Same.l0]
    rw [if_pos (by omega), if_pos h0, if_pos (by omega), if_pos (by omega), rd_get a i ha, rd_get b i hb, ne_test, w64 (by omega), List.drop_eq_getElem_cons ha, List.drop_eq_getElem_cons hb]
    simp only [sameL]
    cases e : eqT a[i.toNat] b[i.toNat] with
    | false => simp
    | true =>
      rw [if_neg (by decide), ih k (i + 1) (by omega) (by omega) (by omega), show (i + 1).toNat = i.toNat + 1 by omega]
      simp
theorem same (a b : List S64) (hl : a.length < 17592186044416) (k : Nat) (hk : a.length < k) : flat_Same.f k a b = some (sameL a b) := by
  unfold flat_Same.f
  by_cases h : (a.length : Int) = (b.length : Int)
  · rw [if_pos h, same_loop a b (by omega) hl a.length k 0 (by omega) (by omega) hk]
    rfl
  · rw [if_neg h, sameL_length a b (by omega)]
def like (a b : List S64) (X Y : List Int) (i j : Nat) : Bool := sameL (partOf a (X.getD i 0)).f1 (partOf b (Y.getD j 0)).f1
theorem rd86 (a : List S64) (X : List Int) (i : Nat) (hi : i < X.length) : rd_T86 (X.map (partOf a)) (i : Int) = partOf a X[i] := by
  simp [rd_T86, List.getD_eq_getElem?_getD, hi]
theorem P_like {f g : Nat → Nat → Bool} {n m : Nat} (h : ∀ i j, i < n → j < m → f i j = g i j) : ∀ (k i j : Nat), DiffT.P f n m k i j = DiffT.P g n m k i j := by
  have hT : ∀ (d i j : Nat), (n - i) + (m - j) = d → DiffT.T f n m i j = DiffT.T g n m i j := by
    intro d
    induction d using Nat.strongRecOn with
    | _ d ih =>
      intro i j hd
      by_cases c : i < n ∧ j < m
      · rw [DiffT.T_in c.1 c.2, DiffT.T_in c.1 c.2, ih _ (by omega) (i + 1) j rfl, ih _ (by omega) i (j + 1) rfl, ih _ (by omega) (i + 1) (j + 1) rfl, h i j c.1 c.2]
      · rw [DiffT.T_out (by omega), DiffT.T_out (by omega)]
  have hF : ∀ i j p q, p < n → q < m → DiffT.Fit f n m i j p q = DiffT.Fit g n m i j p q := by
    intro i j p q hp hq
    unfold DiffT.Fit
    rw [h p q hp hq, hT _ (p + 1) (q + 1) rfl, hT _ i j rfl]
  have hR : ∀ (i j p : Nat) (d q : Nat), m - q = d → p < n → DiffT.inRow (DiffT.Fit f n m i j p) m q = DiffT.inRow (DiffT.Fit g n m i j p) m q := by
    intro i j p d
    induction d with
    | zero => intro q hd hp; rw [DiffT.inRow, dif_neg (by omega), DiffT.inRow, dif_neg (by omega)]
    | succ d ih =>
      intro q hd hp
      rw [DiffT.inRow, dif_pos (by omega), DiffT.inRow.eq_1 (DiffT.Fit g n m i j p), dif_pos (by omega), hF i j p q hp (by omega), ih (q + 1) (by omega) hp]
  have hS : ∀ (i j : Nat) (d p : Nat), n - p = d → DiffT.first (DiffT.Fit f n m i j) n m p j = DiffT.first (DiffT.Fit g n m i j) n m p j := by
    intro i j d
    induction d with
    | zero => intro p hd; rw [DiffT.first, dif_neg (by omega), DiffT.first, dif_neg (by omega)]
    | succ d ih =>
      intro p hd
      rw [DiffT.first, dif_pos (by omega), DiffT.first.eq_1 (DiffT.Fit g n m i j), dif_pos (by omega), hR i j p _ j rfl (by omega), ih (p + 1) (by omega)]
  intro k
  induction k with
  | zero => intro i j; rfl
  | succ k ih =>
    intro i j
    simp only [DiffT.P]
    rw [hT _ i j rfl, hS i j _ i rfl]
    split
    · rfl
    · split
      · rename_i p q _
        rw [ih (p + 1) (q + 1)]
      · rfl
def rows (a b : List S64) (X Y : List Int) : List S55 := diff_Rows.outs (X.map (partOf a)) (Y.map (partOf b)) (diff_gaps.trace X.length Y.length (0, 0) (diff_grid.enc (DiffT.P (like a b X Y) X.length Y.length X.length 0 0)))
theorem rows_f (a b : List S64) (ha : a.length ≤ 2048) (hb : b.length ≤ 2048) (e : Int) (he : diff_both.f a b = some e) : ∃ X Y : List Int, X.length ≤ a.length ∧ Y.length ≤ b.length ∧ (∀ x ∈ X, 0 ≤ x ∧ x < (a.length : Int)) ∧ (∀ y ∈ Y, 0 ≤ y ∧ y < (b.length : Int)) ∧
    (∀ k, 4 * a.length + 8 < k → flat_Kids.f k a (-1) = some X ∧ emenderref04_Kids.f k a (-1) = some X) ∧ (∀ k, 4 * b.length + 8 < k → flat_Kids.f k b (-1) = some Y ∧ emenderref04_Kids.f k b (-1) = some Y) ∧
    diff_Rows.f a b = some (if e = 0 then (if X.length > 200 ∨ Y.length > 200 then ([], 2) else (rows a b X Y, 0)) else ([], e)) := by
  obtain ⟨X, x1, x2, x3, x4, x5⟩ := blocks a ha
  obtain ⟨Y, y1, y2, y3, y4, y5⟩ := blocks b hb
  refine ⟨X, Y, x1, y1, x2, y2, fun k hk => ⟨x3 k (by omega), x4 k hk⟩, fun k hk => ⟨y3 k (by omega), y4 k hk⟩, ?_⟩
  unfold diff_Rows.f
  rw [he, Option.bind_some]
  by_cases h0 : e = 0
  · rw [if_pos h0, if_pos h0, x5 _ (by unfold diff_Rows.k0; omega), Option.bind_some, y5 _ (by unfold diff_Rows.k0; omega), Option.bind_some, List.length_map, List.length_map]
    by_cases c : X.length > 200 ∨ Y.length > 200
    · rw [if_pos c, if_pos c]
    · rw [if_neg c, if_neg c]
      have hok : diff_Rows.ok (diff_Rows.k0 a b) (X.map (partOf a)) (Y.map (partOf b)) = true := by
        unfold diff_Rows.ok
        simp only [List.all_eq_true, List.mem_map]
        rintro p ⟨x, _, rfl⟩ q ⟨y, _, rfl⟩
        have := part_length a x
        rw [same _ _ (by omega) _ (by unfold diff_Rows.k0; omega)]
        rfl
      rw [if_pos hok]
      have hl : ∀ i j, i < X.length → j < Y.length → diff_Rows.like (diff_Rows.k0 a b) (X.map (partOf a)) (Y.map (partOf b)) i j = like a b X Y i j := by
        intro i j hi hj
        unfold diff_Rows.like like
        rw [rd86 a X i hi, rd86 b Y j hj]
        have := part_length a X[i]
        rw [same _ _ (by omega) _ (by unfold diff_Rows.k0; omega)]
        simp [List.getD_eq_getElem?_getD, List.getElem?_eq_getElem hi, List.getElem?_eq_getElem hj]
      rw [P_like hl]
      rfl
  · rw [if_neg h0, if_neg h0]
inductive Goes (X Y : List Int) (good : Int → Int → Prop) : Nat → Nat → List S55 → Prop
  | done (i j : Nat) (hi : i = X.length) (hj : j = Y.length) : Goes X Y good i j []
  | gone (i j : Nat) (l : List S55) (h : i < X.length) (t : Goes X Y good (i + 1) j l) : Goes X Y good i j (⟨1, X[i], -1⟩ :: l)
  | come (i j : Nat) (l : List S55) (h : j < Y.length) (t : Goes X Y good i (j + 1) l) : Goes X Y good i j (⟨2, -1, Y[j]⟩ :: l)
  | stay (i j : Nat) (l : List S55) (h : i < X.length) (h2 : j < Y.length) (g : good X[i] Y[j]) (t : Goes X Y good (i + 1) (j + 1) l) : Goes X Y good i j (⟨0, X[i], Y[j]⟩ :: l)
theorem Goes.size {X Y : List Int} {good : Int → Int → Prop} {i j : Nat} {l : List S55} (h : Goes X Y good i j l) : i ≤ X.length ∧ j ≤ Y.length ∧ l.length ≤ (X.length - i) + (Y.length - j) := by
  induction h with
  | done i j hi hj => subst hi hj; simp
  | gone i j l h t ih => simp only [List.length_cons]; omega
  | come i j l h t ih => simp only [List.length_cons]; omega
  | stay i j l h h2 g t ih => simp only [List.length_cons]; omega
theorem goes_gones {X Y : List Int} {good : Int → Int → Prop} (a : List S64) : ∀ (d i p j : Nat) (l : List S55), i + d = p → p ≤ X.length → Goes X Y good p j l → Goes X Y good i j ((((X.map (partOf a)).take p).drop i).map diff_Rows.gone ++ l) := by
  intro d
  induction d with
  | zero =>
    intro i p j l h1 h2 h
    obtain rfl : i = p := by omega
    rw [List.drop_eq_nil_of_le (by rw [List.length_take]; omega)]
    exact h
  | succ d ih =>
    intro i p j l h1 h2 h
    have hi : i < X.length := by omega
    rw [List.drop_eq_getElem_cons (by rw [List.length_take, List.length_map]; omega), List.map_cons, List.cons_append, List.getElem_take, List.getElem_map]
    exact Goes.gone i j _ hi (ih (i + 1) p j l (by omega) h2 h)
theorem goes_comes {X Y : List Int} {good : Int → Int → Prop} (b : List S64) : ∀ (d i q j : Nat) (l : List S55), j + d = q → q ≤ Y.length → Goes X Y good i q l → Goes X Y good i j ((((Y.map (partOf b)).take q).drop j).map diff_Rows.come ++ l) := by
  intro d
  induction d with
  | zero =>
    intro i p j l h1 h2 h
    obtain rfl : j = p := by omega
    rw [List.drop_eq_nil_of_le (by rw [List.length_take]; omega)]
    exact h
  | succ d ih =>
    intro i p j l h1 h2 h
    have hi : j < Y.length := by omega
    rw [List.drop_eq_getElem_cons (by rw [List.length_take, List.length_map]; omega), List.map_cons, List.cons_append, List.getElem_take, List.getElem_map]
    exact Goes.come i j _ hi (ih i p (j + 1) l (by omega) h2 h)
theorem goes_outs (a b : List S64) (X Y : List Int) (good : Int → Int → Prop) (lk : Nat → Nat → Bool) (hg : ∀ p q (hp : p < X.length) (hq : q < Y.length), lk p q = true → good X[p] Y[q]) {i j : Nat} {l : List (Nat × Nat)} (h : DiffT.Rise lk X.length Y.length i j l) : i ≤ X.length → j ≤ Y.length →
    Goes X Y good i j (diff_Rows.outs (X.map (partOf a)) (Y.map (partOf b)) (diff_gaps.trace X.length Y.length ((i : Int), (j : Int)) (diff_grid.enc l))) := by
  induction h with
  | nil i j =>
    intro hi hj
    simp only [diff_grid.enc, List.map_nil, diff_gaps.trace, diff_Rows.outs, List.flatMap_cons, List.flatMap_nil, List.append_nil, diff_Rows.add, Int.toNat_natCast]
    rw [if_neg (by decide), List.append_nil]
    have h0 : Goes X Y good X.length Y.length [] := .done _ _ rfl rfl
    have h1 := goes_comes (good := good) b (Y.length - j) X.length Y.length j [] (by omega) (by omega) h0
    have h2 := goes_gones (good := good) a (X.length - i) i X.length j _ (by omega) (by omega) h1
    simpa using h2
  | cons i j p q l h1 h2 h3 h4 h5 h ih =>
    intro hi hj
    have t := ih (by omega) (by omega)
    have t2 := Goes.stay (good := good) p q _ h2 h4 (hg p q h2 h4 h5) t
    have t3 := goes_comes b (q - j) p q j _ (by omega) (by omega) t2
    have t4 := goes_gones a (p - i) i p j _ (by omega) (by omega) t3
    simp only [diff_grid.enc, List.map_cons, diff_gaps.trace, diff_Rows.outs, List.flatMap_cons, diff_Rows.add, Int.toNat_natCast]
    rw [if_pos trivial, rd86 a X p h2, rd86 b Y q h4, partOf_f0, partOf_f0, List.append_assoc, List.append_assoc]
    exact t4
theorem goes_rows (a b : List S64) (X Y : List Int) : Goes X Y (fun x y => sameL (partOf a x).f1 (partOf b y).f1 = true) 0 0 (rows a b X Y) := by
  refine goes_outs a b X Y _ (like a b X Y) ?_ (DiffT.P_rise _ _ _) (Nat.zero_le _) (Nat.zero_le _)
  intro p q hp hq h
  unfold like at h
  simpa [List.getD_eq_getElem?_getD, List.getElem?_eq_getElem hp, List.getElem?_eq_getElem hq] using h
end Go.Proofs.Ytjpmlggkhhoooaa.DiffP
/- The document's ends, table and pairs, in plain words. (rd_L10, rd_L12: the rows of rows of whole numbers, of truths; said by the caller.) -/
namespace Go.Proofs.Ytjpmlggkhhoooaa.DiffE
open Go.RowKit Go.Proofs.YtjpmlggkhhoooaaW.PrintWords Go.Proofs.YtjpmlggkhhoooaaW.PrintMore
set_option linter.unusedSimpArgs false
set_option linter.unusedVariables false
open Go.Proofs Go.Proofs.Ytjpmlggkhhoooaa Go.Proofs.Ytjpmlggkhhoooaa.PDq Go.Proofs.Ytjpmlggkhhoooaa.StepA Go.Proofs.Ytjpmlggkhhoooaa.StepB Go.Proofs.Ytjpmlggkhhoooaa.StepD Go.Proofs.Ytjpmlggkhhoooaa.DiffA

def EvD {α : Type} (f : Nat → Option α) (r : α) : Prop := ∃ K, ∀ k, K ≤ k → f k = some r
theorem EvD.succ {α : Type} {f g : Nat → Option α} {r : α} (h : ∀ k, f (k + 1) = g k) (hg : EvD g r) : EvD f r := by
  obtain ⟨K, hK⟩ := hg
  refine ⟨K + 1, fun k hk => ?_⟩
  obtain ⟨k, rfl⟩ : ∃ m, k = m + 1 := ⟨k - 1, by omega⟩
  rw [h]
  exact hK k (by omega)
theorem EvD.now {α : Type} {f : Nat → Option α} {r : α} (h : ∀ k, f (k + 1) = some r) : EvD f r := ⟨1, fun k hk => by
  obtain ⟨k, rfl⟩ : ∃ m, k = m + 1 := ⟨k - 1, by omega⟩
  exact h k⟩
theorem EvD.bind {α β : Type} {f : Nat → Option α} {g : Nat → α → Option β} {a : α} {r : β} (h : EvD f a) (hg : EvD (fun k => g k a) r) : EvD (fun k => (f k).bind (g k)) r := by
  obtain ⟨K, hK⟩ := h
  obtain ⟨K', hK'⟩ := hg
  exact ⟨K + K', fun k hk => by simp only [hK k (by omega), Option.bind_some]; exact hK' k (by omega)⟩
theorem EvD.of {α : Type} {f g : Nat → Option α} {r : α} (h : ∀ k, f k = g k) (hg : EvD g r) : EvD f r := by
  obtain ⟨K, hK⟩ := hg
  exact ⟨K, fun k hk => by rw [h]; exact hK k hk⟩

theorem ref_l1 (a b : List S64) (ha : a.length < 4398046511104) (hb : b.length < 4398046511104) (c : Nat) (h1 : c ≤ a.length) (h2 : c ≤ b.length) : ∀ (d i : Nat), min (a.length - c) (b.length - c) - i = d → i ≤ min (a.length - c) (b.length - c) →
    EvD (fun k => emenderref23_Ends.l1 k a b (c : Int) (i : Int)) ((c : Int), ((i + com ((a.drop c).reverse.drop i) ((b.drop c).reverse.drop i) : Nat) : Int)) := by
  have stop : ∀ i : Nat, ¬ i < min (a.length - c) (b.length - c) → com ((a.drop c).reverse.drop i) ((b.drop c).reverse.drop i) = 0 := by
    intro i hi
    have x1 := com_le1 ((a.drop c).reverse.drop i) ((b.drop c).reverse.drop i)
    have x2 := com_le2 ((a.drop c).reverse.drop i) ((b.drop c).reverse.drop i)
    rw [List.length_drop, List.length_reverse, List.length_drop] at x1 x2
    omega
  intro d
  induction d with
  | zero =>
    intro i hd hi
    rw [stop i (by omega), Nat.add_zero]
    refine EvD.now fun k => ?_
    simp only [emenderref23_Ends.l1]
    rw [w64 (i := (a.length : Int) - (c : Int)) (by omega), w64 (i := (b.length : Int) - (c : Int)) (by omega)]
    by_cases c1 : (i : Int) < (a.length : Int) - (c : Int)
    · rw [if_pos c1, if_neg (by omega)]
    · rw [if_neg c1]
  | succ d ih =>
    intro i hd hi
    have hia : i < (a.drop c).reverse.length := by rw [List.length_reverse, List.length_drop]; omega
    have hib : i < (b.drop c).reverse.length := by rw [List.length_reverse, List.length_drop]; omega
    rw [List.drop_eq_getElem_cons hia, List.drop_eq_getElem_cons hib, com]
    have ea : (a.drop c).reverse[i] = a[a.length - 1 - i]'(by omega) := by
      rw [List.getElem_reverse, List.getElem_drop]
      congr 1
      rw [List.length_drop]; omega
    have eb : (b.drop c).reverse[i] = b[b.length - 1 - i]'(by omega) := by
      rw [List.getElem_reverse, List.getElem_drop]
      congr 1
      rw [List.length_drop]; omega
    rw [ea, eb]
    have hstep : ∀ k, emenderref23_Ends.l1 (k + 1) a b (c : Int) (i : Int) = if eqT (a[a.length - 1 - i]'(by omega)) (b[b.length - 1 - i]'(by omega)) = true then emenderref23_Ends.l1 k a b (c : Int) ((i + 1 : Nat) : Int) else some ((c : Int), (i : Int)) := by
      intro k
      simp only [emenderref23_Ends.l1]
      rw [w64 (i := (a.length : Int) - (c : Int)) (by omega), w64 (i := (b.length : Int) - (c : Int)) (by omega), w64 (i := (a.length : Int) - 1) (by omega), w64 (i := (b.length : Int) - 1) (by omega),
        w64 (i := (a.length : Int) - 1 - (i : Int)) (by omega), w64 (i := (b.length : Int) - 1 - (i : Int)) (by omega), w64 (i := (i : Int) + 1) (by omega)]
      rw [if_pos (by omega), if_pos (by omega), if_pos (by omega), if_pos (by omega), if_pos (by omega), if_pos (by omega)]
      rw [show ((a.length : Int) - 1 - (i : Int)) = ((a.length - 1 - i : Nat) : Int) by omega, show ((b.length : Int) - 1 - (i : Int)) = ((b.length - 1 - i : Nat) : Int) by omega]
      rw [rd_get a ((a.length - 1 - i : Nat) : Int) (by rw [Int.toNat_natCast]; omega), rd_get b ((b.length - 1 - i : Nat) : Int) (by rw [Int.toNat_natCast]; omega)]
      simp only [Int.toNat_natCast]
      rfl
    by_cases e : eqT (a[a.length - 1 - i]'(by omega)) (b[b.length - 1 - i]'(by omega)) = true
    · rw [if_pos e]
      refine EvD.succ (g := fun k => emenderref23_Ends.l1 k a b (c : Int) ((i + 1 : Nat) : Int)) (fun k => by rw [hstep, if_pos e]) ?_
      have := ih (i + 1) (by omega) (by omega)
      rw [show i + 1 + com ((a.drop c).reverse.drop (i + 1)) ((b.drop c).reverse.drop (i + 1)) = i + (com ((a.drop c).reverse.drop (i + 1)) ((b.drop c).reverse.drop (i + 1)) + 1) by omega] at this
      exact this
    · rw [if_neg e, Nat.add_zero]
      exact EvD.now fun k => by rw [hstep, if_neg e]
theorem ref_l0 (a b : List S64) (ha : a.length < 4398046511104) (hb : b.length < 4398046511104) : ∀ (d i : Nat), a.length - i = d → i ≤ a.length → i ≤ b.length → ∀ c, c = i + com (a.drop i) (b.drop i) →
    EvD (fun k => emenderref23_Ends.l0 k a b (i : Int)) ((c : Int), ((com (a.drop c).reverse (b.drop c).reverse : Nat) : Int)) := by
  have stop : ∀ i : Nat, i ≤ a.length → i ≤ b.length → EvD (fun k => emenderref23_Ends.j1 k a b (i : Int)) ((i : Int), ((com (a.drop i).reverse (b.drop i).reverse : Nat) : Int)) := by
    intro i h1 h2
    refine EvD.succ (g := fun k => emenderref23_Ends.l1 k a b (i : Int) ((0 : Nat) : Int)) (fun k => by simp only [emenderref23_Ends.j1]; rfl) ?_
    have := ref_l1 a b ha hb i h1 h2 _ 0 rfl (Nat.zero_le _)
    simpa using this
  intro d
  induction d with
  | zero =>
    intro i hd h1 h2 c hc
    have : com (a.drop i) (b.drop i) = 0 := by
      have := com_le1 (a.drop i) (b.drop i)
      rw [List.length_drop] at this; omega
    obtain rfl : c = i := by omega
    exact EvD.succ (g := fun k => emenderref23_Ends.j1 k a b (c : Int)) (fun k => by simp only [emenderref23_Ends.l0]; rw [if_neg (by omega)]) (stop c h1 h2)
  | succ d ih =>
    intro i hd h1 h2 c hc
    by_cases hib : i < b.length
    · have hia : i < a.length := by omega
      rw [List.drop_eq_getElem_cons hia, List.drop_eq_getElem_cons hib, com] at hc
      have hstep : ∀ k, emenderref23_Ends.l0 (k + 1) a b (i : Int) = if eqT a[i] b[i] = true then emenderref23_Ends.l0 k a b ((i + 1 : Nat) : Int) else emenderref23_Ends.j1 k a b (i : Int) := by
        intro k
        simp only [emenderref23_Ends.l0]
        rw [if_pos (by omega), if_pos (by omega), if_pos (by omega), w64 (i := (i : Int) + 1) (by omega), rd_get a (i : Int) (by simpa using hia), rd_get b (i : Int) (by simpa using hib)]
        simp only [Int.toNat_natCast]
        rfl
      by_cases e : eqT a[i] b[i] = true
      · rw [if_pos e] at hc
        exact EvD.succ (g := fun k => emenderref23_Ends.l0 k a b ((i + 1 : Nat) : Int)) (fun k => by rw [hstep, if_pos e]) (ih (i + 1) (by omega) (by omega) (by omega) c (by omega))
      · rw [if_neg e, Nat.add_zero] at hc
        subst hc
        exact EvD.succ (g := fun k => emenderref23_Ends.j1 k a b (c : Int)) (fun k => by rw [hstep, if_neg e]) (stop c h1 h2)
    · have : com (a.drop i) (b.drop i) = 0 := by
        have := com_le2 (a.drop i) (b.drop i)
        rw [List.length_drop] at this; omega
      obtain rfl : c = i := by omega
      exact EvD.succ (g := fun k => emenderref23_Ends.j1 k a b (c : Int)) (fun k => by simp only [emenderref23_Ends.l0]; rw [if_pos (by omega), if_neg (by omega)]) (stop c h1 h2)
theorem ref_ends (a b : List S64) (ha : a.length < 4398046511104) (hb : b.length < 4398046511104) : EvD (fun k => emenderref23_Ends.f k a b) (((com a b : Nat) : Int), ((tailN a b : Nat) : Int)) := by
  have := ref_l0 a b ha hb _ 0 rfl (Nat.zero_le _) (Nat.zero_le _) (com a b) (by simp)
  exact EvD.of (fun k => rfl) this

def V (x : List (List Int)) (i j : Nat) : Int := (x.getD i []).getD j 0
theorem V_set {x : List (List Int)} {i j : Nat} (hi : i < x.length) (hj : j < (x.getD i []).length) (v : Int) (i' j' : Nat) : V (x.set i ((x.getD i []).set j v)) i' j' = if i' = i ∧ j' = j then v else V x i' j' := by
  unfold V
  by_cases e : i' = i
  · subst e
    rw [List.getD_eq_getElem?_getD (l := x.set _ _), List.getElem?_set_self hi, Option.getD_some]
    by_cases e2 : j' = j
    · subst e2
      rw [if_pos ⟨rfl, rfl⟩, List.getD_eq_getElem?_getD, List.getElem?_set_self hj, Option.getD_some]
    · rw [if_neg (fun h => e2 h.2), List.getD_eq_getElem?_getD, List.getElem?_set_ne (Ne.symm e2), ← List.getD_eq_getElem?_getD]
  · rw [if_neg (fun h => e h.1), List.getD_eq_getElem?_getD (l := x.set _ _), List.getElem?_set_ne (Ne.symm e), ← List.getD_eq_getElem?_getD]
theorem len_set {x : List (List Int)} {i : Nat} (r : List Int) (hr : r.length = (x.getD i []).length) (i' : Nat) : ((x.set i r).getD i' []).length = (x.getD i' []).length := by
  by_cases e : i' = i
  · subst e
    by_cases h : i' < x.length
    · rw [List.getD_eq_getElem?_getD, List.getElem?_set_self h, Option.getD_some, hr]
    · rw [List.set_eq_of_length_le (by omega)]
  · rw [List.getD_eq_getElem?_getD, List.getElem?_set_ne (Ne.symm e), ← List.getD_eq_getElem?_getD]
structure Tab (L : Nat → Nat → Bool) (n m : Nat) (x : List (List Int)) (i j : Nat) : Prop where
  len : x.length = n + 1
  row : ∀ i', i' ≤ n → (x.getD i' []).length = m + 1
  val : ∀ i' j', i' ≤ n → j' ≤ m → (i < i' ∨ (i' = i ∧ j ≤ j') ∨ j' = m ∨ i' = n) → V x i' j' = (DiffT.T L n m i' j' : Int)
theorem Tab.set {L : Nat → Nat → Bool} {n m : Nat} {x : List (List Int)} {i j : Nat} (h : Tab L n m x i (j + 1)) (hi : i < n) (hj : j < m) (v : Int) : Tab L n m (x.set i ((x.getD i []).set j v)) i (j + 1) ∧ V (x.set i ((x.getD i []).set j v)) i j = v := by
  have h1 : i < x.length := by rw [h.len]; omega
  have h2 : j < (x.getD i []).length := by rw [h.row i (by omega)]; omega
  refine ⟨⟨by rw [List.length_set, h.len], fun i' a => by rw [len_set _ (by rw [List.length_set])]; exact h.row i' a, fun i' j' a b c => ?_⟩, ?_⟩
  · rw [V_set h1 h2, if_neg (by omega)]
    exact h.val i' j' a b c
  · rw [V_set h1 h2, if_pos ⟨rfl, rfl⟩]
theorem Tab.done {L : Nat → Nat → Bool} {n m : Nat} {x : List (List Int)} {i j : Nat} (h : Tab L n m x i (j + 1)) (hv : V x i j = (DiffT.T L n m i j : Int)) : Tab L n m x i j :=
  ⟨h.len, h.row, fun i' j' a b c => by
    by_cases e : i' = i ∧ j' = j
    · rw [e.1, e.2]; exact hv
    · exact h.val i' j' a b (by omega)⟩
theorem rdL (x : List (List Int)) (i : Nat) : rd_L10 x (i : Int) = x.getD i [] := by simp [rd_L10]
theorem rdV (x : List (List Int)) (i j : Nat) : rd (x.getD i []) (j : Int) = V x i j := by simp [rd, V]
structure Like (L : Nat → Nat → Bool) (n m : Nat) (X : List (List Bool)) : Prop where
  len : X.length = n
  row : ∀ i, i < n → (X.getD i []).length = m
  val : ∀ i j, i < n → j < m → (X.getD i []).getD j false = L i j
theorem tab_l2 {L : Nat → Nat → Bool} {n m : Nat} {X : List (List Bool)} (hn : n ≤ 400) (hm : m ≤ 400) (hX : Like L n m X) (i : Nat) (hi : i < n) : ∀ (j : Nat) (x : List (List Int)), j ≤ m → Tab L n m x i j → ∃ y, Tab L n m y i 0 ∧ ∀ r, EvD (fun k => emenderref23_table.l1 k X (m : Int) y ((i : Int) - 1)) r → EvD (fun k => emenderref23_table.l2 k X (m : Int) x (i : Int) ((j : Int) - 1)) r
  | 0, x, hj, h => ⟨x, h, fun r hr => EvD.succ (fun k => by simp only [emenderref23_table.l2]; rw [if_neg (by omega), w64 (by omega)]) hr⟩
  | j + 1, x, hj, h => by
    have e1 : wrap64 ((i : Int) + 1) = ((i + 1 : Nat) : Int) := by rw [w64 (by omega)]; omega
    have e2 : wrap64 ((j : Int) + 1) = ((j + 1 : Nat) : Int) := by rw [w64 (by omega)]; omega
    have e3 : wrap64 ((j : Int) - 1) = (j : Int) - 1 := w64 (by omega)
    have l1 := DiffT.T_le (like := L) (n := n) (m := m) _ (i + 1) j rfl
    have l2 := DiffT.T_le (like := L) (n := n) (m := m) _ i (j + 1) rfl
    have l3 := DiffT.T_le (like := L) (n := n) (m := m) _ (i + 1) (j + 1) rfl
    have tT := Aside0.mk (DiffT.T_in (like := L) hi (show j < m by omega))
    have v1 := h.val (i + 1) j (by omega) (by omega) (.inl (by omega))
    have v2 := h.val i (j + 1) (by omega) (by omega) (.inr (.inl ⟨rfl, Nat.le_refl _⟩))
    obtain ⟨g1, g2⟩ := h.set hi (show j < m by omega) (mx (V x (i + 1) j) (V x i (j + 1)))
    obtain ⟨y1, hy1⟩ : ∃ y, y = x.set i ((x.getD i []).set j (mx (V x (i + 1) j) (V x i (j + 1)))) := ⟨_, rfl⟩
    rw [← hy1] at g1 g2
    have v3 := g1.val (i + 1) (j + 1) (by omega) (by omega) (.inl (by omega))
    obtain ⟨g3, g4⟩ := g1.set hi (show j < m by omega) (mx (V y1 i j) (1 + V y1 (i + 1) (j + 1)))
    obtain ⟨y2, hy2⟩ : ∃ y, y = y1.set i ((y1.getD i []).set j (mx (V y1 i j) (1 + V y1 (i + 1) (j + 1)))) := ⟨_, rfl⟩
    rw [← hy2] at g3 g4
    have hstep : ∀ k, emenderref23_table.l2 (k + 1) X (m : Int) x (i : Int) (((j + 1 : Nat) : Int) - 1) = if L i j = true then emenderref23_table.l2 k X (m : Int) y2 (i : Int) ((j : Int) - 1) else emenderref23_table.l2 k X (m : Int) y1 (i : Int) ((j : Int) - 1) := by
      intro k
      rw [show (((j + 1 : Nat) : Int) - 1) = (j : Int) by omega]
      simp only [emenderref23_table.l2]
      rw [e1, e2, e3]
      simp only [rdL, rdV, Int.toNat_natCast, h.len, h.row i (by omega), h.row (i + 1) (by omega)]
      rw [if_pos (by omega), if_pos (by omega), if_pos (by omega), if_pos (by omega), if_pos (by omega), if_pos (by omega), if_pos (by omega), if_pos (by omega), if_pos (by omega), if_pos (by omega), Option.bind_some, ← hy1]
      rw [hX.len, if_pos (by omega)]
      have hl : rd_L12 X (i : Int) = X.getD i [] := by simp [rd_L12]
      rw [hl, hX.row i hi, if_pos (by omega)]
      have hv : rdOf false (X.getD i []) (j : Int) = L i j := by rw [← hX.val i j hi (by omega)]; simp [rdOf]
      rw [hv, g1.row i (by omega), g1.row (i + 1) (by omega)]
      by_cases c : L i j = true
      · rw [if_pos c, if_pos c, if_pos (by omega), if_pos (by omega), w64 (i := 1 + V y1 (i + 1) (j + 1)) (by omega), ← hy2]
      · rw [if_neg c, if_neg c]
    by_cases c : L i j = true
    · have hv : V y2 i j = (DiffT.T L n m i j : Int) := by
        rw [g4, g2, v1, v2, v3, tT.out, if_pos c]
        simp only [mx]
        split <;> split <;> omega
      obtain ⟨y, h1, h2⟩ := tab_l2 hn hm hX i hi j y2 (by omega) (g3.done hv)
      exact ⟨y, h1, fun r hr => EvD.succ (g := fun k => emenderref23_table.l2 k X (m : Int) y2 (i : Int) ((j : Int) - 1)) (fun k => by rw [hstep, if_pos c]) (h2 r hr)⟩
    · have hv : V y1 i j = (DiffT.T L n m i j : Int) := by
        rw [g2, v1, v2, tT.out, if_neg c]
        simp only [mx]
        split <;> omega
      obtain ⟨y, h1, h2⟩ := tab_l2 hn hm hX i hi j y1 (by omega) (g1.done hv)
      exact ⟨y, h1, fun r hr => EvD.succ (g := fun k => emenderref23_table.l2 k X (m : Int) y1 (i : Int) ((j : Int) - 1)) (fun k => by rw [hstep, if_neg c]) (h2 r hr)⟩
theorem tab_l1 {L : Nat → Nat → Bool} {n m : Nat} {X : List (List Bool)} (hn : n ≤ 400) (hm : m ≤ 400) (hX : Like L n m X) : ∀ (i : Nat) (x : List (List Int)), i ≤ n → Tab L n m x i 0 → ∃ y, Tab L n m y 0 0 ∧ EvD (fun k => emenderref23_table.l1 k X (m : Int) x ((i : Int) - 1)) y
  | 0, x, hi, h => ⟨x, h, EvD.now fun k => by simp only [emenderref23_table.l1]; rw [if_neg (by omega)]⟩
  | i + 1, x, hi, h => by
    obtain ⟨y, h1, h2⟩ := tab_l2 hn hm hX i (by omega) m x (Nat.le_refl _) ⟨h.len, h.row, fun i' j' a b c => h.val i' j' a b (by omega)⟩
    obtain ⟨z, h3, h4⟩ := tab_l1 hn hm hX i y (by omega) h1
    refine ⟨z, h3, EvD.succ (g := fun k => emenderref23_table.l2 k X (m : Int) x (i : Int) ((m : Int) - 1)) (fun k => ?_) (h2 _ h4)⟩
    simp only [emenderref23_table.l1]
    rw [if_pos (by omega), show (((i + 1 : Nat) : Int) - 1) = (i : Int) by omega, w64 (by omega)]
theorem tab_l0 {L : Nat → Nat → Bool} {n m : Nat} {X : List (List Bool)} (hn : n ≤ 400) (hm : m ≤ 400) (hX : Like L n m X) : ∀ (d i : Nat) (x : List (List Int)), n + 1 - i = d → i ≤ n + 1 → x.length = n + 1 → (∀ i', i' < i → x.getD i' [] = List.replicate (m + 1) 0) → ∃ y, Tab L n m y 0 0 ∧ EvD (fun k => emenderref23_table.l0 k X (n : Int) (m : Int) x (i : Int)) y := by
  intro d
  induction d with
  | zero =>
    intro i x hd hi hl hx
    have h : Tab L n m x n 0 := ⟨hl, fun i' a => by rw [hx i' (by omega), List.length_replicate], fun i' j' a b c => by
      rw [DiffT.T_out (by omega), V, hx i' (by omega), List.getD_eq_getElem?_getD, List.getElem?_replicate]
      split <;> rfl⟩
    obtain ⟨y, h1, h2⟩ := tab_l1 hn hm hX n x (Nat.le_refl _) h
    refine ⟨y, h1, EvD.succ (g := fun k => emenderref23_table.l1 k X (m : Int) x ((n : Int) - 1)) (fun k => ?_) h2⟩
    simp only [emenderref23_table.l0]
    rw [if_neg (by omega), w64 (by omega)]
  | succ d ih =>
    intro i x hd hi hl hx
    obtain ⟨y, h1, h2⟩ := ih (i + 1) (x.set i (List.replicate (m + 1) 0)) (by omega) (by omega) (by rw [List.length_set, hl]) (fun i' a => by
      by_cases e : i' = i
      · subst e
        rw [List.getD_eq_getElem?_getD, List.getElem?_set_self (by omega), Option.getD_some]
      · rw [List.getD_eq_getElem?_getD, List.getElem?_set_ne (Ne.symm e), ← List.getD_eq_getElem?_getD]
        exact hx i' (by omega))
    refine ⟨y, h1, EvD.succ (g := fun k => emenderref23_table.l0 k X (n : Int) (m : Int) (x.set i (List.replicate (m + 1) 0)) ((i + 1 : Nat) : Int)) (fun k => ?_) h2⟩
    simp only [emenderref23_table.l0]
    rw [if_pos (by omega), w64 (i := (m : Int) + 1) (by omega), w64 (i := (i : Int) + 1) (by omega), show ((m : Int) + 1).toNat = m + 1 by omega, if_pos (by omega), if_pos (by omega), if_pos (by omega), if_pos (by omega), Int.toNat_natCast]
    rfl
theorem table_f {L : Nat → Nat → Bool} {n m : Nat} {X : List (List Bool)} (hn : n ≤ 400) (hm : m ≤ 400) (hX : Like L n m X) : ∃ y, Tab L n m y 0 0 ∧ EvD (fun k => emenderref23_table.f k X (n : Int) (m : Int)) y := by
  obtain ⟨y, h1, h2⟩ := tab_l0 hn hm hX _ 0 (List.replicate (n + 1) []) rfl (Nat.zero_le _) (by simp) (fun i' a => by omega)
  refine ⟨y, h1, EvD.of (fun k => ?_) h2⟩
  unfold emenderref23_table.f
  rw [w64 (by omega), show ((n : Int) + 1).toNat = n + 1 by omega, if_pos (by omega), if_pos (by omega)]
  rfl

theorem rdX {L : Nat → Nat → Bool} {n m : Nat} {X : List (List Bool)} (hX : Like L n m X) {p q : Nat} (hp : p < n) (hq : q < m) : (rd_L12 X (p : Int)).length = m ∧ rdOf false (rd_L12 X (p : Int)) (q : Int) = L p q := by
  have hl : rd_L12 X (p : Int) = X.getD p [] := by simp [rd_L12]
  rw [hl]
  refine ⟨hX.row p hp, ?_⟩
  rw [← hX.val p q hp hq]
  simp [rdOf]
theorem row_l2 {L : Nat → Nat → Bool} {n m : Nat} {X : List (List Bool)} {Y : List (List Int)} (hn : n ≤ 400) (hm : m ≤ 400) (hX : Like L n m X) (hY : Tab L n m Y 0 0) (out : List S76) (i j p : Nat) (hi : i ≤ n) (hj : j ≤ m) (hp : p < n) (r : List S76) : ∀ (d q : Nat), m - q = d → q ≤ m →
    (∀ q', DiffT.inRow (DiffT.Fit L n m i j p) m q = some q' → EvD (fun k => emenderref23_pairs.l1 k X (n : Int) (m : Int) Y out (i : Int) (j : Int) ((p + 1 : Nat) : Int) ((q' + 1 : Nat) : Int) true) r) →
    (DiffT.inRow (DiffT.Fit L n m i j p) m q = none → EvD (fun k => emenderref23_pairs.l1 k X (n : Int) (m : Int) Y out (i : Int) (j : Int) ((p + 1 : Nat) : Int) (m : Int) false) r) →
    EvD (fun k => emenderref23_pairs.l2 k X (n : Int) (m : Int) Y out (i : Int) (j : Int) (p : Int) (q : Int) false) r := by
  have e1 : wrap64 ((p : Int) + 1) = ((p + 1 : Nat) : Int) := by rw [w64 (by omega)]; omega
  have hlast : ∀ (q : Nat) k, q = m → emenderref23_pairs.l2 (k + 1) X (n : Int) (m : Int) Y out (i : Int) (j : Int) (p : Int) (q : Int) false = emenderref23_pairs.l1 k X (n : Int) (m : Int) Y out (i : Int) (j : Int) ((p + 1 : Nat) : Int) (m : Int) false := by
    intro q k hq
    subst hq
    simp only [emenderref23_pairs.l2]
    rw [if_neg (by omega), e1]
  intro d
  induction d with
  | zero =>
    intro q hd hq h1 h2
    obtain rfl : q = m := by omega
    refine EvD.succ (fun k => hlast q k rfl) (h2 ?_)
    rw [DiffT.inRow, dif_neg (by omega)]
  | succ d ih =>
    intro q hd hq h1 h2
    have e2 : wrap64 ((q : Int) + 1) = ((q + 1 : Nat) : Int) := by rw [w64 (by omega)]; omega
    have hv := hY.val (p + 1) (q + 1) (by omega) (by omega) (by omega)
    have hv0 := hY.val i j hi hj (by omega)
    have l1 := DiffT.T_le (like := L) (n := n) (m := m) _ (p + 1) (q + 1) rfl
    have l0 := DiffT.T_le (like := L) (n := n) (m := m) _ i j rfl
    obtain ⟨x1, x2⟩ := rdX hX hp (show q < m by omega)
    have hstep : ∀ k, emenderref23_pairs.l2 (k + 1) X (n : Int) (m : Int) Y out (i : Int) (j : Int) (p : Int) (q : Int) false = emenderref23_pairs.l2 k X (n : Int) (m : Int) Y out (i : Int) (j : Int) (p : Int) ((q + 1 : Nat) : Int) (DiffT.Fit L n m i j p q) := by
      intro k
      simp only [emenderref23_pairs.l2]
      rw [if_pos (by omega), if_neg (by decide), e1, e2, hX.len, x1, x2, if_pos (by omega), if_pos (by omega), if_pos (by omega), if_pos (by omega)]
      simp only [rdL, rdV, hY.len, hY.row (p + 1) (by omega), hY.row i hi, hv, hv0]
      by_cases c : L p q = true
      · rw [if_pos c, if_pos (by omega), if_pos (by omega), if_pos (by omega), if_pos (by omega), if_pos (by omega), if_pos (by omega), if_pos (by omega), if_pos (by omega), w64 (by omega)]
        congr 1
        unfold DiffT.Fit
        rw [c, Bool.true_and]
        by_cases c2 : 1 + DiffT.T L n m (p + 1) (q + 1) = DiffT.T L n m i j
        · rw [decide_eq_true c2, beq_iff_eq]; omega
        · rw [decide_eq_false c2, beq_eq_false_iff_ne]; omega
      · rw [if_neg c]
        congr 1
        unfold DiffT.Fit
        rw [Bool.eq_false_iff.mpr c, Bool.false_and]
    have hfound : ∀ k, emenderref23_pairs.l2 (k + 1) X (n : Int) (m : Int) Y out (i : Int) (j : Int) (p : Int) ((q + 1 : Nat) : Int) true = emenderref23_pairs.l1 k X (n : Int) (m : Int) Y out (i : Int) (j : Int) ((p + 1 : Nat) : Int) ((q + 1 : Nat) : Int) true := by
      intro k
      simp only [emenderref23_pairs.l2]
      rw [e1, if_pos trivial, ite_self]
    by_cases c : DiffT.Fit L n m i j p q = true
    · rw [c] at hstep
      refine EvD.succ hstep (EvD.succ hfound (h1 q ?_))
      rw [DiffT.inRow, dif_pos (by omega), if_pos c]
    · rw [Bool.eq_false_iff.mpr c] at hstep
      refine EvD.succ hstep (ih (q + 1) (by omega) (by omega) (fun q' hq' => h1 q' ?_) (fun hq' => h2 ?_))
      · rw [DiffT.inRow, dif_pos (by omega), if_neg c, hq']
      · rw [DiffT.inRow, dif_pos (by omega), if_neg c, hq']
theorem search {L : Nat → Nat → Bool} {n m : Nat} {X : List (List Bool)} {Y : List (List Int)} (hn : n ≤ 400) (hm : m ≤ 400) (hX : Like L n m X) (hY : Tab L n m Y 0 0) (out : List S76) (ho : out.length ≤ 1000) (i j : Nat) (hi : i ≤ n) (hj : j ≤ m) (a b : Nat) (r : List S76) (ha : a < n) (hb : b < m)
    (hr : EvD (fun k => emenderref23_pairs.l0 k X (n : Int) (m : Int) Y (out ++ [(⟨(a : Int), (b : Int)⟩ : S76)]) ((a + 1 : Nat) : Int) ((b + 1 : Nat) : Int)) r) : ∀ (d p q0 : Nat), n - p = d → p ≤ n → DiffT.first (DiffT.Fit L n m i j) n m p j = some (a, b) →
    EvD (fun k => emenderref23_pairs.l1 k X (n : Int) (m : Int) Y out (i : Int) (j : Int) (p : Int) (q0 : Int) false) r := by
  have hend : EvD (fun k => emenderref23_pairs.l1 k X (n : Int) (m : Int) Y out (i : Int) (j : Int) ((a + 1 : Nat) : Int) ((b + 1 : Nat) : Int) true) r := by
    refine EvD.succ (g := fun k => emenderref23_pairs.j2 k X (n : Int) (m : Int) Y out (i : Int) (j : Int) ((a + 1 : Nat) : Int) ((b + 1 : Nat) : Int) true false) (fun k => ?_) (EvD.succ (fun k => ?_) hr)
    · simp only [emenderref23_pairs.l1]
      rw [Bool.not_true, ite_self]
    · simp only [emenderref23_pairs.j2]
      rw [if_neg (by decide), if_pos (by omega), w64 (by omega), w64 (by omega), show (((a + 1 : Nat) : Int) - 1) = (a : Int) by omega, show (((b + 1 : Nat) : Int) - 1) = (b : Int) by omega]
  intro d
  induction d with
  | zero =>
    intro p q0 hd hp h
    rw [DiffT.first, dif_neg (by omega)] at h
    cases h
  | succ d ih =>
    intro p q0 hd hp h
    rw [DiffT.first, dif_pos (by omega)] at h
    refine EvD.succ (g := fun k => emenderref23_pairs.j2 k X (n : Int) (m : Int) Y out (i : Int) (j : Int) (p : Int) (q0 : Int) false true) (fun k => ?_) (EvD.succ (g := fun k => emenderref23_pairs.l2 k X (n : Int) (m : Int) Y out (i : Int) (j : Int) (p : Int) (j : Int) false) (fun k => ?_) ?_)
    · simp only [emenderref23_pairs.l1]
      rw [if_pos (by omega), Bool.not_false]
    · simp only [emenderref23_pairs.j2]
      rw [if_pos trivial]
    · refine row_l2 hn hm hX hY out i j p hi hj (by omega) r _ j rfl hj (fun q' hq' => ?_) (fun hq' => ?_)
      · rw [hq'] at h
        simp only [Option.some.injEq, Prod.mk.injEq] at h
        obtain ⟨rfl, rfl⟩ := h
        exact hend
      · rw [hq'] at h
        exact ih (p + 1) m (by omega) (by omega) h
theorem pairs_l0 {L : Nat → Nat → Bool} {n m : Nat} {X : List (List Bool)} {Y : List (List Int)} (hn : n ≤ 400) (hm : m ≤ 400) (hX : Like L n m X) (hY : Tab L n m Y 0 0) : ∀ (kk i j : Nat) (out : List S76), DiffT.T L n m i j ≤ kk → out.length + kk ≤ 1000 → i ≤ n → j ≤ m →
    EvD (fun k => emenderref23_pairs.l0 k X (n : Int) (m : Int) Y out (i : Int) (j : Int)) (out ++ diff_grid.enc (DiffT.P L n m kk i j)) := by
  intro kk
  induction kk with
  | zero =>
    intro i j out hT ho hi hj
    have hv0 := hY.val i j hi hj (by omega)
    refine EvD.now fun k => ?_
    simp only [emenderref23_pairs.l0, rdL, rdV, hY.len, hY.row i hi, hv0]
    rw [if_pos (by omega), if_pos (by omega), if_pos (by omega), if_pos (by omega), if_neg (by omega)]
    simp [DiffT.P, diff_grid.enc]
  | succ kk ih =>
    intro i j out hT ho hi hj
    have hv0 := hY.val i j hi hj (by omega)
    simp only [DiffT.P]
    by_cases h0 : DiffT.T L n m i j = 0
    · rw [if_pos h0]
      refine EvD.now fun k => ?_
      simp only [emenderref23_pairs.l0, rdL, rdV, hY.len, hY.row i hi, hv0]
      rw [if_pos (by omega), if_pos (by omega), if_pos (by omega), if_pos (by omega), if_neg (by omega)]
      simp [diff_grid.enc]
    · rw [if_neg h0]
      obtain ⟨p, q, e, a1, a2, a3, a4, a5, a6⟩ := DiffT.step (like := L) (n := n) (m := m) (i := i) (j := j) (by omega)
      rw [e]
      have hr := ih (p + 1) (q + 1) (out ++ [(⟨(p : Int), (q : Int)⟩ : S76)]) (by omega) (by rw [List.length_append, List.length_singleton]; omega) (by omega) (by omega)
      rw [List.append_assoc] at hr
      refine EvD.succ (g := fun k => emenderref23_pairs.l1 k X (n : Int) (m : Int) Y out (i : Int) (j : Int) (i : Int) (j : Int) false) (fun k => ?_) (search hn hm hX hY out (by omega) i j hi hj p q _ a2 a4 hr _ i j rfl hi e)
      simp only [emenderref23_pairs.l0, rdL, rdV, hY.len, hY.row i hi, hv0]
      rw [if_pos (by omega), if_pos (by omega), if_pos (by omega), if_pos (by omega), if_pos (by omega)]
theorem pairs_f {L : Nat → Nat → Bool} {n m : Nat} {X : List (List Bool)} (hn : n ≤ 400) (hm : m ≤ 400) (hX : Like L n m X) : EvD (fun k => emenderref23_pairs.f k X (n : Int) (m : Int)) (diff_grid.enc (DiffT.P L n m n 0 0)) := by
  obtain ⟨Y, h1, h2⟩ := table_f hn hm hX
  have hT := DiffT.T_le (like := L) (n := n) (m := m) _ 0 0 rfl
  have := pairs_l0 hn hm hX h1 n 0 0 [] (by omega) (by simp; omega) (Nat.zero_le _) (Nat.zero_le _)
  rw [List.nil_append] at this
  exact EvD.bind (g := fun k t => emenderref23_pairs.l0 k X (n : Int) (m : Int) t ([] : List S76) 0 0) h2 this
end Go.Proofs.Ytjpmlggkhhoooaa.DiffE
