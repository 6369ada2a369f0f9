/- What the printed functions of layer 4 tell, as plain functions on lists of tokens. -/
import Derived.Test.YtfcfomconcoimaaDoorPFax0
import Derived.Test.YtfcfomconcoimaaDoorPFax2
import Derived.Test.YtfcfomconcoimaaDoorPFax22
import Derived.Test.YtfcfomconcoimaaDoorPFax23
namespace Go.Proofs.YtfcfomconcoimaaDoor.FlatA
open Go.RowKit Go.Proofs.YtfcfomconcoimaaDoorW.PrintWords Go.Proofs.YtfcfomconcoimaaDoorW.PrintMore
open Go.Proofs.YtfcfomconcoimaaDoor Go.Proofs.YtfcfomconcoimaaDoor.PFa

theorem rd_get (l : List S48) (i : Int) (h : i.toNat < l.length) : rd_T48 l i = l[i.toNat] := by
  simp [rd_T48, List.getD_eq_getElem?_getD, List.getElem?_eq_getElem h]
theorem rdi_get (l : List Int) (i : Int) (h : i.toNat < l.length) : rd l i = l[i.toNat] := by
  simp [rd, List.getD_eq_getElem?_getD, List.getElem?_eq_getElem h]
theorem w64 {i : Int} (h0 : -9223372036854775808 ≤ i) (h1 : i ≤ 9223372036854775807) : wrap64 i = i := by unfold wrap64; omega

theorem wf64 {n : Int} (h : (Lit.int .i64 n).wf = true) : -9223372036854775808 ≤ n ∧ n ≤ 9223372036854775807 := by
  simp [Lit.wf, IntKind.min, IntKind.max, IntKind.signed, IntKind.bits] at h
  omega
/-! ### Right -/
def right (a b c d : Int) : Bool := (flat_Right.f a b c d).getD false
theorem flat_right (a b c d : Int) : flat_Right.f a b c d = some (right a b c d) := by
  have h : ∃ r, flat_Right.f a b c d = some r := by
    unfold flat_Right.f mark_Right.f
    repeat' split
    all_goals first | exact ⟨_, rfl⟩ | (simp only [Option.bind_some]; exact ⟨_, rfl⟩)
  obtain ⟨r, h⟩ := h
  rw [right, h]
  rfl
theorem ref_right (k : Nat) (a b c d : Int) : emenderref04_Right.f (k + 1) a b c d = some (right a b c d) := by
  rw [← flat_right]
  unfold emenderref04_Right.f flat_Right.f mark_Right.f emenderref04_Point.f emenderref03_Right.f emenderref04_Right.j0
  by_cases h0 : a = 0
  · subst h0
    simp only [if_true]
    by_cases h1 : b = 0
    · simp only [h1, if_true]
      by_cases h2 : c ≥ 0
      · by_cases h3 : c ≤ 1114111
        · simp only [if_pos h2, if_pos h3]
          by_cases h4 : c < 55296
          · have h5 : ¬ (c / 2048 = 27) := by omega
            simp only [if_pos h4, if_neg h5, Option.bind_some, if_true]
          · by_cases h6 : c > 57343
            · have h5 : ¬ (c / 2048 = 27) := by omega
              simp only [if_neg h4, if_neg h5, Option.bind_some, decide_eq_true h6, if_true]
            · have h5 : (c / 2048 = 27) := by omega
              simp only [if_neg h4, if_pos h5, Option.bind_some, decide_eq_false h6]
              rfl
        · simp only [if_pos h2, if_neg h3, Option.bind_some]
          rfl
      · simp only [if_neg h2, Option.bind_some]
        rfl
    · simp only [if_neg h1]
  · simp only [if_neg h0]
    by_cases h1 : a = 1
    · subst h1
      simp (config := {decide := true}) only [if_true, if_false]
      by_cases hb : b > 0
      · have hb' : b ≥ 1 := by omega
        simp only [if_pos hb, if_pos hb']
        by_cases hb2 : b < 16
        · simp only [if_pos hb2]
          by_cases hc : c ≥ 0
          · simp only [if_pos hc]
            by_cases hc2 : c < 16
            · have : c ≤ 15 := by omega
              simp only [if_pos hc2, if_pos this]
            · have : ¬ c ≤ 15 := by omega
              simp only [if_neg hc2, if_neg this]
          · simp only [if_neg hc]
        · simp only [if_neg hb2]
      · have hb' : ¬ b ≥ 1 := by omega
        simp only [if_neg hb, if_neg hb']
    · simp only [if_neg h1]
      by_cases h3 : a = 3
      · subst h3
        simp (config := {decide := true}) only [if_true, if_false]
        by_cases hb : b > 0
        · have hb' : b ≥ 1 := by omega
          simp only [if_pos hb, if_pos hb']
          by_cases hb2 : b < 16
          · simp only [if_pos hb2]
            by_cases hc : c ≥ 0
            · simp only [if_pos hc]
              by_cases hc2 : c < 16
              · have : c ≤ 15 := by omega
                simp only [if_pos hc2, if_pos this]
              · have : ¬ c ≤ 15 := by omega
                simp only [if_neg hc2, if_neg this]
            · simp only [if_neg hc]
          · simp only [if_neg hb2]
        · have hb' : ¬ b ≥ 1 := by omega
          simp only [if_neg hb, if_neg hb']
      · have h3' : (a == 3) = false := by simpa using h3
        simp only [if_neg h3, h3', if_neg (show ¬ (false = true) by decide)]
        by_cases h2 : a = 2
        · subst h2
          simp only [if_true]
          by_cases hb : b = 0
          · by_cases hc : c = 0
            · simp [hb, hc]
            · simp [hb, hc]
          · simp [hb]
        · simp only [if_neg h2]

/-! ### What is open -/
def stk : List S48 → Int → List Int → List Int
  | [], _, s => s
  | t :: ts, i, s => stk ts (i + 1) (if t.f0 = 1 then s ++ [i] else if t.f0 = 2 then s.dropLast else s)
def stackAt (l : List S48) (a : Int) : List Int := if a > (l.length : Int) then [] else stk (l.take a.toNat) 0 []
theorem take_last (s : List Int) (hs : s.length < 4611686018427387904) : s.take (wrap64 ((s.length : Int) - 1)).toNat = s.dropLast := by
  rw [w64 (by omega) (by omega), List.dropLast_eq_take]
  congr 1
  omega
theorem stk_length : ∀ (l : List S48) (i : Int) (s : List Int), (stk l i s).length ≤ s.length + l.length
  | [], i, s => by simp [stk]
  | t :: ts, i, s => by
    have := stk_length ts (i + 1) (if t.f0 = 1 then s ++ [i] else if t.f0 = 2 then s.dropLast else s)
    simp only [stk]
    refine Nat.le_trans this ?_
    split
    · simp; omega
    · split
      · simp; omega
      · simp
theorem stackAt_length (l : List S48) (a : Int) : (stackAt l a).length ≤ l.length := by
  unfold stackAt
  split
  · simp
  · refine Nat.le_trans (stk_length _ _ _) ?_
    simp [List.length_take]
    omega
def top (s : List Int) : Int := s.getLast?.getD (-1)
theorem around_of (s : List Int) (hs : s.length < 4611686018427387904) : (if (s.length : Int) = 0 then (some (-1)) else (if 0 ≤ (wrap64 ((s.length : Int) - 1)) then (if (wrap64 ((s.length : Int) - 1)) < (s.length : Int) then (some (rd s (wrap64 ((s.length : Int) - 1)))) else (none)) else (none))) = some (top s) := by
  by_cases h : (s.length : Int) = 0
  · have : s = [] := List.eq_nil_of_length_eq_zero (by omega)
    subst this
    rfl
  · have h4 : wrap64 ((s.length : Int) - 1) = s.length - 1 := w64 (by omega) (by omega)
    rw [if_neg h, h4, if_pos (by omega), if_pos (by omega), rdi_get s _ (by omega), top, List.getLast?_eq_getElem?]
    congr 1
    have : ((s.length : Int) - 1).toNat = s.length - 1 := by omega
    simp only [this]
    rw [List.getElem?_eq_getElem (by omega)]
    rfl
end Go.Proofs.YtfcfomconcoimaaDoor.FlatA
