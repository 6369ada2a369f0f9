/- What the printed functions of layer 4 tell, as plain functions on lists of tokens. -/
import Derived.Test.YtfcfomconcoimaaDoorPFax0
import Derived.Test.YtfcfomconcoimaaDoorPFay0
import Derived.Test.YtfcfomconcoimaaDoorPFay4
namespace Go.Proofs.YtfcfomconcoimaaDoor.FlatA
open Go.RowKit Go.Proofs.YtfcfomconcoimaaDoorW.PrintWords Go.Proofs.YtfcfomconcoimaaDoorW.PrintMore
open Go.Proofs.YtfcfomconcoimaaDoor Go.Proofs.YtfcfomconcoimaaDoor.PFa

theorem rd_get (l : List S48) (i : Int) (h : i.toNat < l.length) : rd_T48 l i = l[i.toNat] := by
 simp [rd_T48, List.getD_eq_getElem?_getD, List.getElem?_eq_getElem h]
theorem w64 {i : Int} (h0 : -9223372036854775808 ≤ i) (h1 : i ≤ 9223372036854775807) : wrap64 i = i := by unfold wrap64; omega

/-! ### Right -/
def right (a b c d : Int) : Bool := (flat_Right.f a b c d).getD false
theorem flat_right (a b c d : Int) : flat_Right.f a b c d = some (right a b c d) := by
 have h : ∃ r, flat_Right.f a b c d = some r := by
  unfold flat_Right.f mark_Right.f
  repeat' split
  all_goals first | exact ⟨_, rfl⟩ | (simp only [Option.bind_some]; exact ⟨_, rfl⟩)
 obtain ⟨r, h⟩ := h
 rw [right, h]
 rfl
theorem ref_right (k : Nat) (a b c d : Int) : emenderref04_Right.f (k + 1) a b c d = some (right a b c d) := by
 rw [← flat_right]
 unfold emenderref04_Right.f flat_Right.f mark_Right.f emenderref04_Point.f emenderref03_Right.f emenderref04_Right.j0
 by_cases h0 : a = 0
 ·subst h0
  simp only [if_true]
  by_cases h1 : b = 0
  ·simp only [h1, if_true]
   by_cases h2 : c ≥ 0
   ·by_cases h3 : c ≤ 1114111
    ·simp only [if_pos h2, if_pos h3]
     by_cases h4 : c < 55296
     ·have h5 : ¬ (c / 2048 = 27) := by omega
      simp only [if_pos h4, if_neg h5, Option.bind_some, if_true]
     ·by_cases h6 : c > 57343
      ·have h5 : ¬ (c / 2048 = 27) := by omega
       simp only [if_neg h4, if_neg h5, Option.bind_some, decide_eq_true h6, if_true]
      ·have h5 : (c / 2048 = 27) := by omega
       simp only [if_neg h4, if_pos h5, Option.bind_some, decide_eq_false h6]
       rfl
    ·simp only [if_pos h2, if_neg h3, Option.bind_some]
     rfl
   ·simp only [if_neg h2, Option.bind_some]
    rfl
  ·simp only [if_neg h1]
 ·simp only [if_neg h0]
  by_cases h1 : a = 1
  ·subst h1
   simp (config := {decide := true}) only [if_true, if_false]
   by_cases hb : b > 0
   ·have hb' : b ≥ 1 := by omega
    simp only [if_pos hb, if_pos hb']
    by_cases hb2 : b < 16
    ·simp only [if_pos hb2]
     by_cases hc : c ≥ 0
     ·simp only [if_pos hc]
      by_cases hc2 : c < 16
      ·have : c ≤ 15 := by omega
       simp only [if_pos hc2, if_pos this]
      ·have : ¬ c ≤ 15 := by omega
       simp only [if_neg hc2, if_neg this]
     ·simp only [if_neg hc]
    ·simp only [if_neg hb2]
   ·have hb' : ¬ b ≥ 1 := by omega
    simp only [if_neg hb, if_neg hb']
  ·simp only [if_neg h1]
   by_cases h3 : a = 3
   ·subst h3
    simp (config := {decide := true}) only [if_true, if_false]
    by_cases hb : b > 0
    ·have hb' : b ≥ 1 := by omega
     simp only [if_pos hb, if_pos hb']
     by_cases hb2 : b < 16
     ·simp only [if_pos hb2]
      by_cases hc : c ≥ 0
      ·simp only [if_pos hc]
       by_cases hc2 : c < 16
       ·have : c ≤ 15 := by omega
        simp only [if_pos hc2, if_pos this]
       ·have : ¬ c ≤ 15 := by omega
        simp only [if_neg hc2, if_neg this]
      ·simp only [if_neg hc]
     ·simp only [if_neg hb2]
    ·have hb' : ¬ b ≥ 1 := by omega
     simp only [if_neg hb, if_neg hb']
   ·have h3' : (a == 3) = false := by simpa using h3
    simp only [if_neg h3, h3', if_neg (show ¬ (false = true) by decide)]
    by_cases h2 : a = 2
    ·subst h2
     simp only [if_true]
     by_cases hb : b = 0
     ·by_cases hc : c = 0
      ·simp [hb, hc]
      ·simp [hb, hc]
     ·simp [hb]
    ·simp only [if_neg h2]

/-! ### What is open -/
end Go.Proofs.YtfcfomconcoimaaDoor.FlatA
