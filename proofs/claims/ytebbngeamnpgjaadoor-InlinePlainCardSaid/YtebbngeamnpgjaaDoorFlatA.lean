/- What the printed functions of layer 4 tell, as plain functions on lists of tokens. -/
import Derived.Test.YtebbngeamnpgjaaDoorPIax0
import Derived.Test.YtebbngeamnpgjaaDoorPIax8
namespace Go.Proofs.YtebbngeamnpgjaaDoor.FlatA
open Go.RowKit Go.Proofs.YtebbngeamnpgjaaDoorW.PrintWords Go.Proofs.YtebbngeamnpgjaaDoorW.PrintMore
open Go.Proofs.YtebbngeamnpgjaaDoor Go.Proofs.YtebbngeamnpgjaaDoor.PIa

theorem rd_get (l : List S36) (i : Int) (h : i.toNat < l.length) : rd_T36 l i = l[i.toNat] := by
  simp [rd_T36, List.getD_eq_getElem?_getD, List.getElem?_eq_getElem h]
theorem rdi_get (l : List Int) (i : Int) (h : i.toNat < l.length) : rd l i = l[i.toNat] := by
  simp [rd, List.getD_eq_getElem?_getD, List.getElem?_eq_getElem h]
theorem w64 {i : Int} (h0 : -9223372036854775808 ≤ i) (h1 : i ≤ 9223372036854775807) : wrap64 i = i := by unfold wrap64; omega

theorem wf64 {n : Int} (h : (Lit.int .i64 n).wf = true) : -9223372036854775808 ≤ n ∧ n ≤ 9223372036854775807 := by
  simp [Lit.wf, IntKind.min, IntKind.max, IntKind.signed, IntKind.bits] at h
  omega
/-! ### Right -/
def right (a b c d : Int) : Bool := (flat_Right.f a b c d).getD false
theorem flat_right (a b c d : Int) : flat_Right.f a b c d = some (right a b c d) := by
  have h : ∃ r, flat_Right.f a b c d = some r := by
    unfold flat_Right.f mark_Right.f
    repeat' split
    all_goals first | exact ⟨_, rfl⟩ | (simp only [Option.bind_some]; exact ⟨_, rfl⟩)
  obtain ⟨r, h⟩ := h
  rw [right, h]
  rfl
def stk : List S36 → Int → List Int → List Int
  | [], _, s => s
  | t :: ts, i, s => stk ts (i + 1) (if t.f0 = 1 then s ++ [i] else if t.f0 = 2 then s.dropLast else s)
def stackAt (l : List S36) (a : Int) : List Int := if a > (l.length : Int) then [] else stk (l.take a.toNat) 0 []
theorem take_last (s : List Int) (hs : s.length < 4611686018427387904) : s.take (wrap64 ((s.length : Int) - 1)).toNat = s.dropLast := by
  rw [w64 (by omega) (by omega), List.dropLast_eq_take]
  congr 1
  omega
theorem stk_length : ∀ (l : List S36) (i : Int) (s : List Int), (stk l i s).length ≤ s.length + l.length
  | [], i, s => by simp [stk]
  | t :: ts, i, s => by
    have := stk_length ts (i + 1) (if t.f0 = 1 then s ++ [i] else if t.f0 = 2 then s.dropLast else s)
    simp only [stk]
    refine Nat.le_trans this ?_
    split
    · simp; omega
    · split
      · simp; omega
      · simp
theorem stackAt_length (l : List S36) (a : Int) : (stackAt l a).length ≤ l.length := by
  unfold stackAt
  split
  · simp
  · refine Nat.le_trans (stk_length _ _ _) ?_
    simp [List.length_take]
    omega
def top (s : List Int) : Int := s.getLast?.getD (-1)
theorem around_of (s : List Int) (hs : s.length < 4611686018427387904) : (if (s.length : Int) = 0 then (some (-1)) else (if 0 ≤ (wrap64 ((s.length : Int) - 1)) then (if (wrap64 ((s.length : Int) - 1)) < (s.length : Int) then (some (rd s (wrap64 ((s.length : Int) - 1)))) else (none)) else (none))) = some (top s) := by
  by_cases h : (s.length : Int) = 0
  · have : s = [] := List.eq_nil_of_length_eq_zero (by omega)
    subst this
    rfl
  · have h4 : wrap64 ((s.length : Int) - 1) = s.length - 1 := w64 (by omega) (by omega)
    rw [if_neg h, h4, if_pos (by omega), if_pos (by omega), rdi_get s _ (by omega), top, List.getLast?_eq_getElem?]
    congr 1
    have : ((s.length : Int) - 1).toNat = s.length - 1 := by omega
    simp only [this]
    rw [List.getElem?_eq_getElem (by omega)]
    rfl
end Go.Proofs.YtebbngeamnpgjaaDoor.FlatA
