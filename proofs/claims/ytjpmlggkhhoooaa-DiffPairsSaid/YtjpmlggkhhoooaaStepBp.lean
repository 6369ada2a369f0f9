/- The doing of a step, in plain words. -/
import Derived.Test.YtjpmlggkhhoooaaPDpx0
import Derived.Test.YtjpmlggkhhoooaaPDpx16
import Derived.Test.YtjpmlggkhhoooaaStepAp
namespace Go.Proofs.Ytjpmlggkhhoooaa.StepB
open Go.RowKit Go.Proofs.YtjpmlggkhhoooaaW.PrintWords Go.Proofs.YtjpmlggkhhoooaaW.PrintMore
open Go.Proofs.Ytjpmlggkhhoooaa Go.Proofs.Ytjpmlggkhhoooaa.PDp Go.Proofs.Ytjpmlggkhhoooaa.StepA
set_option linter.unusedSimpArgs false
set_option linter.unusedVariables false

def setM (t : S64) (m : Int) : S64 := ⟨t.f0, t.f1, t.f2, m⟩
/-- From place i on to place T the marks of code points are turned by g. -/
def marks (g : Int → Int) (l : List S64) (i T : Nat) : List S64 := l.mapIdx fun j t => if i ≤ j ∧ j < T ∧ t.f0 = 0 then setM t (g t.f3) else t
theorem marks_length (g : Int → Int) (l : List S64) (i T : Nat) : (marks g l i T).length = l.length := by simp [marks]
theorem marks_get (g : Int → Int) (l : List S64) (i T j : Nat) (h : j < (marks g l i T).length) : (marks g l i T)[j] = if i ≤ j ∧ j < T ∧ (l[j]'(by simpa [marks] using h)).f0 = 0 then setM (l[j]'(by simpa [marks] using h)) (g (l[j]'(by simpa [marks] using h)).f3) else l[j]'(by simpa [marks] using h) := by simp [marks]
theorem marks_done (g : Int → Int) (l : List S64) (i T : Nat) (h : T ≤ i) : marks g l i T = l := by
  refine List.ext_getElem (marks_length _ _ _ _) fun j h1 h2 => ?_
  rw [marks_get, if_neg (by omega)]
theorem marks_skip (g : Int → Int) (l : List S64) (i T : Nat) (h : i < l.length) (h0 : ¬ l[i].f0 = 0) : marks g l (i + 1) T = marks g l i T := by
  refine List.ext_getElem (by rw [marks_length, marks_length]) fun j h1 h2 => ?_
  rw [marks_get, marks_get]
  by_cases e : j = i
  · subst e
    rw [if_neg (by omega), if_neg (fun hh => h0 hh.2.2)]
  · by_cases c : i + 1 ≤ j
    · simp [c, show i ≤ j by omega]
    · simp [c, show ¬ i ≤ j by omega]
theorem marks_set (g : Int → Int) (l : List S64) (i T : Nat) (h : i < l.length) (hT : i < T) (h0 : l[i].f0 = 0) : marks g (l.set i (setM l[i] (g l[i].f3))) (i + 1) T = marks g l i T := by
  refine List.ext_getElem (by rw [marks_length, marks_length, List.length_set]) fun j h1 h2 => ?_
  rw [marks_get, marks_get]
  by_cases e : j = i
  · subst e
    rw [if_neg (by omega), if_pos ⟨Nat.le_refl _, hT, h0⟩]
    simp
  · have hne : ¬ i = j := fun h => e h.symm
    by_cases c : i + 1 ≤ j
    · simp [c, show i ≤ j by omega, List.getElem_set, hne]
    · simp [c, show ¬ i ≤ j by omega, List.getElem_set, hne]

/-- What Apply answers. -/
def eqT (t u : S64) : Bool := t.f0 == u.f0 && (t.f1 == u.f1 && (t.f2 == u.f2 && t.f3 == u.f3))
def sameL : List S64 → List S64 → Bool
  | [], [] => true
  | t :: a, u :: b => eqT t u && sameL a b
  | _, _ => false
theorem sameL_refl : ∀ a : List S64, sameL a a = true
  | [] => rfl
  | t :: a => by simp [sameL, eqT, sameL_refl a]
theorem sameL_length : ∀ (a b : List S64), a.length ≠ b.length → sameL a b = false
  | [], [], h => absurd rfl h
  | [], _ :: _, _ => rfl
  | _ :: _, [], _ => rfl
  | t :: a, u :: b, h => by
    simp only [sameL]
    rw [sameL_length a b (by simpa using h)]
    simp
theorem ne_test (t u : S64) : (!(t.f0 == u.f0) || (!(t.f1 == u.f1) || (!(t.f2 == u.f2) || (!(t.f3 == u.f3))))) = !(eqT t u) := by
  unfold eqT
  cases t.f0 == u.f0 <;> cases t.f1 == u.f1 <;> cases t.f2 == u.f2 <;> cases t.f3 == u.f3 <;> rfl
theorem alike_loop (a b : List S64) (hab : a.length = b.length) (hl : a.length < 17592186044416) : ∀ (d k : Nat) (i : Int), 0 ≤ i → i + d = a.length → d < k → emenderlaw23_alike.l0 k a b i = some (sameL (a.drop i.toNat) (b.drop i.toNat)) := by
  intro d
  induction d with
  | zero =>
    intro k i h0 h1 hk
    obtain ⟨k, rfl⟩ : ∃ m, k = m + 1 := ⟨k - 1, by omega⟩
    simp only [emenderlaw23_alike.l0]
    rw [if_neg (by omega), List.drop_eq_nil_of_le (by omega), List.drop_eq_nil_of_le (by omega)]
    rfl
  | succ d ih =>
    intro k i h0 h1 hk
    obtain ⟨k, rfl⟩ : ∃ m, k = m + 1 := ⟨k - 1, by omega⟩
    have ha : i.toNat < a.length := by omega
    have hb : i.toNat < b.length := by omega
    simp only [emenderlaw23_alike.l0]
    rw [if_pos (by omega), if_pos h0, if_pos (by omega), rd_get a i ha, rd_get b i hb, ne_test, w64 (by omega), List.drop_eq_getElem_cons ha, List.drop_eq_getElem_cons hb]
    simp only [sameL]
    cases e : eqT a[i.toNat] b[i.toNat] with
    | false => simp
    | true =>
      rw [if_neg (by decide), ih k (i + 1) (by omega) (by omega) (by omega), show (i + 1).toNat = i.toNat + 1 by omega]
      simp
theorem alike (a b : List S64) (hl : a.length < 17592186044416) (k : Nat) (hk : a.length < k) : emenderlaw23_alike.f k a b = some (sameL a b) := by
  unfold emenderlaw23_alike.f
  by_cases h : (a.length : Int) = (b.length : Int)
  · rw [if_pos h, alike_loop a b (by omega) hl a.length k 0 (by omega) (by omega) hk]
    rfl
  · rw [if_neg h, sameL_length a b (by omega)]
end Go.Proofs.Ytjpmlggkhhoooaa.StepB
