/- The doing of a step, in plain words. -/
import Derived.Test.YtfcfomconcoimaaDoorPFax0
import Derived.Test.YtfcfomconcoimaaDoorPFay2
import Derived.Test.YtfcfomconcoimaaDoorPFay3
import Derived.Test.YtfcfomconcoimaaDoorPFay4
import Derived.Test.YtfcfomconcoimaaDoorStepA
namespace Go.Proofs.YtfcfomconcoimaaDoor.StepB
open Go.RowKit Go.Proofs.YtfcfomconcoimaaDoorW.PrintWords Go.Proofs.YtfcfomconcoimaaDoorW.PrintMore
open Go.Proofs.YtfcfomconcoimaaDoor Go.Proofs.YtfcfomconcoimaaDoor.PFa Go.Proofs.YtfcfomconcoimaaDoor.StepA
set_option linter.unusedSimpArgs false
set_option linter.unusedVariables false

def setM (t : S48) (m : Int) : S48 := ⟨t.f0, t.f1, t.f2, m⟩
/-- From place i on to place T the marks of code points are turned by g. -/
def marks (g : Int → Int) (l : List S48) (i T : Nat) : List S48 := l.mapIdx fun j t => if i ≤ j ∧ j < T ∧ t.f0 = 0 then setM t (g t.f3) else t
theorem marks_length (g : Int → Int) (l : List S48) (i T : Nat) : (marks g l i T).length = l.length := by simp [marks]
theorem marks_get (g : Int → Int) (l : List S48) (i T j : Nat) (h : j < (marks g l i T).length) : (marks g l i T)[j] = if i ≤ j ∧ j < T ∧ (l[j]'(by simpa [marks] using h)).f0 = 0 then setM (l[j]'(by simpa [marks] using h)) (g (l[j]'(by simpa [marks] using h)).f3) else l[j]'(by simpa [marks] using h) := by simp [marks]
theorem marks_done (g : Int → Int) (l : List S48) (i T : Nat) (h : T ≤ i) : marks g l i T = l := by
 refine List.ext_getElem (marks_length _ _ _ _) fun j h1 h2 => ?_
 rw [marks_get, if_neg (by omega)]
theorem marks_skip (g : Int → Int) (l : List S48) (i T : Nat) (h : i < l.length) (h0 : ¬ l[i].f0 = 0) : marks g l (i + 1) T = marks g l i T := by
 refine List.ext_getElem (by rw [marks_length, marks_length]) fun j h1 h2 => ?_
 rw [marks_get, marks_get]
 by_cases e : j = i
 ·subst e
  rw [if_neg (by omega), if_neg (fun hh => h0 hh.2.2)]
 ·by_cases c : i + 1 ≤ j
  ·simp [c, show i ≤ j by omega]
  ·simp [c, show ¬ i ≤ j by omega]
theorem marks_set (g : Int → Int) (l : List S48) (i T : Nat) (h : i < l.length) (hT : i < T) (h0 : l[i].f0 = 0) : marks g (l.set i (setM l[i] (g l[i].f3))) (i + 1) T = marks g l i T := by
 refine List.ext_getElem (by rw [marks_length, marks_length, List.length_set]) fun j h1 h2 => ?_
 rw [marks_get, marks_get]
 by_cases e : j = i
 ·subst e
  rw [if_neg (by omega), if_pos ⟨Nat.le_refl _, hT, h0⟩]
  simp
 ·have hne : ¬ i = j := fun h => e h.symm
  by_cases c : i + 1 ≤ j
  ·simp [c, show i ≤ j by omega, List.getElem_set, hne]
  ·simp [c, show ¬ i ≤ j by omega, List.getElem_set, hne]

def gA (m v : Int) : Int := ((mark_Add.f 4 v m).getD (0, 0)).1
def gT (m v : Int) : Int := ((mark_Take.f 4 v m).getD (0, 0)).1
theorem add_f (m v : Int) (k : Nat) (hk : 4 ≤ k) : ∃ e, mark_Add.f k v m = some (gA m v, e) := by
 have : ∃ r, mark_Add.f 4 v m = some r := by
  unfold mark_Add.f
  rw [may_f v m 4 (by omega), Option.bind_some]
  repeat' split
  all_goals exact ⟨_, rfl⟩
 obtain ⟨r, hr⟩ := this
 refine ⟨r.2, ?_⟩
 rw [gA, hr]
 exact lift_le (fun k => mark_Add.f k v m) (fun k => mark_Add.mono v m k) hr hk
theorem take_f (m v : Int) (k : Nat) (hk : 4 ≤ k) : ∃ e, mark_Take.f k v m = some (gT m v, e) := by
 have : ∃ r, mark_Take.f 4 v m = some r := by
  unfold mark_Take.f
  rw [may_f v m 4 (by omega), Option.bind_some]
  repeat' split
  all_goals exact ⟨_, rfl⟩
 obtain ⟨r, hr⟩ := this
 refine ⟨r.2, ?_⟩
 rw [gT, hr]
 exact lift_le (fun k => mark_Take.f k v m) (fun k => mark_Take.mono v m k) hr hk
theorem do_l1 (K F GF GT N : Int) (sl : List S48) (M : Int) (T : Nat) : ∀ (d k i : Nat) (x : List S48), i + d = T → T ≤ x.length → x.length ≤ 4611686018427387904 → d + 6 ≤ k → step_do.l1 k x (i : Int) K F (T : Int) GF GT N sl M = some (marks (gA M) x i T)
 | 0, k, i, x, h, hx, hl, hk => by
  obtain ⟨k, rfl⟩ : ∃ m, k = m + 1 := ⟨k - 1, by omega⟩
  simp only [step_do.l1]
  rw [if_neg (by omega), marks_done _ _ _ _ (by omega)]
 | d + 1, k, i, x, h, hx, hl, hk => by
  obtain ⟨k, rfl⟩ : ∃ m, k = m + 1 := ⟨k - 1, by omega⟩
  have hi : i < x.length := by omega
  simp only [step_do.l1]
  rw [if_pos (by omega), if_pos (by omega), if_pos (by omega), rd_get x (i : Int) (by rw [Int.toNat_natCast]; exact hi), w64 (by omega)]
  simp only [Int.toNat_natCast]
  by_cases h0 : x[i].f0 = 0
  ·obtain ⟨e, he⟩ := add_f M x[i].f3 k (by omega)
   rw [if_pos h0, he, Option.bind_some]
   have := do_l1 K F GF GT N sl M T d k (i + 1) (x.set i (setM x[i] (gA M x[i].f3))) (by omega) (by rw [List.length_set]; exact hx) (by rw [List.length_set]; exact hl) (by omega)
   rw [marks_set _ x i T hi (by omega) h0] at this
   exact this
  ·rw [if_neg h0]
   have := do_l1 K F GF GT N sl M T d k (i + 1) x (by omega) hx hl (by omega)
   rw [marks_skip _ x i T hi h0] at this
   exact this
theorem do_l0 (K F GF GT N : Int) (sl : List S48) (M : Int) (T : Nat) : ∀ (d k i : Nat) (x : List S48), i + d = T → T ≤ x.length → x.length ≤ 4611686018427387904 → d + 6 ≤ k → step_do.l0 k x (i : Int) K F (T : Int) GF GT N sl M = some (marks (gT M) x i T)
 | 0, k, i, x, h, hx, hl, hk => by
  obtain ⟨k, rfl⟩ : ∃ m, k = m + 1 := ⟨k - 1, by omega⟩
  simp only [step_do.l0]
  rw [if_neg (by omega), marks_done _ _ _ _ (by omega)]
 | d + 1, k, i, x, h, hx, hl, hk => by
  obtain ⟨k, rfl⟩ : ∃ m, k = m + 1 := ⟨k - 1, by omega⟩
  have hi : i < x.length := by omega
  simp only [step_do.l0]
  rw [if_pos (by omega), if_pos (by omega), if_pos (by omega), rd_get x (i : Int) (by rw [Int.toNat_natCast]; exact hi), w64 (by omega)]
  simp only [Int.toNat_natCast]
  by_cases h0 : x[i].f0 = 0
  ·obtain ⟨e, he⟩ := take_f M x[i].f3 k (by omega)
   rw [if_pos h0, he, Option.bind_some]
   have := do_l0 K F GF GT N sl M T d k (i + 1) (x.set i (setM x[i] (gT M x[i].f3))) (by omega) (by rw [List.length_set]; exact hx) (by rw [List.length_set]; exact hl) (by omega)
   rw [marks_set _ x i T hi (by omega) h0] at this
   exact this
  ·rw [if_neg h0]
   have := do_l0 K F GF GT N sl M T d k (i + 1) x (by omega) hx hl (by omega)
   rw [marks_skip _ x i T hi h0] at this
   exact this
/-- A right step, done. -/
def D (l : List S48) (K F T GF GT N : Int) (sl : List S48) (M : Int) : List S48 :=
 if K = 0 then l.take F.toNat ++ (sl ++ l.drop T.toNat)
 else if K = 1 then l.take F.toNat ++ (sl.take N.toNat ++ ((l.take GT.toNat).drop GF.toNat ++ (sl.drop N.toNat ++ l.drop T.toNat)))
 else if K = 3 then marks (gT M) l F.toNat T.toNat else marks (gA M) l F.toNat T.toNat
theorem do_f {K F T GF GT N : Int} {sl : List S48} {M : Int} (h : Sound K F T GF GT N sl M) (l : List S48) (hT : T ≤ (l.length : Int)) (hl : l.length ≤ 4398046500000) (k : Nat) (hk : l.length + 10 ≤ k) : step_do.f k l K F T GF GT N sl M = some (D l K F T GF GT N sl M) := by
 have h1 := h.len
 have h2 := h.f0
 have h3 := h.ft
 unfold step_do.f D
 by_cases k0 : K = 0
 ·rw [if_pos k0, if_pos k0, if_pos h2, if_pos (by omega), if_pos (by omega), if_pos hT]
  unfold step_tokens.f
  simp only [List.flatten_cons, List.flatten_nil, List.append_nil, List.length_append, List.length_take, List.length_drop]
  rw [if_pos (by omega)]
  rfl
 ·rw [if_neg k0, if_neg k0]
  by_cases k1 : K = 1
  ·obtain ⟨a1, a2, a3, a4, a5⟩ := h.around k1
   rw [if_pos k1, if_pos k1, if_pos h2, if_pos (by omega), if_pos a4, if_pos a5, if_pos (by omega), if_pos (by omega), if_pos (by omega), if_pos (by omega), if_pos hT]
   unfold step_tokens.f
   simp only [List.flatten_cons, List.flatten_nil, List.append_nil, List.length_append, List.length_take, List.length_drop]
   rw [if_pos (by omega)]
   rfl
  ·rw [if_neg k1, if_neg k1]
   obtain ⟨f, rfl⟩ : ∃ f : Nat, F = (f : Int) := ⟨F.toNat, by omega⟩
   obtain ⟨t, rfl⟩ : ∃ t : Nat, T = (t : Int) := ⟨T.toNat, by omega⟩
   have htok : step_tokens.f [l] = some l := by
    unfold step_tokens.f
    simp only [List.flatten_cons, List.flatten_nil, List.append_nil]
    rw [if_pos (by omega)]
   rw [htok, Option.bind_some]
   simp only [Int.toNat_natCast, Option.bind_some]
   by_cases k3 : K = 3
   ·rw [if_pos k3, if_pos k3]
    exact do_l0 K f GF GT N sl M t (t - f) k f l (by omega) (by omega) (by omega) (by omega)
   ·rw [if_neg k3, if_neg k3]
    exact do_l1 K f GF GT N sl M t (t - f) k f l (by omega) (by omega) (by omega) (by omega)
/-- What Apply answers. -/
def A (l : List S48) (K F T GF GT N : Int) (sl : List S48) (M : Int) : List S48 × Int :=
 if (fc l).2 = 0 then (if chk K F T GF GT N sl M = 0 then (if T > (l.length : Int) then ([], 1) else if (fc (D l K F T GF GT N sl M)).2 = 0 then (D l K F T GF GT N sl M, 0) else if (fc (D l K F T GF GT N sl M)).2 = 3 then ([], 4) else ([], (fc (D l K F T GF GT N sl M)).2)) else ([], chk K F T GF GT N sl M)) else ([], (fc l).2)
theorem apply_f (l : List S48) (K F T GF GT N : Int) (sl : List S48) (M : Int) (k : Nat) (hk : l.length + 2200 ≤ k) : step_Apply.f k l K F T GF GT N sl M = some (A l K F T GF GT N sl M) := by
 unfold step_Apply.f A
 rw [flat_check, Option.bind_some, check_f K F T GF GT N sl M k (by omega), Option.bind_some]
 by_cases c1 : (fc l).2 = 0
 ·rw [if_pos c1, if_pos c1]
  by_cases c2 : chk K F T GF GT N sl M = 0
  ·rw [if_pos c2, if_pos c2]
   by_cases c3 : T > (l.length : Int)
   ·rw [if_pos c3, if_pos c3]
   ·have := fc_len c1
    rw [if_neg c3, if_neg c3, do_f (chk_good c2) l (by omega) (by omega) k (by omega), Option.bind_some, flat_check, Option.bind_some]
    by_cases c4 : (fc (D l K F T GF GT N sl M)).2 = 0
    ·rw [if_pos c4, if_pos c4]
    ·rw [if_neg c4, if_neg c4]
     by_cases c5 : (fc (D l K F T GF GT N sl M)).2 = 3
     ·rw [if_pos c5, if_pos c5]
     ·rw [if_neg c5, if_neg c5]
  ·rw [if_neg c2, if_neg c2]
 ·rw [if_neg c1, if_neg c1]
theorem A_ok {l : List S48} {K F T GF GT N : Int} {sl : List S48} {M : Int} (h : (A l K F T GF GT N sl M).2 = 0) : (fc l).2 = 0 ∧ Sound K F T GF GT N sl M ∧ T ≤ (l.length : Int) ∧ (fc (D l K F T GF GT N sl M)).2 = 0 ∧ (A l K F T GF GT N sl M).1 = D l K F T GF GT N sl M := by
 unfold A at h ⊢
 by_cases c1 : (fc l).2 = 0
 ·rw [if_pos c1] at h ⊢
  by_cases c2 : chk K F T GF GT N sl M = 0
  ·rw [if_pos c2] at h ⊢
   by_cases c3 : T > (l.length : Int)
   ·rw [if_pos c3] at h; cases h
   ·rw [if_neg c3] at h ⊢
    by_cases c4 : (fc (D l K F T GF GT N sl M)).2 = 0
    ·rw [if_pos c4]
     exact ⟨c1, chk_good c2, by omega, c4, rfl⟩
    ·rw [if_neg c4] at h
     by_cases c5 : (fc (D l K F T GF GT N sl M)).2 = 3
     ·rw [if_pos c5] at h; cases h
     ·rw [if_neg c5] at h; exact absurd h c4
  ·rw [if_neg c2] at h; exact absurd h c2
 ·rw [if_neg c1] at h; exact absurd h c1
/-! ### Alike -/
def eqT (t u : S48) : Bool := t.f0 == u.f0 && (t.f1 == u.f1 && (t.f2 == u.f2 && t.f3 == u.f3))
def sameL : List S48 → List S48 → Bool
 | [], [] => true
 | t :: a, u :: b => eqT t u && sameL a b
 | _, _ => false
theorem sameL_refl : ∀ a : List S48, sameL a a = true
 | [] => rfl
 | t :: a => by simp [sameL, eqT, sameL_refl a]
theorem sameL_length : ∀ (a b : List S48), a.length ≠ b.length → sameL a b = false
 | [], [], h => absurd rfl h
 | [], _ :: _, _ => rfl
 | _ :: _, [], _ => rfl
 | t :: a, u :: b, h => by
  simp only [sameL]
  rw [sameL_length a b (by simpa using h)]
  simp
theorem ne_test (t u : S48) : (!(t.f0 == u.f0) || (!(t.f1 == u.f1) || (!(t.f2 == u.f2) || (!(t.f3 == u.f3))))) = !(eqT t u) := by
 unfold eqT
 cases t.f0 == u.f0 <;> cases t.f1 == u.f1 <;> cases t.f2 == u.f2 <;> cases t.f3 == u.f3 <;> rfl
theorem alike_loop (a b : List S48) (hab : a.length = b.length) (hl : a.length < 17592186044416) : ∀ (d k : Nat) (i : Int), 0 ≤ i → i + d = a.length → d < k → emenderlaw26_alike.l0 k a b i = some (sameL (a.drop i.toNat) (b.drop i.toNat)) := by
 intro d
 induction d with
 | zero =>
  intro k i h0 h1 hk
  obtain ⟨k, rfl⟩ : ∃ m, k = m + 1 := ⟨k - 1, by omega⟩
  simp only [emenderlaw26_alike.l0]
  rw [if_neg (by omega), List.drop_eq_nil_of_le (by omega), List.drop_eq_nil_of_le (by omega)]
  rfl
 | succ d ih =>
  intro k i h0 h1 hk
  obtain ⟨k, rfl⟩ : ∃ m, k = m + 1 := ⟨k - 1, by omega⟩
  have ha : i.toNat < a.length := by omega
  have hb : i.toNat < b.length := by omega
  simp only [emenderlaw26_alike.l0]
  rw [if_pos (by omega), if_pos h0, if_pos (by omega), rd_get a i ha, rd_get b i hb, ne_test, w64 (by omega), List.drop_eq_getElem_cons ha, List.drop_eq_getElem_cons hb]
  simp only [sameL]
  cases e : eqT a[i.toNat] b[i.toNat] with
  | false => simp
  | true =>
   rw [if_neg (by decide), ih k (i + 1) (by omega) (by omega) (by omega), show (i + 1).toNat = i.toNat + 1 by omega]
   simp
theorem alike (a b : List S48) (hl : a.length < 17592186044416) (k : Nat) (hk : a.length < k) : emenderlaw26_alike.f k a b = some (sameL a b) := by
 unfold emenderlaw26_alike.f
 by_cases h : (a.length : Int) = (b.length : Int)
 ·rw [if_pos h, alike_loop a b (by omega) hl a.length k 0 (by omega) (by omega) hk]
  rfl
 ·rw [if_neg h, sameL_length a b (by omega)]
end Go.Proofs.YtfcfomconcoimaaDoor.StepB
