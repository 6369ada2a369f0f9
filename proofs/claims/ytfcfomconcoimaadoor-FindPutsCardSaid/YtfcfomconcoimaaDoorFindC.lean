/- A text in the place of others, told by the program, in plain words. -/
import Derived.Test.YtfcfomconcoimaaDoorPFax0
import Derived.Test.YtfcfomconcoimaaDoorPFay1
import Derived.Test.YtfcfomconcoimaaDoorPFay4
import Derived.Test.YtfcfomconcoimaaDoorPFay0
import Derived.Test.YtfcfomconcoimaaDoorFindB
import Derived.Test.YtfcfomconcoimaaDoorStepB
namespace Go.Proofs.YtfcfomconcoimaaDoor.FindC
open Go.RowKit Go.Proofs.YtfcfomconcoimaaDoorW.PrintWords Go.Proofs.YtfcfomconcoimaaDoorW.PrintMore
open Go.Proofs.YtfcfomconcoimaaDoor Go.Proofs.YtfcfomconcoimaaDoor.PFa Go.Proofs.YtfcfomconcoimaaDoor.StepA Go.Proofs.YtfcfomconcoimaaDoor.StepB
set_option linter.unusedSimpArgs false
set_option linter.unusedVariables false

theorem rd28 (l : List S28) (i : Nat) (h : i < l.length) : rd_T28 l (i : Int) = l[i] := FindA.rd28 l i h
theorem rd45 (l : List S45) (i : Nat) (h : i < l.length) : rd_T45 l (i : Int) = l[i] := by simp [rd_T45, List.getD_eq_getElem?_getD, List.getElem?_eq_getElem h]
theorem rd48 (l : List S48) (i : Nat) (h : i < l.length) : rd_T48 l (i : Int) = l[i] := by simp [rd_T48, List.getD_eq_getElem?_getD, List.getElem?_eq_getElem h]
def runes (l : List S48) : Bool := l.all fun t => t.f0 == 0
theorem runes_cons (t : S48) (l : List S48) : runes (t :: l) = (t.f0 == 0 && runes l) := rfl
/-- May the places be: they rise, within the document, over code points alone. -/
def riseL (l : List S48) : Int → List S28 → Bool
 | _, [] => true
 | last, x :: r => if x.f0 < last ∨ x.f0 ≥ x.f1 ∨ x.f1 > (l.length : Int) then false else if runes ((l.take x.f1.toNat).drop x.f0.toNat) = true then riseL l x.f1 r else false
theorem riseL_mem {l : List S48} : ∀ (at_ : List S28) (last : Int), 0 ≤ last → riseL l last at_ = true → ∀ x ∈ at_, 0 ≤ x.f0 ∧ x.f0 < x.f1 ∧ x.f1 ≤ (l.length : Int)
 | [], last, _, _, x, hx => by cases hx
 | y :: r, last, h0, h, x, hx => by
  rw [riseL] at h
  by_cases c : y.f0 < last ∨ y.f0 ≥ y.f1 ∨ y.f1 > (l.length : Int)
  ·rw [if_pos c] at h
   cases h
  ·rw [if_neg c] at h
   by_cases k : runes ((l.take y.f1.toNat).drop y.f0.toNat) = true
   ·rw [if_pos k] at h
    rcases List.mem_cons.1 hx with rfl | hx
    ·omega
    ·exact riseL_mem r _ (by omega) h x hx
   ·rw [if_neg k] at h
    cases h
theorem rise_l1 (l : List S48) (at_ : List S28) (n : Int) (i : Nat) (hi : i ≤ 1000000) (a b : Int) (y : List S48) (hy : y.length ≤ 1000000) : ∀ (m j K : Nat), j + m = y.length → find_rise.l1 (K + m + 1) l at_ n (i : Int) y (y.length : Int) (j : Int) a b = if runes (y.drop j) = true then find_rise.l0 K l b at_ n ((i + 1 : Nat) : Int) else some false
 | 0, j, K, h => by
  show find_rise.l1 (K + 1) l at_ n (i : Int) y (y.length : Int) (j : Int) a b = _
  rw [find_rise.l1, if_neg (by omega), List.drop_of_length_le (by omega), w64 (by omega)]
  rfl
 | m + 1, j, K, h => by
  have hj : j < y.length := by omega
  show find_rise.l1 (K + m + 1 + 1) l at_ n (i : Int) y (y.length : Int) (j : Int) a b = _
  rw [find_rise.l1, if_pos (by omega), if_pos (by omega), if_pos (by omega), rd48 y j hj, List.drop_eq_getElem_cons hj, w64 (by omega)]
  by_cases c : y[j].f0 = 0
  ·rw [if_pos c]
   have := rise_l1 l at_ n i hi a b y hy m (j + 1) K (by omega)
   rw [show ((j : Int) + 1) = ((j + 1 : Nat) : Int) by omega, this, runes_cons, beq_iff_eq.mpr c, Bool.true_and]
  ·rw [if_neg c, runes_cons, beq_eq_false_iff_ne.mpr c, Bool.false_and, if_neg (by decide)]
theorem rise_l0 (l : List S48) (hl : l.length ≤ 1000000) (at_ : List S28) (hat : at_.length ≤ 1000000) : ∀ (m i : Nat) (last : Int) (K : Nat), i + m = at_.length → 0 ≤ last → m * (l.length + 4) + 1 ≤ K → find_rise.l0 K l last at_ (at_.length : Int) (i : Int) = some (riseL l last (at_.drop i))
 | 0, i, last, K, h, h0, hK => by
  obtain ⟨k, rfl⟩ : ∃ k, K = k + 1 := ⟨K - 1, by omega⟩
  rw [find_rise.l0, if_neg (by omega), List.drop_of_length_le (by omega)]
  rfl
 | m + 1, i, last, K, h, h0, hK => by
  have hi : i < at_.length := by omega
  rw [Nat.succ_mul] at hK
  obtain ⟨k, rfl⟩ : ∃ k, K = k + 1 + 1 := ⟨K - 2, by omega⟩
  rw [find_rise.l0, if_pos (by omega), if_pos (by omega), if_pos (by omega), rd28 at_ i hi, List.drop_eq_getElem_cons hi, riseL]
  generalize at_[i] = x
  by_cases c1 : x.f0 < last
  ·rw [if_pos c1, if_pos (.inl c1), find_rise.j1, if_pos rfl]
  ·by_cases c2 : x.f0 ≥ x.f1
   ·rw [if_neg c1, if_pos c2, if_pos (.inr (.inl c2)), find_rise.j1, if_pos rfl]
   ·by_cases c3 : x.f1 > (l.length : Int)
    ·rw [if_neg c1, if_neg c2, if_pos (.inr (.inr c3)), find_rise.j1, if_pos (decide_eq_true c3)]
    ·rw [if_neg c1, if_neg c2, if_neg (by omega), find_rise.j1, if_neg (by rw [decide_eq_false c3]; decide), if_pos (by omega), if_pos (by omega), if_pos (by omega), Option.bind_some]
     have hy : ((l.take x.f1.toNat).drop x.f0.toNat).length ≤ l.length := by rw [List.length_drop, List.length_take]; omega
     generalize (l.take x.f1.toNat).drop x.f0.toNat = y at *
     obtain ⟨k', rfl⟩ : ∃ k', k = k' + y.length + 1 := ⟨k - y.length - 1, by omega⟩
     have := rise_l1 l at_ (at_.length : Int) i (by omega) x.f0 x.f1 y (by omega) y.length 0 k' (by omega)
     rw [List.drop_zero] at this
     rw [show (0 : Int) = ((0 : Nat) : Int) from rfl, this]
     by_cases c4 : runes y = true
     ·rw [if_pos c4, if_pos c4]
      exact rise_l0 l hl at_ hat m (i + 1) x.f1 k' (by omega) (by omega) (by omega)
     ·rw [if_neg c4, if_neg c4]
theorem rise_f (l : List S48) (hl : l.length ≤ 1000000) (at_ : List S28) (hat : at_.length ≤ 1000000) (K : Nat) (hK : at_.length * (l.length + 4) + 1 ≤ K) : find_rise.f K l at_ = some (riseL l 0 at_) := by
 have := rise_l0 l hl at_ hat at_.length 0 0 K (by omega) (Int.le_refl 0) hK
 rw [List.drop_zero] at this
 exact this
/-- A text in a place. -/
def mk (l : List S48) (p : List Int) (x : S28) : S45 := ⟨0, x.f0, x.f1, 0, 0, 0, p.map (fun c => (⟨0, 0, c, (rd_T48 l x.f0).f3⟩ : S48)), 0⟩
theorem steps_l1 (l : List S48) (at_ : List S28) (p : List Int) (hp : p.length ≤ 1000) (out : List S45) (ho : out.length ≤ 1000000) (i F T : Int) (hi : 0 ≤ i ∧ i ≤ 1000000) (hF : 0 ≤ F ∧ F < (l.length : Int)) : ∀ (m j K : Nat) (acc : List S48), j + m = p.length → acc.length = j →
  find_Steps.l1 (K + m + 1) l at_ p out i p (p.length : Int) (j : Int) 0 F T 0 0 0 acc 0 = find_Steps.l0 K l at_ p (out ++ [(⟨0, F, T, 0, 0, 0, acc ++ (p.drop j).map (fun c => (⟨0, 0, c, (rd_T48 l F).f3⟩ : S48)), 0⟩ : S45)]) (i - 1)
 | 0, j, K, acc, h, ha => by
  show find_Steps.l1 (K + 1) l at_ p out i p (p.length : Int) (j : Int) 0 F T 0 0 0 acc 0 = _
  rw [find_Steps.l1, if_neg (by omega), if_pos (by omega), List.drop_of_length_le (by omega), List.map_nil, List.append_nil, w64 (by omega)]
 | m + 1, j, K, acc, h, ha => by
  have hj : j < p.length := by omega
  show find_Steps.l1 (K + m + 1 + 1) l at_ p out i p (p.length : Int) (j : Int) 0 F T 0 0 0 acc 0 = _
  rw [find_Steps.l1, if_pos (by omega), if_pos (by omega), if_pos (by omega), if_pos hF.1, if_pos hF.2, if_pos (by omega), w64 (by omega), FindB.rd_get p j hj, List.drop_eq_getElem_cons hj, List.map_cons]
  have := steps_l1 l at_ p hp out ho i F T hi hF m (j + 1) K (acc ++ [(⟨0, 0, p[j], (rd_T48 l F).f3⟩ : S48)]) (by omega) (by rw [List.length_append, List.length_singleton, ha])
  rw [show ((j : Int) + 1) = ((j + 1 : Nat) : Int) by omega, this, List.append_assoc]
  rfl
theorem steps_l0 (l : List S48) (at_ : List S28) (hat : at_.length ≤ 1000000) (p : List Int) (hp : p.length ≤ 1000) (hx : ∀ x ∈ at_, 0 ≤ x.f0 ∧ x.f0 < (l.length : Int)) : ∀ (m K : Nat) (out : List S45), m ≤ at_.length → out.length + m ≤ 1000000 → m * (p.length + 3) + 1 ≤ K →
  find_Steps.l0 K l at_ p out ((m : Int) - 1) = some (out ++ ((at_.take m).reverse.map (mk l p)), 0)
 | 0, K, out, h, h2, hK => by
  obtain ⟨k, rfl⟩ : ∃ k, K = k + 1 := ⟨K - 1, by omega⟩
  rw [find_Steps.l0, if_neg (by omega)]
  simp
 | m + 1, K, out, h, h2, hK => by
  rw [Nat.succ_mul] at hK
  obtain ⟨k, rfl⟩ : ∃ k, K = (k + p.length + 1) + 1 := ⟨K - p.length - 2, by omega⟩
  have hm : m < at_.length := by omega
  rw [show ((m + 1 : Nat) : Int) - 1 = (m : Int) by omega, find_Steps.l0, if_pos (by omega), if_pos (by omega), if_pos (by omega), rd28 at_ m hm]
  have hxm := hx _ (List.getElem_mem hm)
  have := steps_l1 l at_ p hp out (by omega) (m : Int) at_[m].f0 at_[m].f1 (by omega) hxm p.length 0 k [] (by omega) rfl
  rw [List.drop_zero, List.nil_append, Int.natCast_zero] at this
  rw [this, steps_l0 l at_ hat p hp hx m k _ (by omega) (by rw [List.length_append, List.length_singleton]; omega) (by omega)]
  rw [List.take_add_one, List.getElem?_eq_getElem hm, Option.toList_some, List.reverse_append, List.reverse_singleton, List.map_append, List.append_assoc]
  rfl
/-- What Steps answers. -/
def St (l : List S48) (at_ : List S28) (s : ByteArray) : List S45 × Int :=
 if (fc l).2 = 0 then (if riseL l 0 at_ = true then (match find_points.f s with | some (p, e) => if e = 0 then (at_.reverse.map (mk l p), 0) else ([], e) | none => ([], 0)) else ([], 1)) else ([], (fc l).2)
theorem steps_f (l : List S48) (at_ : List S28) (hat : at_.length ≤ 10000) (s : ByteArray) (K : Nat) (hK : at_.length * (l.length + 1010) + 1 ≤ K) : find_Steps.f K l at_ s = some (St l at_ s) := by
 unfold find_Steps.f St
 rw [flat_check, Option.bind_some]
 by_cases c1 : (fc l).2 = 0
 ·have hl := fc_len c1
  have e : at_.length * (l.length + 1010) = at_.length * l.length + at_.length * 1010 := Nat.mul_add ..
  rw [if_pos c1, if_pos c1, rise_f l (by omega) at_ (by omega) K (by rw [Nat.mul_add]; omega), Option.bind_some]
  by_cases c2 : riseL l 0 at_ = true
  ·rw [if_pos c2, if_pos c2]
   obtain ⟨⟨p, e2⟩, hp⟩ := FindA.points_some s
   have hpl := find_points.len hp
   rw [hp, Option.bind_some]
   by_cases c3 : e2 = 0
   ·subst c3
    rw [if_pos rfl]
    have hm := riseL_mem at_ 0 (Int.le_refl 0) c2
    have := steps_l0 l at_ (by omega) p hpl (fun x hx => by have := hm x hx; omega) at_.length K [] (Nat.le_refl _) (by simp; omega) (by
     have : at_.length * (p.length + 3) ≤ at_.length * (l.length + 1010) := Nat.mul_le_mul_left _ (by omega)
     omega)
    rw [w64 (by omega), this, List.nil_append, List.take_length]
    simp
   ·rw [if_neg c3]
    simp [c3]
  ·rw [if_neg c2, if_neg c2]
 ·rw [if_neg c1, if_neg c1]
/-- One step behind the other. -/
def rep : List S48 → List S45 → List S48 × Int
 | l, [] => (l, 0)
 | l, s :: r => if (A l s.f0 s.f1 s.f2 s.f3 s.f4 s.f5 s.f6 s.f7).2 = 0 then rep (A l s.f0 s.f1 s.f2 s.f3 s.f4 s.f5 s.f6 s.f7).1 r else ([], (A l s.f0 s.f1 s.f2 s.f3 s.f4 s.f5 s.f6 s.f7).2)
theorem A_len {l : List S48} {K F T GF GT N : Int} {sl : List S48} {M : Int} (h : (A l K F T GF GT N sl M).2 = 0) : (A l K F T GF GT N sl M).1.length ≤ 2048 := by
 obtain ⟨q1, q2, q3, q4, q5⟩ := A_ok h
 rw [q5]
 exact fc_len q4
theorem replace_l0 (st : List S45) (hst : st.length ≤ 1000000) : ∀ (m i : Nat) (l : List S48) (K : Nat), i + m = st.length → l.length ≤ 2048 → m + 5000 ≤ K → find_Replace.l0 K l st (st.length : Int) (i : Int) = some (rep l (st.drop i))
 | 0, i, l, K, h, hl, hK => by
  obtain ⟨k, rfl⟩ : ∃ k, K = k + 1 := ⟨K - 1, by omega⟩
  rw [find_Replace.l0, if_neg (by omega), List.drop_of_length_le (by omega)]
  rfl
 | m + 1, i, l, K, h, hl, hK => by
  have hi : i < st.length := by omega
  obtain ⟨k, rfl⟩ : ∃ k, K = k + 1 := ⟨K - 1, by omega⟩
  rw [find_Replace.l0, if_pos (by omega), if_pos (by omega), if_pos (by omega), rd45 st i hi, apply_f l _ _ _ _ _ _ _ _ k (by omega), Option.bind_some, List.drop_eq_getElem_cons hi, rep]
  by_cases c : (A l st[i].f0 st[i].f1 st[i].f2 st[i].f3 st[i].f4 st[i].f5 st[i].f6 st[i].f7).2 = 0
  ·rw [if_pos c, if_pos c, w64 (by omega)]
   exact replace_l0 st hst m (i + 1) _ k (by omega) (A_len c) (by omega)
  ·rw [if_neg c, if_neg c]
/-- What Replace answers. -/
def Rp (l : List S48) (at_ : List S28) (s : ByteArray) : List S48 × Int := if (St l at_ s).2 = 0 then rep l (St l at_ s).1 else ([], (St l at_ s).2)
theorem St_len (l : List S48) (at_ : List S28) (s : ByteArray) : (St l at_ s).1.length ≤ at_.length := by
 unfold St
 split
 ·split
  ·split
   ·split
    ·simp
    ·exact Nat.zero_le _
   ·exact Nat.zero_le _
  ·exact Nat.zero_le _
 ·exact Nat.zero_le _
theorem St_fc {l : List S48} {at_ : List S28} {s : ByteArray} (h : (St l at_ s).2 = 0) : (fc l).2 = 0 := by
 unfold St at h
 by_cases c : (fc l).2 = 0
 ·exact c
 ·rw [if_neg c] at h
  exact absurd h c
theorem replace_f (l : List S48) (at_ : List S28) (hat : at_.length ≤ 10000) (s : ByteArray) (K : Nat) (hK : at_.length * (l.length + 1010) + 6000 ≤ K) : find_Replace.f K l at_ s = some (Rp l at_ s) := by
 unfold find_Replace.f Rp
 have hK1 : at_.length * (l.length + 1010) + 1 ≤ K := Nat.le_trans (Nat.add_le_add_left (show 1 ≤ 6000 by omega) _) hK
 have hK2 : 6000 ≤ K := Nat.le_trans (Nat.le_add_left _ _) hK
 rw [steps_f l at_ hat s K hK1, Option.bind_some]
 have hs := St_len l at_ s
 by_cases c : (St l at_ s).2 = 0
 ·have hl := fc_len (St_fc c)
  rw [if_pos c, if_pos c]
  rw [if_pos (show ([] : List S48).length + l.length < 4398046511104 by rw [List.length_nil]; omega), List.nil_append]
  have hK3 : (St l at_ s).1.length + 5000 ≤ K := by
   rw [Nat.mul_add] at hK
   have h1 : at_.length ≤ at_.length * 1010 := Nat.le_mul_of_pos_right _ (by omega)
   generalize at_.length * l.length = u at hK
   generalize at_.length * 1010 = v at hK h1
   omega
  have := replace_l0 (St l at_ s).1 (by omega) (St l at_ s).1.length 0 l K (by omega) hl hK3
  rw [List.drop_zero] at this
  exact this
 ·rw [if_neg c, if_neg c]

end Go.Proofs.YtfcfomconcoimaaDoor.FindC
