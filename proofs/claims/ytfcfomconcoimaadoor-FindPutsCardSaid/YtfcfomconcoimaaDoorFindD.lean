/- The document's words for a text in the place of others: they tell what the program tells. -/
import Derived.Test.YtfcfomconcoimaaDoorPFax0
import Derived.Test.YtfcfomconcoimaaDoorPFay6
import Derived.Test.YtfcfomconcoimaaDoorPFay8
import Derived.Test.YtfcfomconcoimaaDoorPFay0
import Derived.Test.YtfcfomconcoimaaDoorFindC
import Derived.Test.YtfcfomconcoimaaDoorStepE
import Derived.Test.YtfcfomconcoimaaDoorInlC
namespace Go.Proofs.YtfcfomconcoimaaDoor.FindD
open Go.RowKit Go.Proofs.YtfcfomconcoimaaDoorW.PrintWords Go.Proofs.YtfcfomconcoimaaDoorW.PrintMore
open Go.Proofs.YtfcfomconcoimaaDoor Go.Proofs.YtfcfomconcoimaaDoor.PFa Go.Proofs.YtfcfomconcoimaaDoor.StepA Go.Proofs.YtfcfomconcoimaaDoor.StepB Go.Proofs.YtfcfomconcoimaaDoor.FindC
set_option linter.unusedSimpArgs false
set_option linter.unusedVariables false

theorem right_l1 (l : List S48) (hl : l.length ≤ 1000000) (at_ : List S28) (i : Nat) (hi : i ≤ 1000000) (b : Nat) (hb : b ≤ l.length) : ∀ (m c K : Nat), c + m = b → emenderref26_right.l1 (K + m + 1) l at_ (i : Int) (b : Int) (c : Int) = if runes ((l.take b).drop c) = true then emenderref26_right.l0 K l at_ (b : Int) ((i + 1 : Nat) : Int) else some false
 | 0, c, K, h => by
  show emenderref26_right.l1 (K + 1) l at_ (i : Int) (b : Int) (c : Int) = _
  rw [emenderref26_right.l1, if_neg (by omega), List.drop_of_length_le (by rw [List.length_take]; omega), w64 (by omega)]
  rfl
 | m + 1, c, K, h => by
  have hc : c < l.length := by omega
  have hc2 : c < (l.take b).length := by rw [List.length_take]; omega
  show emenderref26_right.l1 (K + m + 1 + 1) l at_ (i : Int) (b : Int) (c : Int) = _
  rw [emenderref26_right.l1, if_pos (by omega), if_pos (by omega), if_pos (by omega), rd48 l c hc, List.drop_eq_getElem_cons hc2, List.getElem_take, w64 (by omega)]
  by_cases k : l[c].f0 = 0
  ·rw [if_pos k]
   have := right_l1 l hl at_ i hi b hb m (c + 1) K (by omega)
   rw [show ((c : Int) + 1) = ((c + 1 : Nat) : Int) by omega, this, runes_cons, beq_iff_eq.mpr k, Bool.true_and]
  ·rw [if_neg k, runes_cons, beq_eq_false_iff_ne.mpr k, Bool.false_and, if_neg (by decide)]
theorem right_l0 (l : List S48) (hl : l.length ≤ 1000000) (at_ : List S28) (hat : at_.length ≤ 1000000) : ∀ (m i : Nat) (last : Int) (K : Nat), i + m = at_.length → 0 ≤ last → m * (l.length + 4) + 1 ≤ K → emenderref26_right.l0 K l at_ last (i : Int) = some (riseL l last (at_.drop i))
 | 0, i, last, K, h, h0, hK => by
  obtain ⟨k, rfl⟩ : ∃ k, K = k + 1 := ⟨K - 1, by omega⟩
  rw [emenderref26_right.l0, if_neg (by omega), List.drop_of_length_le (by omega)]
  rfl
 | m + 1, i, last, K, h, h0, hK => by
  have hi : i < at_.length := by omega
  rw [Nat.succ_mul] at hK
  obtain ⟨k, rfl⟩ : ∃ k, K = k + 1 + 1 := ⟨K - 2, by omega⟩
  rw [emenderref26_right.l0, if_pos (by omega), if_pos (by omega), rd28 at_ i hi, List.drop_eq_getElem_cons hi, riseL]
  generalize at_[i] = x
  by_cases c1 : x.f0 < last
  ·rw [if_pos c1, if_pos (.inl c1), emenderref26_right.j1, if_pos rfl]
  ·by_cases c2 : x.f0 ≥ x.f1
   ·rw [if_neg c1, if_pos c2, if_pos (.inr (.inl c2)), emenderref26_right.j1, if_pos rfl]
   ·by_cases c3 : x.f1 > (l.length : Int)
    ·rw [if_neg c1, if_neg c2, if_pos (.inr (.inr c3)), emenderref26_right.j1, if_pos (decide_eq_true c3)]
    ·rw [if_neg c1, if_neg c2, if_neg (by omega), emenderref26_right.j1, if_neg (by rw [decide_eq_false c3]; decide)]
     obtain ⟨a, ha⟩ : ∃ a : Nat, x.f0 = (a : Int) := ⟨x.f0.toNat, by omega⟩
     obtain ⟨b, hb⟩ : ∃ b : Nat, x.f1 = (b : Int) := ⟨x.f1.toNat, by omega⟩
     rw [ha, hb, Int.toNat_natCast, Int.toNat_natCast]
     obtain ⟨k', rfl⟩ : ∃ k', k = k' + (b - a) + 1 := ⟨k - (b - a) - 1, by omega⟩
     rw [right_l1 l hl at_ i (by omega) b (by omega) (b - a) a k' (by omega)]
     by_cases c4 : runes ((l.take b).drop a) = true
     ·rw [if_pos c4, if_pos c4]
      exact right_l0 l hl at_ hat m (i + 1) (b : Int) k' (by omega) (by omega) (by omega)
     ·rw [if_neg c4, if_neg c4]
theorem right_f (l : List S48) (hl : l.length ≤ 1000000) (at_ : List S28) (hat : at_.length ≤ 1000000) (K : Nat) (hK : at_.length * (l.length + 4) + 1 ≤ K) : emenderref26_right.f K l at_ = some (riseL l 0 at_) := by
 have := right_l0 l hl at_ hat at_.length 0 0 K (by omega) (Int.le_refl 0) hK
 rw [List.drop_zero] at this
 exact this
theorem points_l0 (s : ByteArray) (hs : s.size ≤ 1000) : ∀ (f i K : Nat) (acc : List Int), s.size ≤ i + f → i ≤ s.size → acc.length ≤ i → f + 12 ≤ K → emenderref26_points.l0 K s acc (i : Int) = if Lib.validD (s.data.toList.drop i) = true then some (acc ++ find_points.scan s f i, 0) else some ([], 4)
 | 0, i, K, acc, h, hi, ha, hK => by
  obtain ⟨k, rfl⟩ : ∃ k, K = k + 1 := ⟨K - 1, by omega⟩
  rw [emenderref26_points.l0, if_neg (by omega), List.drop_of_length_le (by rw [← Lib.size_eq]; omega), if_pos Lib.validD_nil, find_points.scan, List.append_nil]
 | f + 1, i, K, acc, h, hi, ha, hK => by
  obtain ⟨k, rfl⟩ : ∃ k, K = k + 1 := ⟨K - 1, by omega⟩
  rw [emenderref26_points.l0, find_points.scan]
  by_cases c : i < s.size
  ·have hne : s.data.toList.drop i ≠ [] := fun e => by
    have := congrArg List.length e
    rw [List.length_drop, ← Lib.size_eq] at this
    simp only [List.length_nil] at this
    omega
   have hw := width_pos s i c
   have e1 : rune s i = ((Lib.decodeL (s.data.toList.drop i)).1 : Int) := by unfold rune; rw [FindB.dec_at]
   have e2 : width s i = (Lib.decodeL (s.data.toList.drop i)).2 := by unfold width; rw [FindB.dec_at]
   rw [if_pos (by omega), InlC.point s (by omega) i c k (by omega), Option.bind_some, if_pos c, Lib.validD_step _ hne]
   unfold InlC.P
   by_cases b : rune s i = 65533 ∧ width s i = 1
   ·rw [if_pos b, if_pos rfl, if_pos (show (Lib.decodeL (s.data.toList.drop i)).1 = 65533 ∧ (Lib.decodeL (s.data.toList.drop i)).2 = 1 by omega), if_neg (by decide)]
   ·rw [if_neg b, if_neg (show ¬ ((width s i : Int) = 0) by omega), if_neg (show ¬ ((Lib.decodeL (s.data.toList.drop i)).1 = 65533 ∧ (Lib.decodeL (s.data.toList.drop i)).2 = 1) by omega), if_pos (by omega), w64 (by omega)]
    have := points_l0 s hs f (i + width s i) k (acc ++ [rune s i]) (by omega) (by omega) (by rw [List.length_append, List.length_singleton]; omega) (by omega)
    rw [show (i : Int) + (width s i : Int) = ((i + width s i : Nat) : Int) by omega]
    rw [this, List.drop_drop, ← e2, List.append_assoc]
    rfl
  ·rw [if_neg (by omega), if_neg c, List.drop_of_length_le (by rw [← Lib.size_eq]; omega), if_pos Lib.validD_nil, List.append_nil]
theorem points_f (s : ByteArray) (K : Nat) (hK : 1100 ≤ K) : emenderref26_points.f K s = find_points.f s := by
 unfold emenderref26_points.f find_points.f
 by_cases c : s.size > 1000
 ·rw [if_pos (by omega), if_pos c]
 ·rw [if_neg (by omega), if_neg c]
  have := points_l0 s (by omega) s.size 0 K [] (by omega) (by omega) (Nat.zero_le _) (by omega)
  rw [List.drop_zero, List.nil_append] at this
  exact this
theorem steps_l1 (l : List S48) (at_ : List S28) (p : List Int) (hp : p.length ≤ 1000) (out : List S45) (ho : out.length ≤ 1000000) (i F T : Int) (hi : 0 ≤ i ∧ i ≤ 1000000) (hF : 0 ≤ F ∧ F < (l.length : Int)) : ∀ (m j K : Nat) (acc : List S48), j + m = p.length → acc.length = j →
  emenderref26_Steps.l1 (K + m + 1) l at_ p out i (j : Int) 0 F T 0 0 0 acc 0 = emenderref26_Steps.l0 K l at_ p (out ++ [(⟨0, F, T, 0, 0, 0, acc ++ (p.drop j).map (fun c => (⟨0, 0, c, (rd_T48 l F).f3⟩ : S48)), 0⟩ : S45)]) (i - 1)
 | 0, j, K, acc, h, ha => by
  show emenderref26_Steps.l1 (K + 1) l at_ p out i (j : Int) 0 F T 0 0 0 acc 0 = _
  rw [emenderref26_Steps.l1, if_neg (by omega), if_pos (by omega), List.drop_of_length_le (by omega), List.map_nil, List.append_nil, w64 (by omega)]
 | m + 1, j, K, acc, h, ha => by
  have hj : j < p.length := by omega
  show emenderref26_Steps.l1 (K + m + 1 + 1) l at_ p out i (j : Int) 0 F T 0 0 0 acc 0 = _
  rw [emenderref26_Steps.l1, if_pos (by omega), if_pos (by omega), if_pos hF.1, if_pos hF.2, if_pos (by omega), w64 (by omega), FindB.rd_get p j hj, List.drop_eq_getElem_cons hj, List.map_cons]
  have := steps_l1 l at_ p hp out ho i F T hi hF m (j + 1) K (acc ++ [(⟨0, 0, p[j], (rd_T48 l F).f3⟩ : S48)]) (by omega) (by rw [List.length_append, List.length_singleton, ha])
  rw [show ((j : Int) + 1) = ((j + 1 : Nat) : Int) by omega, this, List.append_assoc]
  rfl
theorem steps_l0 (l : List S48) (at_ : List S28) (hat : at_.length ≤ 1000000) (p : List Int) (hp : p.length ≤ 1000) (hx : ∀ x ∈ at_, 0 ≤ x.f0 ∧ x.f0 < (l.length : Int)) : ∀ (m K : Nat) (out : List S45), m ≤ at_.length → out.length + m ≤ 1000000 → m * (p.length + 3) + 1 ≤ K →
  emenderref26_Steps.l0 K l at_ p out ((m : Int) - 1) = some (out ++ ((at_.take m).reverse.map (mk l p)), 0)
 | 0, K, out, h, h2, hK => by
  obtain ⟨k, rfl⟩ : ∃ k, K = k + 1 := ⟨K - 1, by omega⟩
  rw [emenderref26_Steps.l0, if_neg (by omega)]
  simp
 | m + 1, K, out, h, h2, hK => by
  rw [Nat.succ_mul] at hK
  obtain ⟨k, rfl⟩ : ∃ k, K = (k + p.length + 1) + 1 := ⟨K - p.length - 2, by omega⟩
  have hm : m < at_.length := by omega
  rw [show ((m + 1 : Nat) : Int) - 1 = (m : Int) by omega, emenderref26_Steps.l0, if_pos (by omega), if_pos (by omega), if_pos (by omega), rd28 at_ m hm]
  have hxm := hx _ (List.getElem_mem hm)
  have := steps_l1 l at_ p hp out (by omega) (m : Int) at_[m].f0 at_[m].f1 (by omega) hxm p.length 0 k [] (by omega) rfl
  rw [List.drop_zero, List.nil_append, Int.natCast_zero] at this
  rw [this, steps_l0 l at_ hat p hp hx m k _ (by omega) (by rw [List.length_append, List.length_singleton]; omega) (by omega)]
  rw [List.take_add_one, List.getElem?_eq_getElem hm, Option.toList_some, List.reverse_append, List.reverse_singleton, List.map_append, List.append_assoc]
  rfl
theorem steps_f (l : List S48) (hl : l.length ≤ 300) (at_ : List S28) (hat : at_.length ≤ 100) (s : ByteArray) (K : Nat) (hK : 200000 ≤ K) : emenderref26_Steps.f K l at_ s = some (St l at_ s) := by
 unfold emenderref26_Steps.f St
 rw [StepE.rcheckL l (by omega) K (by omega), Option.bind_some]
 by_cases c1 : (fc l).2 = 0
 ·have hK1 : at_.length * (l.length + 4) + 1 ≤ K := by
   have : at_.length * (l.length + 4) ≤ 100 * 304 := Nat.mul_le_mul hat (by omega)
   omega
  rw [if_pos c1, if_pos c1, right_f l (by omega) at_ (by omega) K hK1, Option.bind_some]
  by_cases c2 : riseL l 0 at_ = true
  ·rw [if_pos c2, if_pos c2, points_f s K (by omega)]
   obtain ⟨⟨p, e2⟩, hp⟩ := FindA.points_some s
   have hpl := find_points.len hp
   rw [hp, Option.bind_some]
   by_cases c3 : e2 = 0
   ·subst c3
    rw [if_pos rfl]
    have hm := riseL_mem at_ 0 (Int.le_refl 0) c2
    have := steps_l0 l at_ (by omega) p hpl (fun x hx => by have := hm x hx; omega) at_.length K [] (Nat.le_refl _) (by simp; omega) (by
     have : at_.length * (p.length + 3) ≤ 100 * 1003 := Nat.mul_le_mul hat (by omega)
     omega)
    rw [w64 (by omega), this, List.nil_append, List.take_length]
    simp
   ·rw [if_neg c3]
    simp [c3]
  ·rw [if_neg c2, if_neg c2]
 ·rw [if_neg c1, if_neg c1]
theorem replace_l0 (st : List S45) (hst : st.length ≤ 1000000) : ∀ (m i : Nat) (l : List S48) (K : Nat), i + m = st.length → l.length ≤ 2048 → m + 30000 ≤ K → emenderref26_Replace.l0 K st l (i : Int) = some (rep l (st.drop i))
 | 0, i, l, K, h, hl, hK => by
  obtain ⟨k, rfl⟩ : ∃ k, K = k + 1 := ⟨K - 1, by omega⟩
  rw [emenderref26_Replace.l0, if_neg (by omega), List.drop_of_length_le (by omega)]
  rfl
 | m + 1, i, l, K, h, hl, hK => by
  have hi : i < st.length := by omega
  obtain ⟨k, rfl⟩ : ∃ k, K = k + 1 := ⟨K - 1, by omega⟩
  rw [emenderref26_Replace.l0, if_pos (by omega), if_pos (by omega), rd45 st i hi, StepE.rapply l (by omega) _ _ _ _ _ _ _ _ k (by omega), Option.bind_some, List.drop_eq_getElem_cons hi, rep]
  by_cases c : (A l st[i].f0 st[i].f1 st[i].f2 st[i].f3 st[i].f4 st[i].f5 st[i].f6 st[i].f7).2 = 0
  ·rw [if_pos c, if_pos c, w64 (by omega)]
   exact replace_l0 st hst m (i + 1) _ k (by omega) (A_len c) (by omega)
  ·rw [if_neg c, if_neg c]
theorem replace_f (l : List S48) (hl : l.length ≤ 300) (at_ : List S28) (hat : at_.length ≤ 100) (s : ByteArray) (K : Nat) (hK : 200000 ≤ K) : emenderref26_Replace.f K l at_ s = some (Rp l at_ s) := by
 unfold emenderref26_Replace.f Rp
 rw [steps_f l hl at_ hat s K hK, Option.bind_some]
 have hs := St_len l at_ s
 by_cases c : (St l at_ s).2 = 0
 ·rw [if_pos c, if_pos c, Option.bind_some]
  rw [if_pos (show ([] : List S48).length + l.length < 4398046511104 by rw [List.length_nil]; omega), List.nil_append]
  have := replace_l0 (St l at_ s).1 (by omega) (St l at_ s).1.length 0 l K (by omega) (by omega) (by omega)
  rw [List.drop_zero] at this
  exact this
 ·rw [if_neg c, if_neg c]
/-! ### Lengths -/
theorem rep_len : ∀ (st : List S45) (l : List S48), l.length ≤ 2048 → (rep l st).1.length ≤ 2048
 | [], l, h => h
 | s :: st, l, h => by
  rw [rep]
  by_cases c : (A l s.f0 s.f1 s.f2 s.f3 s.f4 s.f5 s.f6 s.f7).2 = 0
  ·rw [if_pos c]
   exact rep_len st _ (A_len c)
  ·rw [if_neg c]
   exact Nat.zero_le _
theorem Rp_len (l : List S48) (hl : l.length ≤ 2048) (at_ : List S28) (s : ByteArray) : (Rp l at_ s).1.length ≤ 2048 := by
 unfold Rp
 by_cases c : (St l at_ s).2 = 0
 ·rw [if_pos c]
  exact rep_len _ l hl
 ·rw [if_neg c]
  exact Nat.zero_le _
theorem St_slice (l : List S48) (at_ : List S28) (s : ByteArray) : ∀ x ∈ (St l at_ s).1, x.f6.length ≤ 1000 := by
 intro x hx
 unfold St at hx
 split at hx
 ·split at hx
  ·split at hx
   case h_1 p e hp =>
    split at hx
    ·obtain ⟨y, _, rfl⟩ := List.mem_map.1 hx
     have := find_points.len hp
     unfold mk
     rw [List.length_map]
     exact this
    ·cases hx
   ·cases hx
  ·cases hx
 ·cases hx

end Go.Proofs.YtfcfomconcoimaaDoor.FindD
