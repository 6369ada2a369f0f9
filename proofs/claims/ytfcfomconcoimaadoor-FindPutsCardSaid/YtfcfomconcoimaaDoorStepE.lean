/- The document's words for steps, in plain words: they tell what the program tells. -/
import Derived.Test.YtfcfomconcoimaaDoorPFax0
import Derived.Test.YtfcfomconcoimaaDoorPFay2
import Derived.Test.YtfcfomconcoimaaDoorPFay4
import Derived.Test.YtfcfomconcoimaaDoorPFay6
import Derived.Test.YtfcfomconcoimaaDoorPFay7
import Derived.Test.YtfcfomconcoimaaDoorStepB
import Derived.Test.YtfcfomconcoimaaDoorFlatC
namespace Go.Proofs.YtfcfomconcoimaaDoor.StepE
open Go.RowKit Go.Proofs.YtfcfomconcoimaaDoorW.PrintWords Go.Proofs.YtfcfomconcoimaaDoorW.PrintMore
open Go.Proofs.YtfcfomconcoimaaDoor Go.Proofs.YtfcfomconcoimaaDoor.PFa Go.Proofs.YtfcfomconcoimaaDoor.StepA Go.Proofs.YtfcfomconcoimaaDoor.StepB
set_option linter.unusedSimpArgs false
set_option linter.unusedVariables false

theorem rright (k : Nat) (a b c d : Int) : emenderref04_Right.f (k + 1) a b c d = some (right a b c d) := FlatA.ref_right k a b c d
theorem rcheckL (l : List S48) (hl : l.length < 4398046511104) (k : Nat) (hk : 3 * l.length + 2 < k) : emenderref04_Check.f k l = some (fc l) := by
 rw [FlatC.ref_check l (by omega) k hk, flat_check]
theorem rchk_l0 (K F T GF GT N : Int) (sl : List S48) (M : Int) (hl : sl.length ≤ 4611686018427387904) : ∀ (d k : Nat) (b : Bool) (i : Int), 0 ≤ i → i + d = sl.length → d + 1 < k → emenderref09_Check.l0 k b i K F T GF GT N sl M = some (if (b && (sl.drop i.toNat).all rt) = true then 0 else 1) := by
 intro d
 induction d with
 | zero =>
  intro k b i h0 h1 hk
  obtain ⟨k, rfl⟩ : ∃ m, k = m + 1 := ⟨k - 1, by omega⟩
  simp only [emenderref09_Check.l0]
  rw [if_neg (by omega), List.drop_eq_nil_of_le (by omega)]
  cases b <;> rfl
 | succ d ih =>
  intro k b i h0 h1 hk
  obtain ⟨k, rfl⟩ : ∃ m, k = m + 1 := ⟨k - 1, by omega⟩
  have ha : i.toNat < sl.length := by omega
  simp only [emenderref09_Check.l0]
  obtain ⟨k, rfl⟩ : ∃ m, k = m + 1 := ⟨k - 1, by omega⟩
  rw [if_pos (by omega), if_pos h0, rd_get sl i ha, rright, Option.bind_some, w64 (by omega), List.drop_eq_getElem_cons ha]
  rw [ih (k + 1) _ (i + 1) (by omega) (by omega) (by omega), ih (k + 1) _ (i + 1) (by omega) (by omega) (by omega), show (i + 1).toNat = i.toNat + 1 by omega]
  cases b
  ·simp
  ·simp only [if_true, List.all_cons, Bool.true_and, rt]
theorem rchk (K F T GF GT N : Int) (sl : List S48) (M : Int) (k : Nat) (hk : 2100 < k) : emenderref09_Check.f k K F T GF GT N sl M = some (chk K F T GF GT N sl M) := by
 by_cases h : (sl.length : Int) > 2048
 ·unfold emenderref09_Check.f chk
  rw [if_pos h, if_pos h]
 have hl : sl.length ≤ 4611686018427387904 := by omega
 obtain ⟨k, rfl⟩ : ∃ m, k = m + 5 := ⟨k - 5, by omega⟩
 have J3 : ∀ m b, sl.length + 3 < m → emenderref09_Check.j3 m b K F T GF GT N sl M = some (if (b && sl.all rt) = true then 0 else 1) := by
  intro m b hm
  obtain ⟨m, rfl⟩ : ∃ n, m = n + 1 := ⟨m - 1, by omega⟩
  simp only [emenderref09_Check.j3]
  rw [rchk_l0 K F T GF GT N sl M hl sl.length m b 0 (by omega) (by omega) (by omega)]
  rfl
 have J2 : ∀ b c, emenderref09_Check.j2 (k + 3) b c K F T GF GT N sl M = some (if ((c && (b && (decide (F < T) && (decide ((sl.length : Int) = 0) && one M)))) && sl.all rt) = true then 0 else 1) := by
  intro b c
  simp only [emenderref09_Check.j2, J3 (k + 2) _ (by omega)]
  unfold one
  generalize sl.all rt = al
  cases c
  ·simp
  ·cases b
   ·simp
   ·rw [if_pos rfl, if_pos rfl]
    by_cases a1 : F < T
    ·rw [if_pos a1, decide_eq_true a1]
     by_cases a2 : (sl.length : Int) = 0
     ·rw [if_pos a2, decide_eq_true a2]
      by_cases m1 : M = 1
      ·rw [if_pos m1, decide_eq_true (.inl m1)]
       simp
      ·rw [if_neg m1]
       by_cases m2 : M = 2
       ·rw [if_pos m2, decide_eq_true (.inr (.inl m2))]
        simp
       ·rw [if_neg m2]
        by_cases m4 : M = 4
        ·rw [beq_iff_eq.mpr m4, decide_eq_true (.inr (.inr m4))]
         simp
        ·rw [beq_eq_false_iff_ne.mpr m4, decide_eq_false (by omega)]
         simp
     ·rw [if_neg a2, decide_eq_false a2]
      simp
    ·rw [if_neg a1, decide_eq_false a1]
     simp
 have J1 : ∀ b, emenderref09_Check.j1 (k + 4) b K F T GF GT N sl M = some (if ((if K = 1 then decide (F ≤ GF ∧ GF < GT ∧ GT ≤ T ∧ 0 ≤ N ∧ N ≤ (sl.length : Int)) && M == 0 else if K = 0 then b && M == 0 else if K = 2 ∨ K = 3 then b && (decide (F < T) && (decide ((sl.length : Int) = 0) && one M)) else false) && sl.all rt) = true then 0 else 1) := by
  intro b
  simp only [emenderref09_Check.j1, J2, J3 (k + 3) _ (by omega)]
  generalize sl.all rt = al
  by_cases h0 : K = 0
  ·subst h0
   cases b <;> simp
  ·by_cases h1 : K = 1
   ·subst h1
    by_cases a1 : F ≤ GF <;> by_cases a2 : GF < GT <;> by_cases a3 : GT ≤ T <;> by_cases a4 : N ≥ 0 <;> by_cases a5 : N ≤ (sl.length : Int) <;> simp [a1, a2, a3, a4, a5]
   ·by_cases h2 : K = 2
    ·subst h2
     simp
    ·by_cases h3 : K = 3
     ·subst h3
      simp
     ·simp [h0, h1, h2, h3]
 have J0 : ∀ c, emenderref09_Check.j0 (k + 5) c K F T GF GT N sl M = some (if ((!c && okKind K F T GF GT N sl M) && sl.all rt) = true then 0 else 1) := by
  intro c
  simp only [emenderref09_Check.j0, J1]
  unfold okKind
  generalize sl.all rt = al
  cases c
  ·by_cases h1 : K = 1
   ·simp [h1]
   ·by_cases h0 : K = 0
    ·subst h0
     by_cases a1 : GF = 0 <;> by_cases a2 : GT = 0 <;> by_cases a3 : N = 0 <;> simp [a1, a2, a3]
    ·by_cases h23 : K = 2 ∨ K = 3
     ·simp only [if_neg h1, if_neg h0, if_pos h23]
      by_cases a1 : GF = 0 <;> by_cases a2 : GT = 0 <;> by_cases a3 : N = 0 <;> simp [a1, a2, a3, and_assoc, and_comm, and_left_comm]
     ·simp only [if_neg h1, if_neg h0, if_neg h23]
      simp
  ·simp
 unfold emenderref09_Check.f chk
 simp only [J0]
 rw [if_neg h, if_neg h]
 by_cases a1 : F < 0
 ·simp [a1, show ¬ 0 ≤ F by omega]
 ·by_cases a2 : F > T
  ·simp [a1, a2, show ¬ F ≤ T by omega]
  ·by_cases a3 : T > 2048
   ·simp [a1, a2, a3, show ¬ T ≤ 2048 by omega]
   ·simp [a1, a2, a3, show F ≤ T by omega, show 0 ≤ F by omega, show T ≤ 2048 by omega]

/-! ### The document's way to do a step -/
theorem rjoin_l0 (ls : List (List S48)) (hls : ls.length ≤ 4611686018427387904) (hn : ls.flatten.length < 4398046511104) : ∀ (d k i : Nat) (out : List S48), i + d = ls.length → d < k → out = (ls.take i).flatten → emenderref09_join.l0 k ls out (i : Int) = some ls.flatten
 | 0, k, i, out, h, hk, ho => by
  obtain ⟨k, rfl⟩ : ∃ m, k = m + 1 := ⟨k - 1, by omega⟩
  simp only [emenderref09_join.l0]
  rw [if_neg (by omega), ho, List.take_of_length_le (by omega)]
 | d + 1, k, i, out, h, hk, ho => by
  obtain ⟨k, rfl⟩ : ∃ m, k = m + 1 := ⟨k - 1, by omega⟩
  have hi : i < ls.length := by omega
  have e : rd_L2 ls (i : Int) = ls[i] := by simp [rd_L2, List.getD_eq_getElem?_getD, List.getElem?_eq_getElem hi]
  have h1 : (ls.take (i + 1)).flatten = out ++ ls[i] := by
   rw [List.take_succ_eq_append_getElem hi, List.flatten_append, ho]
   simp
  have h2 : (ls.take (i + 1)).flatten.length ≤ ls.flatten.length := by
   conv => rhs; rw [← List.take_append_drop (i + 1) ls, List.flatten_append, List.length_append]
   omega
  rw [h1, List.length_append] at h2
  simp only [emenderref09_join.l0]
  rw [if_pos (by omega), if_pos (by omega), e, if_pos (by omega), w64 (by omega)]
  exact rjoin_l0 ls hls hn d k (i + 1) _ (by omega) (by omega) h1.symm
theorem rjoin (ls : List (List S48)) (hls : ls.length ≤ 4611686018427387904) (hn : ls.flatten.length < 4398046511104) (k : Nat) (hk : ls.length < k) : emenderref09_join.f k ls = some ls.flatten := rjoin_l0 ls hls hn ls.length k 0 [] (by omega) hk (by simp)
set_option maxRecDepth 100000 in
theorem radd (m v : Int) (k : Nat) (hk : 1 ≤ k) : ∃ e, emenderref03_Add.f k v m = some (gA m v, e) := by
 obtain ⟨k, rfl⟩ : ∃ n, k = n + 1 := ⟨k - 1, by omega⟩
 have hg : mark_Add.f 4 v m = some (gA m v, (mark_Add.f 4 v m).getD (0, 0) |>.2) := by
  obtain ⟨e, he⟩ := add_f m v 4 (by omega)
  rw [he]
  rfl
 unfold mark_Add.f at hg
 rw [may_f v m 4 (by omega), Option.bind_some] at hg
 have fin : ∀ (x y z : Int), some (x, y) = some (gA m v, z) → ∃ e, some (x, y) = some (gA m v, e) := fun x y z h => ⟨z, h⟩
 unfold emenderref03_Add.f
 by_cases ho : one m = true
 ·have hm : m = 1 ∨ m = 2 ∨ m = 4 := by
   unfold one at ho
   exact of_decide_eq_true ho
  have hi : emenderref03_is.f m = some true := by
   unfold emenderref03_is.f
   rcases hm with rfl | rfl | rfl <;> rfl
  rw [hi, Option.bind_some, if_pos rfl]
  by_cases hv : 0 ≤ v ∧ v ≤ 4
  ·unfold mayE at hg
   rw [if_pos ho, if_pos hv, if_pos rfl] at hg
   have hr : emenderref03_Right.f v = some true := by
    unfold emenderref03_Right.f
    rw [if_pos hv.1, decide_eq_true hv.2]
   rw [hr, Option.bind_some, if_pos rfl]
   by_cases h4 : v = 4
   ·rw [if_pos h4] at hg
    rw [if_pos h4]
    simp only [emenderref03_Add.j0]
    rw [if_pos trivial]
    exact fin _ _ _ hg
   ·rw [if_neg h4] at hg
    rw [if_neg h4]
    simp only [emenderref03_Add.j0]
    by_cases m4 : m = 4
    ·rw [if_pos m4] at hg
     rw [if_pos (beq_iff_eq.mpr m4)]
     exact fin _ _ _ hg
    ·rw [if_neg m4] at hg
     rw [if_neg (fun e => m4 (beq_iff_eq.mp e))]
     exact fin _ _ _ hg
  ·unfold mayE at hg
   rw [if_pos ho, if_neg hv, if_neg (by decide)] at hg
   have hr : emenderref03_Right.f v = some false := by
    unfold emenderref03_Right.f
    by_cases h0 : v ≥ 0
    ·rw [if_pos h0, decide_eq_false (by omega)]
    ·rw [if_neg h0]
   rw [hr, Option.bind_some, if_neg (by decide)]
   exact fin _ _ _ hg
 ·have hi : emenderref03_is.f m = some false := by
   have hm : ¬ (m = 1 ∨ m = 2 ∨ m = 4) := fun h => ho (by unfold one; exact decide_eq_true h)
   unfold emenderref03_is.f
   rw [if_neg (fun e => hm (.inl e)), if_neg (fun e => hm (.inr (.inl e))), beq_eq_false_iff_ne.mpr (fun e => hm (.inr (.inr e)))]
  unfold mayE at hg
  rw [if_neg ho, if_neg (by decide)] at hg
  rw [hi, Option.bind_some, if_neg (by decide)]
  exact fin _ _ _ hg
set_option maxRecDepth 100000 in
theorem rtake (m v : Int) : ∃ e, emenderref03_Take.f v m = some (gT m v, e) := by
 have hg : mark_Take.f 4 v m = some (gT m v, (mark_Take.f 4 v m).getD (0, 0) |>.2) := by
  obtain ⟨e, he⟩ := take_f m v 4 (by omega)
  rw [he]
  rfl
 unfold mark_Take.f at hg
 rw [may_f v m 4 (by omega), Option.bind_some] at hg
 unfold mayE at hg
 unfold emenderref03_Take.f emenderref03_is.f emenderref03_Right.f
 by_cases ho : one m = true
 ·by_cases hv : 0 ≤ v ∧ v ≤ 4
  ·rw [if_pos ho, if_pos hv, if_pos rfl] at hg
   unfold one at ho
   have ho : m = 1 ∨ m = 2 ∨ m = 4 := by simpa using ho
   have hb : gT m v = Go.bits .andNot .i64 v m := by
    have := congrArg (fun o => (o.getD (0, 0)).1) hg
    exact this.symm
   rw [hb]
   rcases (by omega : v = 0 ∨ v = 1 ∨ v = 2 ∨ v = 3 ∨ v = 4) with rfl | rfl | rfl | rfl | rfl <;> rcases ho with rfl | rfl | rfl <;> exact ⟨0, by decide +kernel⟩
  ·rw [if_pos ho, if_neg hv] at hg
   have hb : gT m v = 0 := by
    have := congrArg (fun o => (o.getD (0, 0)).1) hg
    exact this.symm
   rw [hb]
   unfold one at ho
   have ho : m = 1 ∨ m = 2 ∨ m = 4 := by simpa using ho
   refine ⟨4, ?_⟩
   by_cases a : v ≥ 0
   ·have b : ¬ v ≤ 4 := fun b => hv ⟨a, b⟩
    rcases ho with rfl | rfl | rfl <;> simp [a, b]
   ·rcases ho with rfl | rfl | rfl <;> simp [a]
 ·rw [if_neg ho] at hg
  have hb : gT m v = 0 := by
   have := congrArg (fun o => (o.getD (0, 0)).1) hg
   exact this.symm
  rw [hb]
  unfold one at ho
  have ho : ¬ (m = 1 ∨ m = 2 ∨ m = 4) := by simpa using ho
  have h1 : ¬ m = 1 := fun h => ho (.inl h)
  have h2 : ¬ m = 2 := fun h => ho (.inr (.inl h))
  have h4 : ¬ m = 4 := fun h => ho (.inr (.inr h))
  exact ⟨1, by simp [h1, h2, h4]⟩
theorem rmarked_l0 (l : List S48) (K F T GF GT N : Int) (sl : List S48) (M : Int) (hF : 0 ≤ F) (hT : 0 ≤ T) (hl : l.length ≤ 4398046500000) (g : Int → Int) (hg : g = if K = 2 then gA M else gT M) : ∀ (d k i : Nat) (out : List S48), i + d = l.length → 2 * d + 1 < k → out.length = i → emenderref09_marked.l0 k l out (i : Int) K F T GF GT N sl M = some (out ++ (marks g l F.toNat T.toNat).drop i)
 | 0, k, i, out, h, hk, ho => by
  obtain ⟨k, rfl⟩ : ∃ m, k = m + 1 := ⟨k - 1, by omega⟩
  simp only [emenderref09_marked.l0]
  rw [if_neg (by omega), List.drop_eq_nil_of_le (by rw [marks_length]; omega), List.append_nil]
 | d + 1, k, i, out, h, hk, ho => by
  obtain ⟨k, rfl⟩ : ∃ m, k = m + 2 := ⟨k - 2, by omega⟩
  have hi : i < l.length := by omega
  have hi2 : i < (marks g l F.toNat T.toNat).length := by rw [marks_length]; exact hi
  have hd : (marks g l F.toNat T.toNat).drop i = (marks g l F.toNat T.toNat)[i] :: (marks g l F.toNat T.toNat).drop (i + 1) := List.drop_eq_getElem_cons hi2
  have ih : ∀ x, emenderref09_marked.l0 k l (out ++ [x]) (wrap64 ((i : Int) + 1)) K F T GF GT N sl M = some ((out ++ [x]) ++ (marks g l F.toNat T.toNat).drop (i + 1)) := by
   intro x
   rw [w64 (by omega)]
   exact rmarked_l0 l K F T GF GT N sl M hF hT hl g hg d k (i + 1) (out ++ [x]) (by omega) (by omega) (by rw [List.length_append, ho]; rfl)
  have fin : ∀ x, x = (marks g l F.toNat T.toNat)[i] → some ((out ++ [x]) ++ (marks g l F.toNat T.toNat).drop (i + 1)) = some (out ++ (marks g l F.toNat T.toNat).drop i) := by
   intro x hx
   rw [hd, hx, List.append_assoc]
   rfl
  have J : ∀ c, (c = true ↔ (F.toNat ≤ i ∧ i < T.toNat ∧ l[i].f0 = 0)) → emenderref09_marked.j1 (k + 1) l out (i : Int) c K F T GF GT N sl M l[i].f0 l[i].f1 l[i].f2 l[i].f3 = some (out ++ (marks g l F.toNat T.toNat).drop i) := by
   intro c hc
   simp only [emenderref09_marked.j1, ih]
   cases c with
   | true =>
    obtain ⟨c1, c2, c3⟩ := hc.1 rfl
    by_cases k2 : K = 2
    ·obtain ⟨e, he⟩ := radd M l[i].f3 k (by omega)
     rw [if_pos rfl, if_pos k2, he, Option.bind_some, if_pos (by omega)]
     refine fin _ ?_
     rw [marks_get, if_pos ⟨c1, c2, c3⟩]
     have hg1 : g l[i].f3 = gA M l[i].f3 := by rw [hg, if_pos k2]
     exact congrArg (setM l[i]) hg1.symm
    ·obtain ⟨e, he⟩ := rtake M l[i].f3
     rw [if_pos rfl, if_neg k2, he, Option.bind_some, if_pos (by omega)]
     refine fin _ ?_
     rw [marks_get, if_pos ⟨c1, c2, c3⟩]
     have hg1 : g l[i].f3 = gT M l[i].f3 := by rw [hg, if_neg k2]
     exact congrArg (setM l[i]) hg1.symm
   | false =>
    rw [if_neg (by decide), if_pos (by omega)]
    refine fin _ ?_
    rw [marks_get, if_neg (fun h => by have := hc.2 h; cases this)]
  simp only [emenderref09_marked.l0]
  rw [if_pos (by omega), if_pos (by omega), rd_get l (i : Int) (by rw [Int.toNat_natCast]; exact hi)]
  simp only [Int.toNat_natCast]
  by_cases c1 : l[i].f0 = 0
  ·rw [if_pos c1]
   by_cases c2 : (i : Int) ≥ F
   ·rw [if_pos c2]
    exact J _ ⟨fun h => by have := of_decide_eq_true h; exact ⟨by omega, by omega, c1⟩, fun h => decide_eq_true (by omega)⟩
   ·rw [if_neg c2]
    exact J _ ⟨fun h => (by cases h), fun h => by omega⟩
  ·rw [if_neg c1]
   exact J _ ⟨fun h => (by cases h), fun h => absurd h.2.2 c1⟩
theorem rmarked (l : List S48) (K F T GF GT N : Int) (sl : List S48) (M : Int) (hF : 0 ≤ F) (hT : 0 ≤ T) (hl : l.length ≤ 4398046500000) (k : Nat) (hk : 2 * l.length + 1 < k) : emenderref09_marked.f k l K F T GF GT N sl M = some (marks (if K = 2 then gA M else gT M) l F.toNat T.toNat) := rmarked_l0 l K F T GF GT N sl M hF hT hl _ rfl l.length k 0 [] (by omega) hk rfl
theorem rdone {K F T GF GT N : Int} {sl : List S48} {M : Int} (h : Sound K F T GF GT N sl M) (l : List S48) (hT : T ≤ (l.length : Int)) (hl : l.length ≤ 4398046500000) (k : Nat) (hk : 2 * l.length + 10 ≤ k) : emenderref09_done.f k l K F T GF GT N sl M = some (D l K F T GF GT N sl M) := by
 have h1 := h.len
 have h2 := h.f0
 have h3 := h.ft
 unfold emenderref09_done.f D
 by_cases k0 : K = 0
 ·rw [if_pos k0, if_pos k0, if_pos h2, if_pos (by omega), if_pos (by omega), if_pos hT]
  rw [rjoin _ (by simp) (by simp only [List.flatten_cons, List.flatten_nil, List.append_nil, List.length_append, List.length_take, List.length_drop]; omega) k (by simp; omega)]
  simp only [List.flatten_cons, List.flatten_nil, List.append_nil, Option.bind_some]
 ·rw [if_neg k0, if_neg k0]
  by_cases k1 : K = 1
  ·obtain ⟨a1, a2, a3, a4, a5⟩ := h.around k1
   rw [if_pos k1, if_pos k1, if_pos h2, if_pos (by omega), if_pos a4, if_pos a5, if_pos (by omega), if_pos (by omega), if_pos (by omega), if_pos (by omega), if_pos hT]
   rw [rjoin _ (by simp) (by simp only [List.flatten_cons, List.flatten_nil, List.append_nil, List.length_append, List.length_take, List.length_drop]; omega) k (by simp; omega)]
   simp only [List.flatten_cons, List.flatten_nil, List.append_nil, Option.bind_some]
  ·rw [if_neg k1, if_neg k1, rmarked l K F T GF GT N sl M h2 (by omega) hl k (by omega), Option.bind_some]
   rcases h.kinds with q | q | q | q
   ·exact absurd q k0
   ·exact absurd q k1
   ·rw [if_pos q, if_neg (by omega)]
   ·rw [if_neg (by omega), if_pos q]
theorem rapply (l : List S48) (hl : l.length < 4398046511104) (K F T GF GT N : Int) (sl : List S48) (M : Int) (k : Nat) (hk : 3 * l.length + 20000 ≤ k) : emenderref09_Apply.f k l K F T GF GT N sl M = some (A l K F T GF GT N sl M) := by
 obtain ⟨k, rfl⟩ : ∃ m, k = m + 2 := ⟨k - 2, by omega⟩
 have J1 : ∀ c x, emenderref09_Apply.j1 (k + 1) c x = some (if c = 0 then (x, 0) else ([], c)) := by
  intro c x
  simp only [emenderref09_Apply.j1]
  split <;> rfl
 unfold emenderref09_Apply.f A
 rw [rcheckL l hl _ (by omega), Option.bind_some]
 simp only [emenderref09_Apply.j0]
 by_cases c1 : (fc l).2 = 0
 ·have hlen := fc_len c1
  rw [if_pos c1, if_pos c1, rchk K F T GF GT N sl M _ (by omega), Option.bind_some]
  by_cases c2 : chk K F T GF GT N sl M = 0
  ·rw [if_pos c2, if_pos c2]
   by_cases c3 : T > (l.length : Int)
   ·rw [if_pos c3, if_pos c3]
   ·have hs := chk_good c2
    rw [if_neg c3, if_neg c3, rdone hs l (by omega) (by omega) (k + 1) (by omega), Option.bind_some]
    have hD : (D l K F T GF GT N sl M).length ≤ 6200 := by
     have := hs.len
     unfold D
     split
     ·simp only [List.length_append, List.length_take, List.length_drop]; omega
     ·split
      ·rename_i hK1
       have := hs.around hK1
       simp only [List.length_append, List.length_take, List.length_drop]; omega
      ·split <;> rw [marks_length] <;> omega
    rw [rcheckL _ (by omega) (k + 1) (by omega), Option.bind_some]
    by_cases c4 : (fc (D l K F T GF GT N sl M)).2 = 0
    ·rw [if_neg (by omega), if_pos c4, J1, if_pos c4]
    ·rw [if_neg c4]
     by_cases c5 : (fc (D l K F T GF GT N sl M)).2 = 3
     ·rw [if_pos c5, if_pos c5, J1, if_neg (by decide)]
     ·rw [if_neg c5, if_neg c5, J1, if_neg c4]
  ·rw [if_neg c2, if_neg c2]
 ·rw [if_neg c1, if_neg c1, if_neg c1]
end Go.Proofs.YtfcfomconcoimaaDoor.StepE
