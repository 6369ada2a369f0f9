/- StepMerges: two steps as one do what both do, one behind the other; for all tokens and steps. -/
import Derived.Test.YtlngjgcodknpiaaGStepMerges
import Derived.Test.YtlngjgcodknpiaaStepC
namespace Go.Proofs.Ytlngjgcodknpiaa.Pure
open Go.RowKit Go.Proofs.YtlngjgcodknpiaaW.PrintWords Go.Proofs.YtlngjgcodknpiaaW.PrintMore
set_option linter.unusedSimpArgs false
set_option linter.unusedVariables false
open Go.Proofs.Ytlngjgcodknpiaa Go.Proofs.Ytlngjgcodknpiaa.PSk Go.Proofs.Ytlngjgcodknpiaa.StepA Go.Proofs.Ytlngjgcodknpiaa.StepB Go.Proofs.Ytlngjgcodknpiaa.StepC

theorem stepMerges_rt : ∀ (l : List S57) (n i : Int), ((flat_Check.l0 l n i).getD (0, 0)).2 = 0 → ∀ t ∈ l, rt t = true
  | [], _, _, _, t, ht => by cases ht
  | x :: xs, n, i, h, t, ht => by
    unfold flat_Check.l0 at h
    rw [flat_right, Option.bind_some] at h
    by_cases c : right x.f0 x.f1 x.f2 x.f3 = true
    · rw [if_pos c] at h
      have hx : rt x = true := c
      have rest : ∀ n' i', ((flat_Check.l0 xs n' i').getD (0, 0)).2 = 0 → rt t = true := fun n' i' h' => by
        rcases List.mem_cons.1 ht with rfl | ht
        · exact hx
        · exact stepMerges_rt xs n' i' h' t ht
      split at h
      · split at h
        · cases h
        · exact rest _ _ h
      · split at h
        · split at h
          · cases h
          · exact rest _ _ h
        · exact rest _ _ h
    · rw [if_neg c] at h
      cases h
theorem stepMerges_marks {l : List S57} (h : (fc l).2 = 0) : ∀ t ∈ l, t.f0 = 0 → 0 ≤ t.f3 ∧ t.f3 ≤ 4 := by
  intro t ht h0
  have hr : rt t = true := by
    unfold fc flat_Check.f at h
    split at h
    · cases h
    · exact stepMerges_rt l 0 0 h t ht
  unfold rt right flat_Right.f at hr
  rw [if_pos h0] at hr
  unfold mark_Right.f at hr
  repeat' split at hr
  all_goals simp at hr
  all_goals omega
theorem stepMerges_idem (m : Int) (hm : one m = true) (v : Int) (hv : 0 ≤ v ∧ v ≤ 4) : gA m (gA m v) = gA m v ∧ gT m (gT m v) = gT m v := by
  have h1 : m = 1 ∨ m = 2 ∨ m = 4 := by unfold one at hm; simpa using hm
  rcases h1 with rfl | rfl | rfl <;> rcases (by omega : v = 0 ∨ v = 1 ∨ v = 2 ∨ v = 3 ∨ v = 4) with rfl | rfl | rfl | rfl | rfl <;> decide +kernel
theorem stepMerges_union (g : Int → Int) (l : List S57) (hg : ∀ t ∈ l, t.f0 = 0 → g (g t.f3) = g t.f3) (a b c d : Nat) (h1 : a ≤ d) (h2 : c ≤ b) (ha : a ≤ b) (hc : c ≤ d) : marks g (marks g l a b) c d = marks g l (min a c) (max b d) := by
  refine List.ext_getElem (by rw [marks_length, marks_length, marks_length]) fun j q1 q2 => ?_
  have hj : j < l.length := by rwa [marks_length] at q2
  have hj1 : j < (marks g l a b).length := by rwa [marks_length]
  have hgj := hg l[j] (List.getElem_mem hj)
  rw [marks_get g l (min a c) (max b d) j q2]
  have ho := marks_get g (marks g l a b) c d j q1
  rw [ho]
  by_cases e0 : l[j].f0 = 0
  · by_cases e1 : a ≤ j ∧ j < b
    · have hi : (marks g l a b)[j] = setM l[j] (g l[j].f3) := by rw [marks_get, if_pos ⟨e1.1, e1.2, e0⟩]
      simp only [hi]
      rw [if_pos (show min a c ≤ j ∧ j < max b d ∧ l[j].f0 = 0 from ⟨by omega, by omega, e0⟩)]
      by_cases e2 : c ≤ j ∧ j < d
      · rw [if_pos ⟨e2.1, e2.2, (e0 : (setM l[j] (g l[j].f3)).f0 = 0)⟩]
        show setM (setM l[j] (g l[j].f3)) (g (g l[j].f3)) = _
        rw [hgj e0]
        rfl
      · rw [if_neg (fun h => e2 ⟨h.1, h.2.1⟩)]
    · have hi : (marks g l a b)[j] = l[j] := by rw [marks_get, if_neg (fun h => e1 ⟨h.1, h.2.1⟩)]
      simp only [hi]
      by_cases e2 : c ≤ j ∧ j < d
      · rw [if_pos ⟨e2.1, e2.2, e0⟩, if_pos ⟨by omega, by omega, e0⟩]
      · rw [if_neg (fun h => e2 ⟨h.1, h.2.1⟩), if_neg (fun h => by omega)]
  · have hi : (marks g l a b)[j] = l[j] := by rw [marks_get, if_neg (fun h => e0 h.2.2)]
    simp only [hi]
    rw [if_neg (fun h => e0 h.2.2), if_neg (fun h => e0 h.2.2)]
theorem stepMerges_D {l : List S57} {K F T GF GT N : Int} {sl : List S57} {M F' T' GF' GT' N' : Int} {sl' : List S57} {M' mF mT : Int} {mS : List S57} {mM : Int} (hl : (fc l).2 = 0) (s1 : Sound K F T GF GT N sl M) (s2 : Sound K F' T' GF' GT' N' sl' M') (hT : T ≤ (l.length : Int)) (hT' : T' ≤ ((D l K F T GF GT N sl M).length : Int)) (hj : Joined K F T sl M F' T' sl' M' mF mT mS mM) :
    mT ≤ (l.length : Int) ∧ D l K mF mT 0 0 0 mS mM = D (D l K F T GF GT N sl M) K F' T' GF' GT' N' sl' M' := by
  have a1 := s1.len; have a2 := s1.f0; have a3 := s1.ft; have a4 := s1.t
  have b1 := s2.len; have b2 := s2.f0; have b3 := s2.ft; have b4 := s2.t
  rcases hj with ⟨rfl, h1, rfl, rfl, rfl, rfl⟩ | ⟨rfl, h1, rfl, rfl, rfl, rfl⟩ | ⟨hk, h1, h2, h3, rfl, rfl, rfl, rfl⟩
  · have hD : D l 0 mF T GF GT N sl M = l.take mF.toNat ++ (sl ++ l.drop T.toNat) := rfl
    rw [hD] at hT' ⊢
    have hlen : (l.take mF.toNat ++ (sl ++ l.drop T.toNat)).length = mF.toNat + (sl.length + (l.length - T.toNat)) := by simp only [List.length_append, List.length_take, List.length_drop]; omega
    rw [hlen] at hT'
    refine ⟨by omega, ?_⟩
    have e1 : (l.take mF.toNat ++ (sl ++ l.drop T.toNat)).take F'.toNat = l.take mF.toNat ++ sl := by
      rw [← List.append_assoc, List.take_append_of_le_length (by simp only [List.length_append, List.length_take]; omega)]
      exact List.take_of_length_le (by simp only [List.length_append, List.length_take]; omega)
    have e2 : (l.take mF.toNat ++ (sl ++ l.drop T.toNat)).drop T'.toNat = l.drop (T + T' - F').toNat := by
      rw [← List.append_assoc, List.drop_append, List.drop_of_length_le (by simp only [List.length_append, List.length_take]; omega), List.nil_append, List.drop_drop]
      congr 1
      simp only [List.length_append, List.length_take]
      omega
    show l.take mF.toNat ++ ((sl ++ sl') ++ l.drop (T + T' - F').toNat) = (l.take mF.toNat ++ (sl ++ l.drop T.toNat)).take F'.toNat ++ (sl' ++ (l.take mF.toNat ++ (sl ++ l.drop T.toNat)).drop T'.toNat)
    rw [e1, e2]
    simp only [List.append_assoc]
  · subst h1
    refine ⟨hT, ?_⟩
    have e1 : (l.take T'.toNat ++ (sl ++ l.drop mT.toNat)).take mF.toNat = l.take mF.toNat := by
      rw [List.take_append_of_le_length (by rw [List.length_take]; omega), List.take_take]
      congr 1
      omega
    have e2 : (l.take T'.toNat ++ (sl ++ l.drop mT.toNat)).drop T'.toNat = sl ++ l.drop mT.toNat := by
      rw [List.drop_append_of_le_length (by rw [List.length_take]; omega), List.drop_of_length_le (by rw [List.length_take]; omega), List.nil_append]
    show l.take mF.toNat ++ ((sl' ++ sl) ++ l.drop mT.toNat) = (l.take T'.toNat ++ (sl ++ l.drop mT.toNat)).take mF.toNat ++ (sl' ++ (l.take T'.toNat ++ (sl ++ l.drop mT.toNat)).drop T'.toNat)
    rw [e1, e2]
    simp only [List.append_assoc]
  · subst h1
    have ho : one mM = true := by
      have := s1.kind
      unfold okKind at this
      rw [if_neg (by omega), if_neg (by omega), if_pos hk] at this
      simp only [Bool.and_eq_true, decide_eq_true_eq] at this
      exact this.1.2.1
    have hid := fun t ht h0 => stepMerges_idem mM ho (t : S57).f3 (stepMerges_marks hl t ht h0)
    have e1 : (mn F F').toNat = min F.toNat F'.toNat := by unfold mn; split <;> omega
    have e2 : (mx T T').toNat = max T.toNat T'.toNat := by unfold mx; split <;> omega
    unfold D at hT' ⊢
    rw [if_neg (by omega), if_neg (by omega)] at hT' ⊢
    simp only [if_neg (show ¬ K = 0 by omega), if_neg (show ¬ K = 1 by omega)]
    by_cases k3 : K = 3
    · rw [if_pos k3] at hT' ⊢
      simp only [if_pos k3]
      rw [marks_length] at hT'
      refine ⟨by unfold mx; split <;> omega, ?_⟩
      rw [e1, e2, stepMerges_union _ _ (fun t ht h0 => (hid t ht h0).2) _ _ _ _ (by omega) (by omega) (by omega) (by omega)]
    · rw [if_neg k3] at hT' ⊢
      simp only [if_neg k3]
      rw [marks_length] at hT'
      refine ⟨by unfold mx; split <;> omega, ?_⟩
      rw [e1, e2, stepMerges_union _ _ (fun t ht h0 => (hid t ht h0).1) _ _ _ _ (by omega) (by omega) (by omega) (by omega)]
theorem StepMerges : emenderlaw09_StepMerges.Pure := by
  intro l K F T GF GT N sl M K' F' T' GF' GT' N' sl' M' hl _ _ _ _ _ _ _ _ _ _ _ _ _ _ _ _ _ _ _
  have haw : ∀ k, 2200 ≤ k → ((emenderlaw09_awake.f k).bind fun t => some t) = some true := fun k hk => by rw [awake k hk]; rfl
  refine ⟨2 * l.length + 10000, ?_⟩
  obtain ⟨k, hk⟩ : ∃ m, 2 * l.length + 10000 = m + 1 := ⟨2 * l.length + 9999, rfl⟩
  unfold emenderlaw09_StepMerges.f
  rw [apply_f l K F T GF GT N sl M _ (by omega)]
  rcases merge_f K F T GF GT N sl M K' F' T' GF' GT' N' sl' M' with hm | ⟨mF, mT, mS, mM, hm, rfl, s1, s2, c3, hj⟩
  · rw [hm _ (by omega), Option.bind_some, Option.bind_some]
    dsimp only
    rw [if_neg (by decide), hk]
    rw [emenderlaw09_StepMerges.j0, if_pos rfl, if_neg (by decide)]
    have htw : emenderlaw09_twin.f k 0 0 0 0 0 0 ([] : List S57) 0 0 0 0 0 0 0 ([] : List S57) 0 = some true := by
      unfold emenderlaw09_twin.f
      rw [if_pos rfl, if_pos rfl, if_pos rfl, if_pos rfl, if_pos rfl, if_pos rfl, if_pos rfl, alike [] [] (by decide) k (by simp; omega)]
      rfl
    rw [htw, Option.bind_some, if_pos rfl]
    exact haw k (by omega)
  · rw [hm _ (by omega), Option.bind_some, Option.bind_some]
    dsimp only
    rw [if_pos rfl, hk]
    rw [emenderlaw09_StepMerges.j0]
    by_cases c0 : (A l K F T GF GT N sl M).2 = 0
    · rw [bne_eq_false_iff_eq.mpr c0, if_neg (by decide)]
      obtain ⟨q1, q2, q3, q4, q5⟩ := A_ok c0
      have hlx := fc_len q4
      rw [q5, apply_f _ K F' T' GF' GT' N' sl' M' k (by omega), apply_f l K mF mT 0 0 0 mS mM k (by omega), Option.bind_some, Option.bind_some]
      by_cases c1 : (A (D l K F T GF GT N sl M) K F' T' GF' GT' N' sl' M').2 = 0
      · rw [if_pos c1]
        obtain ⟨p1, p2, p3, p4, p5⟩ := A_ok c1
        obtain ⟨t1, t2⟩ := stepMerges_D q1 s1 s2 q3 p3 hj
        have hA : A l K mF mT 0 0 0 mS mM = (D (D l K F T GF GT N sl M) K F' T' GF' GT' N' sl' M', 0) := by
          unfold A
          rw [if_pos q1, if_pos c3, if_neg (by omega), t2, if_pos p4]
        have hly := fc_len p4
        rw [hA, if_pos rfl, p5, alike _ _ (by omega) k (by omega), Option.bind_some, sameL_refl, if_pos rfl]
        exact haw k (by omega)
      · rw [if_neg c1]
        exact haw k (by omega)
    · rw [bne_iff_ne.mpr c0, if_pos rfl, if_pos rfl]
      exact haw k (by omega)

end Go.Proofs.Ytlngjgcodknpiaa.Pure
