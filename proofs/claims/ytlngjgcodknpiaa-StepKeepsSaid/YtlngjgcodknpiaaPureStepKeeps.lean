/- StepKeeps: what stands ahead of a step's places and behind them stays, and so does what stands in its gap; for all tokens and steps. -/
import Derived.Test.YtlngjgcodknpiaaGStepKeeps
import Derived.Test.YtlngjgcodknpiaaStepB
namespace Go.Proofs.Ytlngjgcodknpiaa.Pure
open Go.RowKit Go.Proofs.YtlngjgcodknpiaaW.PrintWords Go.Proofs.YtlngjgcodknpiaaW.PrintMore
set_option linter.unusedSimpArgs false
open Go.Proofs.Ytlngjgcodknpiaa Go.Proofs.Ytlngjgcodknpiaa.PSk Go.Proofs.Ytlngjgcodknpiaa.StepA Go.Proofs.Ytlngjgcodknpiaa.StepB

theorem stepKeeps_head (l : List S57) {K F T GF GT N : Int} {sl : List S57} {M : Int} (h : Sound K F T GF GT N sl M) (hT : T ≤ (l.length : Int)) : F.toNat + (l.length - T.toNat) ≤ (D l K F T GF GT N sl M).length ∧ (D l K F T GF GT N sl M).take F.toNat = l.take F.toNat ∧ (D l K F T GF GT N sl M).drop ((D l K F T GF GT N sl M).length - (l.length - T.toNat)) = l.drop T.toNat := by
  have h2 := h.f0
  have h3 := h.ft
  unfold D
  by_cases k0 : K = 0
  · rw [if_pos k0]
    refine ⟨by simp only [List.length_append, List.length_take, List.length_drop]; omega, ?_, ?_⟩
    · rw [List.take_append_of_le_length (by rw [List.length_take]; omega), List.take_take, Nat.min_self]
    · rw [← List.append_assoc, List.drop_append_of_le_length, List.drop_of_length_le]
      · rfl
      · simp only [List.length_append, List.length_take, List.length_drop]; omega
      · simp only [List.length_append, List.length_take, List.length_drop]; omega
  · rw [if_neg k0]
    by_cases k1 : K = 1
    · rw [if_pos k1]
      refine ⟨by simp only [List.length_append, List.length_take, List.length_drop]; omega, ?_, ?_⟩
      · rw [List.take_append_of_le_length (by rw [List.length_take]; omega), List.take_take, Nat.min_self]
      · rw [← List.append_assoc, ← List.append_assoc, ← List.append_assoc, List.drop_append_of_le_length, List.drop_of_length_le]
        · rfl
        · simp only [List.length_append, List.length_take, List.length_drop]; omega
        · simp only [List.length_append, List.length_take, List.length_drop]; omega
    · rw [if_neg k1]
      have key : ∀ g, F.toNat + (l.length - T.toNat) ≤ (marks g l F.toNat T.toNat).length ∧ (marks g l F.toNat T.toNat).take F.toNat = l.take F.toNat ∧ (marks g l F.toNat T.toNat).drop ((marks g l F.toNat T.toNat).length - (l.length - T.toNat)) = l.drop T.toNat := by
        intro g
        refine ⟨by rw [marks_length]; omega, ?_, ?_⟩
        · refine List.ext_getElem (by rw [List.length_take, List.length_take, marks_length]) fun j h1 h4 => ?_
          rw [List.length_take] at h4
          rw [List.getElem_take, List.getElem_take, marks_get, if_neg (by omega)]
        · rw [marks_length, show l.length - (l.length - T.toNat) = T.toNat by omega]
          refine List.ext_getElem (by rw [List.length_drop, List.length_drop, marks_length]) fun j h1 h4 => ?_
          rw [List.getElem_drop, List.getElem_drop, marks_get, if_neg (by omega)]
      split
      · exact key _
      · exact key _
theorem stepKeeps_gap (l : List S57) {F T GF GT N : Int} {sl : List S57} {M : Int} (h : Sound 1 F T GF GT N sl M) (hT : T ≤ (l.length : Int)) : F.toNat + N.toNat + (GT.toNat - GF.toNat) ≤ (D l 1 F T GF GT N sl M).length ∧ ((D l 1 F T GF GT N sl M).take (F.toNat + N.toNat + (GT.toNat - GF.toNat))).drop (F.toNat + N.toNat) = (l.take GT.toNat).drop GF.toNat := by
  have h2 := h.f0
  have h3 := h.ft
  obtain ⟨a1, a2, a3, a4, a5⟩ := h.around rfl
  unfold D
  rw [if_neg (by decide), if_pos rfl]
  refine ⟨by simp only [List.length_append, List.length_take, List.length_drop]; omega, ?_⟩
  rw [← List.append_assoc, ← List.append_assoc, List.take_append_of_le_length (by simp only [List.length_append, List.length_take, List.length_drop]; omega), List.take_of_length_le (by simp only [List.length_append, List.length_take, List.length_drop]; omega), List.drop_append_of_le_length (by simp only [List.length_append, List.length_take, List.length_drop]; omega), List.drop_of_length_le (by simp only [List.length_append, List.length_take, List.length_drop]; omega)]
  rfl
theorem StepKeeps : emenderlaw09_StepKeeps.Pure := by
  intro l K F T GF GT N sl M hl _ hK hF hT hGF hGT hN hsl _ hM
  have wF := wf64 hF
  have wT := wf64 hT
  have wGF := wf64 hGF
  have wGT := wf64 hGT
  have wN := wf64 hN
  refine ⟨10 * l.length + 10000, ?_⟩
  have haw : ∀ k, 2200 ≤ k → ((emenderlaw09_awake.f k).bind fun t => some t) = some true := fun k hk => by rw [awake k hk]; rfl
  unfold emenderlaw09_StepKeeps.f
  rw [apply_f l K F T GF GT N sl M _ (by omega), Option.bind_some]
  by_cases c0 : (A l K F T GF GT N sl M).2 = 0
  · rw [if_pos c0]
    obtain ⟨q1, q2, q3, q4, q5⟩ := A_ok c0
    have ql := fc_len q1
    have qx := fc_len q4
    have b1 := q2.f0
    have b2 := q2.ft
    have b3 := q2.t
    have b4 := q2.len
    obtain ⟨e1, e2, e3⟩ := stepKeeps_head l q2 q3
    have w1 : wrap64 ((l.length : Int) - T) = (l.length : Int) - T := w64 (by omega)
    have w2 : wrap64 (F + ((l.length : Int) - T)) = F + ((l.length : Int) - T) := w64 (by omega)
    rw [q5]
    generalize hx : D l K F T GF GT N sl M = x at *
    have w3 : wrap64 ((x.length : Int) - ((l.length : Int) - T)) = (x.length : Int) - ((l.length : Int) - T) := w64 (by omega)
    rw [w1, w2, w3, if_neg (by omega), if_neg (by omega), if_neg (by omega), if_pos b1, if_pos (by omega), if_pos (by omega), alike _ _ (by rw [List.length_take]; omega) _ (by rw [List.length_take]; omega), Option.bind_some, e2, sameL_refl, if_pos rfl, if_pos (by omega), if_pos (by omega), if_pos (by omega), if_pos (by omega), alike _ _ (by rw [List.length_drop]; omega) _ (by rw [List.length_drop]; omega), Option.bind_some,
      show ((x.length : Int) - ((l.length : Int) - T)).toNat = x.length - (l.length - T.toNat) by omega, e3, sameL_refl]
    obtain ⟨m, hm⟩ : ∃ m, 10 * l.length + 10000 = m + 1 := ⟨10 * l.length + 9999, rfl⟩
    rw [hm]
    simp only [emenderlaw09_StepKeeps.j0]
    rw [if_neg (by decide)]
    by_cases k1 : K = 1
    · subst k1
      obtain ⟨a1, a2, a3, a4, a5⟩ := q2.around rfl
      obtain ⟨g1, g2⟩ := stepKeeps_gap l q2 q3
      rw [hx] at g1 g2
      have v1 : wrap64 (F + N) = F + N := w64 (by omega)
      have v2 : wrap64 (GT - GF) = GT - GF := w64 (by omega)
      have v3 : wrap64 (F + N + (GT - GF)) = F + N + (GT - GF) := w64 (by omega)
      rw [if_pos rfl, v1, v2, v3, if_pos (by omega), if_pos (by omega), if_pos (by omega), if_pos (by omega), if_pos (by omega), if_pos (by omega), alike _ _ (by rw [List.length_drop, List.length_take]; omega) _ (by rw [List.length_drop, List.length_take]; omega), Option.bind_some,
        show (F + N + (GT - GF)).toNat = F.toNat + N.toNat + (GT.toNat - GF.toNat) by omega, show (F + N).toNat = F.toNat + N.toNat by omega, g2, sameL_refl, if_pos rfl]
      exact haw m (by omega)
    · rw [if_neg k1]
      exact haw m (by omega)
  · rw [if_neg c0, A_bad c0, if_pos (by rfl)]
    exact haw _ (by omega)

end Go.Proofs.Ytlngjgcodknpiaa.Pure
