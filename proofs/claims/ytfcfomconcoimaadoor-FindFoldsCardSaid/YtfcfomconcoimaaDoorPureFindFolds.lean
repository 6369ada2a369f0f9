/- FindFolds: what is found without A to Z as a to z is found with it, too, at that place or over it; for every document and text. -/
import Derived.Test.YtfcfomconcoimaaDoorGFindFolds
import Derived.Test.YtfcfomconcoimaaDoorFindA
namespace Go.Proofs.YtfcfomconcoimaaDoor.Pure
open Go.RowKit Go.Proofs.YtfcfomconcoimaaDoorW.PrintWords Go.Proofs.YtfcfomconcoimaaDoorW.PrintMore
set_option linter.unusedVariables false
set_option linter.unusedSimpArgs false
open Go.Proofs.YtfcfomconcoimaaDoor Go.Proofs.YtfcfomconcoimaaDoor.PFa Go.Proofs.YtfcfomconcoimaaDoor.FindA

def folds_ov (a b : S28) : Prop := b.f0 < a.f1 ∧ a.f0 < b.f1
theorem folds_l1 (x y : List S28) (hy : y.length ≤ 1000) (i : Nat) (hi : i < x.length) (hx : x.length ≤ 1000) (K : Nat) : ∀ (m k : Nat) (b : Bool), k + m = y.length → (b = true ∨ ∃ z ∈ y.drop k, folds_ov x[i] z) → emenderlaw26_FindFolds.l1 (K + m + 1) x y (i : Int) b (k : Int) = emenderlaw26_FindFolds.l0 K x y ((i + 1 : Nat) : Int)
  | 0, k, b, h, hb => by
    have hb : b = true := by
      rcases hb with hb | ⟨z, hz, _⟩
      · exact hb
      · rw [List.drop_of_length_le (by omega)] at hz
        cases hz
    show emenderlaw26_FindFolds.l1 (K + 1) x y (i : Int) b (k : Int) = _
    rw [emenderlaw26_FindFolds.l1, if_neg (by omega), if_pos hb, w64 (by omega)]
    rfl
  | m + 1, k, b, h, hb => by
    show emenderlaw26_FindFolds.l1 (K + m + 1 + 1) x y (i : Int) b (k : Int) = _
    have e : wrap64 ((k : Int) + 1) = ((k + 1 : Nat) : Int) := by rw [w64 (by omega)]; rfl
    rw [emenderlaw26_FindFolds.l1, if_pos (by omega), e]
    cases b with
    | true =>
      rw [if_pos rfl]
      exact folds_l1 x y hy i hi hx K m (k + 1) true (by omega) (.inl rfl)
    | false =>
      have hk : k < y.length := by omega
      obtain ⟨z, hz, ho⟩ := hb.resolve_left (by decide)
      rw [List.drop_eq_getElem_cons hk] at hz
      rw [if_neg (by decide), if_pos (by omega), if_pos (by omega), if_pos (by omega), rd28 y k hk, rd28 x i hi]
      by_cases c : y[k].f0 < x[i].f1
      · rw [if_pos c]
        refine folds_l1 x y hy i hi hx K m (k + 1) _ (by omega) ?_
        rcases List.mem_cons.1 hz with rfl | hz
        · exact .inl (decide_eq_true ho.2)
        · exact .inr ⟨z, hz, ho⟩
      · rw [if_neg c]
        refine folds_l1 x y hy i hi hx K m (k + 1) _ (by omega) (.inr ?_)
        rcases List.mem_cons.1 hz with rfl | hz
        · exact absurd ho.1 c
        · exact ⟨z, hz, ho⟩
theorem folds_l0 (x y : List S28) (hy : y.length ≤ 1000) (hx : x.length ≤ 1000) (h : ∀ a ∈ x, ∃ z ∈ y, folds_ov a z) : ∀ (m i : Nat), i + m = x.length → emenderlaw26_FindFolds.l0 (m * (y.length + 2) + 1) x y (i : Int) = some true
  | 0, i, hi => by
    rw [Nat.zero_mul, Nat.zero_add, emenderlaw26_FindFolds.l0, if_neg (by omega), awake_]
    rfl
  | m + 1, i, hi => by
    rw [show (m + 1) * (y.length + 2) + 1 = (m * (y.length + 2) + 1 + y.length + 1) + 1 by rw [Nat.succ_mul]; omega, emenderlaw26_FindFolds.l0, if_pos (by omega)]
    have := folds_l1 x y hy i (by omega) hx (m * (y.length + 2) + 1) y.length 0 false (by omega) (.inr (by rw [List.drop_zero]; exact h _ (List.getElem_mem (by omega))))
    rw [Int.natCast_zero] at this
    rw [this]
    exact folds_l0 x y hy hx h m (i + 1) (by omega)
theorem FindFolds : emenderlaw26_FindFolds.Pure := by
  intro l s _ _ _
  by_cases hl : (l.length : Int) > 300
  · refine ⟨0, ?_⟩
    unfold emenderlaw26_FindFolds.f
    rw [if_pos hl, awake_]
    rfl
  · rcases find_cases l (by omega) s with ⟨e, he, hf⟩ | ⟨p, c, hp, hc, hs, hf⟩
    · refine ⟨1, ?_⟩
      unfold emenderlaw26_FindFolds.f
      rw [if_neg hl, hf, hf, Option.bind_some, Option.bind_some, if_neg he, emenderlaw26_FindFolds.j0, if_pos rfl, if_pos rfl, awake_]
      rfl
    · have h1 := all_len p hp false false l
      have h2 := all_len p hp true false l
      refine ⟨(find_Find.all p false false (find_runs.f l)).length * ((find_Find.all p true false (find_runs.f l)).length + 2) + 1 + 1, ?_⟩
      unfold emenderlaw26_FindFolds.f
      rw [if_neg hl, hf, hf, Option.bind_some, Option.bind_some, if_pos rfl, emenderlaw26_FindFolds.j0, if_neg (show ¬ ((0 : Int) != 0) = true by decide)]
      have := folds_l0 (find_Find.all p false false (find_runs.f l)) (find_Find.all p true false (find_runs.f l)) (by omega) (by omega) (fun a ha => by
        obtain ⟨r, hr, j, h0, hj, hfit, rfl⟩ := all_mem ha
        obtain ⟨y, hy, h3, h4⟩ := all_cover hp hr h0 hj (fits_fold hfit)
        exact ⟨y, hy, h3, h4⟩) (find_Find.all p false false (find_runs.f l)).length 0 (Nat.zero_add _)
      exact this

end Go.Proofs.YtfcfomconcoimaaDoor.Pure
