/- DiffMakes: the step between two documents makes the second of the first, and takes out, and puts in, nothing that both have at their ends; for all tokens. -/
import Derived.Test.YtjpmlggkhhoooaaGDiffMakes
import Derived.Test.YtjpmlggkhhoooaaDiffAm
namespace Go.Proofs.Ytjpmlggkhhoooaa.Pure
open Go.RowKit Go.Proofs.YtjpmlggkhhoooaaW.PrintWords Go.Proofs.YtjpmlggkhhoooaaW.PrintMore
set_option linter.unusedSimpArgs false
set_option linter.unusedVariables false
open Go.Proofs.Ytjpmlggkhhoooaa Go.Proofs.Ytjpmlggkhhoooaa.PDm Go.Proofs.Ytjpmlggkhhoooaa.StepA Go.Proofs.Ytjpmlggkhhoooaa.StepB Go.Proofs.Ytjpmlggkhhoooaa.StepD Go.Proofs.Ytjpmlggkhhoooaa.DiffA

theorem diffMakes_patch (a b : List S64) (ha : (fc a).2 = 0) (hb : (fc b).2 = 0) (k : Nat) (hk : a.length + b.length < k) : diff_Patch.f k a b = some (0, ((com a b : Nat) : Int), ((a.length - tailN a b : Nat) : Int), 0, 0, 0, (b.take (b.length - tailN a b)).drop (com a b), 0, 0) := by
  have la := fc_len ha
  have lb := fc_len hb
  have l1 := tailN_le1 a b
  have l2 := tailN_le2 a b
  unfold diff_Patch.f diff_both.f
  rw [flat_check, Option.bind_some, flat_check, Option.bind_some, Option.bind_some, if_pos ha, if_pos hb, ends_f a b (by omega) (by omega) k hk, Option.bind_some]
  dsimp only
  rw [w64 (i := (b.length : Int) - _) (by omega), w64 (i := (a.length : Int) - _) (by omega), if_pos (by omega), if_pos (by omega), if_pos (by omega)]
  rw [show ((b.length : Int) - ((tailN a b : Nat) : Int)).toNat = b.length - tailN a b by omega, Int.toNat_natCast, clone_f _ (by simp only [List.length_drop, List.length_take]; omega), Option.bind_some, show ((a.length : Int) - ((tailN a b : Nat) : Int)) = ((a.length - tailN a b : Nat) : Int) by omega]
theorem diffMakes_bad (a b : List S64) (k : Nat) (hk : 2200 ≤ k) (e : Int) (he : ¬ e = 0) (h : diff_both.f a b = some e) : emenderlaw23_DiffMakes.f k a b = some true := by
  unfold emenderlaw23_DiffMakes.f diff_Patch.f
  rw [h, Option.bind_some, if_neg he, Option.bind_some]
  dsimp only
  rw [if_neg he]
  have tw : emenderlaw23_twin.f k 0 0 0 0 0 0 ([] : List S64) 0 0 0 0 0 0 0 ([] : List S64) 0 = some true := by
    unfold emenderlaw23_twin.f
    rw [if_pos rfl, if_pos rfl, if_pos rfl, if_pos rfl, if_pos rfl, if_pos rfl, if_pos rfl, alike _ _ (by simp) _ (by simp; omega)]
    rfl
  rw [tw, Option.bind_some, if_pos rfl, awake23 k (by omega)]
  rfl
theorem DiffMakes : emenderlaw23_DiffMakes.Pure := by
  intro a b _ _ _ _
  refine ⟨a.length + b.length + 20000, ?_⟩
  by_cases ha : (fc a).2 = 0
  case neg =>
    exact diffMakes_bad a b _ (by omega) _ ha (by unfold diff_both.f; rw [flat_check, Option.bind_some, flat_check, Option.bind_some, if_neg ha])
  by_cases hb : (fc b).2 = 0
  case neg =>
    exact diffMakes_bad a b _ (by omega) _ hb (by unfold diff_both.f; rw [flat_check, Option.bind_some, flat_check, Option.bind_some, if_pos ha])
  have la := fc_len ha
  have lb := fc_len hb
  have l1 := tailN_le1 a b
  have l2 := tailN_le2 a b
  have hsl : ((b.take (b.length - tailN a b)).drop (com a b)).length = b.length - tailN a b - com a b := by simp only [List.length_drop, List.length_take]; omega
  have hs : Sound 0 ((com a b : Nat) : Int) ((a.length - tailN a b : Nat) : Int) 0 0 0 ((b.take (b.length - tailN a b)).drop (com a b)) 0 := by
    refine ⟨by omega, by omega, by omega, by omega, ?_, rt_part hb mem_mid⟩
    unfold okKind
    rfl
  have hA : A a 0 ((com a b : Nat) : Int) ((a.length - tailN a b : Nat) : Int) 0 0 0 ((b.take (b.length - tailN a b)).drop (com a b)) 0 = (b, 0) := by
    refine A_of hs ha (by omega) ?_ hb
    show a.take ((com a b : Nat) : Int).toNat ++ ((b.take (b.length - tailN a b)).drop (com a b) ++ a.drop ((a.length - tailN a b : Nat) : Int).toNat) = b
    rw [Int.toNat_natCast, Int.toNat_natCast]
    exact glued a b
  have aw : ((emenderlaw23_awake.f (a.length + b.length + 20000)).bind fun t => some t) = some true := by rw [awake23 _ (by omega)]; rfl
  unfold emenderlaw23_DiffMakes.f
  rw [diffMakes_patch a b ha hb _ (by omega), Option.bind_some]
  dsimp only
  rw [if_pos rfl, apply_f _ _ _ _ _ _ _ _ _ _ (by omega), hA, Option.bind_some, ends_f a b (by omega) (by omega) _ (by omega), Option.bind_some, alike a b (by omega) _ (by omega), Option.bind_some]
  dsimp only
  rw [if_pos rfl, alike b b (by omega) _ (by omega), Option.bind_some, sameL_refl, if_pos rfl]
  rw [w64 (i := ((com a b : Nat) : Int) + ((tailN a b : Nat) : Int)) (by omega), w64 (i := ((a.length - tailN a b : Nat) : Int) - ((com a b : Nat) : Int)) (by omega), w64 (by omega), if_pos (by omega), hsl, w64 (by omega), if_pos (by omega)]
  by_cases c : ((com a b : Nat) : Int) = ((a.length - tailN a b : Nat) : Int)
  · rw [if_pos c]
    have key : (sameL a b == (((b.length - tailN a b - com a b : Nat) : Int) == 0)) = true := by
      by_cases d : ((b.length - tailN a b - com a b : Nat) : Int) = 0
      · have e : a = b := by
          have g := glued a b
          rw [List.length_eq_zero_iff.mp (show ((b.take (b.length - tailN a b)).drop (com a b)).length = 0 by omega), List.nil_append, show a.length - tailN a b = com a b by omega, List.take_append_drop] at g
          exact g
        rw [d, e, sameL_refl]
        rfl
      · have e : sameL a b = false := by
          cases h : sameL a b
          · rfl
          · exfalso
            obtain rfl := sameL_eq a b h
            rw [tailN_self, com_self] at d
            omega
        rw [e, beq_eq_false_iff_ne.mpr d]
        rfl
    rw [if_pos key]
    exact aw
  · rw [if_neg c]
    have e : sameL a b = false := by
      cases h : sameL a b
      · rfl
      · exfalso
        obtain rfl := sameL_eq a b h
        rw [tailN_self, com_self] at c
        omega
    rw [e, if_pos (by rfl)]
    exact aw

end Go.Proofs.Ytjpmlggkhhoooaa.Pure
