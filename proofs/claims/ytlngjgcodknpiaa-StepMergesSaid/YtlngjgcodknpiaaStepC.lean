/- Two steps as one, in plain words. -/
import Derived.Test.YtlngjgcodknpiaaPSkx0
import Derived.Test.YtlngjgcodknpiaaPSkx10
import Derived.Test.YtlngjgcodknpiaaPSkx11
import Derived.Test.YtlngjgcodknpiaaPSkx4
import Derived.Test.YtlngjgcodknpiaaPSkx6
import Derived.Test.YtlngjgcodknpiaaStepB
namespace Go.Proofs.Ytlngjgcodknpiaa.StepC
open Go.RowKit Go.Proofs.YtlngjgcodknpiaaW.PrintWords Go.Proofs.YtlngjgcodknpiaaW.PrintMore
open Go.Proofs.Ytlngjgcodknpiaa Go.Proofs.Ytlngjgcodknpiaa.PSk Go.Proofs.Ytlngjgcodknpiaa.StepA Go.Proofs.Ytlngjgcodknpiaa.StepB
set_option linter.unusedSimpArgs false
set_option linter.unusedVariables false

/-- How two steps are one: (kind, from, to, slice, marks). -/
def Joined (K F T : Int) (sl : List S57) (M : Int) (F' T' : Int) (sl' : List S57) (M' : Int) (mF mT : Int) (mS : List S57) (mM : Int) : Prop :=
  (K = 0 ∧ F' = F + (sl.length : Int) ∧ mF = F ∧ mT = T + T' - F' ∧ mS = sl ++ sl' ∧ mM = 0) ∨
  (K = 0 ∧ T' = F ∧ mF = F' ∧ mT = T ∧ mS = sl' ++ sl ∧ mM = 0) ∨
  ((K = 2 ∨ K = 3) ∧ M = M' ∧ F ≤ T' ∧ F' ≤ T ∧ mF = mn F F' ∧ mT = mx T T' ∧ mS = [] ∧ mM = M)
theorem merge_f (K F T GF GT N : Int) (sl : List S57) (M K' F' T' GF' GT' N' : Int) (sl' : List S57) (M' : Int) :
    (∀ k, 2300 ≤ k → step_Merge.f k K F T GF GT N sl M K' F' T' GF' GT' N' sl' M' = some (0, 0, 0, 0, 0, 0, [], 0, false)) ∨
    ∃ mF mT mS mM, (∀ k, 2300 ≤ k → step_Merge.f k K F T GF GT N sl M K' F' T' GF' GT' N' sl' M' = some (K, mF, mT, 0, 0, 0, mS, mM, true)) ∧ K = K' ∧ Sound K F T GF GT N sl M ∧ Sound K F' T' GF' GT' N' sl' M' ∧ chk K mF mT 0 0 0 mS mM = 0 ∧ Joined K F T sl M F' T' sl' M' mF mT mS mM := by
  have hbad : ∀ k, 2200 ≤ k → step_Merge.j0 k true K F T GF GT N sl M K' F' T' GF' GT' N' sl' M' = some (0, 0, 0, 0, 0, 0, [], 0, false) := by
    intro k hk
    obtain ⟨k, rfl⟩ : ∃ m, k = m + 1 := ⟨k - 1, by omega⟩
    rw [step_Merge.j0, if_pos rfl]
  by_cases c0 : K = K'
  case neg =>
    left
    intro k hk
    unfold step_Merge.f
    rw [if_neg c0]
    exact hbad k (by omega)
  subst c0
  by_cases c1 : chk K F T GF GT N sl M = 0
  case neg =>
    left
    intro k hk
    unfold step_Merge.f
    rw [if_pos rfl, check_f K F T GF GT N sl M k (by omega), Option.bind_some, if_neg c1]
    exact hbad k (by omega)
  by_cases c2 : chk K F' T' GF' GT' N' sl' M' = 0
  case neg =>
    left
    intro k hk
    unfold step_Merge.f
    rw [if_pos rfl, check_f K F T GF GT N sl M k (by omega), Option.bind_some, if_pos c1, check_f K F' T' GF' GT' N' sl' M' k (by omega), Option.bind_some, bne_iff_ne.mpr c2]
    exact hbad k (by omega)
  have s1 := chk_good c1
  have s2 := chk_good c2
  have a1 := s1.len; have a2 := s1.f0; have a3 := s1.ft; have a4 := s1.t
  have b1 := s2.len; have b2 := s2.f0; have b3 := s2.ft; have b4 := s2.t
  have hgo : ∀ k, 2300 ≤ k → ∀ r, step_merged.f (k - 1) K F T GF GT N sl M K F' T' GF' GT' N' sl' M' = some r → step_Merge.f k K F T GF GT N sl M K F' T' GF' GT' N' sl' M' = (if r.2.2.2.2.2.2.2.2 = true then ((step_Check.f (k - 1) r.1 r.2.1 r.2.2.1 r.2.2.2.1 r.2.2.2.2.1 r.2.2.2.2.2.1 r.2.2.2.2.2.2.1 r.2.2.2.2.2.2.2.1).bind fun t => (if t = 0 then (some (r.1, r.2.1, r.2.2.1, r.2.2.2.1, r.2.2.2.2.1, r.2.2.2.2.2.1, r.2.2.2.2.2.2.1, r.2.2.2.2.2.2.2.1, true)) else (some (0, 0, 0, 0, 0, 0, ([] : List S57), 0, false)))) else (some (0, 0, 0, 0, 0, 0, ([] : List S57), 0, false))) := by
    intro k hk r hr
    obtain ⟨k, rfl⟩ : ∃ m, k = m + 1 := ⟨k - 1, by omega⟩
    rw [Nat.add_sub_cancel] at hr ⊢
    unfold step_Merge.f
    rw [if_pos rfl, check_f K F T GF GT N sl M (k + 1) (by omega), Option.bind_some, if_pos c1, check_f K F' T' GF' GT' N' sl' M' (k + 1) (by omega), Option.bind_some, bne_eq_false_iff_eq.mpr c2]
    rw [step_Merge.j0, if_neg (by decide), hr, Option.bind_some]
  -- the answer, as soon as the two are told as one
  have fin : ∀ (mK mF mT : Int) (mS : List S57) (mM : Int) (ok : Bool), (∀ k, 2200 ≤ k → step_merged.f k K F T GF GT N sl M K F' T' GF' GT' N' sl' M' = some (mK, mF, mT, 0, 0, 0, mS, mM, ok)) → (ok = true → mK = K ∧ Joined K F T sl M F' T' sl' M' mF mT mS mM) →
      (∀ k, 2300 ≤ k → step_Merge.f k K F T GF GT N sl M K F' T' GF' GT' N' sl' M' = some (0, 0, 0, 0, 0, 0, [], 0, false)) ∨
      ∃ mF mT mS mM, (∀ k, 2300 ≤ k → step_Merge.f k K F T GF GT N sl M K F' T' GF' GT' N' sl' M' = some (K, mF, mT, 0, 0, 0, mS, mM, true)) ∧ K = K ∧ Sound K F T GF GT N sl M ∧ Sound K F' T' GF' GT' N' sl' M' ∧ chk K mF mT 0 0 0 mS mM = 0 ∧ Joined K F T sl M F' T' sl' M' mF mT mS mM := by
    intro mK mF mT mS mM ok hm hj
    cases ok with
    | false =>
      left
      intro k hk
      rw [hgo k hk _ (hm (k - 1) (by omega)), if_neg (by simp)]
    | true =>
      obtain ⟨rfl, hj⟩ := hj rfl
      by_cases c3 : chk mK mF mT 0 0 0 mS mM = 0
      · right
        refine ⟨mF, mT, mS, mM, fun k hk => ?_, rfl, s1, s2, c3, hj⟩
        rw [hgo k hk _ (hm (k - 1) (by omega)), if_pos rfl]
        dsimp only
        rw [check_f mK mF mT 0 0 0 mS mM (k - 1) (by omega), Option.bind_some, if_pos c3]
      · left
        intro k hk
        rw [hgo k hk _ (hm (k - 1) (by omega)), if_pos rfl]
        dsimp only
        rw [check_f mK mF mT 0 0 0 mS mM (k - 1) (by omega), Option.bind_some, if_neg c3]
  have tok : ∀ a b : List S57, a.length ≤ 2048 → b.length ≤ 2048 → step_tokens.f [a, b] = some (a ++ b) := by
    intro a b ha hb
    unfold step_tokens.f
    simp only [List.flatten_cons, List.flatten_nil, List.append_nil, List.length_append]
    rw [if_pos (by omega)]
  by_cases k0 : K = 0
  · by_cases c3 : F' = F + (sl.length : Int)
    · refine fin 0 F (T + T' - F') (sl ++ sl') 0 true (fun k hk => ?_) (fun _ => ⟨k0.symm, .inl ⟨k0, c3, rfl, rfl, rfl, rfl⟩⟩)
      unfold step_merged.f
      rw [if_pos k0, w64 (i := F + _) (by omega), if_pos c3, tok _ _ a1 b1, Option.bind_some, w64 (i := T + T') (by omega), w64 (by omega)]
    · refine fin 0 F' T (sl' ++ sl) 0 (T' == F) (fun k hk => ?_) (fun h => ⟨k0.symm, .inr (.inl ⟨k0, beq_iff_eq.mp h, rfl, rfl, rfl, rfl⟩)⟩)
      unfold step_merged.f
      rw [if_pos k0, w64 (i := F + _) (by omega), if_neg c3, tok _ _ b1 a1, Option.bind_some]
  · by_cases k23 : K = 2 ∨ K = 3
    · have hj0 : ∀ k, 2200 ≤ k → step_merged.f k K F T GF GT N sl M K F' T' GF' GT' N' sl' M' = some (K, mn F F', mx T T', 0, 0, 0, [], M, decide (M = M' ∧ F ≤ T' ∧ F' ≤ T)) := by
        intro k hk
        obtain ⟨k, rfl⟩ : ∃ m, k = m + 1 := ⟨k - 1, by omega⟩
        have e : step_merged.j0 (k + 1) true K F T GF GT N sl M K F' T' GF' GT' N' sl' M' = some (K, mn F F', mx T T', 0, 0, 0, [], M, decide (M = M' ∧ F ≤ T' ∧ F' ≤ T)) := by
          rw [step_merged.j0, if_pos rfl]
          by_cases d1 : M = M' <;> by_cases d2 : F ≤ T' <;> simp [d1, d2]
        unfold step_merged.f
        rw [if_neg k0]
        rcases k23 with rfl | rfl
        · rw [if_pos rfl]; exact e
        · rw [if_neg (by decide)]; exact e
      refine fin K (mn F F') (mx T T') [] M _ hj0 (fun h => ?_)
      have := of_decide_eq_true h
      exact ⟨rfl, .inr (.inr ⟨k23, this.1, this.2.1, this.2.2, rfl, rfl, rfl, rfl⟩)⟩
    · refine fin 0 0 0 [] 0 false (fun k hk => ?_) (fun h => by cases h)
      obtain ⟨k, rfl⟩ : ∃ m, k = m + 1 := ⟨k - 1, by omega⟩
      unfold step_merged.f
      rw [if_neg k0, if_neg (by omega), beq_eq_false_iff_ne.mpr (by omega)]
      rw [step_merged.j0, if_neg (by decide)]
end Go.Proofs.Ytlngjgcodknpiaa.StepC
