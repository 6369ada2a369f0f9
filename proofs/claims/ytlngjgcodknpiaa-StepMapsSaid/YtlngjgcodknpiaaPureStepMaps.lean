/- StepMaps: whether any step may be, its map, whether two are the same and what they are as one: the program and the document answer the same, for all steps. -/
import Derived.Test.YtlngjgcodknpiaaGStepMaps
import Derived.Test.YtlngjgcodknpiaaBaseSm
import Derived.Test.YtlngjgcodknpiaaPSmx0
import Derived.Test.YtlngjgcodknpiaaPSmx10
import Derived.Test.YtlngjgcodknpiaaPSmx11
import Derived.Test.YtlngjgcodknpiaaPSmx12
import Derived.Test.YtlngjgcodknpiaaPSmx15
import Derived.Test.YtlngjgcodknpiaaPSmx16
import Derived.Test.YtlngjgcodknpiaaPSmx17
import Derived.Test.YtlngjgcodknpiaaPSmx18
import Derived.Test.YtlngjgcodknpiaaPSmx19
import Derived.Test.YtlngjgcodknpiaaPSmx20
import Derived.Test.YtlngjgcodknpiaaPSmx21
import Derived.Test.YtlngjgcodknpiaaPSmx5
import Derived.Test.YtlngjgcodknpiaaPSmx7
namespace Go.Proofs.Ytlngjgcodknpiaa.Pure
open Go.RowKit Go.Proofs.YtlngjgcodknpiaaW.PrintWords Go.Proofs.YtlngjgcodknpiaaW.PrintMore
set_option linter.unusedSimpArgs false
set_option linter.unusedVariables false
open Go.Proofs.Ytlngjgcodknpiaa Go.Proofs.Ytlngjgcodknpiaa.PSm Go.Proofs.Ytlngjgcodknpiaa.StepA Go.Proofs.Ytlngjgcodknpiaa.StepB Go.Proofs.Ytlngjgcodknpiaa.StepE

/-! ### the map -/
theorem ranges_loop (x : List S51) (hx : x.length ≤ 4611686018427387904) : ∀ (d k i : Nat), i + d = x.length → d < k → emenderlaw09_ranges.l0 k x x (i : Int) = some true := by
  intro d
  induction d with
  | zero =>
    intro k i h hk
    obtain ⟨k, rfl⟩ : ∃ m, k = m + 1 := ⟨k - 1, by omega⟩
    simp only [emenderlaw09_ranges.l0]
    rw [if_neg (by omega)]
  | succ d ih =>
    intro k i h hk
    obtain ⟨k, rfl⟩ : ∃ m, k = m + 1 := ⟨k - 1, by omega⟩
    simp only [emenderlaw09_ranges.l0]
    rw [if_pos (by omega), if_pos (by omega), if_pos (by omega), if_neg (by simp), w64 (by omega)]
    exact ih k (i + 1) (by omega) (by omega)
theorem map_both (K F T GF GT N : Int) (sl : List S57) (M : Int) (k : Nat) (hk : 2100 < k) : ∃ r : List S51 × Int, r.1.length ≤ 2 ∧ step_Map.f k K F T GF GT N sl M = some r ∧ emenderref09_Map.f k K F T GF GT N sl M = some r := by
  unfold step_Map.f emenderref09_Map.f
  rw [check_f K F T GF GT N sl M k hk, rchk K F T GF GT N sl M k hk]
  simp only [Option.bind_some]
  by_cases c : chk K F T GF GT N sl M = 0
  · rw [if_pos c]
    by_cases c0 : K = 0
    · rw [if_pos c0]
      exact ⟨_, by simp, rfl, rfl⟩
    · rw [if_neg c0]
      by_cases c1 : K = 1
      · rw [if_pos c1]
        exact ⟨_, by simp, rfl, rfl⟩
      · rw [if_neg c1]
        exact ⟨_, by simp, rfl, rfl⟩
  · rw [if_neg c]
    exact ⟨_, by simp, rfl, rfl⟩
/-! ### the same -/
theorem same_loop (a b : List S57) (hab : a.length = b.length) (hl : a.length ≤ 9223372036854775807) : ∀ (d k : Nat) (i : Int), 0 ≤ i → i + d = a.length → d < k → flat_Same.l0 k a b (a.length : Int) i = some (sameL (a.drop i.toNat) (b.drop i.toNat)) ∧ emenderref04_Same.l0 k a b i = some (sameL (a.drop i.toNat) (b.drop i.toNat)) := by
  intro d
  induction d with
  | zero =>
    intro k i h0 h1 hk
    obtain ⟨k, rfl⟩ : ∃ m, k = m + 1 := ⟨k - 1, by omega⟩
    simp only [flat_Same.l0, emenderref04_Same.l0]
    rw [if_neg (by omega), if_neg (by omega), List.drop_eq_nil_of_le (by omega), List.drop_eq_nil_of_le (by omega)]
    exact ⟨rfl, rfl⟩
  | succ d ih =>
    intro k i h0 h1 hk
    obtain ⟨k, rfl⟩ : ∃ m, k = m + 1 := ⟨k - 1, by omega⟩
    have ha : i.toNat < a.length := by omega
    have hb : i.toNat < b.length := by omega
    have h2 : i < (a.length : Int) := by omega
    have h3 : i < (b.length : Int) := by omega
    obtain ⟨i1, i2⟩ := ih k (i + 1) (by omega) (by omega) (by omega)
    have e1 : (i + 1).toNat = i.toNat + 1 := by omega
    have w1 : wrap64 (i + 1) = i + 1 := w64 (by omega)
    simp only [flat_Same.l0, emenderref04_Same.l0]
    simp only [if_pos h2, if_pos h3, if_pos h0]
    rw [rd_get a i ha, rd_get b i hb, ne_test, w1, List.drop_eq_getElem_cons ha, List.drop_eq_getElem_cons hb]
    simp only [sameL]
    cases e : eqT a[i.toNat] b[i.toNat] with
    | false => simp
    | true =>
      rw [if_neg (by decide), if_neg (by decide), i1, i2, e1]
      simp
theorem fsame (a b : List S57) (hl : a.length ≤ 9223372036854775807) (k : Nat) (hk : a.length < k) : flat_Same.f k a b = some (sameL a b) ∧ emenderref04_Same.f k a b = some (sameL a b) := by
  unfold flat_Same.f emenderref04_Same.f
  by_cases h : (a.length : Int) = (b.length : Int)
  · have := same_loop a b (by omega) hl a.length k 0 (by omega) (by omega) hk
    rw [if_pos h, if_pos h]
    exact this
  · rw [if_neg h, if_neg h, sameL_length a b (by omega)]
    exact ⟨rfl, rfl⟩
theorem same_both (K F T GF GT N : Int) (sl : List S57) (M K' F' T' GF' GT' N' : Int) (sl' : List S57) (M' : Int) (hl : sl.length ≤ 9223372036854775807) (k : Nat) (hk : sl.length < k) : ∃ b, step_Same.f k K F T GF GT N sl M K' F' T' GF' GT' N' sl' M' = some b ∧ emenderref09_Same.f k K F T GF GT N sl M K' F' T' GF' GT' N' sl' M' = some b := by
  obtain ⟨s1, s2⟩ := fsame sl sl' hl k hk
  unfold step_Same.f emenderref09_Same.f
  rw [s1, s2]
  simp only [Option.bind_some]
  have no : ∀ (x : Option Bool), x = some false → ∃ b, (if sameL sl sl' = true then x else some false) = some b ∧ some false = some b := fun x hx => ⟨false, by rw [hx]; split <;> rfl, rfl⟩
  by_cases c0 : K = K'
  · simp only [if_pos c0]
    by_cases c1 : F = F'
    · simp only [if_pos c1]
      by_cases c2 : T = T'
      · simp only [if_pos c2]
        by_cases c3 : GF = GF'
        · simp only [if_pos c3]
          by_cases c4 : GT = GT'
          · simp only [if_pos c4]
            by_cases c5 : N = N'
            · simp only [if_pos c5]
              by_cases c6 : M = M'
              · rw [if_pos c6]
                cases sameL sl sl' with
                | true => exact ⟨true, by simp [c6], rfl⟩
                | false => exact ⟨false, by simp, rfl⟩
              · rw [if_neg c6]
                exact no _ (by simp [c6])
            · simp only [if_neg c5]
              exact no _ rfl
          · simp only [if_neg c4]
            exact no _ rfl
        · simp only [if_neg c3]
          exact no _ rfl
      · simp only [if_neg c2]
        exact no _ rfl
    · simp only [if_neg c1]
      exact no _ rfl
  · simp only [if_neg c0]
    exact no _ rfl
/-! ### two as one -/
abbrev R := Int × Int × Int × Int × Int × Int × List S57 × Int × Bool
def zero : R := (0, 0, 0, 0, 0, 0, [], 0, false)
def fin (K F T : Int) (sl : List S57) (M : Int) : R := if chk K F T 0 0 0 sl M = 0 then (K, F, T, 0, 0, 0, sl, M, true) else zero
def E (K F T : Int) (sl : List S57) (M F' T' : Int) (sl' : List S57) (M' : Int) : R :=
  if K = 0 then (if F' = wrap64 (F + (sl.length : Int)) then fin 0 F (wrap64 (wrap64 (T + T') - F')) (sl ++ sl') 0 else if T' = F then fin 0 F' T (sl' ++ sl) 0 else zero)
  else if K = 1 then zero else if M = M' ∧ F ≤ T' ∧ F' ≤ T then fin K (mn F F') (mx T T') [] M else zero
theorem our_fin (K F T : Int) (sl : List S57) (M : Int) (k : Nat) (hk : 2100 < k) : ((step_Check.f k K F T 0 0 0 sl M).bind fun t => if t = 0 then some (K, F, T, 0, 0, 0, sl, M, true) else some (0, 0, 0, 0, 0, 0, ([] : List S57), 0, false)) = some (fin K F T sl M) := by
  rw [check_f K F T 0 0 0 sl M k hk, Option.bind_some]
  unfold fin
  split <;> rfl
theorem ref_fin (K F T : Int) (sl : List S57) (M : Int) (k : Nat) (hk : 2100 < k) : ((emenderref09_Check.f k K F T 0 0 0 sl M).bind fun t => if t = 0 then some (K, F, T, 0, 0, 0, sl, M, true) else some (0, 0, 0, 0, 0, 0, ([] : List S57), 0, false)) = some (fin K F T sl M) := by
  rw [rchk K F T 0 0 0 sl M k hk, Option.bind_some]
  unfold fin
  split <;> rfl
theorem tokens2 (a b : List S57) (h : a.length + b.length < 4398046511104) : step_tokens.f [a, b] = some (a ++ b) := by
  have e : [a, b].flatten = a ++ b := by simp
  unfold step_tokens.f
  rw [e, if_pos (by rw [List.length_append]; omega)]
theorem join2 (a b : List S57) (h : a.length + b.length < 4398046511104) (k : Nat) (hk : 3 < k) : emenderref09_join.f k [a, b] = some (a ++ b) := by
  have e : [a, b].flatten = a ++ b := by simp
  rw [rjoin [a, b] (by simp) (by rw [e, List.length_append]; omega) k (by simp; omega), e]
theorem our_merge (K F T GF GT N : Int) (sl : List S57) (M F' T' GF' GT' N' : Int) (sl' : List S57) (M' : Int) (h1 : sl.length ≤ 2048) (h2 : sl'.length ≤ 2048) (hK : K = 0 ∨ K = 1 ∨ K = 2 ∨ K = 3) (k : Nat) (hk : 2100 < k) :
    step_Merge.j0 (k + 1) false K F T GF GT N sl M K F' T' GF' GT' N' sl' M' = some (E K F T sl M F' T' sl' M') := by
  simp only [step_Merge.j0]
  rw [if_neg (by decide)]
  unfold step_merged.f E
  by_cases c0 : K = 0
  · subst c0
    rw [if_pos rfl, if_pos rfl]
    by_cases c : F' = wrap64 (F + (sl.length : Int))
    · rw [if_pos c, if_pos c, tokens2 sl sl' (by omega), Option.bind_some, Option.bind_some]
      dsimp only
      rw [if_pos rfl]
      exact our_fin _ _ _ _ _ k hk
    · rw [if_neg c, if_neg c, tokens2 sl' sl (by omega), Option.bind_some, Option.bind_some]
      dsimp only
      by_cases d : T' = F
      · rw [if_pos (by simp [d]), if_pos d]
        exact our_fin _ _ _ _ _ k hk
      · rw [if_neg (by simp [d]), if_neg d]
        rfl
  · rw [if_neg c0, if_neg c0]
    obtain ⟨k, rfl⟩ : ∃ m, k = m + 1 := ⟨k - 1, by omega⟩
    have mark : ∀ b : Bool, b = true → ((step_merged.j0 (k + 1) b K F T GF GT N sl M K F' T' GF' GT' N' sl' M').bind fun bt => if bt.2.2.2.2.2.2.2.2 = true then ((step_Check.f (k + 1) bt.1 bt.2.1 bt.2.2.1 bt.2.2.2.1 bt.2.2.2.2.1 bt.2.2.2.2.2.1 bt.2.2.2.2.2.2.1 bt.2.2.2.2.2.2.2.1).bind fun t => if t = 0 then some (bt.1, bt.2.1, bt.2.2.1, bt.2.2.2.1, bt.2.2.2.2.1, bt.2.2.2.2.2.1, bt.2.2.2.2.2.2.1, bt.2.2.2.2.2.2.2.1, true) else some (0, 0, 0, 0, 0, 0, ([] : List S57), 0, false)) else some (0, 0, 0, 0, 0, 0, ([] : List S57), 0, false)) = some (if M = M' ∧ F ≤ T' ∧ F' ≤ T then fin K (mn F F') (mx T T') [] M else zero) := by
      rintro b rfl
      simp only [step_merged.j0]
      rw [if_pos trivial]
      by_cases d0 : M = M'
      · rw [if_pos d0]
        by_cases d1 : F ≤ T'
        · rw [if_pos d1, Option.bind_some]
          dsimp only
          by_cases d2 : F' ≤ T
          · rw [if_pos (decide_eq_true d2), if_pos ⟨d0, d1, d2⟩]
            have := our_fin K (mn F F') (mx T T') [] M (k + 1) hk
            exact this
          · rw [if_neg (by simpa using d2), if_neg (fun h => d2 h.2.2)]
            rfl
        · rw [if_neg d1, Option.bind_some, if_neg (show ¬ (M = M' ∧ F ≤ T' ∧ F' ≤ T) from fun h => d1 h.2.1)]
          rfl
      · rw [if_neg d0, Option.bind_some, if_neg (show ¬ (M = M' ∧ F ≤ T' ∧ F' ≤ T) from fun h => d0 h.1)]
        rfl
    rcases hK with rfl | rfl | rfl | rfl
    · exact absurd rfl c0
    · rw [if_neg (by decide), if_pos rfl]
      simp only [step_merged.j0]
      rw [if_neg (by decide), Option.bind_some]
      rfl
    · rw [if_pos rfl, if_neg (by decide)]
      exact mark _ (by decide)
    · rw [if_neg (by decide), if_neg (by decide)]
      exact mark _ (by decide)
theorem ref_merge (K F T GF GT N : Int) (sl : List S57) (M F' T' GF' GT' N' : Int) (sl' : List S57) (M' : Int) (h1 : sl.length ≤ 2048) (h2 : sl'.length ≤ 2048) (hK : K = 0 ∨ K = 1 ∨ K = 2 ∨ K = 3) (k : Nat) (hk : 2110 < k) :
    emenderref09_Merge.j0 (k + 1) false K F T GF GT N sl M K F' T' GF' GT' N' sl' M' = some (E K F T sl M F' T' sl' M') := by
  obtain ⟨k, rfl⟩ : ∃ m, k = m + 3 := ⟨k - 3, by omega⟩
  simp only [emenderref09_Merge.j0]
  rw [if_neg (by decide)]
  unfold E
  by_cases c0 : K = 0
  · subst c0
    rw [if_pos rfl, if_pos rfl]
    simp only [emenderref09_Merge.j1]
    by_cases c : F' = wrap64 (F + (sl.length : Int))
    · rw [if_pos (by simp [c]), if_pos c, join2 sl sl' (by omega) _ (by omega), Option.bind_some]
      exact ref_fin _ _ _ _ _ _ (by omega)
    · rw [if_neg (by simp [c]), if_neg c, if_pos trivial]
      simp only [emenderref09_Merge.j2]
      by_cases d : T' = F
      · rw [if_pos (by simp [d]), if_pos d, join2 sl' sl (by omega) _ (by omega), Option.bind_some]
        exact ref_fin _ _ _ _ _ _ (by omega)
      · rw [if_neg (by simp [d]), if_neg d, if_pos trivial]
        simp only [emenderref09_Merge.j3]
        rw [if_neg (by decide)]
        rfl
  · rw [if_neg c0, if_neg c0]
    simp only [emenderref09_Merge.j1]
    rw [if_neg (by decide), if_neg c0]
    simp only [emenderref09_Merge.j2]
    rw [if_neg (by decide), if_neg c0]
    by_cases c1 : K = 1
    · rw [if_pos c1, if_pos c1]
      simp only [emenderref09_Merge.j3]
      rw [if_neg (by decide)]
      rfl
    · rw [if_neg c1, if_neg c1]
      by_cases d0 : M = M'
      · rw [if_pos d0]
        by_cases d1 : F ≤ T'
        · rw [if_pos d1]
          simp only [emenderref09_Merge.j3]
          by_cases d2 : F' ≤ T
          · rw [if_pos (decide_eq_true d2), if_pos ⟨d0, d1, d2⟩]
            exact ref_fin _ _ _ _ _ _ (by omega)
          · rw [if_neg (by simpa using d2), if_neg (fun h => d2 h.2.2)]
            rfl
        · rw [if_neg d1, if_neg (fun h => d1 h.2.1)]
          simp only [emenderref09_Merge.j3]
          rw [if_neg (by decide)]
          rfl
      · rw [if_neg d0, if_neg (fun h => d0 h.1)]
        simp only [emenderref09_Merge.j3]
        rw [if_neg (by decide)]
        rfl
theorem E_len (K F T : Int) (sl : List S57) (M F' T' : Int) (sl' : List S57) (M' : Int) (h1 : sl.length ≤ 2048) (h2 : sl'.length ≤ 2048) : (E K F T sl M F' T' sl' M').2.2.2.2.2.2.1.length ≤ 5000 := by
  have hf : ∀ K F T sl M, sl.length ≤ 5000 → (fin K F T sl M).2.2.2.2.2.2.1.length ≤ 5000 := by
    intro K F T sl M h
    unfold fin zero
    split
    · exact h
    · simp
  unfold E
  repeat' split
  all_goals first
    | exact hf _ _ _ _ _ (by simp; omega)
    | exact hf _ _ _ _ _ (by simp)
    | exact Nat.zero_le _
theorem merge_both (K F T GF GT N : Int) (sl : List S57) (M K' F' T' GF' GT' N' : Int) (sl' : List S57) (M' : Int) (k : Nat) (hk : 2120 < k) : ∃ r : R, r.2.2.2.2.2.2.1.length ≤ 5000 ∧ step_Merge.f k K F T GF GT N sl M K' F' T' GF' GT' N' sl' M' = some r ∧ emenderref09_Merge.f k K F T GF GT N sl M K' F' T' GF' GT' N' sl' M' = some r := by
  obtain ⟨k, rfl⟩ : ∃ m, k = m + 1 := ⟨k - 1, by omega⟩
  have z1 : step_Merge.j0 (k + 1) true K F T GF GT N sl M K' F' T' GF' GT' N' sl' M' = some zero := by
    simp only [step_Merge.j0]
    rw [if_pos trivial]
    rfl
  have z2 : emenderref09_Merge.j0 (k + 1) true K F T GF GT N sl M K' F' T' GF' GT' N' sl' M' = some zero := by
    simp only [emenderref09_Merge.j0]
    rw [if_pos trivial]
    rfl
  unfold step_Merge.f emenderref09_Merge.f
  rw [rchk K F T GF GT N sl M _ (by omega), Option.bind_some, check_f K F T GF GT N sl M _ (by omega), Option.bind_some]
  rw [rchk K' F' T' GF' GT' N' sl' M' _ (by omega), Option.bind_some, check_f K' F' T' GF' GT' N' sl' M' _ (by omega), Option.bind_some]
  by_cases hK : K = K'
  · subst hK
    rw [if_pos rfl]
    by_cases c1 : chk K F T GF GT N sl M = 0
    · rw [if_pos c1, if_pos c1]
      by_cases c2 : chk K F' T' GF' GT' N' sl' M' = 0
      · have g1 := chk_good c1
        have g2 := chk_good c2
        have l1 : sl.length ≤ 2048 := g1.len
        have l2 : sl'.length ≤ 2048 := g2.len
        rw [if_pos c2, show (chk K F' T' GF' GT' N' sl' M' != 0) = false by simp [c2], show (K != K) = false by simp]
        exact ⟨E K F T sl M F' T' sl' M', E_len _ _ _ _ _ _ _ _ _ l1 l2, our_merge _ _ _ _ _ _ _ _ _ _ _ _ _ _ _ l1 l2 g1.kinds k (by omega), ref_merge _ _ _ _ _ _ _ _ _ _ _ _ _ _ _ l1 l2 g1.kinds k (by omega)⟩
      · rw [if_neg c2, show (chk K F' T' GF' GT' N' sl' M' != 0) = true by simp [c2]]
        exact ⟨zero, Nat.zero_le _, z1, z2⟩
    · rw [if_neg c1, if_neg c1]
      exact ⟨zero, Nat.zero_le _, z1, z2⟩
  · rw [if_neg hK, show (K != K') = true by simp [hK]]
    refine ⟨zero, Nat.zero_le _, z1, ?_⟩
    split
    · split <;> exact z2
    · exact z2
theorem StepMaps : emenderlaw09_StepMaps.Pure := by
  intro K F T GF GT N sl M K' F' T' GF' GT' N' sl' M' _ _ _ _ _ _ hl _ _ _ _ _ _ _ _ hl' _ _
  refine ⟨sl.length + sl'.length + 20000, ?_⟩
  generalize hk : sl.length + sl'.length + 20000 = k
  obtain ⟨m, m0, m1, m2⟩ := map_both K F T GF GT N sl M k (by omega)
  obtain ⟨r, r0, r1, r2⟩ := merge_both K F T GF GT N sl M K' F' T' GF' GT' N' sl' M' k (by omega)
  obtain ⟨b, b1, b2⟩ := same_both K F T GF GT N sl M K' F' T' GF' GT' N' sl' M' hl k (by omega)
  have rg : emenderlaw09_ranges.f k m.1 m.1 = some true := by
    unfold emenderlaw09_ranges.f
    rw [if_pos rfl]
    exact ranges_loop m.1 (by omega) m.1.length k 0 (by omega) (by omega)
  obtain ⟨q0, q1, q2, q3, q4, q5, ql, q7, q8⟩ := r
  dsimp only at r0
  have tw : emenderlaw09_twin.f k q0 q1 q2 q3 q4 q5 ql q7 q0 q1 q2 q3 q4 q5 ql q7 = some true := by
    unfold emenderlaw09_twin.f
    rw [if_pos rfl, if_pos rfl, if_pos rfl, if_pos rfl, if_pos rfl, if_pos rfl, if_pos rfl, alike ql ql (by omega) k (by omega), Option.bind_some, sameL_refl]
  unfold emenderlaw09_StepMaps.f
  rw [m1, Option.bind_some, m2, Option.bind_some, r1, Option.bind_some, r2, Option.bind_some, rg, Option.bind_some, if_pos rfl, if_pos rfl, check_f K F T GF GT N sl M k (by omega), Option.bind_some, rchk K F T GF GT N sl M k (by omega), Option.bind_some, if_pos rfl, b1, Option.bind_some, b2, Option.bind_some, if_pos (by simp)]
  dsimp only
  rw [tw, Option.bind_some, if_pos rfl, if_pos (by simp), awake k (by omega), Option.bind_some]
end Go.Proofs.Ytlngjgcodknpiaa.Pure
