/- FindPuts: any text in the place of any others, as the document says; for every document, places and text. -/
import Derived.Test.YtfcfomconcoimaaDoorGFindPuts
import Derived.Test.YtfcfomconcoimaaDoorFindD
namespace Go.Proofs.YtfcfomconcoimaaDoor.Pure
open Go.RowKit Go.Proofs.YtfcfomconcoimaaDoorW.PrintWords Go.Proofs.YtfcfomconcoimaaDoorW.PrintMore
set_option linter.unusedVariables false
set_option linter.unusedSimpArgs false
open Go.Proofs.YtfcfomconcoimaaDoor Go.Proofs.YtfcfomconcoimaaDoor.PFa Go.Proofs.YtfcfomconcoimaaDoor.StepA Go.Proofs.YtfcfomconcoimaaDoor.StepB Go.Proofs.YtfcfomconcoimaaDoor.FindC

theorem puts_l0 (st : List S45) (hst : st.length ≤ 1000000) (hs : ∀ x ∈ st, x.f6.length ≤ 1000) : ∀ (m i K : Nat), i + m = st.length → m + 2000 ≤ K → emenderlaw26_FindPuts.l0 K st st (i : Int) = some true
  | 0, i, K, h, hK => by
    obtain ⟨k, rfl⟩ : ∃ k, K = k + 1 := ⟨K - 1, by omega⟩
    rw [emenderlaw26_FindPuts.l0, if_neg (by omega), FindA.awake_]
    rfl
  | m + 1, i, K, h, hK => by
    have hi : i < st.length := by omega
    obtain ⟨k, rfl⟩ : ∃ k, K = k + 1 := ⟨K - 1, by omega⟩
    rw [emenderlaw26_FindPuts.l0, if_pos (by omega), if_pos (by omega), if_pos (by omega), rd45 st i hi]
    have hx := hs _ (List.getElem_mem hi)
    unfold emenderlaw26_twin.f
    rw [if_pos rfl, if_pos rfl, if_pos rfl, if_pos rfl, if_pos rfl, if_pos rfl, if_pos rfl, StepB.alike _ _ (by omega) k (by omega), Option.bind_some, Option.bind_some, sameL_refl, if_pos rfl, w64 (by omega)]
    exact puts_l0 st hst hs m (i + 1) k (by omega) (by omega)
theorem FindPuts : emenderlaw26_FindPuts.Pure := by
  intro l at_ s _ _ _ _ _
  refine ⟨1000000 + 2, ?_⟩
  have stop : emenderlaw26_FindPuts.j0 (1000000 + 2) l at_ s true = some true := by
    show emenderlaw26_FindPuts.j0 (1000000 + 1 + 1) l at_ s true = some true
    rw [emenderlaw26_FindPuts.j0, if_pos rfl, FindA.awake_]
    rfl
  unfold emenderlaw26_FindPuts.f
  by_cases c1 : (l.length : Int) > 300
  · rw [if_pos c1]
    exact stop
  · rw [if_neg c1]
    by_cases c2 : (at_.length : Int) > 100
    · rw [decide_eq_true c2]
      exact stop
    · rw [decide_eq_false c2]
      have hb : at_.length * (l.length + 1010) ≤ 100 * 1310 := Nat.mul_le_mul (by omega) (by omega)
      have hK1 : at_.length * (l.length + 1010) + 1 ≤ 1000000 + 1 := Nat.le_trans (Nat.add_le_add_right hb 1) (by decide)
      have hK2 : at_.length * (l.length + 1010) + 6000 ≤ 1000000 + 1 := Nat.le_trans (Nat.add_le_add_right hb 6000) (by decide)
      show emenderlaw26_FindPuts.j0 (1000000 + 1 + 1) l at_ s false = some true
      rw [emenderlaw26_FindPuts.j0, if_neg (by decide), steps_f l at_ (by omega) s _ hK1, Option.bind_some, FindD.steps_f l (by omega) at_ (by omega) s _ (by decide), Option.bind_some, replace_f l at_ (by omega) s _ hK2, Option.bind_some, FindD.replace_f l (by omega) at_ (by omega) s _ (by decide), Option.bind_some]
      have hr := FindD.Rp_len l (by omega) at_ s
      have hsl := FindD.St_slice l at_ s
      have hst := St_len l at_ s
      rw [if_pos rfl, if_pos rfl, StepB.alike _ _ (by omega) _ (by omega), Option.bind_some, sameL_refl, if_pos rfl]
      have e : ((Rp l at_ s).2 != (Rp l at_ s).2) = false := bne_self_eq_false _
      rw [e]
      rw [emenderlaw26_FindPuts.j1, if_neg (by decide)]
      exact puts_l0 (St l at_ s).1 (by omega) hsl (St l at_ s).1.length 0 1000000 (by omega) (by omega)

end Go.Proofs.YtfcfomconcoimaaDoor.Pure
