/- PosOrder: of two places the one that is not behind the other is not behind it then; for every map and place. -/
import Derived.Test.YtcoolajjjnkfpaaGPosOrder
import Derived.Test.YtcoolajjjnkfpaaPosD
namespace Go.Proofs.Ytcoolajjjnkfpaa.Pure
open Go.RowKit Go.Proofs.YtcoolajjjnkfpaaW.PrintWords Go.Proofs.YtcoolajjjnkfpaaW.PrintMore
open Go.Proofs.Ytcoolajjjnkfpaa Go.Proofs.Ytcoolajjjnkfpaa.PPa Go.Proofs.Ytcoolajjjnkfpaa.PosA Go.Proofs.Ytcoolajjjnkfpaa.PosB Go.Proofs.Ytcoolajjjnkfpaa.PosD

theorem PosOrder : emenderlaw08_PosOrder.Pure := by
  intro l p q side hl _ _ _ _
  refine ⟨l.length + 101, ?_⟩
  have hs : l.length ≤ 4611686018427387904 := by omega
  have haw : emenderlaw08_awake.f (l.length + 100) = some true := by
    unfold emenderlaw08_awake.f
    rw [map_f _ (by decide) 5 1 _ (by simp), Option.bind_some]
    have e : M [(⟨1, 0, 2⟩ : S37)] 5 1 = (7, false, -1, 0, 0) := by decide
    rw [e]
    rfl
  have hm := fun p side => map_f l hs p side (l.length + 100) (by omega)
  have hm1 := fun p side => map_f l hs p side (l.length + 101) (by omega)
  have hend : ((emenderlaw08_awake.f (l.length + 100)).bind fun t => some t) = some true := by rw [haw]; rfl
  unfold emenderlaw08_PosOrder.f
  rw [hm1, hm1, Option.bind_some, Option.bind_some]
  by_cases e1 : (M l (mn p q) side).2.2.2.2 = 0
  · rw [if_pos e1]
    by_cases e2 : (M l (mx p q) side).2.2.2.2 = 0
    · rw [show ((M l (mx p q) side).2.2.2.2 != 0) = false from bne_eq_false_iff_eq.mpr e2]
      rw [show emenderlaw08_PosOrder.j0 (l.length + 101) = emenderlaw08_PosOrder.j0 ((l.length + 100) + 1) from rfl, emenderlaw08_PosOrder.j0]
      rw [if_neg (by simp), hm, hm, Option.bind_some, Option.bind_some]
      obtain ⟨hr, a0, a1⟩ := M_ok e1
      obtain ⟨_, b0, b1⟩ := M_ok e2
      have hok := pos_Right.ok_of hr
      have hsr : pos_Right.okL 0 l = true := by unfold pos_Right.okB at hr; simp at hr; exact hr.1
      have hle : mn p q ≤ mx p q := by unfold mn mx; split <;> split <;> omega
      have hp : 0 ≤ p ∧ p ≤ 65536 := by unfold mn mx at *; split at a0 <;> split at b1 <;> omega
      rw [M_val hr a0 a1, M_val hr b0 b1, M_val hr hp.1 hp.2, M_val hr hp.1 hp.2]
      have hv := V_side l hok p l.length 0 (by omega)
      rw [if_pos (V_mono l hok hsr _ _ side hle l.length 0 (by omega)), if_pos (V_err l p (-1) _ _), if_pos (V_err l p 1 _ _), if_pos hv.1, if_pos (beq_iff_eq.mpr hv.2)]
      exact hend
    · rw [show ((M l (mx p q) side).2.2.2.2 != 0) = true from bne_iff_ne.mpr e2]
      rw [show emenderlaw08_PosOrder.j0 (l.length + 101) = emenderlaw08_PosOrder.j0 ((l.length + 100) + 1) from rfl, emenderlaw08_PosOrder.j0]
      rw [if_pos rfl]
      exact hend
  · rw [if_neg e1]
    rw [show emenderlaw08_PosOrder.j0 (l.length + 101) = emenderlaw08_PosOrder.j0 ((l.length + 100) + 1) from rfl, emenderlaw08_PosOrder.j0]
    rw [if_pos rfl]
    exact hend

end Go.Proofs.Ytcoolajjjnkfpaa.Pure
