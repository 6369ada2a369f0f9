/- PosMaps: the program maps any place just as the document's answer does; for every map and place. -/
import Derived.Test.YtcoolajjjnkfpaaGPosMaps
import Derived.Test.YtcoolajjjnkfpaaPosC
namespace Go.Proofs.Ytcoolajjjnkfpaa.Pure
open Go.RowKit Go.Proofs.YtcoolajjjnkfpaaW.PrintWords Go.Proofs.YtcoolajjjnkfpaaW.PrintMore
open Go.Proofs.Ytcoolajjjnkfpaa Go.Proofs.Ytcoolajjjnkfpaa.PPa Go.Proofs.Ytcoolajjjnkfpaa.PosA Go.Proofs.Ytcoolajjjnkfpaa.PosB Go.Proofs.Ytcoolajjjnkfpaa.PosC

theorem PosMaps : emenderlaw08_PosMaps.Pure := by
  intro l p side hl _ _ _
  refine ⟨10 * l.length + 100, ?_⟩
  have hs : l.length ≤ 4611686018427387904 := by omega
  have haw : emenderlaw08_awake.f (10 * l.length + 100) = some true := by
    unfold emenderlaw08_awake.f
    rw [map_f _ (by decide) 5 1 _ (by simp), Option.bind_some]
    have e : M [(⟨1, 0, 2⟩ : S37)] 5 1 = (7, false, -1, 0, 0) := by decide
    rw [e]
    rfl
  unfold emenderlaw08_PosMaps.f
  rw [map_f l hs p side _ (by omega), refMap_f l p side _ (by omega), Option.bind_some, Option.bind_some, if_pos (by simp), if_pos rfl, right_f l hs _ (by omega), refRight_f l _ (by omega), Option.bind_some, Option.bind_some, if_pos (by simp), haw]
  rfl

end Go.Proofs.Ytcoolajjjnkfpaa.Pure
