/- PosTurns: the program turns any map round, and recovers any place, just as the document's answer does; for every map and place. -/
import Derived.Test.YtcoolajjjnkfpaaGPosTurns
import Derived.Test.YtcoolajjjnkfpaaPosBb
import Derived.Test.YtcoolajjjnkfpaaPosEb
namespace Go.Proofs.Ytcoolajjjnkfpaa.Pure
open Go.RowKit Go.Proofs.YtcoolajjjnkfpaaW.PrintWords Go.Proofs.YtcoolajjjnkfpaaW.PrintMore
open Go.Proofs.Ytcoolajjjnkfpaa Go.Proofs.Ytcoolajjjnkfpaa.PPb Go.Proofs.Ytcoolajjjnkfpaa.PosA Go.Proofs.Ytcoolajjjnkfpaa.PosB Go.Proofs.Ytcoolajjjnkfpaa.PosE

theorem PosTurns : emenderlaw08_PosTurns.Pure := by
  intro l a b hl _ _ _
  refine ⟨10 * l.length + 100, ?_⟩
  have hs : l.length ≤ 4611686018427387904 := by omega
  have haw : emenderlaw08_awake.f (10 * l.length + 100) = some true := by
    unfold emenderlaw08_awake.f
    rw [map_f _ (by decide) 5 1 _ (by simp), Option.bind_some]
    have e : M [(⟨1, 0, 2⟩ : S37)] 5 1 = (7, false, -1, 0, 0) := by decide
    rw [e]
    rfl
  have hI := I_length l
  unfold emenderlaw08_PosTurns.f
  rw [invert_f l hs _ (by omega), refInvert_f l _ (by omega), recover_f l hs a b _ (by omega), refRecover_f l a b _ (by omega), Option.bind_some, Option.bind_some, Option.bind_some, Option.bind_some, ranges_f _ (by omega) _ (by omega), Option.bind_some, if_pos rfl, if_pos rfl, if_pos rfl, if_pos rfl, haw]
  rfl

end Go.Proofs.Ytcoolajjjnkfpaa.Pure
