/- PosZero: a mapping that nobody made answers nothing. -/
import Derived.Test.YtcoolajjjnkfpaaGPosZero
namespace Go.Proofs.Ytcoolajjjnkfpaa.Pure
open Go.RowKit Go.Proofs.YtcoolajjjnkfpaaW.PrintWords Go.Proofs.YtcoolajjjnkfpaaW.PrintMore
open Go.Proofs.Ytcoolajjjnkfpaa Go.Proofs.Ytcoolajjjnkfpaa.PPz

theorem PosZero : emenderlaw08_PosZero.Pure := by
  intro l p _ _ _
  rfl

end Go.Proofs.Ytcoolajjjnkfpaa.Pure
