/- AnchorZero: a set of notes that nobody made answers nothing; for every map. -/
import Derived.Test.YtgafgkojbbndmaaGAnchorZero
namespace Go.Proofs.Ytgafgkojbbndmaa.Pure
open Go.RowKit Go.Proofs.YtgafgkojbbndmaaW.PrintWords Go.Proofs.YtgafgkojbbndmaaW.PrintMore
open Go.Proofs.Ytgafgkojbbndmaa Go.Proofs.Ytgafgkojbbndmaa.PAz

theorem AnchorZero : emenderlaw25_AnchorZero.Pure := by
  intro l _ _
  rfl

end Go.Proofs.Ytgafgkojbbndmaa.Pure
