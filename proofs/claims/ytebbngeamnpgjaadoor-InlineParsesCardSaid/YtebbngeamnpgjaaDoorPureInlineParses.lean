/- InlineParses: any line is read as the document reads it. -/
import Derived.Test.YtebbngeamnpgjaaDoorGInlineParses
import Derived.Test.YtebbngeamnpgjaaDoorInlG
import Derived.Test.YtebbngeamnpgjaaDoorPIax11
namespace Go.Proofs.YtebbngeamnpgjaaDoor.Pure
open Go.RowKit Go.Proofs.YtebbngeamnpgjaaDoorW.PrintWords Go.Proofs.YtebbngeamnpgjaaDoorW.PrintMore
open Go.Proofs.YtebbngeamnpgjaaDoor Go.Proofs.YtebbngeamnpgjaaDoor.PIa Go.Proofs.YtebbngeamnpgjaaDoor.InlC Go.Proofs.YtebbngeamnpgjaaDoor.InlG
theorem InlineParses : emenderlaw14_InlineParses.PureG := by
  intro s hs
  refine ⟨3 * s.size + 100, ?_⟩
  have hl := reads_len s
  unfold emenderlaw14_InlineParses.f
  rw [our_parse s, Option.bind_some, ref_parse s _ (by omega), Option.bind_some, alike _ _ (by omega) _ (by omega), Option.bind_some, sameL_refl, if_pos rfl, if_pos rfl, if_pos rfl, awake14 _ (by omega), Option.bind_some]
end Go.Proofs.YtebbngeamnpgjaaDoor.Pure
