/- InlinePrints: any tokens' line is the document's, and what no line can hold is refused by both, for all tokens. -/
import Derived.Test.YtebbngeamnpgjaaGInlinePrints
import Derived.Test.YtebbngeamnpgjaaInlB
import Derived.Test.YtebbngeamnpgjaaPIpx10
namespace Go.Proofs.Ytebbngeamnpgjaa.Pure
open Go.RowKit Go.Proofs.YtebbngeamnpgjaaW.PrintWords Go.Proofs.YtebbngeamnpgjaaW.PrintMore
open Go.Proofs.Ytebbngeamnpgjaa Go.Proofs.Ytebbngeamnpgjaa.PIp Go.Proofs.Ytebbngeamnpgjaa.FlatA Go.Proofs.Ytebbngeamnpgjaa.InlA Go.Proofs.Ytebbngeamnpgjaa.InlB
theorem awake14 (k : Nat) (hk : 2 ≤ k) : emenderlaw14_awake.f k = some true := by
  unfold emenderlaw14_awake.f
  rw [our_print _ (by simp) k (by simp; omega), Option.bind_some]
  decide +kernel
theorem InlinePrints : emenderlaw14_InlinePrints.Pure := by
  intro x hx _
  refine ⟨2 * x.length + 100, ?_⟩
  unfold emenderlaw14_InlinePrints.f
  rw [our_print x (by omega) _ (by omega), Option.bind_some, ref_print x (by omega) _ (by omega), Option.bind_some, if_pos rfl, if_pos rfl, awake14 _ (by omega), Option.bind_some]
end Go.Proofs.Ytebbngeamnpgjaa.Pure
