/- FlatRights: any token is right for the program just where it is right for the document's answer; for every token. -/
import Derived.Test.YtamgpedfhcalpaaGFlatRights
import Derived.Test.YtamgpedfhcalpaaFlatA
namespace Go.Proofs.Ytamgpedfhcalpaa.Pure
open Go.RowKit Go.Proofs.YtamgpedfhcalpaaW.PrintWords Go.Proofs.YtamgpedfhcalpaaW.PrintMore
open Go.Proofs.Ytamgpedfhcalpaa Go.Proofs.Ytamgpedfhcalpaa.PFl Go.Proofs.Ytamgpedfhcalpaa.FlatA

theorem FlatRights : emenderlaw04_FlatRights.Pure := by
  intro a b c d _ _ _ _
  refine ⟨1, ?_⟩
  unfold emenderlaw04_FlatRights.f
  rw [flat_right, ref_right 0, Option.bind_some, Option.bind_some, if_pos (by simp), awake_true]
  rfl

end Go.Proofs.Ytamgpedfhcalpaa.Pure
