/- FlatChecks: whether any tokens are a document, how deep any place lies, what is around it and its partner: the program tells what the document's answer tells; for all tokens and places. -/
import Derived.Test.YtamgpedfhcalpaaGFlatChecks
import Derived.Test.YtamgpedfhcalpaaFlatC
namespace Go.Proofs.Ytamgpedfhcalpaa.Pure
open Go.RowKit Go.Proofs.YtamgpedfhcalpaaW.PrintWords Go.Proofs.YtamgpedfhcalpaaW.PrintMore
open Go.Proofs.Ytamgpedfhcalpaa Go.Proofs.Ytamgpedfhcalpaa.PFl Go.Proofs.Ytamgpedfhcalpaa.FlatA Go.Proofs.Ytamgpedfhcalpaa.FlatB Go.Proofs.Ytamgpedfhcalpaa.FlatC

theorem FlatChecks : emenderlaw04_FlatChecks.Pure := by
  intro l a hl _ _
  have hl' : l.length < 17592186044416 := by omega
  obtain ⟨r, hr⟩ := check_f_some l
  obtain ⟨p, hp1, hp2, _⟩ := partner l hl' a
  refine ⟨3 * l.length + 7, ?_⟩
  unfold emenderlaw04_FlatChecks.f
  rw [hr, Option.bind_some, ref_check l hl' _ (by omega), hr, Option.bind_some, if_pos rfl, if_pos rfl, flat_deep l hl' a _ (by omega), Option.bind_some, ref_deep l hl' a _ (by omega), Option.bind_some, if_pos rfl,
    flat_around l hl' a _ (by omega), Option.bind_some, ref_around l hl' a _ (by omega), Option.bind_some, if_pos rfl, hp1 _ (by omega), Option.bind_some, hp2 _ (by omega), Option.bind_some, if_pos rfl, awake_true]
  rfl
end Go.Proofs.Ytamgpedfhcalpaa.Pure
