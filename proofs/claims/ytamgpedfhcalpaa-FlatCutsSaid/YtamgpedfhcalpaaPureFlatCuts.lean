/- FlatCuts: any part of any tokens, their text, and whether two lists of tokens are the same: the program tells what the document's answer tells; for all tokens and places. -/
import Derived.Test.YtamgpedfhcalpaaGFlatCuts
import Derived.Test.YtamgpedfhcalpaaFlatDm
namespace Go.Proofs.Ytamgpedfhcalpaa.Pure
open Go.RowKit Go.Proofs.YtamgpedfhcalpaaW.PrintWords Go.Proofs.YtamgpedfhcalpaaW.PrintMore
open Go.Proofs.Ytamgpedfhcalpaa Go.Proofs.Ytamgpedfhcalpaa.PFm Go.Proofs.Ytamgpedfhcalpaa.FlatA Go.Proofs.Ytamgpedfhcalpaa.FlatB Go.Proofs.Ytamgpedfhcalpaa.FlatD

theorem FlatCuts : emenderlaw04_FlatCuts.Pure := by
  intro l m a b hl _ hm _ _ _
  have hc : (cutS l a b).1.length ≤ l.length := by
    unfold cutS
    split
    · simp
    · simp only [List.length_drop, List.length_take]
      omega
  refine ⟨l.length + m.length + 3, ?_⟩
  unfold emenderlaw04_FlatCuts.f
  rw [Option.bind_some, if_pos (by simp; omega), List.nil_append, flat_cut l (by omega), Option.bind_some, ref_cut l (by omega), Option.bind_some, alike _ _ (by omega) _ (by omega), sameL_refl, Option.bind_some, if_pos rfl, if_pos rfl, flat_text l (by omega), Option.bind_some, ref_text l (by omega) _ (by omega), Option.bind_some, if_pos rfl, flat_same l m (by omega) _ (by omega), Option.bind_some, alike l m (by omega) _ (by omega), Option.bind_some, if_pos (by simp), flat_same l l (by omega) _ (by omega), sameL_refl, Option.bind_some, if_pos rfl, awake_true]
  rfl
end Go.Proofs.Ytamgpedfhcalpaa.Pure
