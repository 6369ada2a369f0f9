/- InlineBack: what is written is read as it is, and what no line can hold is refused. -/
import Derived.Test.YtebbngeamnpgjaaDoorGInlineBack
import Derived.Test.YtebbngeamnpgjaaDoorInlG
import Derived.Test.YtebbngeamnpgjaaDoorInlD
import Derived.Test.YtebbngeamnpgjaaDoorPIax12
namespace Go.Proofs.YtebbngeamnpgjaaDoor.Pure
open Go.RowKit Go.Proofs.YtebbngeamnpgjaaDoorW.PrintWords Go.Proofs.YtebbngeamnpgjaaDoorW.PrintMore
open Go.Proofs.YtebbngeamnpgjaaDoor Go.Proofs.YtebbngeamnpgjaaDoor.PIa Go.Proofs.YtebbngeamnpgjaaDoor.InlB Go.Proofs.YtebbngeamnpgjaaDoor.InlC Go.Proofs.YtebbngeamnpgjaaDoor.InlD Go.Proofs.YtebbngeamnpgjaaDoor.InlG
theorem InlineBack : emenderlaw14_InlineBack.Pure := by
  intro l hl _
  refine ⟨l.length + 100, ?_⟩
  unfold emenderlaw14_InlineBack.f
  rw [our_print l (by omega) _ (by omega), Option.bind_some]
  unfold prints
  by_cases h : l.all good = true
  · rw [if_pos h]
    dsimp only
    rw [if_pos rfl, awake14 _ (by omega)]
    by_cases h2 : ((lineOf l).size : Int) > 65536
    · rw [if_pos h2]
      rfl
    · rw [if_neg h2, our_parse, Option.bind_some, reads_line l (fun t ht => List.all_eq_true.1 h t ht) (by omega)]
      dsimp only
      rw [if_pos rfl, if_pos rfl, alike _ _ (by omega) _ (by omega), Option.bind_some, sameL_refl, if_pos rfl]
      rfl
  · rw [if_neg h]
    dsimp only
    rw [if_neg (by decide), if_pos rfl, if_pos empty_list, awake14 _ (by omega)]
    rfl
end Go.Proofs.YtebbngeamnpgjaaDoor.Pure
