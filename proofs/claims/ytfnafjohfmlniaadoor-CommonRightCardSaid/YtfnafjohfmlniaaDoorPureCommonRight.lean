/- CommonRight: what is read of any line is right, without a byte 0A, and no longer than the line. -/
import Derived.Test.YtfnafjohfmlniaaDoorGCommonRight
import Derived.Test.YtfnafjohfmlniaaDoorComT
import Derived.Test.YtfnafjohfmlniaaDoorPCbx0
import Derived.Test.YtfnafjohfmlniaaDoorPCbx11
import Derived.Test.YtfnafjohfmlniaaDoorPCbx12
import Derived.Test.YtfnafjohfmlniaaDoorPCbx14
import Derived.Test.YtfnafjohfmlniaaDoorPCbx17
import Derived.Test.YtfnafjohfmlniaaDoorPCbx2
import Derived.Test.YtfnafjohfmlniaaDoorPCbx7
namespace Go.Proofs.YtfnafjohfmlniaaDoor.Pure
open Go.RowKit Go.Proofs.YtfnafjohfmlniaaDoorW.PrintWords Go.Proofs.YtfnafjohfmlniaaDoorW.PrintMore
open Go.Proofs.YtfnafjohfmlniaaDoor Go.Proofs.YtfnafjohfmlniaaDoor.PCb Go.Proofs.YtfnafjohfmlniaaDoor.ComA Go.Proofs.YtfnafjohfmlniaaDoor.ComT
set_option linter.unusedSimpArgs false
set_option linter.unusedVariables false
theorem right_l0 (s : ByteArray) (l : List S43) (hl : l.length ≤ 4000) (hok : ∀ t ∈ l, tokOk t) (ht : (flat_Text.txt l).length ≤ s.size) : ∀ (d k : Nat) (i : Int), 0 ≤ i → i + d = l.length → d < k → emenderlaw28_CommonRight.l0 k s l (s.size : Int) i = some true
  | d, 0, _, _, _, h => by omega
  | 0, k + 1, i, h0, hi, _ => by
    simp only [emenderlaw28_CommonRight.l0]
    rw [if_neg (by omega), if_pos trivial, text_f l (by omega), Option.bind_some, text_size, if_pos (by omega), awake28]
    rfl
  | d + 1, k + 1, i, h0, hi, hk => by
    have e : rd_T43 l i = l[i.toNat]'(by omega) := by simp [rd_T43, List.getD_eq_getElem?_getD, List.getElem?_eq_getElem (show i.toNat < l.length by omega)]
    have hm : tokOk (rd_T43 l i) := by rw [e]; exact hok _ (List.getElem_mem _)
    simp only [emenderlaw28_CommonRight.l0]
    rw [if_pos (by omega), if_pos h0, right_tok hm, Option.bind_some, if_pos rfl, if_pos hm.1, if_neg hm.2.2.2.1, show wrap64 (i + 1) = i + 1 from by (unfold wrap64; omega)]
    exact right_l0 s l hl hok ht d k (i + 1) (by omega) (by omega) (by omega)
theorem CommonRight : emenderlaw28_CommonRight.PureG := by
  intro s _
  refine ⟨4002, ?_⟩
  unfold emenderlaw28_CommonRight.f common_Parse.f
  obtain ⟨p1, p2, p3⟩ := points_n s
  by_cases h : (common_points.f s).2.2 = 0
  · obtain ⟨h1, h2⟩ := parts_all s h
    have h5 := p3 h
    rw [if_pos h, Option.bind_some, if_pos rfl]
    dsimp only
    have h3 := all_toks_len (common_match.f (common_split.f (common_points.f s).1))
    have h4 := all_txt _ h1
    generalize common_match.f (common_split.f (common_points.f s).1) = o at *
    have hl : (o.flatMap common_Parse.toks).length ≤ 4000 := by omega
    exact right_l0 s _ hl (fun t ht => by obtain ⟨x, hx, ht⟩ := List.mem_flatMap.1 ht; exact toks_ok (h1 x hx) t ht) (by omega) _ 4002 0 (by omega) (Int.zero_add _) (by omega)
  · rw [if_neg h, Option.bind_some, if_neg h, if_pos (show (([] : List S43).length : Int) = 0 from rfl), if_pos (show (common_points.f s).2.1 ≥ 0 from p1), if_pos p2, awake28]
    rfl
end Go.Proofs.YtfnafjohfmlniaaDoor.Pure
