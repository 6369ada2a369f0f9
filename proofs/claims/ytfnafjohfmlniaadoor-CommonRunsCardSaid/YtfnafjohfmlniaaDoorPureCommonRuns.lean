/- Any line's runs: the program's are the document's. -/
import Derived.Test.YtfnafjohfmlniaaDoorPCrx0
import Derived.Test.YtfnafjohfmlniaaDoorPCrx1
import Derived.Test.YtfnafjohfmlniaaDoorPCrx11
import Derived.Test.YtfnafjohfmlniaaDoorPCrx12
import Derived.Test.YtfnafjohfmlniaaDoorPCrx20
import Derived.Test.YtfnafjohfmlniaaDoorPCrx21
import Derived.Test.YtfnafjohfmlniaaDoorPCrx6
namespace Go.Proofs.YtfnafjohfmlniaaDoor.Pure
open Go.RowKit Go.Proofs.YtfnafjohfmlniaaDoorW.PrintWords Go.Proofs.YtfnafjohfmlniaaDoorW.PrintMore
open Go.Proofs.YtfnafjohfmlniaaDoor Go.Proofs.YtfnafjohfmlniaaDoor.PCr
set_option linter.unusedSimpArgs false
set_option linter.unusedVariables false
theorem runs_awake : emenderlaw28_awake.f = some true := by decide +kernel
theorem runs_len (s : ByteArray) : ∃ r : List S38 × Int × Int, common_Runs.f s = some r ∧ r.1.length ≤ 4000 := by
  unfold common_Runs.f
  split
  · refine ⟨_, rfl, ?_⟩
    have h1 := common_Runs.all_len (common_split.f (common_points.f s).1)
    have h2 := (common_points.facts s).1
    have h3 := common_split.len (common_points.f s).1 ((common_points.f s).1.length + 1) 0 (by omega) (by omega)
    unfold common_split.f at h1
    unfold common_split.f
    dsimp only
    omega
  · exact ⟨_, rfl, by simp⟩
theorem runs_loop (l : List S38) (hl : l.length ≤ 4000) : ∀ (d k i : Nat), l.length - i ≤ d → d < k → i ≤ l.length → emenderlaw28_CommonRuns.l0 k l (l.map refRunOf) (i : Int) = some true
  | 0, k, i, hd, hk, hi => by
    obtain ⟨k, rfl⟩ : ∃ m, k = m + 1 := ⟨k - 1, by omega⟩
    rw [emenderlaw28_CommonRuns.l0, if_neg (by omega), runs_awake]
    rfl
  | d + 1, k, i, hd, hk, hi => by
    obtain ⟨k, rfl⟩ : ∃ m, k = m + 1 := ⟨k - 1, by omega⟩
    by_cases c : i < l.length
    · have e : rd_T39 (l.map refRunOf) (i : Int) = refRunOf (rd_T38 l (i : Int)) := by
        unfold rd_T39 rd_T38
        rw [Int.toNat_natCast, List.getD_eq_getElem?_getD, List.getD_eq_getElem?_getD, List.getElem?_map, List.getElem?_eq_getElem c]
        rfl
      rw [emenderlaw28_CommonRuns.l0, if_pos (by omega), if_pos (by omega), if_pos (by rw [List.length_map]; omega), e]
      unfold refRunOf
      dsimp only
      rw [if_pos rfl, if_pos rfl, if_pos rfl, if_neg (by simp), if_neg (by simp), show wrap64 ((i : Int) + 1) = ((i + 1 : Nat) : Int) by unfold wrap64; omega]
      exact runs_loop l hl d k (i + 1) (by omega) (by omega) (by omega)
    · rw [emenderlaw28_CommonRuns.l0, if_neg (by omega), runs_awake]
      rfl
theorem runs_main (s : ByteArray) (k : Nat) (hk : 4010 ≤ k) : emenderlaw28_CommonRuns.j0 k s false = some true := by
  obtain ⟨k, rfl⟩ : ∃ m, k = m + 2 := ⟨k - 2, by omega⟩
  obtain ⟨⟨l, n, e⟩, h, hl⟩ := runs_len s
  dsimp only at hl
  have h2 : emenderref28_Runs.f s = some (l.map refRunOf, n, e) := by unfold emenderref28_Runs.f; rw [h]; rfl
  rw [emenderlaw28_CommonRuns.j0, if_neg (by decide), h, Option.bind_some, h2, Option.bind_some]
  dsimp only
  rw [List.length_map, if_pos rfl, if_pos rfl, bne_self_eq_false, emenderlaw28_CommonRuns.j1, if_neg (by decide)]
  exact runs_loop l hl 4000 k 0 (by omega) (by omega) (by omega)
theorem CommonRuns : emenderlaw28_CommonRuns.Pure := by
  intro s _
  refine ⟨5000, ?_⟩
  unfold emenderlaw28_CommonRuns.f
  split
  · by_cases h : (s.size : Int) ≤ 4000
    · rw [decide_eq_true h, emenderlaw28_CommonRuns.j0, if_pos rfl, runs_awake]
      rfl
    · rw [decide_eq_false h]
      exact runs_main s 5000 (by omega)
  · exact runs_main s 5000 (by omega)
end Go.Proofs.YtfnafjohfmlniaaDoor.Pure
