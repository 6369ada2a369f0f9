/- What is found, in plain words: the places of a text in the runs, greedy, from the left. -/
import Derived.Test.YtfcfomconcoimaaDoorPFax0
import Derived.Test.YtfcfomconcoimaaDoorPFay0
import Derived.Test.YtfcfomconcoimaaDoorPFay1
import Derived.Test.YtfcfomconcoimaaDoorFlatC
namespace Go.Proofs.YtfcfomconcoimaaDoor.FindA
open Go.RowKit Go.Proofs.YtfcfomconcoimaaDoorW.PrintWords Go.Proofs.YtfcfomconcoimaaDoorW.PrintMore
open Go.Proofs.YtfcfomconcoimaaDoor Go.Proofs.YtfcfomconcoimaaDoor.PFa Go.Proofs.YtfcfomconcoimaaDoor.FlatC
set_option linter.unusedSimpArgs false
set_option linter.unusedVariables false

theorem rd28 (l : List S28) (i : Nat) (h : i < l.length) : rd_T28 l (i : Int) = l[i] := by simp [rd_T28, List.getD_eq_getElem?_getD, List.getElem?_eq_getElem h]
theorem w64 {i : Int} (h : -9223372036854775808 ≤ i ∧ i ≤ 9223372036854775807) : wrap64 i = i := by unfold wrap64; omega
theorem points_some (s : ByteArray) : ∃ r, find_points.f s = some r := by
 unfold find_points.f
 split
 ·exact ⟨_, rfl⟩
 ·split <;> exact ⟨_, rfl⟩
/-- How many code points stand in the runs. -/
theorem sum_go : ∀ (l : List S48) (i a : Int) (p : List Int), find_runs.sum (find_runs.go l i a p) ≤ l.length + p.length
 | [], i, a, p => by
  rw [find_runs.go]
  split
  ·exact Nat.zero_le _
  ·simp [find_runs.sum]
 | t :: l, i, a, p => by
  rw [find_runs.go]
  split
  ·have := sum_go l (i + 1) (if p.length = 0 then i else a) (p ++ [t.f2])
   rw [List.length_append, List.length_singleton] at this
   simp only [List.length_cons]
   omega
  ·split
   ·have := sum_go l (i + 1) 0 []
    simp only [List.length_cons, List.length_nil] at this ⊢
    omega
   ·have := sum_go l (i + 1) 0 []
    unfold find_runs.sum at *
    simp only [List.map_cons, List.sum_cons, List.length_cons, List.length_nil] at this ⊢
    omega
theorem sum_runs (l : List S48) : find_runs.sum (find_runs.f l) ≤ l.length := by
 exact sum_go l 0 0 []
theorem all_len (p : List Int) (hp : 0 < p.length) (fold whole : Bool) (l : List S48) : (find_Find.all p fold whole (find_runs.f l)).length ≤ l.length := Nat.le_trans (find_Find.all_len p hp fold whole _) (sum_runs l)
/-- What Find answers. -/
theorem find_cases (l : List S48) (hl : l.length ≤ 1000000) (s : ByteArray) : (∃ e, e ≠ 0 ∧ ∀ fold whole, find_Find.f l s fold whole = some ([], e)) ∨ (∃ p c, 0 < p.length ∧ flat_Check.f l = some (c, 0) ∧ find_points.f s = some (p, 0) ∧ ∀ fold whole, find_Find.f l s fold whole = some (find_Find.all p fold whole (find_runs.f l), 0)) := by
 obtain ⟨⟨c1, c2⟩, hc⟩ := check_f_some l
 obtain ⟨⟨p, e⟩, hp⟩ := points_some s
 by_cases h1 : c2 = 0
 ·by_cases h2 : e = 0
  ·subst h1 h2
   by_cases h3 : p.length = 0
   ·left
    refine ⟨4, by decide, fun fold whole => ?_⟩
    unfold find_Find.f
    rw [hc, Option.bind_some, if_pos rfl, hp, Option.bind_some, if_pos rfl, if_pos h3]
   ·right
    refine ⟨p, c1, by omega, hc, hp, fun fold whole => ?_⟩
    unfold find_Find.f
    rw [hc, Option.bind_some, if_pos rfl, hp, Option.bind_some, if_pos rfl, if_neg h3, if_pos hl]
  ·left
   refine ⟨e, h2, fun fold whole => ?_⟩
   unfold find_Find.f
   subst h1
   rw [hc, Option.bind_some, if_pos rfl, hp, Option.bind_some, if_neg h2]
 ·left
  refine ⟨c2, h1, fun fold whole => ?_⟩
  unfold find_Find.f
  rw [hc, Option.bind_some, if_neg h1]
theorem awake_ : emenderlaw26_awake.f = some true := by
 unfold emenderlaw26_awake.f
 have h : find_Find.f [(⟨0, 0, 120, 0⟩ : S48)] ⟨#[120]⟩ false false = some ([⟨0, 1⟩], 0) := by kernel_rfl
 rw [h]
 rfl
/-! ### Great and small -/
end Go.Proofs.YtfcfomconcoimaaDoor.FindA
