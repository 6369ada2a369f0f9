/- What is found, in plain words: the places of a text in the runs, greedy, from the left. -/
import Derived.Test.YtfcfomconcoimaaDoorPFax0
import Derived.Test.YtfcfomconcoimaaDoorPFax3
import Derived.Test.YtfcfomconcoimaaDoorPFax4
import Derived.Test.YtfcfomconcoimaaDoorPFax5
import Derived.Test.YtfcfomconcoimaaDoorPFax7
import Derived.Test.YtfcfomconcoimaaDoorPFax8
import Derived.Test.YtfcfomconcoimaaDoorPFax9
import Derived.Test.YtfcfomconcoimaaDoorFlatC
namespace Go.Proofs.YtfcfomconcoimaaDoor.FindA
open Go.RowKit Go.Proofs.YtfcfomconcoimaaDoorW.PrintWords Go.Proofs.YtfcfomconcoimaaDoorW.PrintMore
open Go.Proofs.YtfcfomconcoimaaDoor Go.Proofs.YtfcfomconcoimaaDoor.PFa Go.Proofs.YtfcfomconcoimaaDoor.FlatC
set_option linter.unusedSimpArgs false
set_option linter.unusedVariables false

theorem rd28 (l : List S28) (i : Nat) (h : i < l.length) : rd_T28 l (i : Int) = l[i] := by simp [rd_T28, List.getD_eq_getElem?_getD, List.getElem?_eq_getElem h]
theorem w64 {i : Int} (h : -9223372036854775808 ≤ i ∧ i ≤ 9223372036854775807) : wrap64 i = i := by unfold wrap64; omega
theorem points_some (s : ByteArray) : ∃ r, find_points.f s = some r := by
  unfold find_points.f
  split
  · exact ⟨_, rfl⟩
  · split <;> exact ⟨_, rfl⟩
/-- How many code points stand in the runs. -/
theorem sum_go : ∀ (l : List S48) (i a : Int) (p : List Int), find_runs.sum (find_runs.go l i a p) ≤ l.length + p.length
  | [], i, a, p => by
    rw [find_runs.go]
    split
    · exact Nat.zero_le _
    · simp [find_runs.sum]
  | t :: l, i, a, p => by
    rw [find_runs.go]
    split
    · have := sum_go l (i + 1) (if p.length = 0 then i else a) (p ++ [t.f2])
      rw [List.length_append, List.length_singleton] at this
      simp only [List.length_cons]
      omega
    · split
      · have := sum_go l (i + 1) 0 []
        simp only [List.length_cons, List.length_nil] at this ⊢
        omega
      · have := sum_go l (i + 1) 0 []
        unfold find_runs.sum at *
        simp only [List.map_cons, List.sum_cons, List.length_cons, List.length_nil] at this ⊢
        omega
theorem sum_runs (l : List S48) : find_runs.sum (find_runs.f l) ≤ l.length := by
  exact sum_go l 0 0 []
theorem all_len (p : List Int) (hp : 0 < p.length) (fold whole : Bool) (l : List S48) : (find_Find.all p fold whole (find_runs.f l)).length ≤ l.length := Nat.le_trans (find_Find.all_len p hp fold whole _) (sum_runs l)
/-- What Find answers. -/
theorem find_cases (l : List S48) (hl : l.length ≤ 1000000) (s : ByteArray) : (∃ e, e ≠ 0 ∧ ∀ fold whole, find_Find.f l s fold whole = some ([], e)) ∨ (∃ p c, 0 < p.length ∧ flat_Check.f l = some (c, 0) ∧ find_points.f s = some (p, 0) ∧ ∀ fold whole, find_Find.f l s fold whole = some (find_Find.all p fold whole (find_runs.f l), 0)) := by
  obtain ⟨⟨c1, c2⟩, hc⟩ := check_f_some l
  obtain ⟨⟨p, e⟩, hp⟩ := points_some s
  by_cases h1 : c2 = 0
  · by_cases h2 : e = 0
    · subst h1 h2
      by_cases h3 : p.length = 0
      · left
        refine ⟨4, by decide, fun fold whole => ?_⟩
        unfold find_Find.f
        rw [hc, Option.bind_some, if_pos rfl, hp, Option.bind_some, if_pos rfl, if_pos h3]
      · right
        refine ⟨p, c1, by omega, hc, hp, fun fold whole => ?_⟩
        unfold find_Find.f
        rw [hc, Option.bind_some, if_pos rfl, hp, Option.bind_some, if_pos rfl, if_neg h3, if_pos hl]
    · left
      refine ⟨e, h2, fun fold whole => ?_⟩
      unfold find_Find.f
      subst h1
      rw [hc, Option.bind_some, if_pos rfl, hp, Option.bind_some, if_neg h2]
  · left
    refine ⟨c2, h1, fun fold whole => ?_⟩
    unfold find_Find.f
    rw [hc, Option.bind_some, if_neg h1]
theorem awake_ : emenderlaw26_awake.f = some true := by
  unfold emenderlaw26_awake.f
  have h : find_Find.f [(⟨0, 0, 120, 0⟩ : S48)] ⟨#[120]⟩ false false = some ([⟨0, 1⟩], 0) := by kernel_rfl
  rw [h]
  rfl
/-! ### Great and small -/
theorem fits_all_fold {p q : List Int} {i : Int} : ∀ (f k : Nat), find_fits.all p q false i f k = true → find_fits.all p q true i f k = true
  | 0, _, h => rfl
  | f + 1, k, h => by
    rw [find_fits.all] at h ⊢
    by_cases c : find_fits.key false (rd q (i + (k : Int))) = find_fits.key false (rd p (k : Int))
    · rw [if_pos c] at h
      have c' : rd q (i + (k : Int)) = rd p (k : Int) := c
      rw [if_pos (by rw [c'])]
      exact fits_all_fold f (k + 1) h
    · rw [if_neg c] at h
      cases h
theorem fits_fold {p q : List Int} {whole : Bool} {i : Int} (h : find_fits.f p q false whole i = true) : find_fits.f p q true whole i = true := by
  unfold find_fits.f at h ⊢
  simp only [Bool.and_eq_true] at h ⊢
  exact ⟨h.1, h.2.1, h.2.2.1, fits_all_fold _ _ h.2.2.2⟩
theorem at_mem {p q : List Int} {fold whole : Bool} {a : Int} {x : S28} : ∀ (f : Nat) (i : Int), x ∈ find_Find.at_ p fold whole a q f i → ∃ j, i ≤ j ∧ j < (q.length : Int) ∧ find_fits.f p q fold whole j = true ∧ x = ⟨a + j, a + j + (p.length : Int)⟩
  | 0, i, h => by cases h
  | f + 1, i, h => by
    rw [find_Find.at_] at h
    by_cases c : i < (q.length : Int)
    · rw [if_pos c] at h
      by_cases k : find_fits.f p q fold whole i = true
      · rw [if_pos k] at h
        rcases List.mem_cons.1 h with rfl | h
        · exact ⟨i, Int.le_refl _, c, k, rfl⟩
        · obtain ⟨j, h1, h2⟩ := at_mem f _ h
          exact ⟨j, by omega, h2⟩
      · rw [if_neg k] at h
        obtain ⟨j, h1, h2⟩ := at_mem f _ h
        exact ⟨j, by omega, h2⟩
    · rw [if_neg c] at h
      cases h
/-- Where the text fits, something is found, there or over it. -/
theorem at_cover {p q : List Int} (hp : 0 < p.length) {fold whole : Bool} {a j : Int} (hj : j < (q.length : Int)) (hf : find_fits.f p q fold whole j = true) : ∀ (f : Nat) (i : Int), i ≤ j → (q.length : Int) < i + f → ∃ y ∈ find_Find.at_ p fold whole a q f i, y.f0 < a + j + (p.length : Int) ∧ a + j < y.f1
  | 0, i, h1, h2 => by omega
  | f + 1, i, h1, h2 => by
    rw [find_Find.at_, if_pos (by omega)]
    by_cases k : find_fits.f p q fold whole i = true
    · rw [if_pos k]
      by_cases c : j < i + (p.length : Int)
      · exact ⟨_, List.mem_cons_self .., by show a + i < _; omega, by show _ < a + i + (p.length : Int); omega⟩
      · obtain ⟨y, hy, h3⟩ := at_cover hp hj hf f (i + (p.length : Int)) (by omega) (by omega)
        exact ⟨y, List.mem_cons_of_mem _ hy, h3⟩
    · rw [if_neg k]
      have : i ≠ j := fun e => k (by rw [e]; exact hf)
      exact at_cover hp hj hf f (i + 1) (by omega) (by omega)
theorem all_cover {p : List Int} (hp : 0 < p.length) {fold whole : Bool} {rs : List (Int × List Int)} {r : Int × List Int} (hr : r ∈ rs) {j : Int} (h0 : 0 ≤ j) (hj : j < (r.2.length : Int)) (hf : find_fits.f p r.2 fold whole j = true) : ∃ y ∈ find_Find.all p fold whole rs, y.f0 < r.1 + j + (p.length : Int) ∧ r.1 + j < y.f1 := by
  obtain ⟨y, hy, h⟩ := at_cover hp (a := r.1) hj hf (r.2.length + 1) 0 h0 (by omega)
  exact ⟨y, List.mem_flatMap.2 ⟨r, hr, hy⟩, h⟩
theorem all_mem {p : List Int} {fold whole : Bool} {rs : List (Int × List Int)} {x : S28} (h : x ∈ find_Find.all p fold whole rs) : ∃ r ∈ rs, ∃ j, 0 ≤ j ∧ j < (r.2.length : Int) ∧ find_fits.f p r.2 fold whole j = true ∧ x = ⟨r.1 + j, r.1 + j + (p.length : Int)⟩ := by
  obtain ⟨r, hr, hx⟩ := List.mem_flatMap.1 h
  obtain ⟨j, h1, h2, h3, h4⟩ := at_mem _ _ hx
  exact ⟨r, hr, j, h1, h2, h3, h4⟩

end Go.Proofs.YtfcfomconcoimaaDoor.FindA
