/- Any line's code points with their marks: the program's are the document's. -/
import Derived.Test.YtfnafjohfmlniaaDoorComA
import Derived.Test.YtfnafjohfmlniaaDoorPCsx0
import Derived.Test.YtfnafjohfmlniaaDoorPCsy4
import Derived.Test.YtfnafjohfmlniaaDoorPCsy0
import Derived.Test.YtfnafjohfmlniaaDoorPCsy7
import Derived.Test.YtfnafjohfmlniaaDoorPCsy2
namespace Go.Proofs.YtfnafjohfmlniaaDoor.Pure
open Go.RowKit Go.Proofs.YtfnafjohfmlniaaDoorW.PrintWords Go.Proofs.YtfnafjohfmlniaaDoorW.PrintMore
open Go.Proofs.YtfnafjohfmlniaaDoor Go.Proofs.YtfnafjohfmlniaaDoor.PCs Go.Proofs.YtfnafjohfmlniaaDoor.ComA
set_option linter.unusedSimpArgs false
set_option linter.unusedVariables false
theorem parses_awake : emenderlaw28_awake.f = some true := by decide +kernel
theorem alike_l (l : List S43) (hl : l.length ≤ 4000) : ∀ (d k i : Nat), l.length - i ≤ d → d < k → i ≤ l.length → emenderlaw28_alike.l0 k l l (i : Int) = some true
  | 0, k, i, hd, hk, hi => by
    obtain ⟨k, rfl⟩ : ∃ m, k = m + 1 := ⟨k - 1, by omega⟩
    rw [emenderlaw28_alike.l0, if_neg (by omega)]
  | d + 1, k, i, hd, hk, hi => by
    obtain ⟨k, rfl⟩ : ∃ m, k = m + 1 := ⟨k - 1, by omega⟩
    by_cases c : i < l.length
    · rw [emenderlaw28_alike.l0, if_pos (by omega), if_pos (by omega), if_pos (by omega), if_neg (by simp), show wrap64 ((i : Int) + 1) = ((i + 1 : Nat) : Int) by unfold wrap64; omega]
      exact alike_l l hl d k (i + 1) (by omega) (by omega) (by omega)
    · rw [emenderlaw28_alike.l0, if_neg (by omega)]
theorem alike_f (l : List S43) (hl : l.length ≤ 4000) (k : Nat) (hk : 4001 ≤ k) : emenderlaw28_alike.f k l l = some true := by
  unfold emenderlaw28_alike.f
  rw [if_pos rfl]
  exact alike_l l hl 4000 k 0 (by omega) (by omega) (by omega)
theorem parses_len (s : ByteArray) : ∃ r : List S43 × Int × Int, common_Parse.f s = some r ∧ r.1.length ≤ 4000 := by
  unfold common_Parse.f
  by_cases h : (common_points.f s).2.2 = 0
  · rw [if_pos h]
    refine ⟨_, rfl, ?_⟩
    have h1 := (parts_all s h).2
    have h2 := all_toks_len (common_match.f (common_split.f (common_points.f s).1))
    have h3 : s.size ≤ 4000 := by
      unfold common_points.f at h
      by_cases c : s.size > 4000
      · rw [if_pos c] at h; exact absurd h (by decide)
      · omega
    dsimp only
    omega
  · rw [if_neg h]
    exact ⟨_, rfl, by simp⟩
theorem parses_main (s : ByteArray) (k : Nat) (hk : 4010 ≤ k) : emenderlaw28_CommonParses.j0 k s false = some true := by
  obtain ⟨k, rfl⟩ : ∃ m, k = m + 1 := ⟨k - 1, by omega⟩
  obtain ⟨⟨l, n, e⟩, h, hl⟩ := parses_len s
  dsimp only at hl
  have h2 : emenderref28_Parse.f s = some (l, n, e) := h
  rw [emenderlaw28_CommonParses.j0, if_neg (by decide), h, Option.bind_some, h2, Option.bind_some]
  dsimp only
  rw [alike_f l hl k (by omega), Option.bind_some, if_pos rfl, if_pos rfl, if_pos rfl, parses_awake]
  rfl
theorem CommonParses : emenderlaw28_CommonParses.Pure := by
  intro s _
  refine ⟨5000, ?_⟩
  unfold emenderlaw28_CommonParses.f
  split
  · by_cases h : (s.size : Int) ≤ 4000
    · rw [decide_eq_true h, emenderlaw28_CommonParses.j0, if_pos rfl, parses_awake]
      rfl
    · rw [decide_eq_false h]
      exact parses_main s 5000 (by omega)
  · exact parses_main s 5000 (by omega)
end Go.Proofs.YtfnafjohfmlniaaDoor.Pure
