/- A place through a map: one closed form for the program and for the document's answer. -/
import Derived.Test.YtcoolajjjnkfpaaPPdx0
import Derived.Test.YtcoolajjjnkfpaaPPdx2
import Derived.Test.YtcoolajjjnkfpaaPPdx3
import Derived.Test.YtcoolajjjnkfpaaPPdx4
import Derived.Test.YtcoolajjjnkfpaaPosAd
namespace Go.Proofs.Ytcoolajjjnkfpaa.PosB
open Go.RowKit Go.Proofs.YtcoolajjjnkfpaaW.PrintWords Go.Proofs.YtcoolajjjnkfpaaW.PrintMore
open Go.Proofs.Ytcoolajjjnkfpaa Go.Proofs.Ytcoolajjjnkfpaa.PPd Go.Proofs.Ytcoolajjjnkfpaa.PosA
set_option linter.unusedSimpArgs false

/-- The spot of a place within range number i. -/
def S (l : List S37) (p side : Int) (i : Nat) : Int × Bool × Int × Int × Int :=
  let f0 := (rd_T37 l (i : Int)).f0; let f1 := (rd_T37 l (i : Int)).f1; let f2 := (rd_T37 l (i : Int)).f2
  let left := if f1 = 0 then decide (side < 0) else if p = f0 then true else if p = f0 + f1 then false else decide (side < 0)
  let inn := decide (side < 0 ∧ p ≠ f0 ∨ 0 ≤ side ∧ p ≠ f0 + f1)
  (if left then f0 + pos_each.sh l i else f0 + pos_each.sh l i + f2, decide (f1 ≠ 0 ∧ p ≠ f0 ∧ p ≠ f0 + f1), if inn then (i : Int) else -1, if inn then p - f0 else 0, 0)
def V (l : List S37) (p side : Int) : Nat → Nat → Int × Bool × Int × Int × Int
  | 0, i => (p + pos_each.sh l i, false, -1, 0, 0)
  | m + 1, i =>
    if p < (rd_T37 l (i : Int)).f0 then (p + pos_each.sh l i, false, -1, 0, 0)
    else if p ≤ (rd_T37 l (i : Int)).f0 + (rd_T37 l (i : Int)).f1 then S l p side i
    else V l p side m (i + 1)
def M (l : List S37) (p side : Int) : Int × Bool × Int × Int × Int :=
  if pos_Right.okB l = true then (if p < 0 then (0, false, 0, 0, 1) else if p > 65536 then (0, false, 0, 0, 1) else V l p side l.length 0) else (0, false, 0, 0, 4)

/-! ### The program's -/
theorem spot_eq (l : List S37) (hok : pos_each.Ok l) (p side : Int) (i : Nat) (hi : i < l.length) : pos_Map.spot l p side ⟨i, hi⟩ = S l p side i := by
  have h4 := hok.1
  have hg := hok.get (i : Int) (by omega)
  have hb := pos_each.sh_bound hok i (by omega)
  unfold pos_Map.spot S pos_each.beg
  dsimp only
  generalize (rd_T37 l (i : Int)).f0 = f0 at *
  generalize (rd_T37 l (i : Int)).f1 = f1 at *
  generalize (rd_T37 l (i : Int)).f2 = f2 at *
  generalize pos_each.sh l i = d at *
  unfold pos_within.f
  rw [w64 (i := f0 + d + f2) (by omega), w64 (i := f0 + f1) (by omega)]
  by_cases c1 : f1 = 0 <;> by_cases c2 : p = f0 <;> by_cases c3 : p = f0 + f1 <;> by_cases c4 : side < 0 <;>
    first
    | (exfalso; omega)
    | simp [c1, c2, c3, c4, show (0 ≤ side) ↔ ¬ side < 0 by omega, show f0 + f1 = f0 ↔ f1 = 0 by omega, show f0 = f0 + f1 ↔ f1 = 0 by omega]
theorem run_eq (l : List S37) (hok : pos_each.Ok l) (p side : Int) : ∀ (m i : Nat), i + m = l.length → pos_Map.run l p side ((List.finRange l.length).drop i) (p + pos_each.sh l i) = V l p side m i
  | 0, i, h => by
    rw [List.drop_of_length_le (by simp; omega)]
    rfl
  | m + 1, i, h => by
    have hi : i < l.length := by omega
    rw [List.drop_eq_getElem_cons (by simpa using hi), List.getElem_finRange]
    have hs := pos_each.sh_succ l (i : Int) (by omega)
    rw [Int.toNat_natCast] at hs
    unfold pos_Map.run V
    dsimp only [Fin.cast, Fin.val_mk]
    by_cases c1 : p < (rd_T37 l (i : Int)).f0
    · rw [if_pos c1, if_pos c1]
    rw [if_neg c1, if_neg c1]
    by_cases c2 : p ≤ (rd_T37 l (i : Int)).f0 + (rd_T37 l (i : Int)).f1
    · rw [if_pos c2, if_pos c2]
      exact spot_eq l hok p side i hi
    rw [if_neg c2, if_neg c2, ← run_eq l hok p side m (i + 1) (by omega)]
    congr 1
    unfold pos_each.beg
    omega
theorem map_f (l : List S37) (hs : l.length ≤ 9223372036854775807) (p side : Int) (k : Nat) (h : l.length + 2 ≤ k) : pos_Map.f k l p side = some (M l p side) := by
  unfold pos_Map.f M
  rw [right_f l hs k h, Option.bind_some]
  by_cases hr : pos_Right.okB l = true
  · rw [if_pos hr, if_pos hr]
    by_cases c1 : p < 0
    · rw [if_pos c1, if_pos c1]
    rw [if_neg c1, if_neg c1]
    by_cases c2 : p > 65536
    · rw [if_pos c2, if_pos c2]
    rw [if_neg c2, if_neg c2]
    have := run_eq l (pos_Right.ok_of hr) p side l.length 0 (by omega)
    rw [pos_each.sh_zero, Int.add_zero, List.drop_zero] at this
    rw [this]
  · rw [if_neg hr, if_neg hr]

end Go.Proofs.Ytcoolajjjnkfpaa.PosB
