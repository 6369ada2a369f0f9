/- A map turned round, and a place recovered: one closed form for the program and for the document's answer. -/
import Derived.Test.YtlngjgcodknpiaaPSlx0
import Derived.Test.YtlngjgcodknpiaaPSlx10
import Derived.Test.YtlngjgcodknpiaaPSlx11
import Derived.Test.YtlngjgcodknpiaaPSlx18
import Derived.Test.YtlngjgcodknpiaaPSlx19
import Derived.Test.YtlngjgcodknpiaaPosAl
namespace Go.Proofs.Ytlngjgcodknpiaa.PosE
open Go.RowKit Go.Proofs.YtlngjgcodknpiaaW.PrintWords Go.Proofs.YtlngjgcodknpiaaW.PrintMore
open Go.Proofs.Ytlngjgcodknpiaa Go.Proofs.Ytlngjgcodknpiaa.PSl Go.Proofs.Ytlngjgcodknpiaa.PosA
set_option linter.unusedSimpArgs false

/-- The map turned round. -/
def T (l : List S51) : List S51 := pos_Invert.run l (List.finRange l.length)
theorem run_map (zs : List S51) : ∀ xs : List (Fin zs.length), pos_Invert.run zs xs = xs.map (fun x => (⟨pos_each.beg zs x.val, (rd_T51 zs ((x.val : Nat) : Int)).f2, (rd_T51 zs ((x.val : Nat) : Int)).f1⟩ : S51))
  | [] => rfl
  | x :: xs => by rw [pos_Invert.run, run_map zs xs, List.map_cons]
theorem T_length (l : List S51) : (T l).length = l.length := by unfold T; rw [run_map]; simp
theorem T_get (l : List S51) (i : Nat) (h : i < l.length) : rd_T51 (T l) (i : Int) = ⟨pos_each.beg l i, (rd_T51 l (i : Int)).f2, (rd_T51 l (i : Int)).f1⟩ := by
  rw [rd_get (T l) i (by rw [T_length]; exact h)]
  unfold T
  simp [run_map]
theorem sh_T (l : List S51) : ∀ i : Nat, i ≤ l.length → pos_each.sh (T l) i = - pos_each.sh l i
  | 0, _ => by rw [pos_each.sh_zero, pos_each.sh_zero]; rfl
  | i + 1, h => by
    have h1 := pos_each.sh_succ (T l) (i : Int) (by rw [T_length]; omega)
    have h2 := pos_each.sh_succ l (i : Int) (by omega)
    rw [Int.toNat_natCast] at h1 h2
    rw [h1, h2, sh_T l i (by omega), T_get l i (by omega)]
    dsimp only
    omega
theorem T_T (l : List S51) : T (T l) = l := by
  refine List.ext_getElem (by rw [T_length, T_length]) fun i h1 h2 => ?_
  have h3 : i < (T l).length := by rw [T_length]; exact h2
  rw [← rd_get (T (T l)) i h1, ← rd_get l i h2, T_get (T l) i h3, T_get l i h2]
  have e : pos_each.beg (T l) i = (rd_T51 l (i : Int)).f0 := by
    unfold pos_each.beg
    rw [T_get l i h2, sh_T l i (by omega)]
    unfold pos_each.beg
    dsimp only
    omega
  rw [e]
/-- What Invert answers. -/
def I (l : List S51) : List S51 × Int := if pos_Right.okB l = true then (if pos_Right.okB (T l) = true then (T l, 0) else ([], 4)) else ([], 4)
theorem invert_f (l : List S51) (hs : l.length ≤ 4611686018427387904) (k : Nat) (h : l.length + 2 ≤ k) : pos_Invert.f k l = some (I l) := by
  unfold pos_Invert.f I
  rw [right_f l hs k h, Option.bind_some]
  by_cases c : pos_Right.okB l = true
  · rw [if_pos c, if_pos c]
    change (pos_Right.f k (T l)).bind _ = _
    rw [right_f (T l) (by rw [T_length]; exact hs) k (by rw [T_length]; exact h), Option.bind_some]
    by_cases c2 : pos_Right.okB (T l) = true
    · rw [if_pos c2, if_pos c2]; rfl
    · rw [if_neg c2, if_neg c2]
  · rw [if_neg c, if_neg c]
/-- What Recover answers. -/
def R (l : List S51) (a b : Int) : Int × Int :=
  if pos_Right.okB l = true then (if 0 ≤ a ∧ a < l.length ∧ 0 ≤ b ∧ b ≤ (rd_T51 l a).f2 then ((rd_T51 l a).f0 + pos_each.sh l a.toNat + b, 0) else (0, 1)) else (0, 4)
theorem ranges_l0 (l : List S51) (hs : l.length ≤ 4611686018427387904) : ∀ (k i : Nat), i ≤ l.length → l.length - i < k → emenderlaw09_ranges.l0 k l l (i : Int) = some true
  | 0, _, _, h => by omega
  | k + 1, i, hi, hk => by
    unfold emenderlaw09_ranges.l0
    by_cases hlt : i < l.length
    · rw [if_pos (by omega), if_pos (by omega), if_pos (by omega), if_neg (by simp), w64 (by omega)]
      exact ranges_l0 l hs k (i + 1) hlt (by omega)
    · rw [if_neg (by omega)]
theorem ranges_f (l : List S51) (hs : l.length ≤ 4611686018427387904) (k : Nat) (h : l.length < k) : emenderlaw09_ranges.f k l l = some true := by
  unfold emenderlaw09_ranges.f
  rw [if_pos rfl]
  exact ranges_l0 l hs k 0 (by omega) (by omega)
theorem I_length (l : List S51) : (I l).1.length ≤ l.length := by
  unfold I
  split
  · split
    · rw [T_length]; exact Nat.le_refl _
    · simp
  · simp

end Go.Proofs.Ytlngjgcodknpiaa.PosE
