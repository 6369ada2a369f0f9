/- A map turned round, and a place recovered: one closed form for the program and for the document's answer. -/
import Derived.Test.YtcoolajjjnkfpaaPPdx0
import Derived.Test.YtcoolajjjnkfpaaPPdx1
import Derived.Test.YtcoolajjjnkfpaaPPdx14
import Derived.Test.YtcoolajjjnkfpaaPPdx2
import Derived.Test.YtcoolajjjnkfpaaPPdx6
import Derived.Test.YtcoolajjjnkfpaaPPdx9
import Derived.Test.YtcoolajjjnkfpaaPosAd
namespace Go.Proofs.Ytcoolajjjnkfpaa.PosE
open Go.RowKit Go.Proofs.YtcoolajjjnkfpaaW.PrintWords Go.Proofs.YtcoolajjjnkfpaaW.PrintMore
open Go.Proofs.Ytcoolajjjnkfpaa Go.Proofs.Ytcoolajjjnkfpaa.PPd Go.Proofs.Ytcoolajjjnkfpaa.PosA
set_option linter.unusedSimpArgs false

/-- The map turned round. -/
def T (l : List S37) : List S37 := pos_Invert.run l (List.finRange l.length)
theorem run_map (zs : List S37) : ∀ xs : List (Fin zs.length), pos_Invert.run zs xs = xs.map (fun x => (⟨pos_each.beg zs x.val, (rd_T37 zs ((x.val : Nat) : Int)).f2, (rd_T37 zs ((x.val : Nat) : Int)).f1⟩ : S37))
  | [] => rfl
  | x :: xs => by rw [pos_Invert.run, run_map zs xs, List.map_cons]
theorem T_length (l : List S37) : (T l).length = l.length := by unfold T; rw [run_map]; simp
theorem T_get (l : List S37) (i : Nat) (h : i < l.length) : rd_T37 (T l) (i : Int) = ⟨pos_each.beg l i, (rd_T37 l (i : Int)).f2, (rd_T37 l (i : Int)).f1⟩ := by
  rw [rd_get (T l) i (by rw [T_length]; exact h)]
  unfold T
  simp [run_map]
theorem sh_T (l : List S37) : ∀ i : Nat, i ≤ l.length → pos_each.sh (T l) i = - pos_each.sh l i
  | 0, _ => by rw [pos_each.sh_zero, pos_each.sh_zero]; rfl
  | i + 1, h => by
    have h1 := pos_each.sh_succ (T l) (i : Int) (by rw [T_length]; omega)
    have h2 := pos_each.sh_succ l (i : Int) (by omega)
    rw [Int.toNat_natCast] at h1 h2
    rw [h1, h2, sh_T l i (by omega), T_get l i (by omega)]
    dsimp only
    omega
theorem T_T (l : List S37) : T (T l) = l := by
  refine List.ext_getElem (by rw [T_length, T_length]) fun i h1 h2 => ?_
  have h3 : i < (T l).length := by rw [T_length]; exact h2
  rw [← rd_get (T (T l)) i h1, ← rd_get l i h2, T_get (T l) i h3, T_get l i h2]
  have e : pos_each.beg (T l) i = (rd_T37 l (i : Int)).f0 := by
    unfold pos_each.beg
    rw [T_get l i h2, sh_T l i (by omega)]
    unfold pos_each.beg
    dsimp only
    omega
  rw [e]
/-- What Invert answers. -/
def I (l : List S37) : List S37 × Int := if pos_Right.okB l = true then (if pos_Right.okB (T l) = true then (T l, 0) else ([], 4)) else ([], 4)
theorem invert_f (l : List S37) (hs : l.length ≤ 9223372036854775807) (k : Nat) (h : l.length + 2 ≤ k) : pos_Invert.f k l = some (I l) := by
  unfold pos_Invert.f I
  rw [right_f l hs k h, Option.bind_some]
  by_cases c : pos_Right.okB l = true
  · rw [if_pos c, if_pos c]
    change (pos_Right.f k (T l)).bind _ = _
    rw [right_f (T l) (by rw [T_length]; exact hs) k (by rw [T_length]; exact h), Option.bind_some]
    by_cases c2 : pos_Right.okB (T l) = true
    · rw [if_pos c2, if_pos c2]; rfl
    · rw [if_neg c2, if_neg c2]
  · rw [if_neg c, if_neg c]
/-- What Recover answers. -/
def R (l : List S37) (a b : Int) : Int × Int :=
  if pos_Right.okB l = true then (if 0 ≤ a ∧ a < l.length ∧ 0 ≤ b ∧ b ≤ (rd_T37 l a).f2 then ((rd_T37 l a).f0 + pos_each.sh l a.toNat + b, 0) else (0, 1)) else (0, 4)
theorem recover_run (l : List S37) (a b : Int) : ∀ (m i : Nat), i + m = l.length → pos_Recover.run l a b ((List.finRange l.length).drop i) = if (i : Int) ≤ a ∧ a < l.length ∧ 0 ≤ b ∧ b ≤ (rd_T37 l a).f2 then ((rd_T37 l a).f0 + pos_each.sh l a.toNat + b, 0) else (0, 1)
  | 0, i, h => by
    rw [List.drop_of_length_le (by simp; omega), if_neg (by omega)]
    rfl
  | m + 1, i, h => by
    have hi : i < l.length := by omega
    rw [List.drop_eq_getElem_cons (by simpa using hi), List.getElem_finRange]
    unfold pos_Recover.run
    dsimp only [Fin.cast, Fin.val_mk]
    rw [recover_run l a b m (i + 1) (by omega)]
    by_cases e : (i : Int) = a
    · subst e
      rw [Int.toNat_natCast]
      by_cases c : 0 ≤ b ∧ b ≤ (rd_T37 l (i : Int)).f2
      · rw [if_pos ⟨rfl, c.1, c.2⟩, if_pos ⟨by omega, by omega, c.1, c.2⟩]
        rfl
      · rw [if_neg (by omega), if_neg (by omega), if_neg (by omega)]
    · rw [if_neg (by omega)]
      by_cases c : (i : Int) ≤ a ∧ a < l.length ∧ 0 ≤ b ∧ b ≤ (rd_T37 l a).f2
      · rw [if_pos c, if_pos (by omega)]
      · rw [if_neg c, if_neg (by omega)]
theorem recover_f (l : List S37) (hs : l.length ≤ 9223372036854775807) (a b : Int) (k : Nat) (h : l.length + 2 ≤ k) : pos_Recover.f k l a b = some (R l a b) := by
  unfold pos_Recover.f R
  rw [right_f l hs k h, Option.bind_some]
  by_cases c : pos_Right.okB l = true
  · rw [if_pos c, if_pos c]
    have := recover_run l a b l.length 0 (by omega)
    rw [List.drop_zero] at this
    rw [this]
    rfl
  · rw [if_neg c, if_neg c]
theorem refRecover_f (l : List S37) (a b : Int) (k : Nat) (h : l.length + 5 ≤ k) : emenderref08_Recover.f k l a b = some (R l a b) := by
  unfold emenderref08_Recover.f R
  rw [refRight_f l k (by omega), Option.bind_some]
  by_cases c : pos_Right.okB l = true
  · have hok := pos_Right.ok_of c
    have h4 := hok.1
    rw [if_pos c, if_pos c]
    by_cases c1 : a < 0
    · rw [if_pos c1, if_neg (by omega)]
    rw [if_neg c1]
    by_cases c2 : a ≥ (l.length : Int)
    · rw [if_pos c2, if_neg (by omega)]
    rw [if_neg c2]
    by_cases c3 : b < 0
    · rw [if_pos c3, if_neg (by omega)]
    rw [if_neg c3, if_pos (by omega), if_pos (by omega)]
    by_cases c4 : b > (rd_T37 l a).f2
    · rw [if_pos c4, if_neg (by omega)]
    rw [if_neg c4, if_pos (by omega)]
    obtain ⟨n, rfl⟩ : ∃ n : Nat, a = (n : Int) := ⟨a.toNat, by omega⟩
    have hb := pos_each.sh_bound hok n (by omega)
    have hg := hok.get (n : Int) (by omega)
    rw [shift_f l hok n (by omega) k (by omega), Option.bind_some, Int.toNat_natCast, w64 (i := (rd_T37 l (n : Int)).f0 + _) (by omega), w64 (by omega)]
  · rw [if_neg c, if_neg c]
theorem I_length (l : List S37) : (I l).1.length ≤ l.length := by
  unfold I
  split
  · split
    · rw [T_length]; exact Nat.le_refl _
    · simp
  · simp

end Go.Proofs.Ytcoolajjjnkfpaa.PosE
