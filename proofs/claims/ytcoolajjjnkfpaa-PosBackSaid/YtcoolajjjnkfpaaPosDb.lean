/- The order of places through a map. -/
import Derived.Test.YtcoolajjjnkfpaaPPbx0
import Derived.Test.YtcoolajjjnkfpaaPPbx3
import Derived.Test.YtcoolajjjnkfpaaPosBb
namespace Go.Proofs.Ytcoolajjjnkfpaa.PosD
open Go.RowKit Go.Proofs.YtcoolajjjnkfpaaW.PrintWords Go.Proofs.YtcoolajjjnkfpaaW.PrintMore
open Go.Proofs.Ytcoolajjjnkfpaa Go.Proofs.Ytcoolajjjnkfpaa.PPb Go.Proofs.Ytcoolajjjnkfpaa.PosA Go.Proofs.Ytcoolajjjnkfpaa.PosB

theorem S_lo (l : List S37) (hok : pos_each.Ok l) (p side : Int) (i : Nat) (hi : i < l.length) : (rd_T37 l (i : Int)).f0 + pos_each.sh l i ≤ (S l p side i).1 ∧ (S l p side i).1 ≤ (rd_T37 l (i : Int)).f0 + pos_each.sh l i + (rd_T37 l (i : Int)).f2 := by
  have hg := hok.get (i : Int) (by omega)
  unfold S
  dsimp only
  split <;> omega
theorem S_mono (l : List S37) (hok : pos_each.Ok l) (p q side : Int) (i : Nat) (hi : i < l.length) (hpq : p ≤ q) (h1 : (rd_T37 l (i : Int)).f0 ≤ p) (h2 : q ≤ (rd_T37 l (i : Int)).f0 + (rd_T37 l (i : Int)).f1) : (S l p side i).1 ≤ (S l q side i).1 := by
  by_cases e : p = q
  · rw [e]; omega
  have hg := hok.get (i : Int) (by omega)
  unfold S
  dsimp only
  generalize (rd_T37 l (i : Int)).f0 = f0 at *
  generalize (rd_T37 l (i : Int)).f1 = f1 at *
  generalize (rd_T37 l (i : Int)).f2 = f2 at *
  rw [if_neg (show ¬ f1 = 0 by omega), if_neg (show ¬ f1 = 0 by omega), if_neg (show ¬ p = f0 + f1 by omega), if_neg (show ¬ q = f0 by omega)]
  by_cases c1 : p = f0
  · rw [if_pos c1, if_pos rfl]
    split <;> omega
  rw [if_neg c1]
  by_cases c2 : q = f0 + f1
  · rw [if_pos c2]
    by_cases c3 : side < 0
    · rw [decide_eq_true c3]; simp; omega
    · rw [decide_eq_false c3]; simp
  · rw [if_neg c2]; omega
theorem V_lo (l : List S37) (hok : pos_each.Ok l) (hs : pos_Right.okL 0 l = true) (q side E : Int) : ∀ (m i : Nat), i + m = l.length → E ≤ q → (∀ j : Nat, i ≤ j → j < l.length → E ≤ (rd_T37 l (j : Int)).f0) → E + pos_each.sh l i ≤ (V l q side m i).1
  | 0, i, _, hq, _ => by unfold V; dsimp only; omega
  | m + 1, i, h, hq, hj => by
    have hi : i < l.length := by omega
    have hg := hok.get (i : Int) (by omega)
    have h0 := hj i (Nat.le_refl _) hi
    have hsc := pos_each.sh_succ l (i : Int) (by omega)
    rw [Int.toNat_natCast] at hsc
    unfold V
    by_cases c1 : q < (rd_T37 l (i : Int)).f0
    · rw [if_pos c1]; dsimp only; omega
    rw [if_neg c1]
    by_cases c2 : q ≤ (rd_T37 l (i : Int)).f0 + (rd_T37 l (i : Int)).f1
    · rw [if_pos c2]
      have := S_lo l hok q side i hi
      omega
    rw [if_neg c2]
    have := V_lo l hok hs q side ((rd_T37 l (i : Int)).f0 + (rd_T37 l (i : Int)).f1) m (i + 1) (by omega) (by omega) (fun j hij hjl => by
      have := (sorted l 0 hs i hi).2 j hjl (by omega)
      rwa [← rd_get l i hi, ← rd_get l j hjl] at this)
    omega
theorem V_mono (l : List S37) (hok : pos_each.Ok l) (hs : pos_Right.okL 0 l = true) (p q side : Int) (hpq : p ≤ q) : ∀ (m i : Nat), i + m = l.length → (V l p side m i).1 ≤ (V l q side m i).1
  | 0, i, _ => by unfold V; dsimp only; omega
  | m + 1, i, h => by
    have hi : i < l.length := by omega
    have hg := hok.get (i : Int) (by omega)
    have hsc := pos_each.sh_succ l (i : Int) (by omega)
    rw [Int.toNat_natCast] at hsc
    have hlo := fun hq : (rd_T37 l (i : Int)).f0 + (rd_T37 l (i : Int)).f1 ≤ q => V_lo l hok hs q side ((rd_T37 l (i : Int)).f0 + (rd_T37 l (i : Int)).f1) m (i + 1) (by omega) hq (fun j hij hjl => by
      have := (sorted l 0 hs i hi).2 j hjl (by omega)
      rwa [← rd_get l i hi, ← rd_get l j hjl] at this)
    have hSq := S_lo l hok q side i hi
    have hSp := S_lo l hok p side i hi
    have ih := V_mono l hok hs p q side hpq m (i + 1) (by omega)
    unfold V
    by_cases c1 : q < (rd_T37 l (i : Int)).f0
    · rw [if_pos c1, if_pos (by omega)]; dsimp only; omega
    rw [if_neg c1]
    by_cases c2 : q ≤ (rd_T37 l (i : Int)).f0 + (rd_T37 l (i : Int)).f1
    · rw [if_pos c2]
      by_cases c3 : p < (rd_T37 l (i : Int)).f0
      · rw [if_pos c3]; dsimp only; omega
      rw [if_neg c3, if_pos (by omega)]
      exact S_mono l hok p q side i hi hpq (by omega) c2
    rw [if_neg c2]
    have hl := hlo (by omega)
    by_cases c3 : p < (rd_T37 l (i : Int)).f0
    · rw [if_pos c3]; dsimp only; omega
    rw [if_neg c3]
    by_cases c4 : p ≤ (rd_T37 l (i : Int)).f0 + (rd_T37 l (i : Int)).f1
    · rw [if_pos c4]; omega
    rw [if_neg c4]
    exact ih
theorem V_side (l : List S37) (hok : pos_each.Ok l) (p : Int) : ∀ (m i : Nat), i + m = l.length → (V l p (-1) m i).1 ≤ (V l p 1 m i).1 ∧ (V l p (-1) m i).2.1 = (V l p 1 m i).2.1
  | 0, i, _ => by unfold V; exact ⟨Int.le_refl _, rfl⟩
  | m + 1, i, h => by
    have hi : i < l.length := by omega
    have hg := hok.get (i : Int) (by omega)
    have ih := V_side l hok p m (i + 1) (by omega)
    unfold V
    split
    · exact ⟨Int.le_refl _, rfl⟩
    split
    · unfold S
      dsimp only
      refine ⟨?_, rfl⟩
      rw [decide_eq_true (show (-1 : Int) < 0 by decide), decide_eq_false (show ¬ (1 : Int) < 0 by decide)]
      split <;> split <;> simp_all <;> (try split) <;> (try split) <;> (try simp) <;> omega
    · exact ih
theorem M_err (l : List S37) (p side : Int) : (M l p side).2.2.2.2 = if pos_Right.okB l = true then (if p < 0 then 1 else if p > 65536 then 1 else (V l p side l.length 0).2.2.2.2) else 4 := by
  unfold M
  split
  · split
    · rfl
    · split <;> rfl
  · rfl
theorem V_err (l : List S37) (p side : Int) : ∀ (m i : Nat), (V l p side m i).2.2.2.2 = 0
  | 0, i => rfl
  | m + 1, i => by
    unfold V
    split
    · rfl
    · split
      · rfl
      · exact V_err l p side m (i + 1)
theorem M_ok {l : List S37} {p side : Int} (h : (M l p side).2.2.2.2 = 0) : pos_Right.okB l = true ∧ 0 ≤ p ∧ p ≤ 65536 := by
  rw [M_err] at h
  split at h
  · rename_i hr
    refine ⟨hr, ?_⟩
    split at h
    · cases h
    · split at h
      · cases h
      · omega
  · cases h
theorem M_val {l : List S37} {p side : Int} (hr : pos_Right.okB l = true) (h0 : 0 ≤ p) (h1 : p ≤ 65536) : M l p side = V l p side l.length 0 := by
  unfold M
  rw [if_pos hr, if_neg (by omega), if_neg (by omega)]

end Go.Proofs.Ytcoolajjjnkfpaa.PosD
