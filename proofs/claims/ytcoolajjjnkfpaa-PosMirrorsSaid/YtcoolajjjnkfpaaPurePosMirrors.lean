/- PosMirrors: through a map and, as its mirror, the map turned round, each place comes to itself; for every range within the law's bounds, every place and side. -/
import Derived.Test.YtcoolajjjnkfpaaGPosMirrors
import Derived.Test.YtcoolajjjnkfpaaPosBd
import Derived.Test.YtcoolajjjnkfpaaPosEd
namespace Go.Proofs.Ytcoolajjjnkfpaa.Pure
open Go.RowKit Go.Proofs.YtcoolajjjnkfpaaW.PrintWords Go.Proofs.YtcoolajjjnkfpaaW.PrintMore
set_option linter.unusedVariables false
set_option linter.unusedSimpArgs false
open Go.Proofs.Ytcoolajjjnkfpaa Go.Proofs.Ytcoolajjjnkfpaa.PPd Go.Proofs.Ytcoolajjjnkfpaa.PosA Go.Proofs.Ytcoolajjjnkfpaa.PosB Go.Proofs.Ytcoolajjjnkfpaa.PosE

theorem mirs_awake (k : Nat) (h : 10 ≤ k) : emenderlaw08_awake.f k = some true := by
  unfold emenderlaw08_awake.f
  rw [map_f _ (by decide) 5 1 _ (by simp; omega), Option.bind_some]
  have e : M [(⟨1, 0, 2⟩ : S37)] 5 1 = (7, false, -1, 0, 0) := by decide
  rw [e]
  rfl
theorem T_one (a o n : Int) : T [(⟨a, o, n⟩ : S37)] = [⟨a, n, o⟩] := by
  show [(⟨a + 0, n, o⟩ : S37)] = _
  rw [Int.add_zero]
theorem ok_one {a o n : Int} (h : pos_Right.okB [(⟨a, o, n⟩ : S37)] = true) : 0 ≤ a ∧ 0 ≤ o ∧ 0 ≤ n := by
  unfold pos_Right.okB at h
  have h1 := (Bool.and_eq_true _ _ ▸ h).1
  have := pos_Right.okL_mem [(⟨a, o, n⟩ : S37)] 0 (Int.le_refl 0) h1 ⟨a, o, n⟩ (by simp)
  dsimp only at this
  omega
theorem M_one (a o n p side : Int) (hok : pos_Right.okB [(⟨a, o, n⟩ : S37)] = true) (h0 : 0 ≤ p) (h1 : p ≤ 65536) :
    M [(⟨a, o, n⟩ : S37)] p side = if p < a then (p, false, -1, 0, 0) else if p ≤ a + o then
      (if (if o = 0 then decide (side < 0) else if p = a then true else if p = a + o then false else decide (side < 0)) = true then a else a + n, decide (o ≠ 0 ∧ p ≠ a ∧ p ≠ a + o),
        if decide (side < 0 ∧ p ≠ a ∨ 0 ≤ side ∧ p ≠ a + o) = true then 0 else -1, if decide (side < 0 ∧ p ≠ a ∨ 0 ≤ side ∧ p ≠ a + o) = true then p - a else 0, 0)
      else (p + (n - o), false, -1, 0, 0) := by
  have e0 : rd_T37 [(⟨a, o, n⟩ : S37)] ((0 : Nat) : Int) = ⟨a, o, n⟩ := rfl
  have e1 : pos_each.sh [(⟨a, o, n⟩ : S37)] 0 = 0 := rfl
  have e2 : pos_each.sh [(⟨a, o, n⟩ : S37)] 1 = n - o := by show n - o + 0 = _; omega
  unfold M
  rw [if_pos hok, if_neg (by omega), if_neg (by omega)]
  show V _ p side 1 0 = _
  unfold V
  unfold V
  unfold S
  simp only [e0, e1, e2, Int.add_zero, Nat.zero_add]
  rfl
theorem mirs_end (K : Nat) (L : List MapOne) (side p : Int) (hL : L.length = 2) (h1 : p ≤ 65536) : pos_MMap.l K L side 1 2 p false = some (p, false, -1, 0, 0) := by
  rw [pos_MMap.l, if_neg (by omega), if_neg (by omega)]
theorem mirs_back (K : Nat) (hK : 10 ≤ K) (a o n p q side : Int) (hb : pos_Right.okB [(⟨a, n, o⟩ : S37)] = true) (r : List S37) (h0 : 0 ≤ q) (h1 : q ≤ 65536) (hp : p ≤ 65536) (hM : M [(⟨a, n, o⟩ : S37)] q side = (p, false, -1, 0, 0)) :
    pos_MMap.l K [⟨r, 1⟩, ⟨[(⟨a, n, o⟩ : S37)], 0⟩] side 2 1 q false = some (p, false, -1, 0, 0) := by
  rw [pos_MMap.l, if_pos (by simp)]
  show (pos_Map.f K [(⟨a, n, o⟩ : S37)] q side).bind _ = _
  rw [map_f _ (by simp) q side K (by simp; omega), hM, Option.bind_some, if_pos rfl, if_neg (by unfold pos_MMap.mir; simp)]
  exact mirs_end K _ side p rfl hp
theorem mirs_map (K : Nat) (hK : 10 ≤ K) (a o n p side : Int) (hr : pos_Right.okB [(⟨a, o, n⟩ : S37)] = true) (hb : pos_Right.okB [(⟨a, n, o⟩ : S37)] = true) (h0 : 0 ≤ p) (h1 : p ≤ 30000) (ha : a ≤ 10000) (ho : o ≤ 10000) (hn : n ≤ 10000) :
    pos_MMap.f K [⟨[(⟨a, o, n⟩ : S37)], 1⟩, ⟨[(⟨a, n, o⟩ : S37)], 0⟩] 0 p side = some (p, false, -1, 0, 0) := by
  obtain ⟨b0, b1, b2⟩ := ok_one hr
  unfold pos_MMap.f
  rw [if_neg (by unfold pos_MMap.bad; simp only [Bool.or_eq_true, decide_eq_true_eq, List.length_cons, List.length_nil]; omega)]
  show pos_MMap.l K _ side 3 0 p false = _
  rw [pos_MMap.l, if_pos (by simp)]
  show (pos_Map.f K [(⟨a, o, n⟩ : S37)] p side).bind _ = _
  rw [map_f _ (by simp) p side K (by simp; omega), Option.bind_some, M_one a o n p side hr h0 (by omega)]
  by_cases c1 : p < a
  · rw [if_pos c1]
    rw [if_pos rfl, if_neg (by unfold pos_MMap.mir; simp)]
    exact mirs_back K hK a o n p p side hb _ h0 (by omega) (by omega) (by rw [M_one a n o p side hb h0 (by omega), if_pos c1])
  rw [if_neg c1]
  by_cases c2 : p ≤ a + o
  · rw [if_pos c2]
    by_cases c3 : side < 0 ∧ p ≠ a ∨ 0 ≤ side ∧ p ≠ a + o
    · rw [if_pos rfl, if_pos (by unfold pos_MMap.mir; simp only [decide_eq_true c3]; simp [oneAt])]
      simp only [decide_eq_true c3, if_true]
      show (pos_Recover.f K [(⟨a, n, o⟩ : S37)] 0 (if o < p - a then o else p - a)).bind _ = _
      rw [if_neg (by omega), recover_f _ (by simp) 0 (p - a) K (by simp; omega)]
      unfold R
      rw [if_pos hb, if_pos ⟨by omega, by simp, by omega, by show p - a ≤ o; omega⟩, Option.bind_some]
      show pos_MMap.l K _ side 2 2 (a + 0 + (p - a)) false = _
      rw [show a + 0 + (p - a) = p by omega, pos_MMap.l, if_neg (by simp), if_neg (by omega)]
    · rw [if_pos rfl, if_neg (by unfold pos_MMap.mir; simp only [decide_eq_false c3]; simp)]
      simp only
      have hg : decide (o ≠ 0 ∧ p ≠ a ∧ p ≠ a + o) = false := decide_eq_false (by omega)
      rw [hg]
      show pos_MMap.l K _ side 2 1 _ false = _
      by_cases cs : side < 0
      · obtain rfl : p = a := by omega
        rw [if_pos (by simp [cs])]
        exact mirs_back K hK p o n p p side hb _ h0 (by omega) (by omega) (by
          rw [M_one p n o p side hb h0 (by omega), if_neg (by omega), if_pos (by omega), if_pos (by simp [cs]), decide_eq_false (show ¬ (n ≠ 0 ∧ p ≠ p ∧ p ≠ p + n) by omega), decide_eq_false (show ¬ (side < 0 ∧ p ≠ p ∨ 0 ≤ side ∧ p ≠ p + n) by omega)]
          rfl)
      · obtain rfl : p = a + o := by omega
        rw [if_neg (by
          by_cases co : o = 0
          · simp [co, cs]
          · rw [if_neg co, if_neg (by omega)]; simp)]
        exact mirs_back K hK a o n (a + o) (a + n) side hb _ (by omega) (by omega) (by omega) (by
          rw [M_one a n o (a + n) side hb (by omega) (by omega), if_neg (by omega), if_pos (by omega), if_neg, decide_eq_false (show ¬ (n ≠ 0 ∧ a + n ≠ a ∧ a + n ≠ a + n) by omega), decide_eq_false (show ¬ (side < 0 ∧ a + n ≠ a ∨ 0 ≤ side ∧ a + n ≠ a + n) by omega)]
          · rfl
          · by_cases cn : n = 0
            · simp [cn, cs]
            · rw [if_neg cn, if_neg (by omega)]; simp)
  · rw [if_neg c2, if_pos rfl, if_neg (by unfold pos_MMap.mir; simp)]
    show pos_MMap.l K _ side 2 1 _ false = _
    exact mirs_back K hK a o n p (p + (n - o)) side hb _ (by omega) (by omega) (by omega) (by
      rw [M_one a n o _ side hb (by omega) (by omega), if_neg (by omega), if_neg (by omega), show p + (n - o) + (o - n) = p by omega])
theorem PosMirrors : emenderlaw08_PosMirrors.Pure := by
  intro a o n p side _ _ _ _ _
  refine ⟨100, ?_⟩
  unfold emenderlaw08_PosMirrors.f
  rw [mirs_awake 100 (by omega), Option.bind_some, invert_f _ (by simp) 100 (by simp), Option.bind_some]
  by_cases cb : emenderlaw08_PosMirrors.bad (I [(⟨a, o, n⟩ : S37)]).2 a o n p = true
  · rw [if_pos cb]
  · rw [if_neg cb]
    unfold emenderlaw08_PosMirrors.bad I at cb
    rw [T_one] at cb
    unfold I
    rw [T_one]
    simp only [Bool.or_eq_true, bne_iff_ne, decide_eq_true_eq, not_or] at cb
    obtain ⟨c0, c1, c2, c3, c4, c5⟩ := cb
    by_cases hr : pos_Right.okB [(⟨a, o, n⟩ : S37)] = true
    · by_cases hb : pos_Right.okB [(⟨a, n, o⟩ : S37)] = true
      · rw [if_pos hr, if_pos hb, if_pos ⟨by rw [right_f _ (by simp) 100 (by simp), hr], by rw [right_f _ (by simp) 100 (by simp), hb], by simp, mirs_map 100 (by omega) a o n p side hr hb (by omega) (by omega) (by omega) (by omega) (by omega)⟩]
      · rw [if_pos hr, if_neg hb] at c0
        exact absurd (by decide) c0
    · rw [if_neg hr] at c0
      exact absurd (by decide) c0

end Go.Proofs.Ytcoolajjjnkfpaa.Pure
