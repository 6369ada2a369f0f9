/- A place through a map, as the document's answer has it. -/
import Derived.Test.YtcoolajjjnkfpaaPPdx0
import Derived.Test.YtcoolajjjnkfpaaPPdx12
import Derived.Test.YtcoolajjjnkfpaaPPdx13
import Derived.Test.YtcoolajjjnkfpaaPPdx2
import Derived.Test.YtcoolajjjnkfpaaPosBd
namespace Go.Proofs.Ytcoolajjjnkfpaa.PosC
open Go.RowKit Go.Proofs.YtcoolajjjnkfpaaW.PrintWords Go.Proofs.YtcoolajjjnkfpaaW.PrintMore
open Go.Proofs.Ytcoolajjjnkfpaa Go.Proofs.Ytcoolajjjnkfpaa.PPd Go.Proofs.Ytcoolajjjnkfpaa.PosA Go.Proofs.Ytcoolajjjnkfpaa.PosB
set_option linter.unusedSimpArgs false

theorem l1_eq (l : List S37) (hok : pos_each.Ok l) (p : Int) (hp : 0 ≤ p ∧ p ≤ 65536) (n : Nat) (hn : n ≤ l.length) (hlt : ∀ j : Nat, j < n → (rd_T37 l (j : Int)).f0 < p) (hge : n < l.length → ¬ (rd_T37 l (n : Int)).f0 < p) :
    ∀ (k j : Nat), j ≤ n → 2 * (n - j) + n + 3 ≤ k → emenderref08_Map.l1 k l p (j : Int) = some (p + pos_each.sh l n, false, -1, 0, 0)
  | 0, _, _, h => by omega
  | 1, _, _, h => by omega
  | k + 2, j, hj, hk => by
    have h4 := hok.1
    have hb := pos_each.sh_bound hok n hn
    have hsh := shift_f l hok n hn k (by omega)
    unfold emenderref08_Map.l1
    by_cases c : j < n
    · have k2 : 2 * (n - (j + 1)) + n + 3 ≤ k := by omega
      rw [if_pos (by omega), if_pos (by omega), decide_eq_true (hlt j c)]
      unfold emenderref08_Map.j12
      rw [if_pos rfl, w64 (by omega)]
      exact l1_eq l hok p hp n hn hlt hge k (j + 1) c k2
    · obtain rfl : j = n := by omega
      by_cases c2 : j < l.length
      · rw [if_pos (by omega), if_pos (by omega), decide_eq_false (hge c2)]
        unfold emenderref08_Map.j12
        rw [if_neg (by simp), hsh, Option.bind_some, w64 (by omega)]
      · rw [if_neg (by omega)]
        unfold emenderref08_Map.j12
        rw [if_neg (by simp), hsh, Option.bind_some, w64 (by omega)]
theorem skip (l : List S37) (hok : pos_each.Ok l) (p side : Int) (R : Int × Bool × Int × Int × Int) (K : Nat) (hK : ∀ k, K ≤ k → emenderref08_Map.l1 k l p 0 = some R) :
    ∀ (m i k : Nat), i + m = l.length → (∀ j : Nat, i ≤ j → j < l.length → p < (rd_T37 l (j : Int)).f0 ∨ p > (rd_T37 l (j : Int)).f0 + (rd_T37 l (j : Int)).f1) → 2 * m + 1 + K ≤ k → emenderref08_Map.l0 k l p side (i : Int) = some R
  | 0, i, k, h, _, hk => by
    obtain ⟨k, rfl⟩ : ∃ k', k = k' + 1 := ⟨k - 1, by omega⟩
    unfold emenderref08_Map.l0
    rw [if_neg (by omega)]
    exact hK k (by omega)
  | m + 1, i, k, h, hp, hk => by
    obtain ⟨k, rfl⟩ : ∃ k', k = k' + 2 := ⟨k - 2, by omega⟩
    have h4 := hok.1
    have hg := hok.get (i : Int) (by omega)
    unfold emenderref08_Map.l0
    rw [if_pos (by omega), if_pos (by omega), w64 (i := (rd_T37 l (i : Int)).f0 + (rd_T37 l (i : Int)).f1) (by omega)]
    have hi := hp i (Nat.le_refl _) (by omega)
    have ih := skip l hok p side R K hK m (i + 1) k (by omega) (fun j hj hl => hp j (by omega) hl) (by omega)
    by_cases c : p < (rd_T37 l (i : Int)).f0
    · rw [if_pos c]
      unfold emenderref08_Map.j2
      rw [if_pos rfl, w64 (by omega)]
      exact ih
    · rw [if_neg c, decide_eq_true (by omega)]
      unfold emenderref08_Map.j2
      rw [if_pos rfl, w64 (by omega)]
      exact ih
theorem j2_eq (l : List S37) (hok : pos_each.Ok l) (p side : Int) (hp : 0 ≤ p ∧ p ≤ 65536) (i : Nat) (hi : i < l.length) (h1 : ¬ p < (rd_T37 l (i : Int)).f0) (h2 : p ≤ (rd_T37 l (i : Int)).f0 + (rd_T37 l (i : Int)).f1) (k : Nat) (hk : i < k) :
    emenderref08_Map.j2 (k + 8) l p side (i : Int) ((rd_T37 l (i : Int)).f0 + (rd_T37 l (i : Int)).f1) false (rd_T37 l (i : Int)).f0 (rd_T37 l (i : Int)).f1 (rd_T37 l (i : Int)).f2 = some (S l p side i) := by
  have h4 := hok.1
  have hg := hok.get (i : Int) (by omega)
  have hb := pos_each.sh_bound hok i (by omega)
  have hsh : ∀ j, emenderref08_shift.f (k + j) l (i : Int) = some (pos_each.sh l i) := fun j => shift_f l hok i (by omega) _ (by omega)
  unfold S
  generalize (rd_T37 l (i : Int)).f0 = f0 at *
  generalize (rd_T37 l (i : Int)).f1 = f1 at *
  generalize (rd_T37 l (i : Int)).f2 = f2 at *
  generalize pos_each.sh l i = d at *
  have w1 : wrap64 (f0 + d) = f0 + d := w64 (by omega)
  have w2 : wrap64 (f0 + d + f2) = f0 + d + f2 := w64 (by omega)
  have w3 : wrap64 (p - f0) = p - f0 := w64 (by omega)
  have w0 : wrap64 0 = 0 := w64 (by omega)
  by_cases c1 : f1 = 0
  · have c2 : p = f0 := by omega
    subst c1 c2
    by_cases c4 : side < 0
    · simp [emenderref08_Map.j2, emenderref08_Map.j3, emenderref08_Map.j4, emenderref08_Map.j5, emenderref08_Map.j6, emenderref08_Map.j7, emenderref08_Map.j8, emenderref08_Map.j9, emenderref08_Map.j10, hsh, w0, w1, w2, w3, c4, show ¬ 0 ≤ side by omega]
    · simp [emenderref08_Map.j2, emenderref08_Map.j3, emenderref08_Map.j4, emenderref08_Map.j5, emenderref08_Map.j6, emenderref08_Map.j7, emenderref08_Map.j8, emenderref08_Map.j9, emenderref08_Map.j10, hsh, w0, w1, w2, w3, c4, show 0 ≤ side by omega]
  · have c0 : 0 < f1 := by omega
    by_cases c2 : p = f0
    · subst c2
      have q1 : ¬ p = p + f1 := by omega
      have q2 : p < p + f1 := by omega
      by_cases c4 : side < 0
      · simp [emenderref08_Map.j2, emenderref08_Map.j3, emenderref08_Map.j4, emenderref08_Map.j5, emenderref08_Map.j6, emenderref08_Map.j7, emenderref08_Map.j8, emenderref08_Map.j9, emenderref08_Map.j10, hsh, w0, w1, w2, w3, c4, c0, c1, q1, q2, show ¬ 0 ≤ side by omega]
      · simp [emenderref08_Map.j2, emenderref08_Map.j3, emenderref08_Map.j4, emenderref08_Map.j5, emenderref08_Map.j6, emenderref08_Map.j7, emenderref08_Map.j8, emenderref08_Map.j9, emenderref08_Map.j10, hsh, w0, w1, w2, w3, c4, c0, c1, q1, q2, show 0 ≤ side by omega]
    · have q0 : f0 < p := by omega
      by_cases c3 : p = f0 + f1
      · subst c3
        have q1 : ¬ f0 + f1 = f0 := by omega
        by_cases c4 : side < 0
        · simp [emenderref08_Map.j2, emenderref08_Map.j3, emenderref08_Map.j4, emenderref08_Map.j5, emenderref08_Map.j6, emenderref08_Map.j7, emenderref08_Map.j8, emenderref08_Map.j9, emenderref08_Map.j10, hsh, w0, w1, w2, w3, c4, c0, c1, q0, q1, show ¬ 0 ≤ side by omega]
        · simp [emenderref08_Map.j2, emenderref08_Map.j3, emenderref08_Map.j4, emenderref08_Map.j5, emenderref08_Map.j6, emenderref08_Map.j7, emenderref08_Map.j8, emenderref08_Map.j9, emenderref08_Map.j10, hsh, w0, w1, w2, w3, c4, c0, c1, q0, q1, show 0 ≤ side by omega]
      · have q2 : p < f0 + f1 := by omega
        by_cases c4 : side < 0
        · simp [emenderref08_Map.j2, emenderref08_Map.j3, emenderref08_Map.j4, emenderref08_Map.j5, emenderref08_Map.j6, emenderref08_Map.j7, emenderref08_Map.j8, emenderref08_Map.j9, emenderref08_Map.j10, hsh, w0, w1, w2, w3, c4, c0, c1, c2, c3, q0, q2, show ¬ 0 ≤ side by omega]
        · simp [emenderref08_Map.j2, emenderref08_Map.j3, emenderref08_Map.j4, emenderref08_Map.j5, emenderref08_Map.j6, emenderref08_Map.j7, emenderref08_Map.j8, emenderref08_Map.j9, emenderref08_Map.j10, hsh, w0, w1, w2, w3, c4, c0, c1, c2, c3, q0, q2, show 0 ≤ side by omega]
theorem l0_eq (l : List S37) (hr : pos_Right.okB l = true) (p side : Int) (hp : 0 ≤ p ∧ p ≤ 65536) :
    ∀ (m i k : Nat), i + m = l.length → (∀ j : Nat, j < i → (rd_T37 l (j : Int)).f0 < p) → 5 * l.length + 2 * m + 20 ≤ k → emenderref08_Map.l0 k l p side (i : Int) = some (V l p side m i)
  | 0, i, k, h, hp2, hk => by
    refine skip l (pos_Right.ok_of hr) p side _ (5 * l.length + 3) (fun k' hk' => ?_) 0 i k h (fun j _ _ => by omega) (by omega)
    exact l1_eq l (pos_Right.ok_of hr) p hp i (by omega) hp2 (fun _ => by omega) k' 0 (by omega) (by omega)
  | m + 1, i, k, h, hp2, hk => by
    have hok := pos_Right.ok_of hr
    have hs : pos_Right.okL 0 l = true := by unfold pos_Right.okB at hr; simp at hr; exact hr.1
    have h4 := hok.1
    have hi : i < l.length := by omega
    have hg := hok.get (i : Int) (by omega)
    unfold V
    by_cases c1 : p < (rd_T37 l (i : Int)).f0
    · rw [if_pos c1]
      refine skip l hok p side _ (5 * l.length + 3) (fun k' hk' => ?_) (m + 1) i k h (fun j hij hj => .inl ?_) (by omega)
      · exact l1_eq l hok p hp i (by omega) hp2 (fun _ => by omega) k' 0 (by omega) (by omega)
      · by_cases e : i = j
        · rw [← e]; exact c1
        · have := (sorted l 0 hs i hi).2 j hj (by omega)
          rw [← rd_get l i hi, ← rd_get l j hj] at this
          omega
    rw [if_neg c1]
    obtain ⟨k, rfl⟩ : ∃ k', k = k' + 9 := ⟨k - 9, by omega⟩
    unfold emenderref08_Map.l0
    rw [if_pos (by omega), if_pos (by omega), if_neg c1, w64 (i := (rd_T37 l (i : Int)).f0 + (rd_T37 l (i : Int)).f1) (by omega)]
    by_cases c2 : p ≤ (rd_T37 l (i : Int)).f0 + (rd_T37 l (i : Int)).f1
    · rw [if_pos c2, decide_eq_false (by omega)]
      exact j2_eq l hok p side hp i hi c1 c2 k (by omega)
    · rw [if_neg c2, decide_eq_true (by omega)]
      unfold emenderref08_Map.j2
      rw [if_pos rfl, w64 (by omega)]
      refine l0_eq l hr p side hp m (i + 1) (k + 7) (by omega) (fun j hj => ?_) (by omega)
      by_cases e : j = i
      · rw [e]; omega
      · exact hp2 j (by omega)
theorem refMap_f (l : List S37) (p side : Int) (k : Nat) (h : 10 * l.length + 40 ≤ k) : emenderref08_Map.f k l p side = some (M l p side) := by
  unfold emenderref08_Map.f M
  rw [refRight_f l k (by omega), Option.bind_some]
  by_cases hr : pos_Right.okB l = true
  · obtain ⟨k, rfl⟩ : ∃ k', k = k' + 1 := ⟨k - 1, by omega⟩
    rw [if_pos hr, if_pos hr]
    by_cases c1 : p < 0
    · rw [if_pos c1, if_pos c1]
      simp [emenderref08_Map.j0]
    rw [if_neg c1, if_neg c1]
    by_cases c2 : p > 65536
    · rw [if_pos c2, decide_eq_true c2]
      simp [emenderref08_Map.j0]
    rw [if_neg c2, decide_eq_false c2]
    rw [show emenderref08_Map.j0 (k + 1) l p side false = emenderref08_Map.l0 k l p side 0 by simp [emenderref08_Map.j0]]
    exact l0_eq l hr p side (by omega) l.length 0 k (by omega) (fun j hj => by omega) (by omega)
  · rw [if_neg hr, if_neg hr]

end Go.Proofs.Ytcoolajjjnkfpaa.PosC
