/- PosRows: any maps, one behind the other, with any mirrors, send any place where the document's answer sends it; for all maps, mirrors, places and sides. -/
import Derived.Test.YtcoolajjjnkfpaaGPosRows
import Derived.Test.YtcoolajjjnkfpaaPosBd
import Derived.Test.YtcoolajjjnkfpaaPosCd
import Derived.Test.YtcoolajjjnkfpaaPosEd
namespace Go.Proofs.Ytcoolajjjnkfpaa.Pure
open Go.RowKit Go.Proofs.YtcoolajjjnkfpaaW.PrintWords Go.Proofs.YtcoolajjjnkfpaaW.PrintMore
set_option linter.unusedVariables false
set_option linter.unusedSimpArgs false
open Go.Proofs.Ytcoolajjjnkfpaa Go.Proofs.Ytcoolajjjnkfpaa.PPd Go.Proofs.Ytcoolajjjnkfpaa.PosA Go.Proofs.Ytcoolajjjnkfpaa.PosB Go.Proofs.Ytcoolajjjnkfpaa.PosC Go.Proofs.Ytcoolajjjnkfpaa.PosE

theorem rows_far (l : List S37) (p side : Int) (h : 65536 < p) : (M l p side).2.2.2.2 ≠ 0 := by
  unfold M
  by_cases hr : pos_Right.okB l = true
  · rw [if_pos hr, if_neg (show ¬ p < 0 by omega), if_pos (show p > 65536 by omega)]
    decide
  · rw [if_neg hr]
    decide
/-- Both ways through maps end alike. -/
theorem rows_both (l : List MapOne) (side : Int) (K : Nat) (hK : ∀ i : Int, 10 * (oneAt l i).m.length + 40 ≤ K ∧ (oneAt l i).m.length ≤ 9223372036854775807) (hm : ∀ x ∈ l, x.mirror < (l.length : Int)) : ∀ (f : Nat) (i p : Int) (gone : Bool), 0 ≤ i → i ≤ (l.length : Int) → (l.length : Int) < i + f →
    ∃ r, pos_MMap.l K l side f i p gone = some r ∧ (p ≤ 65536 → ref_MMap.l K l side f i p gone = some r) ∧ (65536 < p → r = (0, false, 0, 0, 1))
  | 0, i, p, gone, h0, h1, h2 => by omega
  | f + 1, i, p, gone, h0, h1, h2 => by
    rw [pos_MMap.l, ref_MMap.l]
    by_cases c : i < (l.length : Int)
    · rw [if_pos c, if_pos c]
      have hk := hK i
      rw [map_f _ hk.2 p side K (by omega), refMap_f _ p side K (by omega), Option.bind_some, Option.bind_some]
      by_cases ce : (M (oneAt l i).m p side).2.2.2.2 = 0
      · have hp : p ≤ 65536 := by
          by_cases hp : p ≤ 65536
          · exact hp
          · exact absurd ce (rows_far _ p side (by omega))
        rw [if_pos ce, if_pos ce]
        by_cases cm : pos_MMap.mir l i (M (oneAt l i).m p side) = true
        · rw [if_pos cm, if_pos cm]
          have hk2 := hK (oneAt l i).mirror
          rw [recover_f _ hk2.2 _ _ K (by omega), refRecover_f _ _ _ K (by omega), Option.bind_some, Option.bind_some]
          have hj : i < (oneAt l i).mirror := by
            unfold pos_MMap.mir at cm
            simp only [Bool.and_eq_true, decide_eq_true_eq] at cm
            exact cm.2.1
          have hj2 := hm _ (oneAt_mem h0 c)
          generalize R _ _ _ = x
          obtain ⟨r, e1, e2, e3⟩ := rows_both l side K hK hm f ((oneAt l i).mirror + 1) x.1 gone (by omega) (by omega) (by omega)
          refine ⟨r, e1, fun _ => ?_, fun h => by omega⟩
          by_cases h : 65536 < x.1
          · rw [if_pos h, e3 h]
          · rw [if_neg h]
            exact e2 (by omega)
        · rw [if_neg cm, if_neg cm]
          obtain ⟨r, e1, e2, e3⟩ := rows_both l side K hK hm f (i + 1) (M (oneAt l i).m p side).1 (gone || (M (oneAt l i).m p side).2.1) (by omega) (by omega) (by omega)
          refine ⟨r, e1, fun _ => ?_, fun h => by omega⟩
          by_cases h : 65536 < (M (oneAt l i).m p side).1
          · rw [if_pos h, e3 h]
          · rw [if_neg h]
            exact e2 (by omega)
      · rw [if_neg ce, if_neg ce]
        exact ⟨_, rfl, fun _ => rfl, fun _ => rfl⟩
    · rw [if_neg c, if_neg c]
      by_cases hp : p > 65536
      · rw [if_pos hp]
        exact ⟨_, rfl, fun h => by omega, fun _ => rfl⟩
      · rw [if_neg hp]
        exact ⟨_, rfl, fun _ => rfl, fun h => by omega⟩
/-- What is known of the maps that were added. -/
def rows_good (n : Nat) (m : List MapOne) : Prop := m.length ≤ n ∧ ∀ x ∈ m, x.m.length ≤ 4 ∧ x.mirror < (m.length : Int)
theorem rows_good_add {n : Nat} {m : List MapOne} (h : rows_good n m) (r : List S37) : rows_good (n + 1) (pos_Add.l (pos_Right.okB r) m r) := by
  unfold pos_Add.l
  by_cases ho : pos_Add.ok (pos_Right.okB r) m = true
  · rw [if_pos ho]
    unfold pos_Add.ok pos_Right.okB at ho
    simp only [Bool.and_eq_true, decide_eq_true_eq] at ho
    refine ⟨by rw [List.length_append]; simp only [List.length_cons, List.length_nil]; have := h.1; omega, fun x hx => ?_⟩
    rw [List.length_append]
    simp only [List.length_cons, List.length_nil]
    rcases List.mem_append.1 hx with hx | hx
    · have := h.2 x hx
      exact ⟨this.1, by omega⟩
    · obtain rfl := List.mem_singleton.1 hx
      exact ⟨by show r.length ≤ 4; omega, by show (-1 : Int) < _; omega⟩
  · rw [if_neg ho]
    exact ⟨by have := h.1; omega, h.2⟩
theorem rows_good_all (l : List (List S37)) : ∀ n : Nat, rows_good n (emenderlaw08_PosRows.rows l n)
  | 0 => ⟨by simp [emenderlaw08_PosRows.rows], fun x hx => by simp [emenderlaw08_PosRows.rows] at hx⟩
  | n + 1 => by
    by_cases h : n < l.length
    · rw [emenderlaw08_PosRows.rows_succ l n h]
      exact rows_good_add (rows_good_all l n) _
    · have e : emenderlaw08_PosRows.rows l (n + 1) = emenderlaw08_PosRows.rows l n := by
        unfold emenderlaw08_PosRows.rows
        rw [List.take_of_length_le (by omega), List.take_of_length_le (by omega)]
      rw [e]
      have := rows_good_all l n
      exact ⟨by have := this.1; omega, this.2⟩
theorem rows_good_set {n : Nat} {m : List MapOne} (h : rows_good n m) (i j : Int) : rows_good n (pos_Mirror.l m i j) := by
  unfold pos_Mirror.l
  by_cases hb : pos_Mirror.bad m i j = true
  · rw [if_pos hb]; exact h
  · rw [if_neg hb]
    unfold pos_Mirror.bad at hb
    simp only [Bool.or_eq_true, decide_eq_true_eq, not_or] at hb
    obtain ⟨b1, b2, b3, b4, b5⟩ := hb
    refine ⟨by rw [List.length_set, List.length_set]; exact h.1, fun x hx => ?_⟩
    rw [List.length_set, List.length_set]
    rcases List.mem_or_eq_of_mem_set hx with hx | rfl
    · rcases List.mem_or_eq_of_mem_set hx with hx | rfl
      · exact h.2 x hx
      · exact ⟨(h.2 _ (oneAt_mem (by omega) (by omega))).1, by show j < _; omega⟩
    · exact ⟨(h.2 _ (oneAt_mem (by omega) (by omega))).1, by show i < _; omega⟩
theorem rows_good_mirr {β : Type} (g h : β → Int) {n : Nat} : ∀ (mi : List β) (m : List MapOne), rows_good n m → rows_good n (mi.foldl (fun m x => pos_Mirror.l m (g x) (h x)) m)
  | [], m, k => k
  | x :: mi, m, k => rows_good_mirr g h mi _ (rows_good_set k (g x) (h x))
theorem rows_sum (l : List (List S37)) : ∀ y ∈ l, y.length ≤ (l.map List.length).sum := by
  induction l with
  | nil => intro y hy; cases hy
  | cons a r ih =>
    intro y hy
    rw [List.map_cons, List.sum_cons]
    rcases List.mem_cons.1 hy with rfl | h
    · omega
    · have := ih y h; omega
theorem rows_awake (k : Nat) (h : 10 ≤ k) : emenderlaw08_awake.f k = some true := by
  unfold emenderlaw08_awake.f
  rw [map_f _ (by decide) 5 1 _ (by simp; omega), Option.bind_some]
  have e : M [(⟨1, 0, 2⟩ : S37)] 5 1 = (7, false, -1, 0, 0) := by decide
  rw [e]
  rfl
theorem PosRows : emenderlaw08_PosRows.Pure := by
  intro l mi fr p side _ _ _ _ _ _ _
  refine ⟨(l.map List.length).sum + 100, ?_⟩
  generalize hk : (l.map List.length).sum + 100 = K
  have hK : ∀ y ∈ l, y.length + 2 ≤ K := fun y hy => by have := rows_sum l y hy; omega
  unfold emenderlaw08_PosRows.f
  rw [if_pos]
  unfold emenderlaw08_PosRows.ok
  have G := rows_good_mirr (fun x => x.f0) (fun x => x.f1) (mi.take (min mi.length 50)) _ (rows_good_all l (min l.length 50))
  have hG : rows_good (min l.length 50) (emenderlaw08_PosRows.all l mi) := G
  clear G
  generalize emenderlaw08_PosRows.all l mi = m at *
  have hO : ∀ i : Int, (oneAt m i).m.length ≤ 4 := fun i => by
    unfold oneAt
    rw [List.getD_eq_getElem?_getD]
    by_cases h : i.toNat < m.length
    · rw [List.getElem?_eq_getElem h]
      exact (hG.2 _ (List.getElem_mem h)).1
    · rw [List.getElem?_eq_none (by omega)]
      exact Nat.zero_le _
  refine ⟨rows_awake K (by omega), fun y hy hl => ⟨right_f y hl K (hK y hy), refRight_f y K (hK y hy), fun ho => ?_⟩, by have := hG.1; omega, fun x hx => (hG.2 x hx).2, ?_⟩
  · unfold pos_Right.okB at ho
    simp only [Bool.and_eq_true, decide_eq_true_eq] at ho
    omega
  · unfold pos_MMap.f ref_MMap.f
    by_cases cb : pos_MMap.bad m fr p = true
    · rw [if_pos cb, if_pos cb]
      exact ⟨rfl, rfl⟩
    · rw [if_neg cb, if_neg cb]
      unfold pos_MMap.bad at cb
      simp only [Bool.or_eq_true, decide_eq_true_eq, not_or] at cb
      obtain ⟨b1, b2, b3, b4⟩ := cb
      obtain ⟨r, e1, e2, _⟩ := rows_both m side K (fun i => ⟨by have := hO i; omega, by have := hO i; omega⟩) (fun x hx => (hG.2 x hx).2) (m.length + 1) fr p false (by omega) (by omega) (by omega)
      exact ⟨by rw [e1]; rfl, by rw [e1, e2 (by omega)]⟩

end Go.Proofs.Ytcoolajjjnkfpaa.Pure
