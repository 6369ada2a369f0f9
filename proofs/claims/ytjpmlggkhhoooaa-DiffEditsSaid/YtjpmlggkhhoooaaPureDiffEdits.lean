/- DiffEdits: with what is not shared taken out, and the other's put in, the first tokens are the second ones; for all tokens. -/
import Derived.Test.YtjpmlggkhhoooaaGDiffEdits
import Derived.Test.YtjpmlggkhhoooaaDiffAp
namespace Go.Proofs.Ytjpmlggkhhoooaa.Pure
open Go.RowKit Go.Proofs.YtjpmlggkhhoooaaW.PrintWords Go.Proofs.YtjpmlggkhhoooaaW.PrintMore
set_option linter.unusedSimpArgs false
set_option linter.unusedVariables false
open Go.Proofs Go.Proofs.Ytjpmlggkhhoooaa Go.Proofs.Ytjpmlggkhhoooaa.PDp Go.Proofs.Ytjpmlggkhhoooaa.StepA Go.Proofs.Ytjpmlggkhhoooaa.StepB Go.Proofs.Ytjpmlggkhhoooaa.StepD Go.Proofs.Ytjpmlggkhhoooaa.DiffA

theorem edits_same {x y : S64} (h : diff_Pairs.same x y = true) : x = y := by
  cases x; cases y
  simp only [diff_Pairs.same, Bool.and_eq_true, beq_iff_eq] at h
  obtain ⟨h0, h1, h2, h3⟩ := h
  subst h0 h1 h2 h3
  rfl
theorem edits_like {a b : List S64} {p q : Nat} (hp : p < a.length) (hq : q < b.length) (h : diff_Pairs.like a b p q = true) : a[p] = b[q] := by
  have h := edits_same h
  rw [rd_get a (p : Int) (by simpa using hp), rd_get b (q : Int) (by simpa using hq)] at h
  simpa using h
/-- One range. -/
theorem edits_step (a b : List S64) (E : List S41) (L : List S76) (ha : a.length ≤ 60) (hb : b.length ≤ 60) (k : Nat) (out : List S64) (frm i p j q x : Nat) (d kept : Int) (ho : out.length ≤ 60) (hi : E[x]? = some ⟨(i : Int), (p : Int) - (i : Int), (q : Int) - (j : Int)⟩) (hE : E.length ≤ 100)
    (hf : frm ≤ i) (hip : i ≤ p) (hp : p ≤ a.length) (hjq : j ≤ q) (hq : q ≤ b.length) (hd : d = (j : Int) - (i : Int)) (hne : ¬ (p = i ∧ q = j)) (hk0 : 0 ≤ kept ∧ kept ≤ 60) :
    emenderlaw23_DiffEdits.l0 (k + 1) a b E L out (frm : Int) d kept (x : Int) = emenderlaw23_DiffEdits.l0 k a b E L (out ++ (a.take i).drop frm ++ (b.take q).drop j) (p : Int) ((q : Int) - (p : Int)) (kept + (i : Int) - (frm : Int)) ((x + 1 : Nat) : Int) := by
  have hx : x < E.length := by
    rcases Nat.lt_or_ge x E.length with h | h
    · exact h
    · rw [List.getElem?_eq_none h] at hi; cases hi
  have hr : rd_T41 E (x : Int) = ⟨(i : Int), (p : Int) - (i : Int), (q : Int) - (j : Int)⟩ := by
    simp only [rd_T41, Int.toNat_natCast, List.getD_eq_getElem?_getD, hi, Option.getD_some]
  subst hd
  simp only [emenderlaw23_DiffEdits.l0]
  rw [hr]
  dsimp only
  rw [if_pos (by omega), if_pos (by omega), if_neg (by omega)]
  rw [w64 (i := (i : Int) + ((p : Int) - (i : Int))) (by omega), if_neg (by omega)]
  rw [w64 (i := (i : Int) + ((j : Int) - (i : Int))) (by omega), if_neg (by omega)]
  rw [w64 (i := (i : Int) + ((j : Int) - (i : Int)) + ((q : Int) - (j : Int))) (by omega), if_neg (by omega)]
  rw [w64 (i := ((p : Int) - (i : Int)) + ((q : Int) - (j : Int))) (by omega), if_neg (by omega), if_pos (by omega), if_pos (by omega), if_pos (by omega), Option.bind_some]
  rw [if_pos (by simp only [List.length_drop, List.length_take]; omega), Option.bind_some, if_pos (by omega), if_pos (by omega), if_pos (by omega), Option.bind_some]
  rw [if_pos (by simp only [List.length_append, List.length_drop, List.length_take]; omega)]
  rw [w64 (i := ((j : Int) - (i : Int)) + ((q : Int) - (j : Int))) (by omega), w64 (i := ((j : Int) - (i : Int)) + ((q : Int) - (j : Int)) - ((p : Int) - (i : Int))) (by omega), w64 (i := kept + (i : Int)) (by omega), w64 (i := kept + (i : Int) - (frm : Int)) (by omega), w64 (i := (x : Int) + 1) (by omega)]
  rw [show ((i : Int) + ((j : Int) - (i : Int)) + ((q : Int) - (j : Int))).toNat = q by omega, show ((i : Int) + ((j : Int) - (i : Int))).toNat = j by omega, Int.toNat_natCast, Int.toNat_natCast]
  rw [show (i : Int) + ((p : Int) - (i : Int)) = (p : Int) by omega, show ((j : Int) - (i : Int)) + ((q : Int) - (j : Int)) - ((p : Int) - (i : Int)) = (q : Int) - (p : Int) by omega]
  rfl
/-- The end. -/
theorem edits_end (a b : List S64) (E : List S41) (L : List S76) (ha : a.length ≤ 60) (hb : b.length ≤ 60) (k : Nat) (hk : 100 < k) (out : List S64) (frm x : Nat) (d kept : Int) (hf : frm ≤ a.length) (ho : out.length ≤ 60) (hx : x = E.length) (hE : E.length ≤ 100) (hs : out ++ a.drop frm = b) (hl : kept + (a.length : Int) - (frm : Int) = (L.length : Int)) (hk0 : 0 ≤ kept ∧ kept ≤ 60) :
    emenderlaw23_DiffEdits.l0 (k + 1) a b E L out (frm : Int) d kept (x : Int) = some true := by
  subst hx
  simp only [emenderlaw23_DiffEdits.l0]
  rw [if_neg (by omega), if_pos (by omega), if_pos (by omega), Option.bind_some, if_pos (by simp only [List.length_drop]; omega), Int.toNat_natCast, hs, alike b b (by omega) k (by omega), sameL_refl, Option.bind_some, if_pos rfl]
  rw [w64 (i := kept + (a.length : Int)) (by omega), w64 (i := kept + (a.length : Int) - (frm : Int)) (by omega), if_pos hl, awake23 k (by omega)]
  rfl
theorem edits_more (a : List S64) {f i : Nat} (h : f ≤ i) (hi : i < a.length) : (a.take (i + 1)).drop f = (a.take i).drop f ++ [a[i]] := by
  rw [List.take_succ_eq_append_getElem hi, List.drop_append_of_le_length (by rw [List.length_take]; omega)]
theorem edits_loop (a b : List S64) (E : List S41) (LL : List S76) (ha : a.length ≤ 60) (hb : b.length ≤ 60) (hE : E.length ≤ 100) : ∀ (l : List (Nat × Nat)) (i j : Nat), DiffT.Rise (diff_Pairs.like a b) a.length b.length i j l → ∀ (k : Nat) (out : List S64) (frm x : Nat) (d kept : Int),
    E.drop x = diff_Edits.outs (diff_gaps.trace a.length b.length ((i : Int), (j : Int)) (diff_grid.enc l)) → x ≤ E.length → l.length + 110 < k → frm ≤ i → i ≤ a.length → j ≤ b.length → d = (j : Int) - (i : Int) → out ++ (a.take i).drop frm = b.take j → 0 ≤ kept → kept + (i : Int) - (frm : Int) + (l.length : Int) = (LL.length : Int) → kept + (i : Int) - (frm : Int) ≤ (i : Int) →
    emenderlaw23_DiffEdits.l0 k a b E LL out (frm : Int) d kept (x : Int) = some true := by
  intro l i j h
  have hget : ∀ (x : Nat) (r : S41) (rs : List S41), E.drop x = r :: rs → E[x]? = some r ∧ E.drop (x + 1) = rs := by
    intro x r rs h
    have h1 : x < E.length := by
      rcases Nat.lt_or_ge x E.length with h1 | h1
      · exact h1
      · rw [List.drop_eq_nil_of_le h1] at h; cases h
    rw [List.drop_eq_getElem_cons h1] at h
    injection h with h2 h3
    exact ⟨by rw [List.getElem?_eq_getElem h1, h2], h3⟩
  have hol : ∀ (out : List S64) (frm i j : Nat), j ≤ b.length → out ++ (a.take i).drop frm = b.take j → out.length ≤ 60 := by
    intro out frm i j h1 h2
    have := congrArg List.length h2
    simp only [List.length_append, List.length_take, List.length_drop] at this
    omega
  induction h with
  | nil i j =>
    intro k out frm x d kept hx hxl hk hf hi hj hd ho hk0 hl hki
    have hol' := hol out frm i j hj ho
    simp only [diff_grid.enc, List.map_nil, diff_gaps.trace, diff_Edits.outs, List.flatMap_cons, List.flatMap_nil, List.append_nil] at hx
    by_cases he : i = a.length ∧ j = b.length
    · obtain ⟨rfl, rfl⟩ := he
      obtain ⟨k, rfl⟩ : ∃ m, k = m + 1 := ⟨k - 1, by omega⟩
      have hE0 : x = E.length := by
        have := congrArg List.length hx
        simp [diff_Edits.add] at this
        omega
      refine edits_end a b E LL ha hb k (by omega) out frm x d kept hf hol' hE0 hE ?_ (by simpa using hl) ⟨hk0, by omega⟩
      rw [List.take_length, List.take_length] at ho
      exact ho
    · have hadd : diff_Edits.add ((i : Int), (j : Int)) ((a.length : Int), (b.length : Int)) = [⟨(i : Int), (a.length : Int) - (i : Int), (b.length : Int) - (j : Int)⟩] := by
        unfold diff_Edits.add
        rw [if_neg (fun e => he (by simp only [Prod.mk.injEq] at e; omega))]
      rw [hadd] at hx
      obtain ⟨h1, h2⟩ := hget x _ _ hx
      obtain ⟨k, rfl⟩ : ∃ m, k = m + 2 := ⟨k - 2, by omega⟩
      rw [edits_step a b E LL ha hb (k + 1) out frm i a.length j b.length x d kept hol' h1 hE hf hi (Nat.le_refl _) hj (Nat.le_refl _) hd (fun e => he ⟨e.1.symm, e.2.symm⟩) ⟨hk0, by omega⟩]
      have hx1 : x + 1 = E.length := by
        have h3 := congrArg List.length h2
        have h4 := congrArg List.length hx
        simp at h3 h4
        omega
      have hb2 : out ++ (a.take i).drop frm ++ (b.take b.length).drop j = b := by
        rw [ho, List.take_length, List.take_append_drop]
      refine edits_end a b E LL ha hb k (by omega) _ a.length (x + 1) _ _ (Nat.le_refl _) ?_ hx1 hE ?_ ?_ ⟨by omega, by omega⟩
      · rw [hb2]; exact hb
      · rw [hb2, List.drop_length, List.append_nil]
      · have : (0 : Int) ≤ ((List.length ([] : List (Nat × Nat)) : Nat) : Int) := by omega
        simp at hl
        omega
  | cons i j p q l h1 h2 h3 h4 h5 h ih =>
    intro k out frm x d kept hx hxl hk hf hi hj hd ho hk0 hl hki
    have hol' := hol out frm i j hj ho
    have hpq := edits_like h2 h4 h5
    simp only [diff_grid.enc, List.map_cons, diff_gaps.trace, diff_Edits.outs, List.flatMap_cons] at hx
    simp only [List.length_cons] at hk hl
    by_cases he : p = i ∧ q = j
    · obtain ⟨rfl, rfl⟩ := he
      have hadd : diff_Edits.add ((p : Int), (q : Int)) ((p : Int), (q : Int)) = [] := by
        unfold diff_Edits.add
        rw [if_pos rfl]
      rw [hadd, List.nil_append] at hx
      refine ih k out frm x d kept ?_ hxl (by omega) (by omega) (by omega) (by omega) (by omega) ?_ hk0 (by omega) (by omega)
      · simp only [diff_grid.enc, diff_Edits.outs]
        exact hx
      · rw [edits_more a hf h2, ← List.append_assoc, ho, hpq, List.take_succ_eq_append_getElem h4]
    · have hadd : diff_Edits.add ((i : Int), (j : Int)) ((p : Int), (q : Int)) = [⟨(i : Int), (p : Int) - (i : Int), (q : Int) - (j : Int)⟩] := by
        unfold diff_Edits.add
        rw [if_neg (fun e => he (by simp only [Prod.mk.injEq] at e; omega))]
      rw [hadd] at hx
      obtain ⟨g1, g2⟩ := hget x _ _ hx
      obtain ⟨k, rfl⟩ : ∃ m, k = m + 1 := ⟨k - 1, by omega⟩
      rw [edits_step a b E LL ha hb k out frm i p j q x d kept hol' g1 hE hf h1 (Nat.le_of_lt h2) h3 (Nat.le_of_lt h4) hd he ⟨hk0, by omega⟩]
      have hxl' : x + 1 ≤ E.length := by
        have h6 := congrArg List.length hx
        simp at h6
        omega
      refine ih k _ p (x + 1) _ _ ?_ hxl' (by omega) (by omega) (by omega) (by omega) (by omega) ?_ (by omega) (by omega) (by omega)
      · simp only [diff_grid.enc, diff_Edits.outs]
        exact g2
      · have hbq : (b.take q).take j = b.take j := by rw [List.take_take, Nat.min_eq_left h3]
        rw [ho, ← hbq, List.take_append_drop, edits_more a (Nat.le_refl _) h2, List.drop_of_length_le (by rw [List.length_take]; omega), List.nil_append, hpq, List.take_succ_eq_append_getElem h4]
theorem DiffEdits : emenderlaw23_DiffEdits.Pure := by
  intro a b ha _ hb _
  refine ⟨1000, ?_⟩
  have J : ∀ c, (c = false → a.length ≤ 60 ∧ b.length ≤ 60) → emenderlaw23_DiffEdits.j0 1000 a b c = some true := by
    intro c hc
    show emenderlaw23_DiffEdits.j0 (999 + 1) a b c = some true
    simp only [emenderlaw23_DiffEdits.j0]
    cases c with
    | true =>
      rw [if_pos rfl, awake23 999 (by decide)]
      rfl
    | false =>
      obtain ⟨ha, hb⟩ := hc rfl
      rw [if_neg (by decide)]
      unfold diff_Edits.f diff_Pairs.f
      rw [if_neg (by omega), Option.bind_some, if_neg (by omega), Option.bind_some]
      dsimp only
      rw [if_pos rfl]
      show emenderlaw23_DiffEdits.j1 (998 + 1) a b _ _ _ = some true
      simp only [emenderlaw23_DiffEdits.j1]
      rw [if_neg (by decide)]
      have hT := DiffT.T_le (like := diff_Pairs.like a b) (n := a.length) (m := b.length) _ 0 0 rfl
      have hPl := DiffT.P_length (like := diff_Pairs.like a b) (n := a.length) (m := b.length) a.length 0 0 (by omega)
      have hel := diff_Edits.outs_len (diff_gaps.trace (a.length : Int) (b.length : Int) (0, 0) (diff_grid.enc (DiffT.P (diff_Pairs.like a b) a.length b.length a.length 0 0)))
      rw [diff_gaps.trace_len] at hel
      simp only [diff_grid.enc, List.length_map] at hel
      refine edits_loop a b _ _ ha hb (by simp only [diff_grid.enc]; omega) _ 0 0 (DiffT.P_rise a.length 0 0) 998 [] 0 0 0 0 ?_ (Nat.zero_le _) (by omega) (Nat.le_refl _) (Nat.zero_le _) (Nat.zero_le _) (by omega) (by simp) (by omega) ?_ (by omega)
      · rfl
      · simp [diff_grid.enc]
  unfold emenderlaw23_DiffEdits.f
  by_cases h1 : (a.length : Int) > 60
  · rw [if_pos h1]
    exact J true (fun h => by cases h)
  · rw [if_neg h1]
    exact J _ (fun h => ⟨by omega, by have := of_decide_eq_false h; omega⟩)
end Go.Proofs.Ytjpmlggkhhoooaa.Pure
