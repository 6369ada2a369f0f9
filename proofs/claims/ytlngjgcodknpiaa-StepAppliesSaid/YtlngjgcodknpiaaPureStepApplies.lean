/- StepApplies: any step at any tokens, and what undoes it: the program tells what the document's answer tells; for all tokens and steps. -/
import Derived.Test.YtlngjgcodknpiaaGStepApplies
import Derived.Test.YtlngjgcodknpiaaStepEs
namespace Go.Proofs.Ytlngjgcodknpiaa.Pure
open Go.RowKit Go.Proofs.YtlngjgcodknpiaaW.PrintWords Go.Proofs.YtlngjgcodknpiaaW.PrintMore
set_option linter.unusedSimpArgs false
set_option linter.unusedVariables false
open Go.Proofs.Ytlngjgcodknpiaa Go.Proofs.Ytlngjgcodknpiaa.PSa Go.Proofs.Ytlngjgcodknpiaa.StepA Go.Proofs.Ytlngjgcodknpiaa.StepB Go.Proofs.Ytlngjgcodknpiaa.StepE

theorem applies_sameloop (a b : List S57) (hab : a.length = b.length) (hl : a.length < 17592186044416) : ∀ (d k : Nat) (i : Int), 0 ≤ i → i + d = a.length → d < k → flat_Same.l0 k a b (a.length : Int) i = some (sameL (a.drop i.toNat) (b.drop i.toNat)) := by
  intro d
  induction d with
  | zero =>
    intro k i h0 h1 hk
    obtain ⟨k, rfl⟩ : ∃ m, k = m + 1 := ⟨k - 1, by omega⟩
    simp only [flat_Same.l0]
    rw [if_neg (by omega), List.drop_eq_nil_of_le (by omega), List.drop_eq_nil_of_le (by omega)]
    rfl
  | succ d ih =>
    intro k i h0 h1 hk
    obtain ⟨k, rfl⟩ : ∃ m, k = m + 1 := ⟨k - 1, by omega⟩
    have ha : i.toNat < a.length := by omega
    have hb : i.toNat < b.length := by omega
    simp only [flat_Same.l0]
    rw [if_pos (by omega), if_pos h0, if_pos (by omega), if_pos (by omega), rd_get a i ha, rd_get b i hb, ne_test, w64 (by omega), List.drop_eq_getElem_cons ha, List.drop_eq_getElem_cons hb]
    simp only [sameL]
    cases e : eqT a[i.toNat] b[i.toNat] with
    | false => simp
    | true =>
      rw [if_neg (by decide), ih k (i + 1) (by omega) (by omega) (by omega), show (i + 1).toNat = i.toNat + 1 by omega]
      simp
theorem applies_same (a b : List S57) (hl : a.length < 17592186044416) (k : Nat) (hk : a.length < k) : flat_Same.f k a b = some (sameL a b) := by
  unfold flat_Same.f
  by_cases h : (a.length : Int) = (b.length : Int)
  · rw [if_pos h, applies_sameloop a b (by omega) hl a.length k 0 (by omega) (by omega) hk]
    rfl
  · rw [if_neg h, sameL_length a b (by omega)]
theorem applies_rsameloop (a b : List S57) (hab : a.length = b.length) (hl : a.length < 17592186044416) : ∀ (d k : Nat) (i : Int), 0 ≤ i → i + d = a.length → d < k → emenderref04_Same.l0 k a b i = some (sameL (a.drop i.toNat) (b.drop i.toNat)) := by
  intro d
  induction d with
  | zero =>
    intro k i h0 h1 hk
    obtain ⟨k, rfl⟩ : ∃ m, k = m + 1 := ⟨k - 1, by omega⟩
    simp only [emenderref04_Same.l0]
    rw [if_neg (by omega), List.drop_eq_nil_of_le (by omega), List.drop_eq_nil_of_le (by omega)]
    rfl
  | succ d ih =>
    intro k i h0 h1 hk
    obtain ⟨k, rfl⟩ : ∃ m, k = m + 1 := ⟨k - 1, by omega⟩
    have ha : i.toNat < a.length := by omega
    have hb : i.toNat < b.length := by omega
    simp only [emenderref04_Same.l0]
    rw [if_pos (by omega), if_pos h0, if_pos (by omega), rd_get a i ha, rd_get b i hb, ne_test, w64 (by omega), List.drop_eq_getElem_cons ha, List.drop_eq_getElem_cons hb]
    simp only [sameL]
    cases e : eqT a[i.toNat] b[i.toNat] with
    | false => simp
    | true =>
      rw [if_neg (by decide), ih k (i + 1) (by omega) (by omega) (by omega), show (i + 1).toNat = i.toNat + 1 by omega]
      simp
theorem applies_rsame (a b : List S57) (hl : a.length < 17592186044416) (k : Nat) (hk : a.length < k) : emenderref04_Same.f k a b = some (sameL a b) := by
  unfold emenderref04_Same.f
  by_cases h : (a.length : Int) = (b.length : Int)
  · rw [if_pos h, applies_rsameloop a b (by omega) hl a.length k 0 (by omega) (by omega) hk]
    rfl
  · rw [if_neg h, sameL_length a b (by omega)]
theorem applies_tok (ls : List (List S57)) (x : List S57) (h : ls.flatten = x) (hx : x.length ≤ 4096) : step_tokens.f ls = some x := by
  unfold step_tokens.f
  rw [h, if_pos (by omega)]
theorem applies_Alen (l : List S57) (K F T GF GT N : Int) (sl : List S57) (M : Int) : (A l K F T GF GT N sl M).1.length ≤ 2048 := by
  by_cases h : (A l K F T GF GT N sl M).2 = 0
  · obtain ⟨q1, q2, q3, q4, q5⟩ := A_ok h
    rw [q5]
    exact fc_len q4
  · rw [A_bad h]
    simp
theorem applies_fin (l : List S57) (hl : l.length < 4398046511104) (K F T GF GT N : Int) (sl : List S57) (M : Int) (n : Nat) (hn : 3 * l.length + 30000 ≤ n) {b0 b1 b2 b3 b4 b5 b7 e : Int} {bs : List S57} (hbs : bs.length ≤ 20000)
    (hi : step_Invert.f n l K F T GF GT N sl M = some (b0, b1, b2, b3, b4, b5, bs, b7, e)) (hr : emenderref09_Invert.f n l K F T GF GT N sl M = some (b0, b1, b2, b3, b4, b5, bs, b7, e)) : emenderlaw09_StepApplies.f n l K F T GF GT N sl M = some true := by
  have hA := applies_Alen l K F T GF GT N sl M
  have tw : emenderlaw09_twin.f n b0 b1 b2 b3 b4 b5 bs b7 b0 b1 b2 b3 b4 b5 bs b7 = some true := by
    unfold emenderlaw09_twin.f
    rw [if_pos rfl, if_pos rfl, if_pos rfl, if_pos rfl, if_pos rfl, if_pos rfl, if_pos rfl, alike _ _ (by omega) _ (by omega), sameL_refl]
    rfl
  unfold emenderlaw09_StepApplies.f
  simp only [Option.bind_some, List.length_nil, List.nil_append]
  rw [if_pos (by omega), apply_f l K F T GF GT N sl M n (by omega), Option.bind_some, rapply l hl K F T GF GT N sl M n (by omega), Option.bind_some, hi, Option.bind_some, hr, Option.bind_some]
  dsimp only
  rw [alike _ _ (by omega) _ (by omega), sameL_refl, Option.bind_some, if_pos rfl, if_pos rfl, tw, Option.bind_some, if_pos rfl, if_pos rfl, alike _ _ (by omega) _ (by omega), sameL_refl, Option.bind_some, if_pos rfl, awake n (by omega)]
  rfl
theorem applies_replace (l : List S57) (F T GF GT N : Int) (sl : List S57) (M : Int) (n : Nat) (hn : 3 * l.length + 30000 ≤ n + 2) (c0 : (A l 0 F T GF GT N sl M).2 = 0) : emenderlaw09_StepApplies.f (n + 2) l 0 F T GF GT N sl M = some true := by
  obtain ⟨q1, q2, q3, q4, q5⟩ := A_ok c0
  have ql := fc_len q1
  have b1 := q2.f0; have b2 := q2.ft; have b3 := q2.t; have b4 := q2.len
  have hcut : ((l.take T.toNat).drop F.toNat).length = T.toNat - F.toNat := by simp only [List.length_take, List.length_drop]; omega
  refine applies_fin l (by omega) 0 F T GF GT N sl M (n + 2) hn (bs := (l.take T.toNat).drop F.toNat) (by omega) (b0 := 0) (b1 := F) (b2 := F + (sl.length : Int)) (b3 := 0) (b4 := 0) (b5 := 0) (b7 := 0) (e := 0) ?_ ?_
  · unfold step_Invert.f
    simp only [step_Invert.j0]
    rw [apply_f l 0 F T GF GT N sl M _ (by omega), Option.bind_some, if_pos c0, if_neg (by decide), if_pos trivial, if_pos b1, if_pos b2, if_pos q3, applies_tok _ ((l.take T.toNat).drop F.toNat) (by simp) (by omega), Option.bind_some, w64 (i := F + (sl.length : Int)) (by omega)]
  · unfold emenderref09_Invert.f
    simp only [emenderref09_Invert.j0, emenderref09_Invert.j1]
    rw [rapply l (by omega) 0 F T GF GT N sl M _ (by omega), Option.bind_some, if_pos c0, if_neg (by decide)]
    simp only [Option.bind_some, List.length_nil, List.nil_append]
    rw [if_neg (by decide), if_neg (by decide), if_pos (by decide), if_pos b1, if_pos b2, if_pos q3, if_pos (by omega), w64 (i := F + (sl.length : Int)) (by omega)]
theorem applies_around (l : List S57) (F T GF GT N : Int) (sl : List S57) (M : Int) (n : Nat) (hn : 3 * l.length + 30000 ≤ n + 2) (c0 : (A l 1 F T GF GT N sl M).2 = 0) : emenderlaw09_StepApplies.f (n + 2) l 1 F T GF GT N sl M = some true := by
  obtain ⟨q1, q2, q3, q4, q5⟩ := A_ok c0
  have ql := fc_len q1
  have b1 := q2.f0; have b2 := q2.ft; have b3 := q2.t; have b4 := q2.len
  obtain ⟨a1, a2, a3, a4, a5⟩ := q2.around rfl
  have l1 : ((l.take GF.toNat).drop F.toNat).length = GF.toNat - F.toNat := by simp only [List.length_take, List.length_drop]; omega
  have l2 : ((l.take T.toNat).drop GT.toNat).length = T.toNat - GT.toNat := by simp only [List.length_take, List.length_drop]; omega
  have hcut : ((l.take GF.toNat).drop F.toNat ++ (l.take T.toNat).drop GT.toNat).length = (GF.toNat - F.toNat) + (T.toNat - GT.toNat) := by rw [List.length_append, l1, l2]
  refine applies_fin l (by omega) 1 F T GF GT N sl M (n + 2) hn (bs := (l.take GF.toNat).drop F.toNat ++ (l.take T.toNat).drop GT.toNat) (by omega) (b0 := 1) (b1 := F) (b2 := F + N + GT - GF + (sl.length : Int) - N) (b3 := F + N) (b4 := F + N + GT - GF) (b5 := GF - F) (b7 := 0) (e := 0) ?_ ?_
  · unfold step_Invert.f
    rw [apply_f l 1 F T GF GT N sl M _ (by omega), Option.bind_some, if_pos c0, if_pos rfl, if_pos b1, if_pos a1, if_pos (by omega), if_pos (by omega), if_pos a3, if_pos q3, applies_tok _ ((l.take GF.toNat).drop F.toNat ++ (l.take T.toNat).drop GT.toNat) (by simp) (by omega), Option.bind_some,
      w64 (i := F + N) (by omega), w64 (i := F + N + GT) (by omega), w64 (i := F + N + GT - GF) (by omega), w64 (i := F + N + GT - GF + (sl.length : Int)) (by omega), w64 (i := F + N + GT - GF + (sl.length : Int) - N) (by omega), w64 (i := GF - F) (by omega)]
  · unfold emenderref09_Invert.f
    simp only [emenderref09_Invert.j0, emenderref09_Invert.j1]
    rw [rapply l (by omega) 1 F T GF GT N sl M _ (by omega), Option.bind_some, if_pos c0, if_neg (by decide), if_neg (by decide), if_pos trivial, if_pos b1, if_pos a1, if_pos (by omega), if_pos (by omega), if_pos a3, if_pos q3,
      rjoin _ (by simp) (by simp only [List.flatten_cons, List.flatten_nil, List.append_nil]; omega) _ (by simp; omega), Option.bind_some]
    simp only [List.flatten_cons, List.flatten_nil, List.append_nil]
    rw [w64 (i := F + (sl.length : Int)) (by omega), w64 (i := GT - GF) (by omega), w64 (i := F + (sl.length : Int) + (GT - GF)) (by omega), w64 (i := F + N) (by omega), w64 (i := F + N + (GT - GF)) (by omega), w64 (i := GF - F) (by omega)]
    rw [show F + (sl.length : Int) + (GT - GF) = F + N + GT - GF + (sl.length : Int) - N by omega, show F + N + (GT - GF) = F + N + GT - GF by omega]
theorem applies_marks (l : List S57) (K F T GF GT N : Int) (sl : List S57) (M : Int) (k23 : K = 2 ∨ K = 3) (n : Nat) (hn : 3 * l.length + 30000 ≤ n + 2) (c0 : (A l K F T GF GT N sl M).2 = 0) : emenderlaw09_StepApplies.f (n + 2) l K F T GF GT N sl M = some true := by
  obtain ⟨q1, q2, q3, q4, q5⟩ := A_ok c0
  have ql := fc_len q1
  have qx := fc_len q4
  have b1 := q2.f0; have b2 := q2.ft; have b3 := q2.t; have b4 := q2.len
  have k0 : ¬ K = 0 := by omega
  have k1 : ¬ K = 1 := by omega
  obtain ⟨g, hD⟩ : ∃ g, D l K F T GF GT N sl M = marks g l F.toNat T.toNat := by
    unfold D
    rw [if_neg k0, if_neg k1]
    split
    · exact ⟨_, rfl⟩
    · exact ⟨_, rfl⟩
  have hlen : (D l K F T GF GT N sl M).length = l.length := by rw [hD, marks_length]
  have hok : F < T ∧ one M = true := by
    have := q2.kind
    unfold okKind at this
    rw [if_neg k1, if_neg k0, if_pos k23] at this
    simp only [Bool.and_eq_true, decide_eq_true_eq] at this
    exact ⟨this.1.1, this.1.2.1⟩
  have hs : Sound (5 - K) F T 0 0 0 ([] : List S57) M := by
    refine ⟨by simp, b1, b2, b3, ?_, rfl⟩
    unfold okKind
    rw [if_neg (by omega), if_neg (by omega), if_pos (by omega), decide_eq_true ⟨hok.1, hok.2, rfl⟩]
    rfl
  have hdo := do_f hs (D l K F T GF GT N sl M) (by omega) (by omega) (n + 2) (by omega)
  have hDD : D (D l K F T GF GT N sl M) (5 - K) F T 0 0 0 ([] : List S57) M = marks (if 5 - K = 2 then gA M else gT M) (D l K F T GF GT N sl M) F.toNat T.toNat := by
    generalize D l K F T GF GT N sl M = X
    unfold D
    rw [if_neg (by omega), if_neg (by omega)]
    rcases k23 with rfl | rfl
    · rw [if_pos (by decide), if_neg (by decide)]
    · rw [if_neg (by decide), if_pos (by decide)]
  rw [hDD] at hdo
  have hrm := rmarked (D l K F T GF GT N sl M) (5 - K) F T 0 0 0 ([] : List S57) M b1 (by omega) (by omega) (n + 1) (by omega)
  obtain ⟨y, hy⟩ : ∃ y, y = marks (if 5 - K = 2 then gA M else gT M) (D l K F T GF GT N sl M) F.toNat T.toNat := ⟨_, rfl⟩
  have hyl : y.length = l.length := by rw [hy, marks_length, hlen]
  rw [← hy] at hdo hrm
  have hcut : ((l.take T.toNat).drop F.toNat).length = T.toNat - F.toNat := by simp only [List.length_take, List.length_drop]; omega
  have h23 : ((K == 3) = true ∨ K = 2) := by
    rcases k23 with h | h
    · exact .inr h
    · exact .inl (by simp [h])
  by_cases c : sameL y l = true
  · refine applies_fin l (by omega) K F T GF GT N sl M (n + 2) hn (bs := []) (by simp) (b0 := 5 - K) (b1 := F) (b2 := T) (b3 := 0) (b4 := 0) (b5 := 0) (b7 := M) (e := 0) ?_ ?_
    · unfold step_Invert.f
      rw [apply_f l K F T GF GT N sl M _ (by omega), Option.bind_some, if_pos c0, if_neg k1, if_neg k0, w64 (i := 5 - K) (by omega), q5, hdo, Option.bind_some, applies_same _ _ (by omega) _ (by omega), Option.bind_some, if_pos c]
    · unfold emenderref09_Invert.f
      simp only [emenderref09_Invert.j0]
      rw [rapply l (by omega) K F T GF GT N sl M _ (by omega), Option.bind_some, if_pos c0, w64 (i := 5 - K) (by omega), q5, hrm]
      simp only [Option.bind_some]
      rw [applies_rsame _ _ (by omega) _ (by omega), Option.bind_some, if_pos c]
      rcases k23 with rfl | rfl
      · rw [if_pos trivial, if_pos rfl]
      · rw [if_neg (by decide), if_pos (by decide)]
  · refine applies_fin l (by omega) K F T GF GT N sl M (n + 2) hn (bs := (l.take T.toNat).drop F.toNat) (by omega) (b0 := 0) (b1 := F) (b2 := T) (b3 := 0) (b4 := 0) (b5 := 0) (b7 := 0) (e := 0) ?_ ?_
    · unfold step_Invert.f
      simp only [step_Invert.j0]
      rw [apply_f l K F T GF GT N sl M _ (by omega), Option.bind_some, if_pos c0, if_neg k1, if_neg k0, w64 (i := 5 - K) (by omega), q5, hdo, Option.bind_some, applies_same _ _ (by omega) _ (by omega), Option.bind_some, if_neg c, if_pos b1, if_pos b2, if_pos q3, applies_tok _ ((l.take T.toNat).drop F.toNat) (by simp) (by omega), Option.bind_some]
    · unfold emenderref09_Invert.f
      simp only [emenderref09_Invert.j0, emenderref09_Invert.j1]
      rw [rapply l (by omega) K F T GF GT N sl M _ (by omega), Option.bind_some, if_pos c0, w64 (i := 5 - K) (by omega), q5, hrm]
      simp only [Option.bind_some, List.length_nil, List.nil_append]
      rw [applies_rsame _ _ (by omega) _ (by omega), Option.bind_some, if_neg c, if_neg k1, if_neg k0, if_pos b1, if_pos b2, if_pos q3]
      have hfin : (if 0 + ((l.take T.toNat).drop F.toNat).length < 4398046511104 then some (0, F, wrap64 (F + wrap64 (T - F)), 0, 0, 0, (l.take T.toNat).drop F.toNat, 0, 0) else none) = (some (0, F, T, 0, 0, 0, (l.take T.toNat).drop F.toNat, 0, 0) : Option (Int × Int × Int × Int × Int × Int × List S57 × Int × Int)) := by
        rw [if_pos (by omega), w64 (i := T - F) (by omega), w64 (i := F + (T - F)) (by omega), show F + (T - F) = T by omega]
      rcases k23 with rfl | rfl
      · rw [if_pos trivial]
        exact hfin
      · rw [if_neg (by decide), if_pos (by decide)]
        exact hfin
theorem StepApplies : emenderlaw09_StepApplies.Pure := by
  intro l K F T GF GT N sl M hl _ hK hF hT hGF hGT hN hsl _ hM
  refine ⟨3 * l.length + 30000 + 2, ?_⟩
  by_cases c0 : (A l K F T GF GT N sl M).2 = 0
  · have q2 := (A_ok c0).2.1
    rcases q2.kinds with rfl | rfl | h | h
    · exact applies_replace l F T GF GT N sl M (3 * l.length + 30000) (by omega) c0
    · exact applies_around l F T GF GT N sl M (3 * l.length + 30000) (by omega) c0
    · exact applies_marks l K F T GF GT N sl M (.inl h) (3 * l.length + 30000) (by omega) c0
    · exact applies_marks l K F T GF GT N sl M (.inr h) (3 * l.length + 30000) (by omega) c0
  · refine applies_fin l (by omega) K F T GF GT N sl M (3 * l.length + 30000 + 2) (by omega) (bs := []) (by simp) (b0 := 0) (b1 := 0) (b2 := 0) (b3 := 0) (b4 := 0) (b5 := 0) (b7 := 0) (e := (A l K F T GF GT N sl M).2) ?_ ?_
    · unfold step_Invert.f
      rw [apply_f l K F T GF GT N sl M _ (by omega), Option.bind_some, if_neg c0]
    · unfold emenderref09_Invert.f
      rw [rapply l (by omega) K F T GF GT N sl M _ (by omega), Option.bind_some, if_neg c0]
end Go.Proofs.Ytlngjgcodknpiaa.Pure
