/- StepBack: a step that may be done is undone by its inverse, and the inverse's map undoes its map, but of marks; for all tokens and steps. -/
import Derived.Test.YtlngjgcodknpiaaGStepBack
import Derived.Test.YtlngjgcodknpiaaStepBl
import Derived.Test.YtlngjgcodknpiaaPosEl
namespace Go.Proofs.Ytlngjgcodknpiaa.Pure
open Go.RowKit Go.Proofs.YtlngjgcodknpiaaW.PrintWords Go.Proofs.YtlngjgcodknpiaaW.PrintMore
set_option linter.unusedSimpArgs false
set_option linter.unusedVariables false
open Go.Proofs.Ytlngjgcodknpiaa Go.Proofs.Ytlngjgcodknpiaa.PSl Go.Proofs.Ytlngjgcodknpiaa.StepA Go.Proofs.Ytlngjgcodknpiaa.StepB

theorem stepBack_chk {K F T GF GT N : Int} {sl : List S57} {M : Int} (h : Sound K F T GF GT N sl M) : chk K F T GF GT N sl M = 0 := by
  unfold chk
  rw [if_neg (by have := h.len; omega), if_pos]
  rw [h.kind, h.all, decide_eq_true ⟨h.f0, h.ft, h.t⟩]
  rfl
theorem stepBack_apply {x l : List S57} {K F T GF GT N : Int} {sl : List S57} {M : Int} (h : Sound K F T GF GT N sl M) (hx : (fc x).2 = 0) (hT : T ≤ (x.length : Int)) (hD : D x K F T GF GT N sl M = l) (hl : (fc l).2 = 0) : A x K F T GF GT N sl M = (l, 0) := by
  unfold A
  rw [if_pos hx, if_pos (stepBack_chk h), if_neg (by omega), hD, if_pos hl]
theorem stepBack_rt : ∀ (l : List S57) (n i : Int), ((flat_Check.l0 l n i).getD (0, 0)).2 = 0 → l.all rt = true
  | [], _, _, _ => rfl
  | x :: xs, n, i, h => by
    unfold flat_Check.l0 at h
    rw [flat_right, Option.bind_some] at h
    by_cases c : right x.f0 x.f1 x.f2 x.f3 = true
    · rw [if_pos c] at h
      have hx : rt x = true := c
      rw [List.all_cons, hx, Bool.true_and]
      split at h
      · split at h
        · cases h
        · exact stepBack_rt xs _ _ h
      · split at h
        · split at h
          · cases h
          · exact stepBack_rt xs _ _ h
        · exact stepBack_rt xs _ _ h
    · rw [if_neg c] at h
      cases h
theorem stepBack_all {l : List S57} (h : (fc l).2 = 0) : ∀ t ∈ l, rt t = true := by
  have : l.all rt = true := by
    unfold fc flat_Check.f at h
    split at h
    · cases h
    · exact stepBack_rt l 0 0 h
  exact fun t ht => List.all_eq_true.1 this t ht
theorem stepBack_part {l p : List S57} (h : (fc l).2 = 0) (hp : ∀ t ∈ p, t ∈ l) : p.all rt = true := List.all_eq_true.2 fun t ht => stepBack_all h t (hp t ht)
theorem stepBack_mid {l : List S57} {a b : Nat} : ∀ t ∈ (l.take a).drop b, t ∈ l := fun t ht => List.mem_of_mem_take (List.mem_of_mem_drop ht)
theorem stepBack_glue (l : List S57) {a b : Nat} (h : a ≤ b) : l.take a ++ (l.take b).drop a = l.take b := by
  have := List.take_append_drop a (l.take b)
  rwa [List.take_take, Nat.min_eq_left h] at this
theorem stepBack_eq : ∀ (a b : List S57), sameL a b = true → a = b
  | [], [], _ => rfl
  | t :: a, u :: b, h => by
    simp only [sameL, Bool.and_eq_true] at h
    obtain ⟨h1, h2⟩ := h
    rw [stepBack_eq a b h2]
    have : t = u := by
      cases t; cases u
      simp [eqT] at h1
      simp [h1]
    rw [this]
  | [], _ :: _, h => by cases h
  | _ :: _, [], h => by cases h
theorem stepBack_sameloop (a b : List S57) (hab : a.length = b.length) (hl : a.length < 17592186044416) : ∀ (d k : Nat) (i : Int), 0 ≤ i → i + d = a.length → d < k → flat_Same.l0 k a b (a.length : Int) i = some (sameL (a.drop i.toNat) (b.drop i.toNat)) := by
  intro d
  induction d with
  | zero =>
    intro k i h0 h1 hk
    obtain ⟨k, rfl⟩ : ∃ m, k = m + 1 := ⟨k - 1, by omega⟩
    simp only [flat_Same.l0]
    rw [if_neg (by omega), List.drop_eq_nil_of_le (by omega), List.drop_eq_nil_of_le (by omega)]
    rfl
  | succ d ih =>
    intro k i h0 h1 hk
    obtain ⟨k, rfl⟩ : ∃ m, k = m + 1 := ⟨k - 1, by omega⟩
    have ha : i.toNat < a.length := by omega
    have hb : i.toNat < b.length := by omega
    simp only [flat_Same.l0]
    rw [if_pos (by omega), if_pos h0, if_pos (by omega), if_pos (by omega), rd_get a i ha, rd_get b i hb, ne_test, w64 (by omega), List.drop_eq_getElem_cons ha, List.drop_eq_getElem_cons hb]
    simp only [sameL]
    cases e : eqT a[i.toNat] b[i.toNat] with
    | false => simp
    | true =>
      rw [if_neg (by decide), ih k (i + 1) (by omega) (by omega) (by omega), show (i + 1).toNat = i.toNat + 1 by omega]
      simp
theorem stepBack_same (a b : List S57) (hl : a.length < 17592186044416) (k : Nat) (hk : a.length < k) : flat_Same.f k a b = some (sameL a b) := by
  unfold flat_Same.f
  by_cases h : (a.length : Int) = (b.length : Int)
  · rw [if_pos h, stepBack_sameloop a b (by omega) hl a.length k 0 (by omega) (by omega) hk]
    rfl
  · rw [if_neg h, sameL_length a b (by omega)]
theorem stepBack_tok (ls : List (List S57)) (x : List S57) (h : ls.flatten = x) (hx : x.length ≤ 4096) : step_tokens.f ls = some x := by
  unfold step_tokens.f
  rw [h, if_pos (by omega)]
theorem stepBack_ranges (m : List S51) (hm : m.length ≤ 2) (k : Nat) : emenderlaw09_ranges.f (k + 1 + 1 + 1) m m = some true := by
  unfold emenderlaw09_ranges.f
  rw [if_pos rfl]
  have st : ∀ (k : Nat) (i : Nat), i < m.length → emenderlaw09_ranges.l0 (k + 1) m m (i : Int) = emenderlaw09_ranges.l0 k m m ((i + 1 : Nat) : Int) := by
    intro k i hi
    rw [emenderlaw09_ranges.l0, if_pos (by omega), if_pos (by omega), if_pos (by omega), if_neg (by simp), w64 (by omega)]
    rfl
  have en : ∀ (k : Nat), emenderlaw09_ranges.l0 (k + 1) m m (m.length : Int) = some true := by
    intro k
    rw [emenderlaw09_ranges.l0, if_neg (by omega)]
  match m, hm, st, en with
  | [], _, st, en => exact en (k + 1 + 1)
  | [a], _, st, en =>
    have := st (k + 1 + 1) 0 (by simp)
    rw [Int.natCast_zero] at this
    rw [this]
    exact en (k + 1)
  | [a, b], _, st, en =>
    have := st (k + 1 + 1) 0 (by simp)
    rw [Int.natCast_zero] at this
    rw [this, st (k + 1) 1 (by simp)]
    exact en k
theorem stepBack_fin (n : Nat) (hn : 10000 ≤ n) (l : List S57) (hn2 : l.length + 2200 ≤ n) {K F T GF GT N : Int} {sl : List S57} {M : Int} {bK bF bT bGF bGT bN : Int} {bsl : List S57} {bM : Int} {m m' m'' : List S51} (c0 : (A l K F T GF GT N sl M).2 = 0)
    (hinv : step_Invert.f (n + 1) l K F T GF GT N sl M = some (bK, bF, bT, bGF, bGT, bN, bsl, bM, 0)) (hA : A (D l K F T GF GT N sl M) bK bF bT bGF bGT bN bsl bM = (l, 0))
    (h1 : step_Map.f (n + 1) K F T GF GT N sl M = some (m, 0)) (h2 : step_Map.f (n + 1) bK bF bT bGF bGT bN bsl bM = some (m', 0)) (h3 : pos_Invert.f (n + 1) m = some (m'', 0)) (h4 : K = 2 ∨ K = 3 ∨ m' = m'' ∧ m'.length ≤ 2) :
    emenderlaw09_StepBack.f (n + 1) l K F T GF GT N sl M = some true := by
  have aw : ((emenderlaw09_awake.f n).bind fun t => some t) = some true := by rw [awake n (by omega)]; rfl
  obtain ⟨q1, q2, q3, q4, q5⟩ := A_ok c0
  have ql := fc_len q1
  have qx := fc_len q4
  unfold emenderlaw09_StepBack.f
  rw [apply_f l K F T GF GT N sl M _ (by omega), Option.bind_some, hinv, Option.bind_some]
  dsimp only
  rw [if_pos c0, q5, apply_f _ _ _ _ _ _ _ _ _ _ (by omega), hA, Option.bind_some, h1, Option.bind_some, h2, Option.bind_some, h3, Option.bind_some]
  dsimp only
  rw [if_pos rfl, if_pos rfl, if_pos rfl, if_pos rfl, if_pos rfl, alike _ _ (by omega) _ (by omega), Option.bind_some, sameL_refl, emenderlaw09_StepBack.j0, if_neg (by decide)]
  by_cases k2 : K = 2
  · rw [if_pos k2]; exact aw
  by_cases k3 : K = 3
  · rw [if_neg k2, if_pos k3]; exact aw
  obtain ⟨rfl, h5⟩ : m' = m'' ∧ m'.length ≤ 2 := by
    rcases h4 with h | h | h
    · exact absurd h k2
    · exact absurd h k3
    · exact h
  obtain ⟨j, rfl⟩ : ∃ j, n = j + 1 + 1 + 1 := ⟨n - 3, by omega⟩
  rw [if_neg k2, if_neg k3, stepBack_ranges m' h5 j, Option.bind_some, if_pos rfl]
  exact aw
theorem stepBack_map0 {F T GF GT N : Int} {sl : List S57} {M : Int} (h : Sound 0 F T GF GT N sl M) (k : Nat) (hk : 2100 < k) : step_Map.f k 0 F T GF GT N sl M = some ([⟨F, T - F, (sl.length : Int)⟩], 0) := by
  have b1 := h.f0; have b2 := h.ft; have b3 := h.t
  unfold step_Map.f
  rw [check_f 0 F T GF GT N sl M k hk, Option.bind_some, stepBack_chk h, if_pos rfl, if_pos rfl, w64 (i := T - F) (by omega)]
theorem stepBack_map1 {F T GF GT N : Int} {sl : List S57} {M : Int} (h : Sound 1 F T GF GT N sl M) (k : Nat) (hk : 2100 < k) : step_Map.f k 1 F T GF GT N sl M = some ([⟨F, GF - F, N⟩, ⟨GT, T - GT, (sl.length : Int) - N⟩], 0) := by
  have b1 := h.f0; have b2 := h.ft; have b3 := h.t; have b4 := h.len
  obtain ⟨a1, a2, a3, a4, a5⟩ := h.around rfl
  unfold step_Map.f
  rw [check_f 1 F T GF GT N sl M k hk, Option.bind_some, stepBack_chk h, if_pos rfl, if_neg (by decide), if_pos rfl, w64 (i := GF - F) (by omega), w64 (i := T - GT) (by omega), w64 (i := (sl.length : Int) - N) (by omega)]
theorem stepBack_map2 {K F T GF GT N : Int} {sl : List S57} {M : Int} (h : Sound K F T GF GT N sl M) (h0 : ¬ K = 0) (h1 : ¬ K = 1) (k : Nat) (hk : 2100 < k) : step_Map.f k K F T GF GT N sl M = some ([], 0) := by
  unfold step_Map.f
  rw [check_f K F T GF GT N sl M k hk, Option.bind_some, stepBack_chk h, if_pos rfl, if_neg h0, if_neg h1]
theorem stepBack_inv0 (k : Nat) (hk : 10 ≤ k) : pos_Invert.f k ([] : List S51) = some ([], 0) := by
  rw [PosE.invert_f _ (by simp) k (by simpa using by omega)]
  rfl
theorem stepBack_inv1 {f0 f1 f2 : Int} (h0 : 0 ≤ f0) (h1 : f0 ≤ 65536) (h2 : 0 ≤ f1) (h3 : f1 ≤ 65536) (h4 : 0 ≤ f2) (h5 : f2 ≤ 65536) (k : Nat) (hk : 10 ≤ k) : pos_Invert.f k [(⟨f0, f1, f2⟩ : S51)] = some ([⟨f0, f2, f1⟩], 0) := by
  rw [PosE.invert_f _ (by simp) k (by simpa using by omega)]
  have e : PosE.T [(⟨f0, f1, f2⟩ : S51)] = [⟨f0 + 0, f2, f1⟩] := rfl
  unfold PosE.I
  have o1 : pos_Right.okB [(⟨f0, f1, f2⟩ : S51)] = true := by
    unfold pos_Right.okB
    rw [PosA.okL_good (by dsimp only; omega)]
    rfl
  have o2 : pos_Right.okB [(⟨f0 + 0, f2, f1⟩ : S51)] = true := by
    unfold pos_Right.okB
    rw [PosA.okL_good (by dsimp only; omega)]
    rfl
  rw [e, if_pos o1, if_pos o2, Int.add_zero]
theorem stepBack_inv2 {f0 f1 f2 g0 g1 g2 : Int} (h0 : 0 ≤ f0) (h1 : f0 ≤ 65536) (h2 : 0 ≤ f1) (h3 : f1 ≤ 65536) (h4 : 0 ≤ f2) (h5 : f2 ≤ 65536) (q0 : f0 + f1 < g0) (q1 : g0 ≤ 65536) (q2 : 0 ≤ g1) (q3 : g1 ≤ 65536) (q4 : 0 ≤ g2) (q5 : g2 ≤ 65536) (q6 : g0 + (f2 - f1) ≤ 65536) (k : Nat) (hk : 10 ≤ k) : pos_Invert.f k [(⟨f0, f1, f2⟩ : S51), ⟨g0, g1, g2⟩] = some ([⟨f0, f2, f1⟩, ⟨g0 + (f2 - f1), g2, g1⟩], 0) := by
  rw [PosE.invert_f _ (by simp) k (by simpa using by omega)]
  have s1 : pos_each.sh [(⟨f0, f1, f2⟩ : S51), ⟨g0, g1, g2⟩] 1 = f2 - f1 := by simp [pos_each.sh]
  have e : PosE.T [(⟨f0, f1, f2⟩ : S51), ⟨g0, g1, g2⟩] = [⟨f0 + 0, f2, f1⟩, ⟨g0 + pos_each.sh [(⟨f0, f1, f2⟩ : S51), ⟨g0, g1, g2⟩] 1, g2, g1⟩] := rfl
  unfold PosE.I
  have o1 : pos_Right.okB [(⟨f0, f1, f2⟩ : S51), ⟨g0, g1, g2⟩] = true := by
    unfold pos_Right.okB
    rw [PosA.okL_good (by dsimp only; omega), PosA.okL_good (by dsimp only; omega)]
    rfl
  have o2 : pos_Right.okB [(⟨f0 + 0, f2, f1⟩ : S51), ⟨g0 + (f2 - f1), g2, g1⟩] = true := by
    unfold pos_Right.okB
    rw [PosA.okL_good (by dsimp only; omega), PosA.okL_good (by dsimp only; omega)]
    rfl
  rw [e, s1, if_pos o1, if_pos o2, Int.add_zero]
theorem stepBack_replace (n : Nat) (hn : 10000 ≤ n) (l : List S57) (hn2 : l.length + 2200 ≤ n) {F T GF GT N : Int} {sl : List S57} {M : Int} (c0 : (A l 0 F T GF GT N sl M).2 = 0) : emenderlaw09_StepBack.f (n + 1) l 0 F T GF GT N sl M = some true := by
  obtain ⟨q1, q2, q3, q4, q5⟩ := A_ok c0
  have ql := fc_len q1
  have qx := fc_len q4
  have b1 := q2.f0; have b2 := q2.ft; have b3 := q2.t; have b4 := q2.len
  have hD : D l 0 F T GF GT N sl M = l.take F.toNat ++ (sl ++ l.drop T.toNat) := rfl
  have hlen : ((D l 0 F T GF GT N sl M).length : Int) = F + (sl.length : Int) + ((l.length : Int) - T) := by
    rw [hD]; simp only [List.length_append, List.length_take, List.length_drop]; omega
  have hcut : ((l.take T.toNat).drop F.toNat).length = T.toNat - F.toNat := by simp only [List.length_take, List.length_drop]; omega
  have hs : Sound 0 F (F + (sl.length : Int)) 0 0 0 ((l.take T.toNat).drop F.toNat) 0 := by
    refine ⟨by omega, b1, by omega, by omega, ?_, stepBack_part q1 stepBack_mid⟩
    unfold okKind
    rfl
  have hA : A (D l 0 F T GF GT N sl M) 0 F (F + (sl.length : Int)) 0 0 0 ((l.take T.toNat).drop F.toNat) 0 = (l, 0) := by
    refine stepBack_apply hs q4 (by omega) ?_ q1
    rw [hD]
    show (l.take F.toNat ++ (sl ++ l.drop T.toNat)).take F.toNat ++ ((l.take T.toNat).drop F.toNat ++ (l.take F.toNat ++ (sl ++ l.drop T.toNat)).drop (F + (sl.length : Int)).toNat) = l
    have e1 : (l.take F.toNat ++ (sl ++ l.drop T.toNat)).take F.toNat = l.take F.toNat := by
      rw [List.take_append_of_le_length (by rw [List.length_take]; omega), List.take_take, Nat.min_self]
    have e2 : (l.take F.toNat ++ (sl ++ l.drop T.toNat)).drop (F + (sl.length : Int)).toNat = l.drop T.toNat := by
      rw [← List.append_assoc, List.drop_append_of_le_length (by simp only [List.length_append, List.length_take]; omega), List.drop_of_length_le (by simp only [List.length_append, List.length_take]; omega), List.nil_append]
    rw [e1, e2, ← List.append_assoc, stepBack_glue l (by omega), List.take_append_drop]
  have hinv : step_Invert.f (n + 1) l 0 F T GF GT N sl M = some (0, F, F + (sl.length : Int), 0, 0, 0, (l.take T.toNat).drop F.toNat, 0, 0) := by
    unfold step_Invert.f
    try simp only [step_Invert.j0]
    rw [apply_f l 0 F T GF GT N sl M _ (by omega), Option.bind_some, if_pos c0, if_neg (by decide), if_pos trivial, if_pos b1, if_pos b2, if_pos q3, stepBack_tok _ ((l.take T.toNat).drop F.toNat) (by simp) (by omega), Option.bind_some, w64 (i := F + (sl.length : Int)) (by omega)]
  refine stepBack_fin n hn l hn2 c0 hinv hA (stepBack_map0 q2 _ (by omega)) (stepBack_map0 hs _ (by omega)) (stepBack_inv1 b1 (by omega) (by omega) (by omega) (by omega) (by omega) _ (by omega)) (.inr (.inr ⟨?_, by simp⟩))
  rw [hcut, show F + (sl.length : Int) - F = (sl.length : Int) by omega, show ((T.toNat - F.toNat : Nat) : Int) = T - F by omega]
theorem stepBack_around (n : Nat) (hn : 10000 ≤ n) (l : List S57) (hn2 : l.length + 2200 ≤ n) {F T GF GT N : Int} {sl : List S57} {M : Int} (c0 : (A l 1 F T GF GT N sl M).2 = 0) : emenderlaw09_StepBack.f (n + 1) l 1 F T GF GT N sl M = some true := by
  obtain ⟨q1, q2, q3, q4, q5⟩ := A_ok c0
  have ql := fc_len q1
  have qx := fc_len q4
  have b1 := q2.f0; have b2 := q2.ft; have b3 := q2.t; have b4 := q2.len
  obtain ⟨a1, a2, a3, a4, a5⟩ := q2.around rfl
  have hD : D l 1 F T GF GT N sl M = l.take F.toNat ++ (sl.take N.toNat ++ ((l.take GT.toNat).drop GF.toNat ++ (sl.drop N.toNat ++ l.drop T.toNat))) := rfl
  have hlen : ((D l 1 F T GF GT N sl M).length : Int) = F + N + (GT - GF) + ((sl.length : Int) - N) + ((l.length : Int) - T) := by
    rw [hD]; simp only [List.length_append, List.length_take, List.length_drop]; omega
  have l1 : ((l.take GF.toNat).drop F.toNat).length = GF.toNat - F.toNat := by simp only [List.length_take, List.length_drop]; omega
  have l2 : ((l.take T.toNat).drop GT.toNat).length = T.toNat - GT.toNat := by simp only [List.length_take, List.length_drop]; omega
  have hcut : ((l.take GF.toNat).drop F.toNat ++ (l.take T.toNat).drop GT.toNat).length = (GF.toNat - F.toNat) + (T.toNat - GT.toNat) := by rw [List.length_append, l1, l2]
  have hs : Sound 1 F (F + N + GT - GF + (sl.length : Int) - N) (F + N) (F + N + GT - GF) (GF - F) ((l.take GF.toNat).drop F.toNat ++ (l.take T.toNat).drop GT.toNat) 0 := by
    refine ⟨by omega, b1, by omega, by omega, ?_, ?_⟩
    · unfold okKind
      rw [if_pos rfl, decide_eq_true (by omega)]
      rfl
    · rw [List.all_append, stepBack_part q1 stepBack_mid, stepBack_part q1 stepBack_mid]
      rfl
  have hA : A (D l 1 F T GF GT N sl M) 1 F (F + N + GT - GF + (sl.length : Int) - N) (F + N) (F + N + GT - GF) (GF - F) ((l.take GF.toNat).drop F.toNat ++ (l.take T.toNat).drop GT.toNat) 0 = (l, 0) := by
    refine stepBack_apply hs q4 (by omega) ?_ q1
    have e0 : D (D l 1 F T GF GT N sl M) 1 F (F + N + GT - GF + (sl.length : Int) - N) (F + N) (F + N + GT - GF) (GF - F) ((l.take GF.toNat).drop F.toNat ++ (l.take T.toNat).drop GT.toNat) 0 = (D l 1 F T GF GT N sl M).take F.toNat ++ (((l.take GF.toNat).drop F.toNat ++ (l.take T.toNat).drop GT.toNat).take (GF - F).toNat ++ (((D l 1 F T GF GT N sl M).take (F + N + GT - GF).toNat).drop (F + N).toNat ++ (((l.take GF.toNat).drop F.toNat ++ (l.take T.toNat).drop GT.toNat).drop (GF - F).toNat ++ (D l 1 F T GF GT N sl M).drop (F + N + GT - GF + (sl.length : Int) - N).toNat))) := rfl
    have e1 : (D l 1 F T GF GT N sl M).take F.toNat = l.take F.toNat := by
      rw [hD, List.take_append_of_le_length (by rw [List.length_take]; omega), List.take_take, Nat.min_self]
    have e2 : ((l.take GF.toNat).drop F.toNat ++ (l.take T.toNat).drop GT.toNat).take (GF - F).toNat = (l.take GF.toNat).drop F.toNat := by
      rw [List.take_append_of_le_length (by omega), List.take_of_length_le (by omega)]
    have e3 : ((l.take GF.toNat).drop F.toNat ++ (l.take T.toNat).drop GT.toNat).drop (GF - F).toNat = (l.take T.toNat).drop GT.toNat := by
      rw [List.drop_append_of_le_length (by omega), List.drop_of_length_le (by omega), List.nil_append]
    have e4 : ((D l 1 F T GF GT N sl M).take (F + N + GT - GF).toNat).drop (F + N).toNat = (l.take GT.toNat).drop GF.toNat := by
      rw [hD, ← List.append_assoc, ← List.append_assoc, List.take_append_of_le_length (by simp only [List.length_append, List.length_take, List.length_drop]; omega), List.take_of_length_le (by simp only [List.length_append, List.length_take, List.length_drop]; omega), List.drop_append_of_le_length (by simp only [List.length_append, List.length_take, List.length_drop]; omega), List.drop_of_length_le (by simp only [List.length_append, List.length_take, List.length_drop]; omega), List.nil_append]
    have e5 : (D l 1 F T GF GT N sl M).drop (F + N + GT - GF + (sl.length : Int) - N).toNat = l.drop T.toNat := by
      rw [hD, ← List.append_assoc, ← List.append_assoc, ← List.append_assoc, List.drop_append_of_le_length (by simp only [List.length_append, List.length_take, List.length_drop]; omega), List.drop_of_length_le (by simp only [List.length_append, List.length_take, List.length_drop]; omega), List.nil_append]
    rw [e0, e1, e2, e3, e4, e5, ← List.append_assoc, stepBack_glue l (by omega), ← List.append_assoc, stepBack_glue l (by omega), ← List.append_assoc, stepBack_glue l (by omega), List.take_append_drop]
  have hinv : step_Invert.f (n + 1) l 1 F T GF GT N sl M = some (1, F, F + N + GT - GF + (sl.length : Int) - N, F + N, F + N + GT - GF, GF - F, (l.take GF.toNat).drop F.toNat ++ (l.take T.toNat).drop GT.toNat, 0, 0) := by
    unfold step_Invert.f
    try simp only [step_Invert.j0]
    rw [apply_f l 1 F T GF GT N sl M _ (by omega), Option.bind_some, if_pos c0, if_pos trivial, if_pos b1, if_pos a1, if_pos (by omega), if_pos (by omega), if_pos a3, if_pos q3, stepBack_tok _ ((l.take GF.toNat).drop F.toNat ++ (l.take T.toNat).drop GT.toNat) (by simp) (by omega), Option.bind_some,
      w64 (i := F + N) (by omega), w64 (i := F + N + GT) (by omega), w64 (i := F + N + GT - GF) (by omega), w64 (i := F + N + GT - GF + (sl.length : Int)) (by omega), w64 (i := F + N + GT - GF + (sl.length : Int) - N) (by omega), w64 (i := GF - F) (by omega)]
  refine stepBack_fin n hn l hn2 c0 hinv hA (stepBack_map1 q2 _ (by omega)) (stepBack_map1 hs _ (by omega)) (stepBack_inv2 b1 (by omega) (by omega) (by omega) (by omega) (by omega) (by omega) (by omega) (by omega) (by omega) (by omega) (by omega) (by omega) _ (by omega)) (.inr (.inr ⟨?_, by simp⟩))
  rw [hcut, show F + N - F = N by omega, show F + N + GT - GF + (sl.length : Int) - N - (F + N + GT - GF) = (sl.length : Int) - N by omega, show (((GF.toNat - F.toNat) + (T.toNat - GT.toNat) : Nat) : Int) - (GF - F) = T - GT by omega, show F + N + GT - GF = GT + (N - (GF - F)) by omega]
theorem stepBack_marks (n : Nat) (hn : 10000 ≤ n) (l : List S57) (hn2 : l.length + 2200 ≤ n) {K F T GF GT N : Int} {sl : List S57} {M : Int} (k23 : K = 2 ∨ K = 3) (c0 : (A l K F T GF GT N sl M).2 = 0) : emenderlaw09_StepBack.f (n + 1) l K F T GF GT N sl M = some true := by
  obtain ⟨q1, q2, q3, q4, q5⟩ := A_ok c0
  have ql := fc_len q1
  have qx := fc_len q4
  have b1 := q2.f0; have b2 := q2.ft; have b3 := q2.t; have b4 := q2.len
  have k0 : ¬ K = 0 := by omega
  have k1 : ¬ K = 1 := by omega
  obtain ⟨g, hD⟩ : ∃ g, D l K F T GF GT N sl M = marks g l F.toNat T.toNat := by
    unfold D
    rw [if_neg k0, if_neg k1]
    split
    · exact ⟨_, rfl⟩
    · exact ⟨_, rfl⟩
  have hlen : (D l K F T GF GT N sl M).length = l.length := by rw [hD, marks_length]
  have hok : F < T ∧ one M = true := by
    have := q2.kind
    unfold okKind at this
    rw [if_neg k1, if_neg k0, if_pos k23] at this
    simp only [Bool.and_eq_true, decide_eq_true_eq] at this
    exact ⟨this.1.1, this.1.2.1⟩
  have hs : Sound (5 - K) F T 0 0 0 ([] : List S57) M := by
    refine ⟨by simp, b1, b2, b3, ?_, rfl⟩
    unfold okKind
    rw [if_neg (by omega), if_neg (by omega), if_pos (by omega), decide_eq_true ⟨hok.1, hok.2, rfl⟩]
    rfl
  have hdo := do_f hs (D l K F T GF GT N sl M) (by omega) (by omega) (n + 1) (by omega)
  have hDl : (D (D l K F T GF GT N sl M) (5 - K) F T 0 0 0 ([] : List S57) M).length = l.length := by
    have : ∃ g2, D (D l K F T GF GT N sl M) (5 - K) F T 0 0 0 ([] : List S57) M = marks g2 (D l K F T GF GT N sl M) F.toNat T.toNat := by
      rw [show ∀ x : List S57, D x (5 - K) F T 0 0 0 ([] : List S57) M = if 5 - K = 3 then marks (gT M) x F.toNat T.toNat else marks (gA M) x F.toNat T.toNat from fun x => by unfold D; rw [if_neg (by omega), if_neg (by omega)]]
      split
      · exact ⟨_, rfl⟩
      · exact ⟨_, rfl⟩
    obtain ⟨g2, hg2⟩ := this
    rw [hg2, marks_length, hlen]
  by_cases c : sameL (D (D l K F T GF GT N sl M) (5 - K) F T 0 0 0 ([] : List S57) M) l = true
  · have hinv : step_Invert.f (n + 1) l K F T GF GT N sl M = some (5 - K, F, T, 0, 0, 0, [], M, 0) := by
      unfold step_Invert.f
      try simp only [step_Invert.j0]
      rw [apply_f l K F T GF GT N sl M _ (by omega), Option.bind_some, if_pos c0, if_neg k1, if_neg k0, w64 (i := 5 - K) (by omega), q5, hdo, Option.bind_some, stepBack_same _ _ (by omega) _ (by omega), Option.bind_some, if_pos c]
    have hA : A (D l K F T GF GT N sl M) (5 - K) F T 0 0 0 ([] : List S57) M = (l, 0) := stepBack_apply hs q4 (by omega) (stepBack_eq _ _ c) q1
    exact stepBack_fin n hn l hn2 c0 hinv hA (stepBack_map2 q2 k0 k1 _ (by omega)) (stepBack_map2 hs (by omega) (by omega) _ (by omega)) (stepBack_inv0 _ (by omega)) (by omega)
  · have hcut : ((l.take T.toNat).drop F.toNat).length = T.toNat - F.toNat := by simp only [List.length_take, List.length_drop]; omega
    have hs0 : Sound 0 F T 0 0 0 ((l.take T.toNat).drop F.toNat) 0 := by
      refine ⟨by omega, b1, b2, b3, ?_, stepBack_part q1 stepBack_mid⟩
      unfold okKind
      rfl
    have hinv : step_Invert.f (n + 1) l K F T GF GT N sl M = some (0, F, T, 0, 0, 0, (l.take T.toNat).drop F.toNat, 0, 0) := by
      unfold step_Invert.f
      try simp only [step_Invert.j0]
      rw [apply_f l K F T GF GT N sl M _ (by omega), Option.bind_some, if_pos c0, if_neg k1, if_neg k0, w64 (i := 5 - K) (by omega), q5, hdo, Option.bind_some, stepBack_same _ _ (by omega) _ (by omega), Option.bind_some, if_neg c, if_pos b1, if_pos b2, if_pos q3, stepBack_tok _ ((l.take T.toNat).drop F.toNat) (by simp) (by omega), Option.bind_some]
    have hA : A (D l K F T GF GT N sl M) 0 F T 0 0 0 ((l.take T.toNat).drop F.toNat) 0 = (l, 0) := by
      refine stepBack_apply hs0 q4 (by omega) ?_ q1
      show (D l K F T GF GT N sl M).take F.toNat ++ ((l.take T.toNat).drop F.toNat ++ (D l K F T GF GT N sl M).drop T.toNat) = l
      have e1 : (D l K F T GF GT N sl M).take F.toNat = l.take F.toNat := by
        rw [hD]
        refine List.ext_getElem (by rw [List.length_take, List.length_take, marks_length]) fun j h1 h4 => ?_
        rw [List.length_take] at h4
        rw [List.getElem_take, List.getElem_take, marks_get, if_neg (by omega)]
      have e2 : (D l K F T GF GT N sl M).drop T.toNat = l.drop T.toNat := by
        rw [hD]
        refine List.ext_getElem (by rw [List.length_drop, List.length_drop, marks_length]) fun j h1 h4 => ?_
        rw [List.getElem_drop, List.getElem_drop, marks_get, if_neg (by omega)]
      rw [e1, e2, ← List.append_assoc, stepBack_glue l (by omega), List.take_append_drop]
    exact stepBack_fin n hn l hn2 c0 hinv hA (stepBack_map2 q2 k0 k1 _ (by omega)) (stepBack_map0 hs0 _ (by omega)) (stepBack_inv0 _ (by omega)) (by omega)
theorem StepBack : emenderlaw09_StepBack.Pure := by
  intro l K F T GF GT N sl M hl _ hK hF hT hGF hGT hN hsl _ hM
  refine ⟨l.length + 20000 + 1, ?_⟩
  by_cases c0 : (A l K F T GF GT N sl M).2 = 0
  · have q2 := (A_ok c0).2.1
    rcases q2.kinds with rfl | rfl | h | h
    · exact stepBack_replace (l.length + 20000) (by omega) l (by omega) c0
    · exact stepBack_around (l.length + 20000) (by omega) l (by omega) c0
    · exact stepBack_marks (l.length + 20000) (by omega) l (by omega) (.inl h) c0
    · exact stepBack_marks (l.length + 20000) (by omega) l (by omega) (.inr h) c0
  · have aw : ((emenderlaw09_awake.f (l.length + 20000 + 1)).bind fun t => some t) = some true := by rw [awake _ (by omega)]; rfl
    have hinv : step_Invert.f (l.length + 20000 + 1) l K F T GF GT N sl M = some (0, 0, 0, 0, 0, 0, [], 0, (A l K F T GF GT N sl M).2) := by
      unfold step_Invert.f
      try simp only [step_Invert.j0]
      rw [apply_f l K F T GF GT N sl M _ (by omega), Option.bind_some, if_neg c0]
    unfold emenderlaw09_StepBack.f
    rw [apply_f l K F T GF GT N sl M _ (by omega), Option.bind_some, hinv, Option.bind_some]
    dsimp only
    rw [if_neg c0, if_pos rfl]
    have tw : emenderlaw09_twin.f (l.length + 20000 + 1) 0 0 0 0 0 0 ([] : List S57) 0 0 0 0 0 0 0 ([] : List S57) 0 = some true := by
      unfold emenderlaw09_twin.f
      rw [if_pos rfl, if_pos rfl, if_pos rfl, if_pos rfl, if_pos rfl, if_pos rfl, if_pos rfl, alike _ _ (by simp) _ (by simp)]
      rfl
    rw [tw, Option.bind_some, if_pos rfl]
    exact aw

end Go.Proofs.Ytlngjgcodknpiaa.Pure
