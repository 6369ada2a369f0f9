/- The places of a text in a document, told on the document itself: greedy, from the left; the bytes of a text and its code points. -/
import Derived.Lib.MapLaws
import Derived.Test.YtfcfomconcoimaaDoorPFax0
import Derived.Test.YtfcfomconcoimaaDoorPFay0
import Derived.Test.YtfcfomconcoimaaDoorPFay1
import Derived.Test.YtfcfomconcoimaaDoorFindA
namespace Go.Proofs.YtfcfomconcoimaaDoor.FindB
open Go.RowKit Go.Proofs.YtfcfomconcoimaaDoorW.PrintWords Go.Proofs.YtfcfomconcoimaaDoorW.PrintMore
open Go.Proofs.YtfcfomconcoimaaDoor Go.Proofs.YtfcfomconcoimaaDoor.PFa Go.Proofs.YtfcfomconcoimaaDoor.FlatC Go.Proofs.YtfcfomconcoimaaDoor.FindA
set_option linter.unusedSimpArgs false
set_option linter.unusedVariables false

/-! ### Bytes and code points -/
theorem dec_at (s : ByteArray) (i : Nat) : Utf8.decode s i = Lib.decodeL (s.data.toList.drop i) := by
 have h := Lib.tail_decode s i 0
 rw [Nat.add_zero] at h
 rw [← h]
 unfold Lib.decodeL
 congr 1
 apply ByteArray.ext
 apply Array.ext'
 simp [ByteArray.data_extract]
 exact List.take_of_length_le (by rw [List.length_drop, ← Lib.size_eq]; exact Nat.le_refl _)
theorem enc_scan (s : ByteArray) : ∀ (f i : Nat), s.size ≤ i + f → Lib.validD (s.data.toList.drop i) = true → (find_points.scan s f i).flatMap Lib.encodeRune = s.data.toList.drop i
 | 0, i, h, _ => by
  rw [find_points.scan, List.drop_of_length_le (by rw [← Lib.size_eq]; omega)]
  rfl
 | f + 1, i, h, hv => by
  rw [find_points.scan]
  by_cases c : i < s.size
  ·have hne : s.data.toList.drop i ≠ [] := fun e => by
    have := congrArg List.length e
    rw [List.length_drop, ← Lib.size_eq] at this
    simp only [List.length_nil] at this
    omega
   rw [Lib.validD_step _ hne] at hv
   by_cases b : (Lib.decodeL (s.data.toList.drop i)).1 = 65533 ∧ (Lib.decodeL (s.data.toList.drop i)).2 = 1
   ·rw [if_pos b] at hv
    cases hv
   ·rw [if_neg b, List.drop_drop] at hv
    rw [if_pos c, List.flatMap_cons]
    have hw := width_pos s i c
    have e1 : rune s i = ((Lib.decodeL (s.data.toList.drop i)).1 : Int) := by unfold rune; rw [dec_at]
    have e2 : width s i = (Lib.decodeL (s.data.toList.drop i)).2 := by unfold width; rw [dec_at]
    rw [e1, Lib.encode_decode _ hne b, e2, enc_scan s f (i + (Lib.decodeL (s.data.toList.drop i)).2) (by rw [← e2]; omega) hv, ← List.drop_drop, List.take_append_drop]
  ·rw [if_neg c, List.drop_of_length_le (by rw [← Lib.size_eq]; omega)]
   rfl
theorem enc_points {s : ByteArray} {p : List Int} (h : find_points.f s = some (p, 0)) : p.flatMap Lib.encodeRune = s.data.toList := by
 unfold find_points.f at h
 split at h
 ·exact absurd (Prod.mk.inj (Option.some.inj h)).2 (by decide)
 ·split at h
  case isTrue hv =>
   obtain ⟨rfl, _⟩ := Prod.mk.inj (Option.some.inj h)
   exact enc_scan s s.size 0 (by omega) (by rw [List.drop_zero]; exact hv)
  ·exact absurd (Prod.mk.inj (Option.some.inj h)).2 (by decide)
/-! ### On the document itself -/
/-- What stands at each place: a code point, or none. -/
def tok (t : S48) : Option Int := if t.f0 = 0 then some t.f2 else none
def M (l : List S48) : List (Option Int) := l.map tok
def pre (p : List Int) (X : List (Option Int)) : Bool := (p.map some).isPrefixOf X
def G (p : List Int) : List (Option Int) → Nat → Int → List S28
 | [], _, _ => []
 | x :: r, 0, i => if pre p (x :: r) = true then ⟨i, i + (p.length : Int)⟩ :: G p r (p.length - 1) (i + 1) else G p r 0 (i + 1)
 | x :: r, s + 1, i => G p r s (i + 1)
theorem G_skip (p : List Int) : ∀ (X : List (Option Int)) (s : Nat) (i : Int), s ≤ X.length → G p X s i = G p (X.drop s) 0 (i + (s : Int))
 | [], s, i, h => by
  obtain rfl : s = 0 := by simpa using h
  rw [List.drop_zero]
  simp [G]
 | x :: r, 0, i, h => by simp
 | x :: r, s + 1, i, h => by
  rw [G, G_skip p r s (i + 1) (by simpa using h), List.drop_succ_cons]
  congr 1
  omega
theorem pre_len {p : List Int} {X : List (Option Int)} (h : pre p X = true) : p.length ≤ X.length := by
 unfold pre at h
 have := (List.isPrefixOf_iff_prefix.1 h).length_le
 simpa using this
/-- A code point stands in a run, and the text ends within it. -/
theorem pre_run (p q : List Int) (R : List (Option Int)) (hR : R = [] ∨ ∃ R', R = none :: R') : pre p (q.map some ++ R) = true ↔ p <+: q := by
 unfold pre
 rw [List.isPrefixOf_iff_prefix]
 constructor
 ·intro h
  induction p generalizing q with
  | nil => exact List.nil_prefix
  | cons c p ih =>
   cases q with
   | nil =>
    rcases hR with rfl | ⟨R', rfl⟩
    ·simp at h
    ·rw [List.map_cons, List.map_nil, List.nil_append, List.cons_prefix_cons] at h
     cases h.1
   | cons d q =>
    rw [List.map_cons, List.map_cons, List.cons_append, List.cons_prefix_cons] at h
    rw [List.cons_prefix_cons]
    exact ⟨Option.some.inj h.1, ih q h.2⟩
 ·rintro ⟨r, rfl⟩
  rw [List.map_append, List.append_assoc]
  exact List.prefix_append _ _
theorem rd_get (l : List Int) (i : Nat) (h : i < l.length) : rd l (i : Int) = l[i] := by simp [rd, rdOf, List.getD_eq_getElem?_getD, List.getElem?_eq_getElem h]
theorem all_iff (p q : List Int) (i : Nat) (hi : i + p.length ≤ q.length) : ∀ (f k : Nat), k + f = p.length → (find_fits.all p q false (i : Int) f k = true ↔ p.drop k <+: q.drop (i + k))
 | 0, k, h => by
  rw [find_fits.all, List.drop_of_length_le (by omega)]
  simp
 | f + 1, k, h => by
  rw [find_fits.all, List.drop_eq_getElem_cons (show k < p.length by omega), List.drop_eq_getElem_cons (show i + k < q.length by omega), List.cons_prefix_cons]
  have e1 : find_fits.key false (rd q ((i : Int) + (k : Int))) = q[i + k] := by
   rw [show (i : Int) + (k : Int) = ((i + k : Nat) : Int) by omega, rd_get q (i + k) (by omega)]
   rfl
  have e2 : find_fits.key false (rd p (k : Int)) = p[k] := by
   rw [rd_get p k (by omega)]
   rfl
  rw [e1, e2]
  by_cases c : q[i + k] = p[k]
  ·rw [if_pos c, all_iff p q i hi f (k + 1) (by omega), ← Nat.add_assoc]
   simp [c]
  ·rw [if_neg c]
   simp only [Bool.false_eq_true, false_iff, not_and]
   exact fun e => absurd e.symm c
theorem fits_iff (p q : List Int) (i : Nat) (hi : i ≤ q.length) : find_fits.f p q false false (i : Int) = true ↔ p <+: q.drop i := by
 unfold find_fits.f
 by_cases h : i + p.length ≤ q.length
 ·rw [decide_eq_true (show (i : Int) + (p.length : Int) ≤ (q.length : Int) by omega)]
  have := all_iff p q i h p.length 0 (by omega)
  rw [List.drop_zero, Nat.add_zero] at this
  rw [← this]
  simp [find_fits.edge]
 ·rw [decide_eq_false (by omega), Bool.false_and]
  constructor
  ·intro h; cases h
  ·intro hp
   have := hp.length_le
   rw [List.length_drop] at this
   omega
/-- A run, and what stands behind it. -/
theorem at_G (p q : List Int) (hp : 0 < p.length) (a : Int) (R : List (Option Int)) (hR : R = [] ∨ ∃ R', R = none :: R') : ∀ (f i : Nat), i ≤ q.length → q.length < i + f → G p ((q.drop i).map some ++ R) 0 (a + (i : Int)) = find_Find.at_ p false false a q f (i : Int) ++ G p R 0 (a + (q.length : Int))
 | 0, i, h1, h2 => by omega
 | f + 1, i, h1, h2 => by
  rw [find_Find.at_]
  by_cases c : i < q.length
  ·rw [if_pos (by omega)]
   have hpre := pre_run p (q.drop i) R hR
   have hfit := fits_iff p q i h1
   rw [List.drop_eq_getElem_cons c, List.map_cons, List.cons_append] at hpre ⊢
   rw [← List.drop_eq_getElem_cons c] at hpre
   rw [G]
   by_cases k : find_fits.f p q false false (i : Int) = true
   ·have hl := (hfit.1 k).length_le
    rw [List.length_drop] at hl
    rw [if_pos (hpre.2 (hfit.1 k)), if_pos k, G_skip _ _ _ _ (by rw [List.length_append, List.length_map, List.length_drop]; omega), List.cons_append]
    have e : ((q.drop (i + 1)).map some ++ R).drop (p.length - 1) = (q.drop (i + p.length)).map some ++ R := by
     rw [List.drop_append_of_le_length (by rw [List.length_map, List.length_drop]; omega), ← List.map_drop, List.drop_drop]
     congr 3
     omega
    rw [e, show a + (i : Int) + 1 + ((p.length - 1 : Nat) : Int) = a + ((i + p.length : Nat) : Int) by omega, at_G p q hp a R hR f (i + p.length) (by omega) (by omega)]
    congr 1
   ·rw [if_neg (fun h => k (hfit.2 (hpre.1 h))), if_neg k, show a + (i : Int) + 1 = a + ((i + 1 : Nat) : Int) by omega, at_G p q hp a R hR f (i + 1) (by omega) (by omega)]
    congr 1
  ·obtain rfl : i = q.length := by omega
   rw [if_neg (by omega), List.drop_length]
   rfl
theorem hits_G (p q : List Int) (hp : 0 < p.length) (a : Int) (R : List (Option Int)) (hR : R = [] ∨ ∃ R', R = none :: R') : G p (q.map some ++ R) 0 a = find_Find.hits p false false (a, q) ++ G p R 0 (a + (q.length : Int)) := by
 have h := at_G p q hp a R hR (q.length + 1) 0 (Nat.zero_le _) (by omega)
 rw [List.drop_zero, Int.natCast_zero, Int.add_zero] at h
 exact h
theorem G_none (p : List Int) (hp : 0 < p.length) (R : List (Option Int)) (i : Int) : G p (none :: R) 0 i = G p R 0 (i + 1) := by
 rw [G, if_neg]
 unfold pre
 cases p with
 | nil => cases hp
 | cons c p => simp [List.isPrefixOf]
theorem go_G (p : List Int) (hp : 0 < p.length) : ∀ (l : List S48) (i a : Int) (q : List Int), (q.length ≠ 0 → a + (q.length : Int) = i) → find_Find.all p false false (find_runs.go l i a q) = G p (q.map some ++ M l) 0 (if q.length = 0 then i else a)
 | [], i, a, q, h => by
  rw [find_runs.go]
  by_cases c : q.length = 0
  ·rw [if_pos c, List.length_eq_zero_iff.1 c]
   rfl
  ·rw [if_neg c, if_neg c]
   have := hits_G p q hp a [] (.inl rfl)
   show find_Find.all p false false [(a, q)] = G p (q.map some ++ []) 0 a
   rw [this]
   simp [find_Find.all, G]
 | t :: l, i, a, q, h => by
  rw [find_runs.go]
  have hM : M (t :: l) = tok t :: M l := rfl
  by_cases c0 : t.f0 = 0
  ·rw [if_pos c0, go_G p hp l (i + 1) _ (q ++ [t.f2]) (fun _ => by
    rw [List.length_append, List.length_singleton]
    split
    ·omega
    ·next hq => have := h hq; omega), hM]
   have e : tok t = some t.f2 := by unfold tok; rw [if_pos c0]
   rw [e, if_neg (by rw [List.length_append, List.length_singleton]; omega), List.map_append, List.append_assoc]
   by_cases c : q.length = 0
   ·rw [if_pos c]
    rfl
   ·rw [if_neg c]
    rfl
  ·have e : tok t = none := by unfold tok; rw [if_neg c0]
   rw [if_neg c0, hM, e]
   by_cases c : q.length = 0
   ·rw [if_pos c, if_pos c, go_G p hp l (i + 1) 0 [] (fun h => absurd rfl h), List.length_eq_zero_iff.1 c]
    show G p (M l) 0 (i + 1) = G p (none :: M l) 0 i
    rw [G_none p hp]
   ·rw [if_neg c, if_neg c, hits_G p q hp a (none :: M l) (.inr ⟨_, rfl⟩), G_none p hp, h c]
    have := go_G p hp l (i + 1) 0 [] (fun h => absurd rfl h)
    unfold find_Find.all at this ⊢
    rw [List.flatMap_cons, this]
    rfl
/-- All places, on the document itself. -/
theorem all_G (p : List Int) (hp : 0 < p.length) (l : List S48) : find_Find.all p false false (find_runs.f l) = G p (M l) 0 0 := go_G p hp l 0 0 [] (fun h => absurd rfl h)
/-- The first place that is found, and the rest. -/
theorem G_step (p : List Int) (hp : 0 < p.length) : ∀ (X : List (Option Int)) (i : Int) (e : S28) (r : List S28), G p X 0 i = e :: r → ∃ j : Nat, e = ⟨i + (j : Int), i + (j : Int) + (p.length : Int)⟩ ∧ p.map some <+: X.drop j ∧ r = G p (X.drop (j + p.length)) 0 (i + (j : Int) + (p.length : Int))
 | [], i, e, r, h => by cases h
 | x :: X, i, e, r, h => by
  rw [G] at h
  by_cases c : pre p (x :: X) = true
  ·rw [if_pos c] at h
   injection h with h1 h2
   have hl := pre_len c
   simp only [List.length_cons] at hl
   refine ⟨0, by rw [← h1]; simp, by rw [List.drop_zero]; exact List.isPrefixOf_iff_prefix.1 c, ?_⟩
   rw [← h2, G_skip p X _ _ (by omega), Nat.zero_add]
   have e1 : (x :: X).drop p.length = X.drop (p.length - 1) := by
    rw [show p.length = (p.length - 1) + 1 by omega, List.drop_succ_cons]
    rfl
   rw [e1]
   congr 1
   simp
   omega
  ·rw [if_neg c] at h
   obtain ⟨j, h1, h2, h3⟩ := G_step p hp X (i + 1) e r h
   refine ⟨j + 1, by rw [h1]; congr 1 <;> (simp; omega), by rw [List.drop_succ_cons]; exact h2, ?_⟩
   rw [h3, show j + 1 + p.length = (j + p.length) + 1 by omega, List.drop_succ_cons]
   congr 1
   simp
   omega
theorem G_found (p : List Int) : ∀ (X : List (Option Int)) (i : Int) (j : Nat), j < X.length → p.map some <+: X.drop j → G p X 0 i ≠ []
 | [], i, j, h, _ => by simp at h
 | x :: X, i, j, hj, h => by
  rw [G]
  by_cases c : pre p (x :: X) = true
  ·rw [if_pos c]
   exact fun e => by cases e
  ·rw [if_neg c]
   cases j with
   | zero => exact absurd (List.isPrefixOf_iff_prefix.2 h) c
   | succ j => exact G_found p X (i + 1) j (by simpa using hj) (by rw [List.drop_succ_cons] at h; exact h)

/-! ### Tokens that are right -/
theorem check_right : ∀ (l : List S48) (n i : Int) (r : Int × Int), flat_Check.l0 l n i = some r → r.2 = 0 → ∀ t ∈ l, flat_Right.f t.f0 t.f1 t.f2 t.f3 = some true
 | [], n, i, r, _, _, t, ht => by cases ht
 | x :: l, n, i, r, h, h0, t, ht => by
  rw [flat_Check.l0] at h
  obtain ⟨b, hb, h⟩ := Option.bind_eq_some_iff.1 h
  cases b with
  | false =>
   rw [if_neg (by decide)] at h
   rw [← Option.some.inj h] at h0
   exact absurd h0 (show ¬ (4 : Int) = 0 by decide)
  | true =>
   have bad : ∀ e : Int, e ≠ 0 → some (i, e) = some r → False := fun e he h => he (by rw [← Option.some.inj h] at h0; exact h0)
   rcases List.mem_cons.1 ht with rfl | ht
   ·exact hb
   ·rw [if_pos rfl] at h
    by_cases c2 : x.f0 = 2
    ·rw [if_pos c2] at h
     by_cases cn : n = 0
     ·rw [if_pos cn] at h
      exact (bad 4 (by decide) h).elim
     ·rw [if_neg cn] at h
      exact check_right l _ _ r h h0 t ht
    ·rw [if_neg c2] at h
     by_cases c1 : x.f0 = 1
     ·rw [if_pos c1] at h
      by_cases cn : n = 32
      ·rw [if_pos cn] at h
       exact (bad 8 (by decide) h).elim
      ·rw [if_neg cn] at h
       exact check_right l _ _ r h h0 t ht
     ·rw [if_neg c1] at h
      exact check_right l _ _ r h h0 t ht
theorem check_ok {l : List S48} {c : Int} (h : flat_Check.f l = some (c, 0)) : l.length ≤ 2048 ∧ ∀ t ∈ l, flat_Right.f t.f0 t.f1 t.f2 t.f3 = some true := by
 unfold flat_Check.f at h
 by_cases hl : (l.length : Int) > 2048
 ·rw [if_pos hl] at h
  exact absurd (Prod.mk.inj (Option.some.inj h)).2 (by decide)
 ·rw [if_neg hl] at h
  exact ⟨by omega, check_right l 0 0 _ h rfl⟩
theorem find_all_cases (l : List S48) (s : ByteArray) : (∃ e, e ≠ 0 ∧ ∀ fold whole, find_Find.f l s fold whole = some ([], e)) ∨ (∃ p c, 0 < p.length ∧ flat_Check.f l = some (c, 0) ∧ find_points.f s = some (p, 0) ∧ ∀ fold whole, find_Find.f l s fold whole = some (find_Find.all p fold whole (find_runs.f l), 0)) := by
 by_cases hl : l.length ≤ 1000000
 ·exact find_cases l hl s
 ·left
  refine ⟨2, by decide, fun fold whole => ?_⟩
  unfold find_Find.f flat_Check.f
  rw [if_pos (by omega), Option.bind_some, if_neg (by decide)]
theorem M_drop (l : List S48) (n : Nat) : M (l.drop n) = (M l).drop n := by unfold M; rw [List.map_drop]

end Go.Proofs.YtfcfomconcoimaaDoor.FindB
