/- The pure statement of the law DiffBlocks: what stays and goes is the first, what stays and comes the second, what stays is the same; of two the same all stay. -/
import Derived.Test.YtjpmlggkhhoooaaGDiffBlocks
import Derived.Test.YtjpmlggkhhoooaaBaseDq
import Derived.Test.YtjpmlggkhhoooaaPDqx0
import Derived.Test.YtjpmlggkhhoooaaPDqx10
import Derived.Test.YtjpmlggkhhoooaaPDqx15
import Derived.Test.YtjpmlggkhhoooaaPDqx16
import Derived.Test.YtjpmlggkhhoooaaPDqx7
import Derived.Test.YtjpmlggkhhoooaaPDqx8
namespace Go.Proofs.Ytjpmlggkhhoooaa.Pure
open Go.RowKit Go.Proofs.YtjpmlggkhhoooaaW.PrintWords Go.Proofs.YtjpmlggkhhoooaaW.PrintMore
open Go.Proofs Go.Proofs.Ytjpmlggkhhoooaa Go.Proofs.Ytjpmlggkhhoooaa.PDq Go.Proofs.Ytjpmlggkhhoooaa.StepA Go.Proofs.Ytjpmlggkhhoooaa.StepB Go.Proofs.Ytjpmlggkhhoooaa.StepD Go.Proofs.Ytjpmlggkhhoooaa.DiffA Go.Proofs.Ytjpmlggkhhoooaa.DiffP
set_option linter.unusedSimpArgs false
set_option linter.unusedVariables false

theorem at_row {L : List S55} {t : Nat} {r : S55} {l : List S55} (h : L.drop t = r :: l) : t < L.length ∧ rd_T55 L (t : Int) = r ∧ L.drop (t + 1) = l := by
  have ht : t < L.length := by
    rcases Nat.lt_or_ge t L.length with h1 | h1
    · exact h1
    · rw [List.drop_eq_nil_of_le h1] at h
      cases h
  rw [List.drop_eq_getElem_cons ht] at h
  injection h with h1 h2
  exact ⟨ht, by simp [rd_T55, List.getD_eq_getElem?_getD, List.getElem?_eq_getElem ht, h1], h2⟩
def Good (a b : List S64) (x y : Int) : Prop := 0 ≤ x ∧ x < (a.length : Int) ∧ 0 ≤ y ∧ y < (b.length : Int) ∧ sameL (partOf a x).f1 (partOf b y).f1 = true
theorem Goes.more {X Y : List Int} {good good2 : Int → Int → Prop} (hg : ∀ i j (hi : i < X.length) (hj : j < Y.length), good X[i] Y[j] → good2 X[i] Y[j]) {i j : Nat} {l : List S55} (h : Goes X Y good i j l) : Goes X Y good2 i j l := by
  induction h with
  | done i j hi hj => exact .done i j hi hj
  | gone i j l h t ih => exact .gone i j l h ih
  | come i j l h t ih => exact .come i j l h ih
  | stay i j l h h2 g t ih => exact .stay i j l h h2 (hg i j h h2 g) ih
theorem blocks_loop (a b : List S64) (ha : a.length ≤ 2048) (hb : b.length ≤ 2048) (X Y : List Int) (hX : X.length ≤ 2048) (hY : Y.length ≤ 2048) (L : List S55) (hL : L.length ≤ 8192) (hfin : sameL a b = true → L.length = X.length) {i j : Nat} {l : List S55} (h : Goes X Y (Good a b) i j l) :
    ∀ (t k : Nat), L.drop t = l → t ≤ L.length → 3 * l.length + 9000 < k → emenderlaw23_DiffBlocks.l0 k a b L X Y (i : Int) (j : Int) (t : Int) = some true := by
  induction h with
  | done i j hi hj =>
    intro t k ht hle hk
    obtain ⟨k, rfl⟩ : ∃ m, k = m + 1 := ⟨k - 1, by omega⟩
    have h1 : L.length ≤ t := by simpa using ht
    subst hi hj
    simp only [emenderlaw23_DiffBlocks.l0]
    rw [if_neg (by omega), if_pos trivial, if_pos trivial, alike a b (by omega) k (by omega), Option.bind_some, awake23 k (by omega), Option.bind_some]
    by_cases c : sameL a b = true
    · rw [if_pos c, if_pos (by rw [hfin c])]
    · rw [if_neg c]
  | gone i j l h hg ih =>
    intro t k ht hle hk
    obtain ⟨h1, h2, h3⟩ := at_row ht
    have hz := hg.size
    simp only [List.length_cons] at hk
    obtain ⟨k, rfl⟩ : ∃ m, k = m + 2 := ⟨k - 2, by omega⟩
    have ht' : t + l.length + 1 = L.length := by
      have := congrArg List.length ht
      rw [List.length_drop, List.length_cons] at this
      omega
    have i0 : (0 : Int) ≤ (i : Int) := by omega
    have i1 : ((i : Int) < (X.length : Int)) := by omega
    have t1 : ((t : Int) < (L.length : Int)) := by omega
    have t0 : (0 : Int) ≤ (t : Int) := by omega
    have ih := fun m (hm : 3 * l.length + 9000 < m) => ih (t + 1) m h3 (by omega) hm
    have hr := rdI X i h
    have w1 : wrap64 ((t : Int) + 1) = ((t + 1 : Nat) : Int) := by rw [w64 (by omega)]; omega
    have w2 : wrap64 ((i : Int) + 1) = ((i + 1 : Nat) : Int) := by rw [w64 (by omega)]; omega
    simp only [emenderlaw23_DiffBlocks.l0]
    rw [if_pos t1, if_pos t0, h2]
    simp only
    rw [if_neg (show ¬ ((1 : Int) = 2) by decide), if_neg (Int.not_le.2 i1), if_pos i0, if_pos i1, hr, if_pos rfl, w2]
    simp only [emenderlaw23_DiffBlocks.j2]
    rw [if_pos trivial]
    obtain ⟨k, rfl⟩ : ∃ m, k = m + 1 := ⟨k - 1, by omega⟩
    simp only [emenderlaw23_DiffBlocks.j3]
    rw [if_neg (by decide), w1]
    exact ih k (by omega)
  | come i j l h hg ih =>
    intro t k ht hle hk
    obtain ⟨h1, h2, h3⟩ := at_row ht
    have hz := hg.size
    simp only [List.length_cons] at hk
    obtain ⟨k, rfl⟩ : ∃ m, k = m + 3 := ⟨k - 3, by omega⟩
    have ht' : t + l.length + 1 = L.length := by
      have := congrArg List.length ht
      rw [List.length_drop, List.length_cons] at this
      omega
    have i0 : (0 : Int) ≤ (j : Int) := by omega
    have i1 : ((j : Int) < (Y.length : Int)) := by omega
    have t1 : ((t : Int) < (L.length : Int)) := by omega
    have t0 : (0 : Int) ≤ (t : Int) := by omega
    have ih := fun m (hm : 3 * l.length + 9000 < m) => ih (t + 1) m h3 (by omega) hm
    have hr := rdI Y j h
    have w1 : wrap64 ((t : Int) + 1) = ((t + 1 : Nat) : Int) := by rw [w64 (by omega)]; omega
    have w2 : wrap64 ((j : Int) + 1) = ((j + 1 : Nat) : Int) := by rw [w64 (by omega)]; omega
    simp only [emenderlaw23_DiffBlocks.l0]
    rw [if_pos t1, if_pos t0, h2]
    simp only
    rw [if_pos trivial]
    simp only [emenderlaw23_DiffBlocks.j2]
    rw [if_neg (by decide), if_neg (Int.not_le.2 i1), if_pos i0, if_pos i1, hr, if_pos rfl, w2]
    simp only [emenderlaw23_DiffBlocks.j3]
    rw [if_neg (by decide), w1]
    exact ih k (by omega)
  | stay i j l h h' g hg ih =>
    intro t k ht hle hk
    obtain ⟨h1, h2, h3⟩ := at_row ht
    have hz := hg.size
    simp only [List.length_cons] at hk
    obtain ⟨k, rfl⟩ : ∃ m, k = m + 3 := ⟨k - 3, by omega⟩
    have ht' : t + l.length + 1 = L.length := by
      have := congrArg List.length ht
      rw [List.length_drop, List.length_cons] at this
      omega
    have i0 : (0 : Int) ≤ (i : Int) := by omega
    have i1 : ((i : Int) < (X.length : Int)) := by omega
    have j0 : (0 : Int) ≤ (j : Int) := by omega
    have j1 : ((j : Int) < (Y.length : Int)) := by omega
    have t1 : ((t : Int) < (L.length : Int)) := by omega
    have t0 : (0 : Int) ≤ (t : Int) := by omega
    have ih := fun m (hm : 3 * l.length + 9000 < m) => ih (t + 1) m h3 (by omega) hm
    have hr := rdI X i h
    have hr2 := rdI Y j h'
    have w1 : wrap64 ((t : Int) + 1) = ((t + 1 : Nat) : Int) := by rw [w64 (by omega)]; omega
    have w2 : wrap64 ((i : Int) + 1) = ((i + 1 : Nat) : Int) := by rw [w64 (by omega)]; omega
    have w3 : wrap64 ((j : Int) + 1) = ((j + 1 : Nat) : Int) := by rw [w64 (by omega)]; omega
    obtain ⟨x0, x1, y0, y1, gs⟩ := g
    generalize X[i] = x at *
    generalize Y[j] = y at *
    obtain ⟨p1, _, p3, p4⟩ := pt_spec a (by omega) x x0 x1
    obtain ⟨q1, _, q3, q4⟩ := pt_spec b (by omega) y y0 y1
    have p1 := p1 k (by omega)
    have q1 := q1 k (by omega)
    have me := mx_end x0 x1 p3 p4
    have ne := mx_end y0 y1 q3 q4
    have hl := part_length a x
    rw [partOf_f1, partOf_f1] at gs
    rw [partOf_f1] at hl
    generalize pt a x = p at *
    generalize pt b y = q at *
    have ea := alike _ ((b.take (mx q y + 1).toNat).drop y.toNat) (show ((a.take (mx p x + 1).toNat).drop x.toNat).length < 17592186044416 by omega) k (by omega)
    have ih := ih k (by omega)
    have wm : wrap64 (mx p x + 1) = mx p x + 1 := w64 (by omega)
    have wn : wrap64 (mx q y + 1) = mx q y + 1 := w64 (by omega)
    simp only [emenderlaw23_DiffBlocks.l0]
    rw [if_pos t1, if_pos t0, h2]
    simp only
    rw [if_neg (show ¬ ((0 : Int) = 2) by decide), if_neg (Int.not_le.2 i1), if_pos i0, if_pos i1, hr, if_pos rfl, w2]
    simp only [emenderlaw23_DiffBlocks.j2]
    rw [if_neg (by decide), if_neg (Int.not_le.2 j1), if_pos j0, if_pos j1, hr2, if_pos rfl, w3]
    simp only [emenderlaw23_DiffBlocks.j3]
    rw [if_pos trivial, if_pos x0, p1, Option.bind_some, wm, if_pos me.1, if_pos me.2, q1, Option.bind_some, wn, if_pos y0, if_pos ne.1, if_pos ne.2, ea, Option.bind_some, gs, if_pos rfl, w1]
    exact ih
theorem rows_self (a : List S64) (X : List Int) : (rows a a X X).length = X.length := by
  have hl : ∀ i, i < X.length → like a a X X i i = true := fun i hi => sameL_refl _
  unfold rows
  rw [DiffT.P_diag hl X.length 0 (by omega) (by omega)]
  have key : ∀ (d i : Nat), i + d = X.length → (diff_Rows.outs (X.map (partOf a)) (X.map (partOf a)) (diff_gaps.trace X.length X.length ((i : Int), (i : Int)) (diff_grid.enc ((List.range' i d).map fun x => (x, x))))).length = d := by
    intro d
    induction d with
    | zero =>
      intro i hi
      simp only [diff_grid.enc, List.range'_zero, List.map_nil, diff_gaps.trace, diff_Rows.outs, List.flatMap_cons, List.flatMap_nil, List.append_nil, diff_Rows.add, Int.toNat_natCast]
      rw [if_neg (by decide)]
      simp
      omega
    | succ d ih =>
      intro i hi
      have := ih (i + 1) (by omega)
      simp only [diff_grid.enc, List.range'_succ, List.map_cons, diff_gaps.trace, diff_Rows.outs, List.flatMap_cons, diff_Rows.add, Int.toNat_natCast]
      rw [if_pos trivial]
      simp only [diff_grid.enc, diff_Rows.outs, Int.natCast_add, Int.cast_ofNat_Int] at this
      rw [List.length_append]
      rw [this]
      simp
      omega
  have := key X.length 0 (by omega)
  simpa using this
theorem DiffBlocks : emenderlaw23_DiffBlocks.Pure := by
  intro l0 l1 h0 w0 h1 w1
  refine ⟨12000, ?_⟩
  have easy : ∀ k, 100 < k → emenderlaw23_DiffBlocks.j0 k l0 l1 true = some true := by
    intro k hk
    obtain ⟨k, rfl⟩ : ∃ m, k = m + 1 := ⟨k - 1, by omega⟩
    simp only [emenderlaw23_DiffBlocks.j0]
    rw [if_pos trivial, awake23 k (by omega), Option.bind_some]
  unfold emenderlaw23_DiffBlocks.f
  by_cases c0 : (l0.length : Int) > 200
  · rw [if_pos c0]
    exact easy 12000 (by omega)
  · rw [if_neg c0]
    by_cases c1 : (l1.length : Int) > 200
    · rw [decide_eq_true c1]
      exact easy 12000 (by omega)
    · rw [decide_eq_false c1]
      simp only [emenderlaw23_DiffBlocks.j0]
      rw [if_neg (by decide)]
      obtain ⟨e, he⟩ : ∃ e, diff_both.f l0 l1 = some e := by
        unfold diff_both.f
        rw [flat_check, flat_check]
        exact ⟨_, rfl⟩
      obtain ⟨X, Y, x1, y1, x2, y2, kx, ky, hR⟩ := rows_f l0 l1 (by omega) (by omega) e he
      rw [hR, Option.bind_some, (kx 11999 (by omega)).1, (ky 11999 (by omega)).1]
      simp only [Option.bind_some]
      by_cases ce : e = 0
      · rw [if_pos ce, if_neg (show ¬ (X.length > 200 ∨ Y.length > 200) by omega)]
        simp only
        rw [if_pos trivial]
        have hg : Goes X Y (Good l0 l1) 0 0 (rows l0 l1 X Y) := Goes.more (fun i j hi hj g => ⟨(x2 _ (List.getElem_mem hi)).1, (x2 _ (List.getElem_mem hi)).2, (y2 _ (List.getElem_mem hj)).1, (y2 _ (List.getElem_mem hj)).2, g⟩) (goes_rows l0 l1 X Y)
        have hz := hg.size
        refine blocks_loop l0 l1 (by omega) (by omega) X Y (by omega) (by omega) (rows l0 l1 X Y) (by omega) ?_ hg 0 11999 rfl (Nat.zero_le _) (by omega)
        intro hs
        obtain rfl := sameL_eq l0 l1 hs
        have e1 := (kx 11999 (by omega)).1
        have e2 := (ky 11999 (by omega)).1
        rw [e1] at e2
        obtain rfl := Option.some.inj e2
        exact rows_self l0 X
      · rw [if_neg ce]
        simp only
        rw [if_neg ce, if_pos (by rfl), awake23 11999 (by omega), Option.bind_some]
end Go.Proofs.Ytjpmlggkhhoooaa.Pure
