/- DiffRows: which blocks stay, go and come between any two documents, and the step between them, are the document's, for all tokens. -/
import Derived.Test.YtjpmlggkhhoooaaGDiffRows
import Derived.Test.YtjpmlggkhhoooaaBaseDq
import Derived.Test.YtjpmlggkhhoooaaPDqx0
import Derived.Test.YtjpmlggkhhoooaaPDqy1
import Derived.Test.YtjpmlggkhhoooaaPDqy2
import Derived.Test.YtjpmlggkhhoooaaPDqy3
import Derived.Test.YtjpmlggkhhoooaaPDqy5
import Derived.Test.YtjpmlggkhhoooaaPDqy6
import Derived.Test.YtjpmlggkhhoooaaPDqy0
import Derived.Test.YtjpmlggkhhoooaaPDqy7
import Derived.Test.YtjpmlggkhhoooaaPDqy8
namespace Go.Proofs.Ytjpmlggkhhoooaa.Pure
open Go.RowKit Go.Proofs.YtjpmlggkhhoooaaW.PrintWords Go.Proofs.YtjpmlggkhhoooaaW.PrintMore
open Go.Proofs Go.Proofs.Ytjpmlggkhhoooaa Go.Proofs.Ytjpmlggkhhoooaa.PDq Go.Proofs.Ytjpmlggkhhoooaa.StepA Go.Proofs.Ytjpmlggkhhoooaa.StepB Go.Proofs.Ytjpmlggkhhoooaa.StepD Go.Proofs.Ytjpmlggkhhoooaa.DiffA Go.Proofs.Ytjpmlggkhhoooaa.DiffP Go.Proofs.Ytjpmlggkhhoooaa.DiffE
set_option linter.unusedSimpArgs false
set_option linter.unusedVariables false

theorem EvD.le {α : Type} {f : Nat → Option α} {r : α} (K : Nat) (h : ∀ k, K < k → f k = some r) : EvD f r := ⟨K + 1, fun k hk => h k (by omega)⟩
/-! ### the blocks -/
theorem blocks_l0 (a : List S64) (ha : a.length ≤ 2048) (X : List Int) (hX : X.length ≤ a.length) (hin : ∀ x ∈ X, 0 ≤ x ∧ x < (a.length : Int)) : ∀ (d k i : Nat) (out : List (List S64)), i + d = X.length → out.length ≤ i → 3 * a.length + 8 + d < k → emenderref23_blocks.l0 k a X out (i : Int) = some (out ++ (X.drop i).map fun x => (partOf a x).f1) := by
  intro d
  induction d with
  | zero =>
    intro k i out h1 h2 hk
    obtain ⟨k, rfl⟩ : ∃ m, k = m + 1 := ⟨k - 1, by omega⟩
    simp only [emenderref23_blocks.l0]
    rw [if_neg (by omega), List.drop_eq_nil_of_le (by omega)]
    simp
  | succ d ih =>
    intro k i out h1 h2 hk
    obtain ⟨k, rfl⟩ : ∃ m, k = m + 1 := ⟨k - 1, by omega⟩
    have hi : i < X.length := by omega
    have i1 : (i : Int) < (X.length : Int) := by omega
    have i0 : (0 : Int) ≤ (i : Int) := by omega
    have w3 : wrap64 ((i : Int) + 1) = ((i + 1 : Nat) : Int) := by rw [w64 (by omega)]; omega
    have o1 : out.length < 5864062014805 := by omega
    obtain ⟨x0, x1⟩ := hin X[i] (List.getElem_mem hi)
    obtain ⟨_, p1, p3, p4⟩ := pt_spec a (by omega) X[i] x0 x1
    have p1 := p1 k (by omega)
    have ih' := fun o (ho : o.length ≤ i + 1) => ih k (i + 1) o (by omega) ho (by omega)
    have hd : ((X.drop i).map fun x => (partOf a x).f1) = (partOf a X[i]).f1 :: (X.drop (i + 1)).map fun x => (partOf a x).f1 := by rw [List.drop_eq_getElem_cons hi, List.map_cons]
    have hr := rdI X i hi
    have hp : (partOf a X[i]).f1 = (a.take (mx (pt a X[i]) X[i] + 1).toNat).drop X[i].toNat := rfl
    rw [hd]
    clear hd ih hin hX h1
    generalize (partOf a X[i]).f1 = pa at hp ⊢
    have me := mx_end x0 x1 p3 p4
    generalize pt a X[i] = p at p1 p3 p4 hp me
    generalize X[i] = x at x0 x1 p1 hr hp me
    have w1 : wrap64 (mx p x + 1) = mx p x + 1 := w64 (by omega)
    simp only [emenderref23_blocks.l0]
    rw [if_pos i1, if_pos i0, hr, p1, Option.bind_some, w1, w3, if_pos x0, if_pos me.1, if_pos me.2, if_pos o1, ih' _ (by simp; omega), hp, List.append_assoc]
    rfl
theorem blocks_f (a : List S64) (ha : a.length ≤ 2048) (X : List Int) (hX : X.length ≤ a.length) (hin : ∀ x ∈ X, 0 ≤ x ∧ x < (a.length : Int)) (hk : ∀ k, 4 * a.length + 8 < k → emenderref04_Kids.f k a (-1) = some X) (k : Nat) (hk2 : 4 * a.length + 10 < k) : emenderref23_blocks.f k a = some (X.map fun x => (partOf a x).f1) := by
  unfold emenderref23_blocks.f
  rw [hk k (by omega), Option.bind_some]
  have := blocks_l0 a ha X hX hin X.length k 0 [] (by omega) (by simp) (by omega)
  simpa using this
/-! ### the same -/
theorem rsame_loop (a b : List S64) (hab : a.length = b.length) (hl : a.length < 17592186044416) : ∀ (d k : Nat) (i : Int), 0 ≤ i → i + d = a.length → d < k → emenderref04_Same.l0 k a b i = some (sameL (a.drop i.toNat) (b.drop i.toNat)) := by
  intro d
  induction d with
  | zero =>
    intro k i h0 h1 hk
    obtain ⟨k, rfl⟩ : ∃ m, k = m + 1 := ⟨k - 1, by omega⟩
    simp only [emenderref04_Same.l0]
    rw [if_neg (by omega), List.drop_eq_nil_of_le (by omega), List.drop_eq_nil_of_le (by omega)]
    rfl
  | succ d ih =>
    intro k i h0 h1 hk
    obtain ⟨k, rfl⟩ : ∃ m, k = m + 1 := ⟨k - 1, by omega⟩
    have ha : i.toNat < a.length := by omega
    have hb : i.toNat < b.length := by omega
    simp only [emenderref04_Same.l0]
    rw [if_pos (by omega), if_pos h0, if_pos (by omega), rd_get a i ha, rd_get b i hb, ne_test, w64 (by omega), List.drop_eq_getElem_cons ha, List.drop_eq_getElem_cons hb]
    simp only [sameL]
    cases e : eqT a[i.toNat] b[i.toNat] with
    | false => simp
    | true =>
      rw [if_neg (by decide), ih k (i + 1) (by omega) (by omega) (by omega), show (i + 1).toNat = i.toNat + 1 by omega]
      simp
theorem rsame (a b : List S64) (hl : a.length < 17592186044416) (k : Nat) (hk : a.length < k) : emenderref04_Same.f k a b = some (sameL a b) := by
  unfold emenderref04_Same.f
  by_cases h : (a.length : Int) = (b.length : Int)
  · rw [if_pos h, rsame_loop a b (by omega) hl a.length k 0 (by omega) (by omega) hk]
    rfl
  · rw [if_neg h, sameL_length a b (by omega)]
/-! ### the rows -/
def cv (r : S55) : S62 := ⟨r.f0, r.f1, r.f2⟩
theorem rows_l4 (X Y : List Int) (x15 : List S76) (x : Nat) (hx : x < x15.length) (hl : x15.length ≤ 1000) (p q : Nat) (hr : rd_T76 x15 (x : Int) = ⟨(p : Int), (q : Int)⟩) (hp : p ≤ X.length) (hq : q ≤ Y.length) (hX : X.length ≤ 2048) (hY : Y.length ≤ 2048) (r : List S62 × Int) :
    ∀ (d j : Nat) (out : List S62), j + d = q → out.length ≤ p + j →
    (∀ o : List S62, o = out ++ ((Y.take q).drop j).map (fun y => (⟨2, -1, y⟩ : S62)) → (if x + 1 < x15.length then p < X.length ∧ q < Y.length ∧ EvD (fun k => emenderref23_Rows.l2 k X Y x15 (o ++ [⟨0, X.getD p 0, Y.getD q 0⟩]) ((p + 1 : Nat) : Int) ((q + 1 : Nat) : Int) ((x + 1 : Nat) : Int)) r else EvD (fun k => emenderref23_Rows.l2 k X Y x15 o ((p + 1 : Nat) : Int) ((q + 1 : Nat) : Int) ((x + 1 : Nat) : Int)) r)) →
    EvD (fun k => emenderref23_Rows.l4 k X Y x15 out (p : Int) (j : Int) (x : Int)) r := by
  have t0 : (0 : Int) ≤ (x : Int) := by omega
  have t1 : (x : Int) < (x15.length : Int) := by omega
  intro d
  induction d with
  | zero =>
    intro j out hd ho h
    obtain rfl : j = q := by omega
    have e0 : (Y.take j).drop j = [] := List.drop_eq_nil_of_le (by rw [List.length_take]; omega)
    have h := h _ rfl
    rw [e0, List.map_nil, List.append_nil] at h
    have wx : wrap64 ((x : Int) + 1) = ((x + 1 : Nat) : Int) := by rw [w64 (by omega)]; omega
    have wp : wrap64 ((p : Int) + 1) = ((p + 1 : Nat) : Int) := by rw [w64 (by omega)]; omega
    have wj : wrap64 ((j : Int) + 1) = ((j + 1 : Nat) : Int) := by rw [w64 (by omega)]; omega
    have o1 : out.length < 5864062014805 := by omega
    by_cases c : x + 1 < x15.length
    · rw [if_pos c] at h
      obtain ⟨h1, h2, h3⟩ := h
      have c1 : (x : Int) < wrap64 ((x15.length : Int) - 1) := by rw [w64 (by omega)]; omega
      have p0 : (0 : Int) ≤ (p : Int) := by omega
      have p1 : (p : Int) < (X.length : Int) := by omega
      have q0 : (0 : Int) ≤ (j : Int) := by omega
      have q1 : (j : Int) < (Y.length : Int) := by omega
      refine EvD.succ (fun k => ?_) h3
      simp only [emenderref23_Rows.l4]
      rw [if_pos t0, if_pos t1, hr]
      simp only
      rw [if_neg (Int.lt_irrefl _), if_pos c1, if_pos p0, if_pos p1, if_pos q0, if_pos q1, if_pos o1, wx, wp, wj]
      rfl
    · rw [if_neg c] at h
      have c1 : ¬ (x : Int) < wrap64 ((x15.length : Int) - 1) := by rw [w64 (by omega)]; omega
      refine EvD.succ (fun k => ?_) h
      simp only [emenderref23_Rows.l4]
      rw [if_pos t0, if_pos t1, hr]
      simp only
      rw [if_neg (Int.lt_irrefl _), if_neg c1, wx, wp, wj]
  | succ d ih =>
    intro j out hd ho h
    have hj : j < Y.length := by omega
    have j0 : (0 : Int) ≤ (j : Int) := by omega
    have j1 : (j : Int) < (Y.length : Int) := by omega
    have j2 : (j : Int) < (q : Int) := by omega
    have o1 : out.length < 5864062014805 := by omega
    have hy := rdI Y j hj
    have ih := ih (j + 1) (out ++ [⟨2, -1, Y[j]⟩]) (by omega) (by simp; omega) (fun o ho => h o (by
      rw [ho, List.drop_eq_getElem_cons (i := j) (by rw [List.length_take]; omega), List.map_cons, List.getElem_take, List.append_assoc]
      rfl))
    have wj : wrap64 ((j : Int) + 1) = ((j + 1 : Nat) : Int) := by rw [w64 (by omega)]; omega
    refine EvD.succ (fun k => ?_) ih
    simp only [emenderref23_Rows.l4]
    rw [if_pos t0, if_pos t1, hr]
    simp only
    rw [if_pos j2, if_pos j0, if_pos j1, if_pos o1, wj, hy]
theorem rows_l3 (X Y : List Int) (x15 : List S76) (x : Nat) (hx : x < x15.length) (hl : x15.length ≤ 1000) (p q : Nat) (hr : rd_T76 x15 (x : Int) = ⟨(p : Int), (q : Int)⟩) (hp : p ≤ X.length) (hX : X.length ≤ 2048) (j : Nat) (hj : j ≤ 2048) (r : List S62 × Int) :
    ∀ (d i : Nat) (out : List S62), i + d = p → out.length ≤ i + j →
    (∀ o : List S62, o = out ++ ((X.take p).drop i).map (fun y => (⟨1, y, -1⟩ : S62)) → o.length ≤ p + j → EvD (fun k => emenderref23_Rows.l4 k X Y x15 o (p : Int) (j : Int) (x : Int)) r) →
    EvD (fun k => emenderref23_Rows.l3 k X Y x15 out (i : Int) (j : Int) (x : Int)) r := by
  have t0 : (0 : Int) ≤ (x : Int) := by omega
  have t1 : (x : Int) < (x15.length : Int) := by omega
  intro d
  induction d with
  | zero =>
    intro i out hd ho h
    obtain rfl : i = p := by omega
    have h := h out (by rw [List.drop_eq_nil_of_le (by rw [List.length_take]; omega), List.map_nil, List.append_nil]) (by omega)
    refine EvD.succ (fun k => ?_) h
    simp only [emenderref23_Rows.l3]
    rw [if_pos t0, if_pos t1, hr]
    simp only
    rw [if_neg (Int.lt_irrefl _)]
  | succ d ih =>
    intro i out hd ho h
    have hi : i < X.length := by omega
    have j0 : (0 : Int) ≤ (i : Int) := by omega
    have j1 : (i : Int) < (X.length : Int) := by omega
    have j2 : (i : Int) < (p : Int) := by omega
    have o1 : out.length < 5864062014805 := by omega
    have hy := rdI X i hi
    have ih := ih (i + 1) (out ++ [⟨1, X[i], -1⟩]) (by omega) (by simp; omega) (fun o ho => h o (by
      rw [ho, List.drop_eq_getElem_cons (i := i) (by rw [List.length_take]; omega), List.map_cons, List.getElem_take, List.append_assoc]
      rfl))
    have wj : wrap64 ((i : Int) + 1) = ((i + 1 : Nat) : Int) := by rw [w64 (by omega)]; omega
    refine EvD.succ (fun k => ?_) ih
    simp only [emenderref23_Rows.l3]
    rw [if_pos t0, if_pos t1, hr]
    simp only
    rw [if_pos j2, if_pos j0, if_pos j1, if_pos o1, wj, hy]
theorem at_pair {L : List S76} {t : Nat} {p q : Nat} {l : List (Nat × Nat)} (h : L.drop t = diff_grid.enc ((p, q) :: l)) : t < L.length ∧ rd_T76 L (t : Int) = ⟨(p : Int), (q : Int)⟩ ∧ L.drop (t + 1) = diff_grid.enc l := by
  have ht : t < L.length := by
    rcases Nat.lt_or_ge t L.length with h1 | h1
    · exact h1
    · rw [List.drop_eq_nil_of_le h1] at h
      cases h
  rw [List.drop_eq_getElem_cons ht] at h
  simp only [diff_grid.enc, List.map_cons] at h
  injection h with h1 h2
  exact ⟨ht, by simp [rd_T76, List.getD_eq_getElem?_getD, List.getElem?_eq_getElem ht, h1], h2⟩
theorem cv_gone (a : List S64) (X : List Int) (p i : Nat) : ((((X.map (partOf a)).take p).drop i).map diff_Rows.gone).map cv = ((X.take p).drop i).map (fun y => (⟨1, y, -1⟩ : S62)) := by
  rw [← List.map_take, ← List.map_drop, List.map_map, List.map_map]
  rfl
theorem cv_come (a : List S64) (X : List Int) (p i : Nat) : ((((X.map (partOf a)).take p).drop i).map diff_Rows.come).map cv = ((X.take p).drop i).map (fun y => (⟨2, -1, y⟩ : S62)) := by
  rw [← List.map_take, ← List.map_drop, List.map_map, List.map_map]
  rfl
theorem rows_l2 (a b : List S64) (X Y : List Int) (lk : Nat → Nat → Bool) (hX : X.length ≤ 400) (hY : Y.length ≤ 400) (x15 : List S76) (hl : x15.length ≤ 1000) {i j : Nat} {l : List (Nat × Nat)} (h : DiffT.Rise lk X.length Y.length i j l) : i ≤ X.length → j ≤ Y.length →
    ∀ (x : Nat) (out : List S62), out.length ≤ i + j → x15.drop x = diff_grid.enc (l ++ [(X.length, Y.length)]) →
    EvD (fun k => emenderref23_Rows.l2 k X Y x15 out (i : Int) (j : Int) (x : Int)) (out ++ (diff_Rows.outs (X.map (partOf a)) (Y.map (partOf b)) (diff_gaps.trace X.length Y.length ((i : Int), (j : Int)) (diff_grid.enc l))).map cv, 0) := by
  induction h with
  | nil i j =>
    intro hi hj x out ho hx
    rw [List.nil_append] at hx
    obtain ⟨h1, h2, h3⟩ := at_pair hx
    have hend : x15.length = x + 1 := by
      have := congrArg List.length hx
      simp only [diff_grid.enc, List.length_drop, List.length_map, List.length_cons, List.length_nil] at this
      omega
    refine EvD.succ (g := fun k => emenderref23_Rows.l3 k X Y x15 out (i : Int) (j : Int) (x : Int)) (fun k => ?_) ?_
    · simp only [emenderref23_Rows.l2]
      rw [if_pos (by omega)]
    · refine rows_l3 X Y x15 x h1 hl X.length Y.length h2 (Nat.le_refl _) (by omega) j (by omega) _ (X.length - i) i out (by omega) ho (fun o ho1 ho2 => ?_)
      refine rows_l4 X Y x15 x h1 hl X.length Y.length h2 (Nat.le_refl _) (Nat.le_refl _) (by omega) (by omega) _ (Y.length - j) j o (by omega) (by omega) (fun o' ho' => ?_)
      rw [if_neg (by omega)]
      refine EvD.now fun k => ?_
      simp only [emenderref23_Rows.l2]
      rw [if_neg (by omega), ho', ho1]
      simp only [diff_grid.enc, List.map_nil, diff_gaps.trace, diff_Rows.outs, List.flatMap_cons, List.flatMap_nil, List.append_nil, diff_Rows.add, Int.toNat_natCast]
      rw [if_neg (by decide), List.append_nil, List.map_append, cv_gone, cv_come, List.append_assoc]
  | cons i j p q l h1 h2 h3 h4 h5 h ih =>
    intro hi hj x out ho hx
    rw [List.cons_append] at hx
    obtain ⟨t1, t2, t3⟩ := at_pair hx
    have hend : x + 1 < x15.length := by
      have := congrArg List.length hx
      simp only [diff_grid.enc, List.length_drop, List.length_map, List.length_cons, List.length_append, List.length_nil] at this
      omega
    refine EvD.succ (g := fun k => emenderref23_Rows.l3 k X Y x15 out (i : Int) (j : Int) (x : Int)) (fun k => ?_) ?_
    · simp only [emenderref23_Rows.l2]
      rw [if_pos (by omega)]
    · refine rows_l3 X Y x15 x t1 hl p q t2 (by omega) (by omega) j (by omega) _ (p - i) i out (by omega) ho (fun o ho1 ho2 => ?_)
      refine rows_l4 X Y x15 x t1 hl p q t2 (by omega) (by omega) (by omega) (by omega) _ (q - j) j o (by omega) (by omega) (fun o' ho' => ?_)
      rw [if_pos hend]
      refine ⟨h2, h4, ?_⟩
      have ho2' : o'.length ≤ p + q := by
        rw [ho', List.length_append, List.length_map, List.length_drop, List.length_take]
        omega
      have := ih (by omega) (by omega) (x + 1) (o' ++ [⟨0, X.getD p 0, Y.getD q 0⟩]) (by simp; omega) t3
      have e : o' ++ [⟨0, X.getD p 0, Y.getD q 0⟩] ++ (diff_Rows.outs (X.map (partOf a)) (Y.map (partOf b)) (diff_gaps.trace X.length Y.length (((p + 1 : Nat) : Int), ((q + 1 : Nat) : Int)) (diff_grid.enc l))).map cv = out ++ (diff_Rows.outs (X.map (partOf a)) (Y.map (partOf b)) (diff_gaps.trace X.length Y.length ((i : Int), (j : Int)) (diff_grid.enc ((p, q) :: l)))).map cv := by
        simp only [diff_grid.enc, List.map_cons, diff_gaps.trace, diff_Rows.outs, List.flatMap_cons, diff_Rows.add, Int.toNat_natCast]
        rw [if_pos trivial, List.map_append, List.map_append, List.map_append, cv_gone, cv_come, ho', ho1, rd86 a X p h2, rd86 b Y q h4, partOf_f0, partOf_f0]
        simp [List.getD_eq_getElem?_getD, h2, h4, cv]
      rw [← e]
      exact this
/-! ### what is alike -/
theorem rlike_l1 (a b : List S64) (ha : a.length ≤ 2048) (X Y : List Int) (hX : X.length ≤ 400) (hY : Y.length ≤ 400) (x11 : List (List Bool)) (h6 : x11.length = X.length) (i : Nat) (hi : i < X.length) (r : List S62 × Int) : ∀ (d j : Nat) (x13 : List Bool), Y.length - j = d → j ≤ Y.length → x13.length = Y.length → (∀ j', j' < j → x13.getD j' false = like a b X Y i j') →
    (∀ y : List Bool, y.length = Y.length → (∀ j', j' < Y.length → y.getD j' false = like a b X Y i j') → EvD (fun k => emenderref23_Rows.l0 k (X.map fun x => (partOf a x).f1) (Y.map fun x => (partOf b x).f1) X Y (x11.set i y) ((i + 1 : Nat) : Int)) r) →
    EvD (fun k => emenderref23_Rows.l1 k (X.map fun x => (partOf a x).f1) (Y.map fun x => (partOf b x).f1) X Y x11 (i : Int) x13 (j : Int)) r := by
  have lx : (X.map fun x => (partOf a x).f1).length = X.length := List.length_map _
  have ly : (Y.map fun x => (partOf b x).f1).length = Y.length := List.length_map _
  intro d
  induction d with
  | zero =>
    intro j x13 hd hj hl hx h
    obtain rfl : j = Y.length := by omega
    refine EvD.succ (fun k => ?_) (h x13 hl hx)
    simp only [emenderref23_Rows.l1]
    rw [ly, if_neg (by omega), if_pos (by omega), if_pos (by omega), w64 (by omega), Int.toNat_natCast]
    rfl
  | succ d ih =>
    intro j x13 hd hj hl hx h
    have hj' : j < Y.length := by omega
    have e1 : rd_L2 (X.map fun x => (partOf a x).f1) (i : Int) = (partOf a X[i]).f1 := by simp [rd_L2, List.getD_eq_getElem?_getD, hi]
    have e2 : rd_L2 (Y.map fun x => (partOf b x).f1) (j : Int) = (partOf b Y[j]).f1 := by simp [rd_L2, List.getD_eq_getElem?_getD, hj']
    have e3 : like a b X Y i j = sameL (partOf a X[i]).f1 (partOf b Y[j]).f1 := by simp [like, List.getD_eq_getElem?_getD, hi, hj']
    have hp := part_length a X[i]
    have hs : EvD (fun k => emenderref04_Same.f k (partOf a X[i]).f1 (partOf b Y[j]).f1) (like a b X Y i j) := by
      rw [e3]
      exact EvD.le 2048 fun k hk => rsame _ _ (by omega) k (by omega)
    refine EvD.succ (g := fun k => (emenderref04_Same.f k (partOf a X[i]).f1 (partOf b Y[j]).f1).bind fun t => emenderref23_Rows.l1 k (X.map fun x => (partOf a x).f1) (Y.map fun x => (partOf b x).f1) X Y x11 (i : Int) (x13.set j t) ((j + 1 : Nat) : Int)) (fun k => ?_)
      (EvD.bind (g := fun k t => emenderref23_Rows.l1 k (X.map fun x => (partOf a x).f1) (Y.map fun x => (partOf b x).f1) X Y x11 (i : Int) (x13.set j t) ((j + 1 : Nat) : Int)) hs (ih (j + 1) _ (by omega) (by omega) (by rw [List.length_set, hl]) (fun j' hj' => ?_) h))
    · simp only [emenderref23_Rows.l1]
      rw [lx, ly, if_pos (by omega), if_pos (by omega), if_pos (by omega), if_pos (by omega), e1, e2, Int.toNat_natCast, w64 (by omega)]
      congr 1
      funext t
      rw [if_pos (by omega)]
      rfl
    · by_cases e : j' = j
      · subst e
        rw [List.getD_eq_getElem?_getD, List.getElem?_set_self (by omega), Option.getD_some]
      · rw [List.getD_eq_getElem?_getD, List.getElem?_set_ne (Ne.symm e), ← List.getD_eq_getElem?_getD]
        exact hx j' (by omega)
theorem rlike_l0 (a b : List S64) (ha : a.length ≤ 2048) (X Y : List Int) (hX : X.length ≤ 400) (hY : Y.length ≤ 400) : ∀ (d i : Nat) (x6 : List (List Bool)), X.length - i = d → i ≤ X.length → x6.length = X.length → (∀ i', i' < i → (x6.getD i' []).length = Y.length ∧ ∀ j', j' < Y.length → (x6.getD i' []).getD j' false = like a b X Y i' j') →
    EvD (fun k => emenderref23_Rows.l0 k (X.map fun x => (partOf a x).f1) (Y.map fun x => (partOf b x).f1) X Y x6 (i : Int)) ((rows a b X Y).map cv, 0) := by
  have lx : (X.map fun x => (partOf a x).f1).length = X.length := List.length_map _
  have ly : (Y.map fun x => (partOf b x).f1).length = Y.length := List.length_map _
  intro d
  induction d with
  | zero =>
    intro i x6 hd hi hl hx
    obtain rfl : i = X.length := by omega
    have hL : Like (like a b X Y) X.length Y.length x6 := ⟨hl, fun i h => (hx i h).1, fun i j h1 h2 => (hx i h1).2 j h2⟩
    have hT := DiffT.T_le (like := like a b X Y) (n := X.length) (m := Y.length) _ 0 0 rfl
    have hP := DiffT.P_length (like := like a b X Y) (n := X.length) (m := Y.length) X.length 0 0 (by omega)
    have hen : (diff_grid.enc (DiffT.P (like a b X Y) X.length Y.length X.length 0 0)).length ≤ 400 := by simp only [diff_grid.enc, List.length_map]; omega
    have he : (diff_grid.enc (DiffT.P (like a b X Y) X.length Y.length X.length 0 0)) ++ [(⟨(X.length : Int), (Y.length : Int)⟩ : S76)] = diff_grid.enc (DiffT.P (like a b X Y) X.length Y.length X.length 0 0 ++ [(X.length, Y.length)]) := by simp [diff_grid.enc]
    have hz := rows_l2 a b X Y (like a b X Y) hX hY _ (by rw [List.length_append, List.length_singleton]; omega) (DiffT.P_rise X.length 0 0) (Nat.zero_le _) (Nat.zero_le _) 0 [] (by simp) he
    rw [List.nil_append] at hz
    refine EvD.succ (g := fun k => (emenderref23_pairs.f k x6 (X.length : Int) (Y.length : Int)).bind fun t => if t.length < 8796093022208 then emenderref23_Rows.l2 k X Y (t ++ [(⟨(X.length : Int), (Y.length : Int)⟩ : S76)]) ([] : List S62) 0 0 0 else none) (fun k => ?_)
      (EvD.bind (g := fun k t => if t.length < 8796093022208 then emenderref23_Rows.l2 k X Y (t ++ [(⟨(X.length : Int), (Y.length : Int)⟩ : S76)]) ([] : List S62) 0 0 0 else none) (pairs_f hX hY hL) (EvD.of (fun k => ?_) hz))
    · simp only [emenderref23_Rows.l0]
      rw [lx, ly, if_neg (by omega)]
    · rw [if_pos (by omega)]
      rfl
  | succ d ih =>
    intro i x6 hd hi hl hx
    refine EvD.succ (g := fun k => emenderref23_Rows.l1 k (X.map fun x => (partOf a x).f1) (Y.map fun x => (partOf b x).f1) X Y x6 (i : Int) (List.replicate Y.length false) ((0 : Nat) : Int)) (fun k => ?_) (rlike_l1 a b ha X Y hX hY x6 hl i (by omega) _ _ 0 _ rfl (Nat.zero_le _) (by simp) (fun j' h => by omega) (fun y hy1 hy2 => ?_))
    · simp only [emenderref23_Rows.l0]
      rw [lx, ly, if_pos (by omega), if_pos (by omega), Int.toNat_natCast, if_pos (by omega)]
      rfl
    · refine ih (i + 1) _ (by omega) (by omega) (by rw [List.length_set, hl]) (fun i' hi' => ?_)
      by_cases e : i' = i
      · subst e
        rw [List.getD_eq_getElem?_getD, List.getElem?_set_self (by omega), Option.getD_some]
        exact ⟨hy1, hy2⟩
      · rw [List.getD_eq_getElem?_getD, List.getElem?_set_ne (Ne.symm e), ← List.getD_eq_getElem?_getD]
        exact hx i' (by omega)
theorem rboth (a b : List S64) (ha : a.length ≤ 2048) (hb : b.length ≤ 2048) (e : Int) (he : diff_both.f a b = some e) (k : Nat) (hk : 8192 < k) : emenderref23_both.f k a b = some e := by
  unfold diff_both.f at he
  unfold emenderref23_both.f
  rw [flat_check, Option.bind_some, flat_check, Option.bind_some] at he
  rw [FlatC.ref_check a (by omega) k (by omega), flat_check, Option.bind_some, FlatC.ref_check b (by omega) k (by omega), flat_check, Option.bind_some]
  obtain rfl := Option.some.inj he
  split <;> rfl
theorem Rows_f (a b : List S64) (ha : a.length ≤ 2048) (hb : b.length ≤ 2048) (e : Int) (he : diff_both.f a b = some e) : ∃ L x, L.length ≤ 8192 ∧ diff_Rows.f a b = some (L, x) ∧ EvD (fun k => emenderref23_Rows.f k a b) (L.map cv, x) := by
  obtain ⟨X, Y, x1, y1, x2, y2, kx, ky, hR⟩ := rows_f a b ha hb e he
  have hb1 : EvD (fun k => emenderref23_both.f k a b) e := EvD.le 8192 fun k hk => rboth a b ha hb e he k hk
  have hx1 : EvD (fun k => emenderref23_blocks.f k a) (X.map fun x => (partOf a x).f1) := EvD.le 9000 fun k hk => blocks_f a ha X x1 x2 (fun k hk => (kx k hk).2) k (by omega)
  have hy1 : EvD (fun k => emenderref23_blocks.f k b) (Y.map fun x => (partOf b x).f1) := EvD.le 9000 fun k hk => blocks_f b hb Y y1 y2 (fun k hk => (ky k hk).2) k (by omega)
  have gk : EvD (fun k => emenderref04_Kids.f k a (-1)) X := EvD.le 9000 fun k hk => (kx k (by omega)).2
  have gk2 : EvD (fun k => emenderref04_Kids.f k b (-1)) Y := EvD.le 9000 fun k hk => (ky k (by omega)).2
  by_cases c : e = 0
  · by_cases d : X.length > 200 ∨ Y.length > 200
    · refine ⟨[], 2, by simp, by rw [hR, if_pos c, if_pos d], ?_⟩
      have hj : EvD (fun k => emenderref23_Rows.j0 k a b (X.map fun x => (partOf a x).f1) (Y.map fun x => (partOf b x).f1) true) (([] : List S62), (2 : Int)) := EvD.now fun k => by simp only [emenderref23_Rows.j0]; rw [if_pos trivial]
      obtain ⟨K1, h1⟩ := hb1
      obtain ⟨K2, h2⟩ := hx1
      obtain ⟨K3, h3⟩ := hy1
      obtain ⟨K4, h4⟩ := hj
      refine ⟨K1 + K2 + K3 + K4, fun k hk => ?_⟩
      replace h1 := h1 k (by omega)
      replace h2 := h2 k (by omega)
      replace h3 := h3 k (by omega)
      replace h4 := h4 k (by omega)
      dsimp only at h1 h2 h3 h4
      show emenderref23_Rows.f k a b = _
      unfold emenderref23_Rows.f
      rw [h1, Option.bind_some, if_pos c, h2, Option.bind_some, h3, Option.bind_some, List.length_map, List.length_map]
      by_cases d1 : (X.length : Int) > 200
      · rw [if_pos d1]
        exact h4
      · rw [if_neg d1, decide_eq_true (by omega)]
        exact h4
    · have d1 : ¬ (X.length : Int) > 200 := by omega
      have d2 : ¬ (Y.length : Int) > 200 := by omega
      have hsz := (goes_rows a b X Y).size
      refine ⟨rows a b X Y, 0, by omega, by rw [hR, if_pos c, if_neg d], ?_⟩
      have hl := rlike_l0 a b ha X Y (by omega) (by omega) X.length 0 (List.replicate X.length []) (by omega) (Nat.zero_le _) (by simp) (fun i' h => by omega)
      have lx : (X.map fun x => (partOf a x).f1).length = X.length := List.length_map _
      have hj : EvD (fun k => emenderref23_Rows.j0 k a b (X.map fun x => (partOf a x).f1) (Y.map fun x => (partOf b x).f1) false) ((rows a b X Y).map cv, (0 : Int)) := by
        refine EvD.succ (g := fun k => (emenderref04_Kids.f k a (-1)).bind fun t => (emenderref04_Kids.f k b (-1)).bind fun u => emenderref23_Rows.l0 k (X.map fun x => (partOf a x).f1) (Y.map fun x => (partOf b x).f1) t u (List.replicate X.length []) 0) (fun k => ?_)
          (EvD.bind (g := fun k t => (emenderref04_Kids.f k b (-1)).bind fun u => emenderref23_Rows.l0 k (X.map fun x => (partOf a x).f1) (Y.map fun x => (partOf b x).f1) t u (List.replicate X.length []) 0) gk
            (EvD.bind (g := fun k u => emenderref23_Rows.l0 k (X.map fun x => (partOf a x).f1) (Y.map fun x => (partOf b x).f1) X u (List.replicate X.length []) 0) gk2 hl))
        simp only [emenderref23_Rows.j0]
        rw [if_neg (by decide), lx]
        simp only [Int.toNat_natCast, if_pos (show (0 : Int) ≤ (X.length : Int) by omega), if_pos (show X.length ≤ 11728124029610 by omega)]
      obtain ⟨K1, h1⟩ := hb1
      obtain ⟨K2, h2⟩ := hx1
      obtain ⟨K3, h3⟩ := hy1
      obtain ⟨K4, h4⟩ := hj
      refine ⟨K1 + K2 + K3 + K4, fun k hk => ?_⟩
      replace h1 := h1 k (by omega)
      replace h2 := h2 k (by omega)
      replace h3 := h3 k (by omega)
      replace h4 := h4 k (by omega)
      dsimp only at h1 h2 h3 h4
      show emenderref23_Rows.f k a b = _
      unfold emenderref23_Rows.f
      rw [h1, Option.bind_some, if_pos c, h2, Option.bind_some, h3, Option.bind_some, List.length_map, List.length_map, if_neg d1, decide_eq_false d2]
      exact h4
  · refine ⟨[], e, by simp, by rw [hR, if_neg c], ?_⟩
    obtain ⟨K1, h1⟩ := hb1
    refine ⟨K1, fun k hk => ?_⟩
    replace h1 := h1 k (by omega)
    dsimp only at h1
    show emenderref23_Rows.f k a b = _
    unfold emenderref23_Rows.f
    rw [h1, Option.bind_some, if_neg c]
    rfl
/-! ### the step between -/
theorem clone_same (x : List S64) (h : x.length < 4398046511104) : api_Token_27.f x = some x := clone_f x h
theorem Patch_f (a b : List S64) (ha : a.length ≤ 2048) (hb : b.length ≤ 2048) (e : Int) (he : diff_both.f a b = some e) : ∃ F T l, l.length ≤ 2048 ∧ EvD (fun k => diff_Patch.f k a b) (0, F, T, 0, 0, 0, l, 0, e) ∧ EvD (fun k => emenderref23_Patch.f k a b) (0, F, T, 0, 0, 0, l, 0, e) := by
  have l1 := tailN_le1 a b
  have l2 := tailN_le2 a b
  by_cases c : e = 0
  · refine ⟨((com a b : Nat) : Int), ((a.length - tailN a b : Nat) : Int), (b.take (b.length - tailN a b)).drop (com a b), by simp only [List.length_drop, List.length_take]; omega, ?_, ?_⟩
    · refine EvD.le (a.length + b.length) fun k hk => ?_
      show diff_Patch.f k a b = _
      unfold diff_Patch.f
      rw [he, Option.bind_some, if_pos c, ends_f a b (by omega) (by omega) k hk, Option.bind_some]
      dsimp only
      rw [w64 (i := (b.length : Int) - _) (by omega), w64 (i := (a.length : Int) - _) (by omega), if_pos (by omega), if_pos (by omega), if_pos (by omega)]
      rw [show ((b.length : Int) - ((tailN a b : Nat) : Int)).toNat = b.length - tailN a b by omega, Int.toNat_natCast, clone_f _ (by simp only [List.length_drop, List.length_take]; omega), Option.bind_some, show ((a.length : Int) - ((tailN a b : Nat) : Int)) = ((a.length - tailN a b : Nat) : Int) by omega, c]
    · obtain ⟨K, h⟩ := ref_ends a b (by omega) (by omega)
      refine ⟨K + 8193, fun k hk => ?_⟩
      replace h := h k (by omega)
      dsimp only at h
      show emenderref23_Patch.f k a b = _
      unfold emenderref23_Patch.f
      rw [rboth a b ha hb e he k (by omega), Option.bind_some, if_pos c, h, Option.bind_some, Option.bind_some]
      dsimp only
      rw [w64 (i := (b.length : Int) - _) (by omega), w64 (i := (a.length : Int) - _) (by omega), if_pos (by omega), if_pos (by omega), if_pos (by omega), Option.bind_some]
      rw [show ((b.length : Int) - ((tailN a b : Nat) : Int)).toNat = b.length - tailN a b by omega, Int.toNat_natCast, show ((a.length : Int) - ((tailN a b : Nat) : Int)) = ((a.length - tailN a b : Nat) : Int) by omega, c, List.nil_append, if_pos (by simp only [List.length_drop, List.length_take, List.length_nil]; omega)]
  · refine ⟨0, 0, [], by simp, ?_, ?_⟩
    · refine EvD.le 0 fun k hk => ?_
      show diff_Patch.f k a b = _
      unfold diff_Patch.f
      rw [he, Option.bind_some, if_neg c]
    · refine EvD.le 8192 fun k hk => ?_
      show emenderref23_Patch.f k a b = _
      unfold emenderref23_Patch.f
      rw [rboth a b ha hb e he k (by omega), Option.bind_some, if_neg c]
theorem law_loop (L : List S55) (hL : L.length ≤ 8192) : ∀ (d i : Nat), i + d = L.length → EvD (fun k => emenderlaw23_DiffRows.l0 k L (L.map cv) (i : Int)) true := by
  have ll : (L.map cv).length = L.length := List.length_map _
  intro d
  induction d with
  | zero =>
    intro i hi
    refine EvD.succ (g := fun k => (emenderlaw23_awake.f k).bind fun t => some t) (fun k => ?_) (EvD.bind (g := fun _ t => some t) (EvD.le 9 fun k hk => awake23 k (by omega)) ⟨0, fun _ _ => rfl⟩)
    simp only [emenderlaw23_DiffRows.l0]
    rw [if_neg (by omega)]
  | succ d ih =>
    intro i hi
    have h : i < L.length := by omega
    refine EvD.succ (fun k => ?_) (ih (i + 1) (by omega))
    have e1 : rd_T55 L (i : Int) = L[i] := by simp [rd_T55, List.getD_eq_getElem?_getD, h]
    have e2 : rd_T62 (L.map cv) (i : Int) = cv L[i] := by simp [rd_T62, List.getD_eq_getElem?_getD, h]
    simp only [emenderlaw23_DiffRows.l0]
    rw [ll, if_pos (by omega), if_pos (by omega), if_pos (by omega), e1, e2, w64 (by omega)]
    simp only [cv]
    rw [if_pos trivial, if_pos trivial, if_pos trivial]
    rfl
theorem DiffRows : emenderlaw23_DiffRows.Pure := by
  intro a b h0 w0 h1 w1
  have easy : EvD (fun k => emenderlaw23_DiffRows.j0 k a b true) true := by
    refine EvD.succ (g := fun k => (emenderlaw23_awake.f k).bind fun t => some t) (fun k => ?_) (EvD.bind (g := fun _ t => some t) (EvD.le 9 fun k hk => awake23 k (by omega)) ⟨0, fun _ _ => rfl⟩)
    simp only [emenderlaw23_DiffRows.j0]
    rw [if_pos trivial]
  have main : a.length ≤ 200 → b.length ≤ 200 → EvD (fun k => emenderlaw23_DiffRows.j0 k a b false) true := by
    intro ha hb
    obtain ⟨e, he⟩ : ∃ e, diff_both.f a b = some e := by
      unfold diff_both.f
      rw [flat_check, flat_check]
      exact ⟨_, rfl⟩
    obtain ⟨L, x, hL, r1, K1, r2⟩ := Rows_f a b (by omega) (by omega) e he
    obtain ⟨F, T, l, hl, ⟨K2, p1⟩, ⟨K3, p2⟩⟩ := Patch_f a b (by omega) (by omega) e he
    obtain ⟨K4, w⟩ := law_loop L hL L.length 0 (by omega)
    refine ⟨K1 + K2 + K3 + K4 + 8192, fun k hk => ?_⟩
    obtain ⟨k, rfl⟩ : ∃ m, k = m + 2 := ⟨k - 2, by omega⟩
    replace r2 := r2 (k + 1) (by omega)
    replace p1 := p1 (k + 1) (by omega)
    replace p2 := p2 (k + 1) (by omega)
    replace w := w k (by omega)
    dsimp only at r2 p1 p2 w
    have tw : emenderlaw23_twin.f (k + 1) 0 F T 0 0 0 l 0 0 F T 0 0 0 l 0 = some true := by
      unfold emenderlaw23_twin.f
      rw [if_pos rfl, if_pos rfl, if_pos rfl, if_pos rfl, if_pos rfl, if_pos rfl, if_pos rfl, alike l l (by omega) _ (by omega), sameL_refl]
      rfl
    simp only [emenderlaw23_DiffRows.j0]
    rw [if_neg (by decide), r1, Option.bind_some, r2, Option.bind_some, p1, Option.bind_some, p2, Option.bind_some]
    dsimp only
    rw [List.length_map, if_pos rfl, if_pos rfl, tw, Option.bind_some, if_pos rfl]
    simp only [emenderlaw23_DiffRows.j1]
    rw [if_neg (by simp)]
    exact w
  unfold emenderlaw23_DiffRows.f
  by_cases c0 : (a.length : Int) > 200
  · simp only [if_pos c0]
    obtain ⟨K, h⟩ := easy
    exact ⟨K, h K (Nat.le_refl _)⟩
  · simp only [if_neg c0]
    by_cases c1 : (b.length : Int) > 200
    · rw [decide_eq_true c1]
      obtain ⟨K, h⟩ := easy
      exact ⟨K, h K (Nat.le_refl _)⟩
    · rw [decide_eq_false c1]
      obtain ⟨K, h⟩ := main (by omega) (by omega)
      exact ⟨K, h K (Nat.le_refl _)⟩
end Go.Proofs.Ytjpmlggkhhoooaa.Pure
