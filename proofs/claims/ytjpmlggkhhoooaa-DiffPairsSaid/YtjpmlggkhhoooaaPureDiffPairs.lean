/- DiffPairs: both ends, the pairs and the ranges of any two lists of tokens are the document's, for all lists. -/
import Derived.Test.YtjpmlggkhhoooaaGDiffPairs
import Derived.Test.YtjpmlggkhhoooaaDiffAp
namespace Go.Proofs.Ytjpmlggkhhoooaa.Pure
open Go.RowKit Go.Proofs.YtjpmlggkhhoooaaW.PrintWords Go.Proofs.YtjpmlggkhhoooaaW.PrintMore
set_option linter.unusedSimpArgs false
set_option linter.unusedVariables false
open Go.Proofs Go.Proofs.Ytjpmlggkhhoooaa Go.Proofs.Ytjpmlggkhhoooaa.PDp Go.Proofs.Ytjpmlggkhhoooaa.StepA Go.Proofs.Ytjpmlggkhhoooaa.StepB Go.Proofs.Ytjpmlggkhhoooaa.StepD Go.Proofs.Ytjpmlggkhhoooaa.DiffA

/-- From some count of steps on, this is the answer. -/
def Ev {α : Type} (f : Nat → Option α) (r : α) : Prop := ∃ K, ∀ k, K ≤ k → f k = some r
theorem Ev.succ {α : Type} {f g : Nat → Option α} {r : α} (h : ∀ k, f (k + 1) = g k) (hg : Ev g r) : Ev f r := by
  obtain ⟨K, hK⟩ := hg
  refine ⟨K + 1, fun k hk => ?_⟩
  obtain ⟨k, rfl⟩ : ∃ m, k = m + 1 := ⟨k - 1, by omega⟩
  rw [h]
  exact hK k (by omega)
theorem Ev.now {α : Type} {f : Nat → Option α} {r : α} (h : ∀ k, f (k + 1) = some r) : Ev f r := ⟨1, fun k hk => by
  obtain ⟨k, rfl⟩ : ∃ m, k = m + 1 := ⟨k - 1, by omega⟩
  exact h k⟩
theorem Ev.bind {α β : Type} {f : Nat → Option α} {g : Nat → α → Option β} {a : α} {r : β} (h : Ev f a) (hg : Ev (fun k => g k a) r) : Ev (fun k => (f k).bind (g k)) r := by
  obtain ⟨K, hK⟩ := h
  obtain ⟨K', hK'⟩ := hg
  exact ⟨K + K', fun k hk => by simp only [hK k (by omega), Option.bind_some]; exact hK' k (by omega)⟩
theorem Ev.of {α : Type} {f g : Nat → Option α} {r : α} (h : ∀ k, f k = g k) (hg : Ev g r) : Ev f r := by
  obtain ⟨K, hK⟩ := hg
  exact ⟨K, fun k hk => by rw [h]; exact hK k hk⟩
/-! ### both ends -/
theorem ref_l1 (a b : List S64) (ha : a.length < 4398046511104) (hb : b.length < 4398046511104) (c : Nat) (h1 : c ≤ a.length) (h2 : c ≤ b.length) : ∀ (d i : Nat), min (a.length - c) (b.length - c) - i = d → i ≤ min (a.length - c) (b.length - c) →
    Ev (fun k => emenderref23_Ends.l1 k a b (c : Int) (i : Int)) ((c : Int), ((i + com ((a.drop c).reverse.drop i) ((b.drop c).reverse.drop i) : Nat) : Int)) := by
  have stop : ∀ i : Nat, ¬ i < min (a.length - c) (b.length - c) → com ((a.drop c).reverse.drop i) ((b.drop c).reverse.drop i) = 0 := by
    intro i hi
    have x1 := com_le1 ((a.drop c).reverse.drop i) ((b.drop c).reverse.drop i)
    have x2 := com_le2 ((a.drop c).reverse.drop i) ((b.drop c).reverse.drop i)
    rw [List.length_drop, List.length_reverse, List.length_drop] at x1 x2
    omega
  intro d
  induction d with
  | zero =>
    intro i hd hi
    rw [stop i (by omega), Nat.add_zero]
    refine Ev.now fun k => ?_
    simp only [emenderref23_Ends.l1]
    rw [w64 (i := (a.length : Int) - (c : Int)) (by omega), w64 (i := (b.length : Int) - (c : Int)) (by omega)]
    by_cases c1 : (i : Int) < (a.length : Int) - (c : Int)
    · rw [if_pos c1, if_neg (by omega)]
    · rw [if_neg c1]
  | succ d ih =>
    intro i hd hi
    have hia : i < (a.drop c).reverse.length := by rw [List.length_reverse, List.length_drop]; omega
    have hib : i < (b.drop c).reverse.length := by rw [List.length_reverse, List.length_drop]; omega
    rw [List.drop_eq_getElem_cons hia, List.drop_eq_getElem_cons hib, com]
    have ea : (a.drop c).reverse[i] = a[a.length - 1 - i]'(by omega) := by
      rw [List.getElem_reverse, List.getElem_drop]
      congr 1
      rw [List.length_drop]; omega
    have eb : (b.drop c).reverse[i] = b[b.length - 1 - i]'(by omega) := by
      rw [List.getElem_reverse, List.getElem_drop]
      congr 1
      rw [List.length_drop]; omega
    rw [ea, eb]
    have hstep : ∀ k, emenderref23_Ends.l1 (k + 1) a b (c : Int) (i : Int) = if eqT (a[a.length - 1 - i]'(by omega)) (b[b.length - 1 - i]'(by omega)) = true then emenderref23_Ends.l1 k a b (c : Int) ((i + 1 : Nat) : Int) else some ((c : Int), (i : Int)) := by
      intro k
      simp only [emenderref23_Ends.l1]
      rw [w64 (i := (a.length : Int) - (c : Int)) (by omega), w64 (i := (b.length : Int) - (c : Int)) (by omega), w64 (i := (a.length : Int) - 1) (by omega), w64 (i := (b.length : Int) - 1) (by omega),
        w64 (i := (a.length : Int) - 1 - (i : Int)) (by omega), w64 (i := (b.length : Int) - 1 - (i : Int)) (by omega), w64 (i := (i : Int) + 1) (by omega)]
      rw [if_pos (by omega), if_pos (by omega), if_pos (by omega), if_pos (by omega), if_pos (by omega), if_pos (by omega)]
      rw [show ((a.length : Int) - 1 - (i : Int)) = ((a.length - 1 - i : Nat) : Int) by omega, show ((b.length : Int) - 1 - (i : Int)) = ((b.length - 1 - i : Nat) : Int) by omega]
      rw [rd_get a ((a.length - 1 - i : Nat) : Int) (by rw [Int.toNat_natCast]; omega), rd_get b ((b.length - 1 - i : Nat) : Int) (by rw [Int.toNat_natCast]; omega)]
      simp only [Int.toNat_natCast]
      rfl
    by_cases e : eqT (a[a.length - 1 - i]'(by omega)) (b[b.length - 1 - i]'(by omega)) = true
    · rw [if_pos e]
      refine Ev.succ (g := fun k => emenderref23_Ends.l1 k a b (c : Int) ((i + 1 : Nat) : Int)) (fun k => by rw [hstep, if_pos e]) ?_
      have := ih (i + 1) (by omega) (by omega)
      rw [show i + 1 + com ((a.drop c).reverse.drop (i + 1)) ((b.drop c).reverse.drop (i + 1)) = i + (com ((a.drop c).reverse.drop (i + 1)) ((b.drop c).reverse.drop (i + 1)) + 1) by omega] at this
      exact this
    · rw [if_neg e, Nat.add_zero]
      exact Ev.now fun k => by rw [hstep, if_neg e]
theorem ref_l0 (a b : List S64) (ha : a.length < 4398046511104) (hb : b.length < 4398046511104) : ∀ (d i : Nat), a.length - i = d → i ≤ a.length → i ≤ b.length → ∀ c, c = i + com (a.drop i) (b.drop i) →
    Ev (fun k => emenderref23_Ends.l0 k a b (i : Int)) ((c : Int), ((com (a.drop c).reverse (b.drop c).reverse : Nat) : Int)) := by
  have stop : ∀ i : Nat, i ≤ a.length → i ≤ b.length → Ev (fun k => emenderref23_Ends.j1 k a b (i : Int)) ((i : Int), ((com (a.drop i).reverse (b.drop i).reverse : Nat) : Int)) := by
    intro i h1 h2
    refine Ev.succ (g := fun k => emenderref23_Ends.l1 k a b (i : Int) ((0 : Nat) : Int)) (fun k => by simp only [emenderref23_Ends.j1]; rfl) ?_
    have := ref_l1 a b ha hb i h1 h2 _ 0 rfl (Nat.zero_le _)
    simpa using this
  intro d
  induction d with
  | zero =>
    intro i hd h1 h2 c hc
    have : com (a.drop i) (b.drop i) = 0 := by
      have := com_le1 (a.drop i) (b.drop i)
      rw [List.length_drop] at this; omega
    obtain rfl : c = i := by omega
    exact Ev.succ (g := fun k => emenderref23_Ends.j1 k a b (c : Int)) (fun k => by simp only [emenderref23_Ends.l0]; rw [if_neg (by omega)]) (stop c h1 h2)
  | succ d ih =>
    intro i hd h1 h2 c hc
    by_cases hib : i < b.length
    · have hia : i < a.length := by omega
      rw [List.drop_eq_getElem_cons hia, List.drop_eq_getElem_cons hib, com] at hc
      have hstep : ∀ k, emenderref23_Ends.l0 (k + 1) a b (i : Int) = if eqT a[i] b[i] = true then emenderref23_Ends.l0 k a b ((i + 1 : Nat) : Int) else emenderref23_Ends.j1 k a b (i : Int) := by
        intro k
        simp only [emenderref23_Ends.l0]
        rw [if_pos (by omega), if_pos (by omega), if_pos (by omega), w64 (i := (i : Int) + 1) (by omega), rd_get a (i : Int) (by simpa using hia), rd_get b (i : Int) (by simpa using hib)]
        simp only [Int.toNat_natCast]
        rfl
      by_cases e : eqT a[i] b[i] = true
      · rw [if_pos e] at hc
        exact Ev.succ (g := fun k => emenderref23_Ends.l0 k a b ((i + 1 : Nat) : Int)) (fun k => by rw [hstep, if_pos e]) (ih (i + 1) (by omega) (by omega) (by omega) c (by omega))
      · rw [if_neg e, Nat.add_zero] at hc
        subst hc
        exact Ev.succ (g := fun k => emenderref23_Ends.j1 k a b (c : Int)) (fun k => by rw [hstep, if_neg e]) (stop c h1 h2)
    · have : com (a.drop i) (b.drop i) = 0 := by
        have := com_le2 (a.drop i) (b.drop i)
        rw [List.length_drop] at this; omega
      obtain rfl : c = i := by omega
      exact Ev.succ (g := fun k => emenderref23_Ends.j1 k a b (c : Int)) (fun k => by simp only [emenderref23_Ends.l0]; rw [if_pos (by omega), if_neg (by omega)]) (stop c h1 h2)
theorem ref_ends (a b : List S64) (ha : a.length < 4398046511104) (hb : b.length < 4398046511104) : Ev (fun k => emenderref23_Ends.f k a b) (((com a b : Nat) : Int), ((tailN a b : Nat) : Int)) := by
  have := ref_l0 a b ha hb _ 0 rfl (Nat.zero_le _) (Nat.zero_le _) (com a b) (by simp)
  exact Ev.of (fun k => rfl) this
theorem our_ends (a b : List S64) (ha : a.length < 4398046511104) (hb : b.length < 4398046511104) : Ev (fun k => diff_Ends.f k a b) (((com a b : Nat) : Int), ((tailN a b : Nat) : Int)) :=
  ⟨a.length + b.length + 1, fun k hk => ends_f a b ha hb k (by omega)⟩
/-! ### the table -/
def V (x : List (List Int)) (i j : Nat) : Int := (x.getD i []).getD j 0
theorem V_set {x : List (List Int)} {i j : Nat} (hi : i < x.length) (hj : j < (x.getD i []).length) (v : Int) (i' j' : Nat) : V (x.set i ((x.getD i []).set j v)) i' j' = if i' = i ∧ j' = j then v else V x i' j' := by
  unfold V
  by_cases e : i' = i
  · subst e
    rw [List.getD_eq_getElem?_getD (l := x.set _ _), List.getElem?_set_self hi, Option.getD_some]
    by_cases e2 : j' = j
    · subst e2
      rw [if_pos ⟨rfl, rfl⟩, List.getD_eq_getElem?_getD, List.getElem?_set_self hj, Option.getD_some]
    · rw [if_neg (fun h => e2 h.2), List.getD_eq_getElem?_getD, List.getElem?_set_ne (Ne.symm e2), ← List.getD_eq_getElem?_getD]
  · rw [if_neg (fun h => e h.1), List.getD_eq_getElem?_getD (l := x.set _ _), List.getElem?_set_ne (Ne.symm e), ← List.getD_eq_getElem?_getD]
theorem len_set {x : List (List Int)} {i : Nat} (r : List Int) (hr : r.length = (x.getD i []).length) (i' : Nat) : ((x.set i r).getD i' []).length = (x.getD i' []).length := by
  by_cases e : i' = i
  · subst e
    by_cases h : i' < x.length
    · rw [List.getD_eq_getElem?_getD, List.getElem?_set_self h, Option.getD_some, hr]
    · rw [List.set_eq_of_length_le (by omega)]
  · rw [List.getD_eq_getElem?_getD, List.getElem?_set_ne (Ne.symm e), ← List.getD_eq_getElem?_getD]
/-- The table, as far as it is made. -/
structure Tab (L : Nat → Nat → Bool) (n m : Nat) (x : List (List Int)) (i j : Nat) : Prop where
  len : x.length = n + 1
  row : ∀ i', i' ≤ n → (x.getD i' []).length = m + 1
  val : ∀ i' j', i' ≤ n → j' ≤ m → (i < i' ∨ (i' = i ∧ j ≤ j') ∨ j' = m ∨ i' = n) → V x i' j' = (DiffT.T L n m i' j' : Int)
theorem Tab.set {L : Nat → Nat → Bool} {n m : Nat} {x : List (List Int)} {i j : Nat} (h : Tab L n m x i (j + 1)) (hi : i < n) (hj : j < m) (v : Int) : Tab L n m (x.set i ((x.getD i []).set j v)) i (j + 1) ∧ V (x.set i ((x.getD i []).set j v)) i j = v := by
  have h1 : i < x.length := by rw [h.len]; omega
  have h2 : j < (x.getD i []).length := by rw [h.row i (by omega)]; omega
  refine ⟨⟨by rw [List.length_set, h.len], fun i' a => by rw [len_set _ (by rw [List.length_set])]; exact h.row i' a, fun i' j' a b c => ?_⟩, ?_⟩
  · rw [V_set h1 h2, if_neg (by omega)]
    exact h.val i' j' a b c
  · rw [V_set h1 h2, if_pos ⟨rfl, rfl⟩]
theorem Tab.done {L : Nat → Nat → Bool} {n m : Nat} {x : List (List Int)} {i j : Nat} (h : Tab L n m x i (j + 1)) (hv : V x i j = (DiffT.T L n m i j : Int)) : Tab L n m x i j :=
  ⟨h.len, h.row, fun i' j' a b c => by
    by_cases e : i' = i ∧ j' = j
    · rw [e.1, e.2]; exact hv
    · exact h.val i' j' a b (by omega)⟩
theorem rdL (x : List (List Int)) (i : Nat) : rd_L5 x (i : Int) = x.getD i [] := by simp [rd_L5]
theorem rdV (x : List (List Int)) (i j : Nat) : rd (x.getD i []) (j : Int) = V x i j := by simp [rd, V]
/-- What is alike, as the document keeps it. -/
structure Like (L : Nat → Nat → Bool) (n m : Nat) (X : List (List Bool)) : Prop where
  len : X.length = n
  row : ∀ i, i < n → (X.getD i []).length = m
  val : ∀ i j, i < n → j < m → (X.getD i []).getD j false = L i j
theorem tab_l2 {L : Nat → Nat → Bool} {n m : Nat} {X : List (List Bool)} (hn : n ≤ 400) (hm : m ≤ 400) (hX : Like L n m X) (i : Nat) (hi : i < n) : ∀ (j : Nat) (x : List (List Int)), j ≤ m → Tab L n m x i j → ∃ y, Tab L n m y i 0 ∧ ∀ r, Ev (fun k => emenderref23_table.l1 k X (m : Int) y ((i : Int) - 1)) r → Ev (fun k => emenderref23_table.l2 k X (m : Int) x (i : Int) ((j : Int) - 1)) r
  | 0, x, hj, h => ⟨x, h, fun r hr => Ev.succ (fun k => by simp only [emenderref23_table.l2]; rw [if_neg (by omega), w64 (by omega)]) hr⟩
  | j + 1, x, hj, h => by
    have e1 : wrap64 ((i : Int) + 1) = ((i + 1 : Nat) : Int) := by rw [w64 (by omega)]; omega
    have e2 : wrap64 ((j : Int) + 1) = ((j + 1 : Nat) : Int) := by rw [w64 (by omega)]; omega
    have e3 : wrap64 ((j : Int) - 1) = (j : Int) - 1 := w64 (by omega)
    have l1 := DiffT.T_le (like := L) (n := n) (m := m) _ (i + 1) j rfl
    have l2 := DiffT.T_le (like := L) (n := n) (m := m) _ i (j + 1) rfl
    have l3 := DiffT.T_le (like := L) (n := n) (m := m) _ (i + 1) (j + 1) rfl
    have tT := Aside0.mk (DiffT.T_in (like := L) hi (show j < m by omega))
    have v1 := h.val (i + 1) j (by omega) (by omega) (.inl (by omega))
    have v2 := h.val i (j + 1) (by omega) (by omega) (.inr (.inl ⟨rfl, Nat.le_refl _⟩))
    obtain ⟨g1, g2⟩ := h.set hi (show j < m by omega) (mx (V x (i + 1) j) (V x i (j + 1)))
    obtain ⟨y1, hy1⟩ : ∃ y, y = x.set i ((x.getD i []).set j (mx (V x (i + 1) j) (V x i (j + 1)))) := ⟨_, rfl⟩
    rw [← hy1] at g1 g2
    have v3 := g1.val (i + 1) (j + 1) (by omega) (by omega) (.inl (by omega))
    obtain ⟨g3, g4⟩ := g1.set hi (show j < m by omega) (mx (V y1 i j) (1 + V y1 (i + 1) (j + 1)))
    obtain ⟨y2, hy2⟩ : ∃ y, y = y1.set i ((y1.getD i []).set j (mx (V y1 i j) (1 + V y1 (i + 1) (j + 1)))) := ⟨_, rfl⟩
    rw [← hy2] at g3 g4
    have hstep : ∀ k, emenderref23_table.l2 (k + 1) X (m : Int) x (i : Int) (((j + 1 : Nat) : Int) - 1) = if L i j = true then emenderref23_table.l2 k X (m : Int) y2 (i : Int) ((j : Int) - 1) else emenderref23_table.l2 k X (m : Int) y1 (i : Int) ((j : Int) - 1) := by
      intro k
      rw [show (((j + 1 : Nat) : Int) - 1) = (j : Int) by omega]
      simp only [emenderref23_table.l2]
      rw [e1, e2, e3]
      simp only [rdL, rdV, Int.toNat_natCast, h.len, h.row i (by omega), h.row (i + 1) (by omega)]
      rw [if_pos (by omega), if_pos (by omega), if_pos (by omega), if_pos (by omega), if_pos (by omega), if_pos (by omega), if_pos (by omega), if_pos (by omega), if_pos (by omega), if_pos (by omega), Option.bind_some, ← hy1]
      rw [hX.len, if_pos (by omega)]
      have hl : rd_L7 X (i : Int) = X.getD i [] := by simp [rd_L7]
      rw [hl, hX.row i hi, if_pos (by omega)]
      have hv : rdOf false (X.getD i []) (j : Int) = L i j := by rw [← hX.val i j hi (by omega)]; simp [rdOf]
      rw [hv, g1.row i (by omega), g1.row (i + 1) (by omega)]
      by_cases c : L i j = true
      · rw [if_pos c, if_pos c, if_pos (by omega), if_pos (by omega), w64 (i := 1 + V y1 (i + 1) (j + 1)) (by omega), ← hy2]
      · rw [if_neg c, if_neg c]
    by_cases c : L i j = true
    · have hv : V y2 i j = (DiffT.T L n m i j : Int) := by
        rw [g4, g2, v1, v2, v3, tT.out, if_pos c]
        simp only [mx]
        split <;> split <;> omega
      obtain ⟨y, h1, h2⟩ := tab_l2 hn hm hX i hi j y2 (by omega) (g3.done hv)
      exact ⟨y, h1, fun r hr => Ev.succ (g := fun k => emenderref23_table.l2 k X (m : Int) y2 (i : Int) ((j : Int) - 1)) (fun k => by rw [hstep, if_pos c]) (h2 r hr)⟩
    · have hv : V y1 i j = (DiffT.T L n m i j : Int) := by
        rw [g2, v1, v2, tT.out, if_neg c]
        simp only [mx]
        split <;> omega
      obtain ⟨y, h1, h2⟩ := tab_l2 hn hm hX i hi j y1 (by omega) (g1.done hv)
      exact ⟨y, h1, fun r hr => Ev.succ (g := fun k => emenderref23_table.l2 k X (m : Int) y1 (i : Int) ((j : Int) - 1)) (fun k => by rw [hstep, if_neg c]) (h2 r hr)⟩
theorem tab_l1 {L : Nat → Nat → Bool} {n m : Nat} {X : List (List Bool)} (hn : n ≤ 400) (hm : m ≤ 400) (hX : Like L n m X) : ∀ (i : Nat) (x : List (List Int)), i ≤ n → Tab L n m x i 0 → ∃ y, Tab L n m y 0 0 ∧ Ev (fun k => emenderref23_table.l1 k X (m : Int) x ((i : Int) - 1)) y
  | 0, x, hi, h => ⟨x, h, Ev.now fun k => by simp only [emenderref23_table.l1]; rw [if_neg (by omega)]⟩
  | i + 1, x, hi, h => by
    obtain ⟨y, h1, h2⟩ := tab_l2 hn hm hX i (by omega) m x (Nat.le_refl _) ⟨h.len, h.row, fun i' j' a b c => h.val i' j' a b (by omega)⟩
    obtain ⟨z, h3, h4⟩ := tab_l1 hn hm hX i y (by omega) h1
    refine ⟨z, h3, Ev.succ (g := fun k => emenderref23_table.l2 k X (m : Int) x (i : Int) ((m : Int) - 1)) (fun k => ?_) (h2 _ h4)⟩
    simp only [emenderref23_table.l1]
    rw [if_pos (by omega), show (((i + 1 : Nat) : Int) - 1) = (i : Int) by omega, w64 (by omega)]
theorem tab_l0 {L : Nat → Nat → Bool} {n m : Nat} {X : List (List Bool)} (hn : n ≤ 400) (hm : m ≤ 400) (hX : Like L n m X) : ∀ (d i : Nat) (x : List (List Int)), n + 1 - i = d → i ≤ n + 1 → x.length = n + 1 → (∀ i', i' < i → x.getD i' [] = List.replicate (m + 1) 0) → ∃ y, Tab L n m y 0 0 ∧ Ev (fun k => emenderref23_table.l0 k X (n : Int) (m : Int) x (i : Int)) y := by
  intro d
  induction d with
  | zero =>
    intro i x hd hi hl hx
    have h : Tab L n m x n 0 := ⟨hl, fun i' a => by rw [hx i' (by omega), List.length_replicate], fun i' j' a b c => by
      rw [DiffT.T_out (by omega), V, hx i' (by omega), List.getD_eq_getElem?_getD, List.getElem?_replicate]
      split <;> rfl⟩
    obtain ⟨y, h1, h2⟩ := tab_l1 hn hm hX n x (Nat.le_refl _) h
    refine ⟨y, h1, Ev.succ (g := fun k => emenderref23_table.l1 k X (m : Int) x ((n : Int) - 1)) (fun k => ?_) h2⟩
    simp only [emenderref23_table.l0]
    rw [if_neg (by omega), w64 (by omega)]
  | succ d ih =>
    intro i x hd hi hl hx
    obtain ⟨y, h1, h2⟩ := ih (i + 1) (x.set i (List.replicate (m + 1) 0)) (by omega) (by omega) (by rw [List.length_set, hl]) (fun i' a => by
      by_cases e : i' = i
      · subst e
        rw [List.getD_eq_getElem?_getD, List.getElem?_set_self (by omega), Option.getD_some]
      · rw [List.getD_eq_getElem?_getD, List.getElem?_set_ne (Ne.symm e), ← List.getD_eq_getElem?_getD]
        exact hx i' (by omega))
    refine ⟨y, h1, Ev.succ (g := fun k => emenderref23_table.l0 k X (n : Int) (m : Int) (x.set i (List.replicate (m + 1) 0)) ((i + 1 : Nat) : Int)) (fun k => ?_) h2⟩
    simp only [emenderref23_table.l0]
    rw [if_pos (by omega), w64 (i := (m : Int) + 1) (by omega), w64 (i := (i : Int) + 1) (by omega), show ((m : Int) + 1).toNat = m + 1 by omega, if_pos (by omega), if_pos (by omega), if_pos (by omega), if_pos (by omega), Int.toNat_natCast]
    rfl
theorem table_f {L : Nat → Nat → Bool} {n m : Nat} {X : List (List Bool)} (hn : n ≤ 400) (hm : m ≤ 400) (hX : Like L n m X) : ∃ y, Tab L n m y 0 0 ∧ Ev (fun k => emenderref23_table.f k X (n : Int) (m : Int)) y := by
  obtain ⟨y, h1, h2⟩ := tab_l0 hn hm hX _ 0 (List.replicate (n + 1) []) rfl (Nat.zero_le _) (by simp) (fun i' a => by omega)
  refine ⟨y, h1, Ev.of (fun k => ?_) h2⟩
  unfold emenderref23_table.f
  rw [w64 (by omega), show ((n : Int) + 1).toNat = n + 1 by omega, if_pos (by omega), if_pos (by omega)]
  rfl
/-! ### the pairs -/
theorem rdX {L : Nat → Nat → Bool} {n m : Nat} {X : List (List Bool)} (hX : Like L n m X) {p q : Nat} (hp : p < n) (hq : q < m) : (rd_L7 X (p : Int)).length = m ∧ rdOf false (rd_L7 X (p : Int)) (q : Int) = L p q := by
  have hl : rd_L7 X (p : Int) = X.getD p [] := by simp [rd_L7]
  rw [hl]
  refine ⟨hX.row p hp, ?_⟩
  rw [← hX.val p q hp hq]
  simp [rdOf]
theorem row_l2 {L : Nat → Nat → Bool} {n m : Nat} {X : List (List Bool)} {Y : List (List Int)} (hn : n ≤ 400) (hm : m ≤ 400) (hX : Like L n m X) (hY : Tab L n m Y 0 0) (out : List S76) (i j p : Nat) (hi : i ≤ n) (hj : j ≤ m) (hp : p < n) (r : List S76) : ∀ (d q : Nat), m - q = d → q ≤ m →
    (∀ q', DiffT.inRow (DiffT.Fit L n m i j p) m q = some q' → Ev (fun k => emenderref23_pairs.l1 k X (n : Int) (m : Int) Y out (i : Int) (j : Int) ((p + 1 : Nat) : Int) ((q' + 1 : Nat) : Int) true) r) →
    (DiffT.inRow (DiffT.Fit L n m i j p) m q = none → Ev (fun k => emenderref23_pairs.l1 k X (n : Int) (m : Int) Y out (i : Int) (j : Int) ((p + 1 : Nat) : Int) (m : Int) false) r) →
    Ev (fun k => emenderref23_pairs.l2 k X (n : Int) (m : Int) Y out (i : Int) (j : Int) (p : Int) (q : Int) false) r := by
  have e1 : wrap64 ((p : Int) + 1) = ((p + 1 : Nat) : Int) := by rw [w64 (by omega)]; omega
  have hlast : ∀ (q : Nat) k, q = m → emenderref23_pairs.l2 (k + 1) X (n : Int) (m : Int) Y out (i : Int) (j : Int) (p : Int) (q : Int) false = emenderref23_pairs.l1 k X (n : Int) (m : Int) Y out (i : Int) (j : Int) ((p + 1 : Nat) : Int) (m : Int) false := by
    intro q k hq
    subst hq
    simp only [emenderref23_pairs.l2]
    rw [if_neg (by omega), e1]
  intro d
  induction d with
  | zero =>
    intro q hd hq h1 h2
    obtain rfl : q = m := by omega
    refine Ev.succ (fun k => hlast q k rfl) (h2 ?_)
    rw [DiffT.inRow, dif_neg (by omega)]
  | succ d ih =>
    intro q hd hq h1 h2
    have e2 : wrap64 ((q : Int) + 1) = ((q + 1 : Nat) : Int) := by rw [w64 (by omega)]; omega
    have hv := hY.val (p + 1) (q + 1) (by omega) (by omega) (by omega)
    have hv0 := hY.val i j hi hj (by omega)
    have l1 := DiffT.T_le (like := L) (n := n) (m := m) _ (p + 1) (q + 1) rfl
    have l0 := DiffT.T_le (like := L) (n := n) (m := m) _ i j rfl
    obtain ⟨x1, x2⟩ := rdX hX hp (show q < m by omega)
    have hstep : ∀ k, emenderref23_pairs.l2 (k + 1) X (n : Int) (m : Int) Y out (i : Int) (j : Int) (p : Int) (q : Int) false = emenderref23_pairs.l2 k X (n : Int) (m : Int) Y out (i : Int) (j : Int) (p : Int) ((q + 1 : Nat) : Int) (DiffT.Fit L n m i j p q) := by
      intro k
      simp only [emenderref23_pairs.l2]
      rw [if_pos (by omega), if_neg (by decide), e1, e2, hX.len, x1, x2, if_pos (by omega), if_pos (by omega), if_pos (by omega), if_pos (by omega)]
      simp only [rdL, rdV, hY.len, hY.row (p + 1) (by omega), hY.row i hi, hv, hv0]
      by_cases c : L p q = true
      · rw [if_pos c, if_pos (by omega), if_pos (by omega), if_pos (by omega), if_pos (by omega), if_pos (by omega), if_pos (by omega), if_pos (by omega), if_pos (by omega), w64 (by omega)]
        congr 1
        unfold DiffT.Fit
        rw [c, Bool.true_and]
        by_cases c2 : 1 + DiffT.T L n m (p + 1) (q + 1) = DiffT.T L n m i j
        · rw [decide_eq_true c2, beq_iff_eq]; omega
        · rw [decide_eq_false c2, beq_eq_false_iff_ne]; omega
      · rw [if_neg c]
        congr 1
        unfold DiffT.Fit
        rw [Bool.eq_false_iff.mpr c, Bool.false_and]
    have hfound : ∀ k, emenderref23_pairs.l2 (k + 1) X (n : Int) (m : Int) Y out (i : Int) (j : Int) (p : Int) ((q + 1 : Nat) : Int) true = emenderref23_pairs.l1 k X (n : Int) (m : Int) Y out (i : Int) (j : Int) ((p + 1 : Nat) : Int) ((q + 1 : Nat) : Int) true := by
      intro k
      simp only [emenderref23_pairs.l2]
      rw [e1, if_pos trivial, ite_self]
    by_cases c : DiffT.Fit L n m i j p q = true
    · rw [c] at hstep
      refine Ev.succ hstep (Ev.succ hfound (h1 q ?_))
      rw [DiffT.inRow, dif_pos (by omega), if_pos c]
    · rw [Bool.eq_false_iff.mpr c] at hstep
      refine Ev.succ hstep (ih (q + 1) (by omega) (by omega) (fun q' hq' => h1 q' ?_) (fun hq' => h2 ?_))
      · rw [DiffT.inRow, dif_pos (by omega), if_neg c, hq']
      · rw [DiffT.inRow, dif_pos (by omega), if_neg c, hq']
theorem search {L : Nat → Nat → Bool} {n m : Nat} {X : List (List Bool)} {Y : List (List Int)} (hn : n ≤ 400) (hm : m ≤ 400) (hX : Like L n m X) (hY : Tab L n m Y 0 0) (out : List S76) (ho : out.length ≤ 1000) (i j : Nat) (hi : i ≤ n) (hj : j ≤ m) (a b : Nat) (r : List S76) (ha : a < n) (hb : b < m)
    (hr : Ev (fun k => emenderref23_pairs.l0 k X (n : Int) (m : Int) Y (out ++ [(⟨(a : Int), (b : Int)⟩ : S76)]) ((a + 1 : Nat) : Int) ((b + 1 : Nat) : Int)) r) : ∀ (d p q0 : Nat), n - p = d → p ≤ n → DiffT.first (DiffT.Fit L n m i j) n m p j = some (a, b) →
    Ev (fun k => emenderref23_pairs.l1 k X (n : Int) (m : Int) Y out (i : Int) (j : Int) (p : Int) (q0 : Int) false) r := by
  have hend : Ev (fun k => emenderref23_pairs.l1 k X (n : Int) (m : Int) Y out (i : Int) (j : Int) ((a + 1 : Nat) : Int) ((b + 1 : Nat) : Int) true) r := by
    refine Ev.succ (g := fun k => emenderref23_pairs.j2 k X (n : Int) (m : Int) Y out (i : Int) (j : Int) ((a + 1 : Nat) : Int) ((b + 1 : Nat) : Int) true false) (fun k => ?_) (Ev.succ (fun k => ?_) hr)
    · simp only [emenderref23_pairs.l1]
      rw [Bool.not_true, ite_self]
    · simp only [emenderref23_pairs.j2]
      rw [if_neg (by decide), if_pos (by omega), w64 (by omega), w64 (by omega), show (((a + 1 : Nat) : Int) - 1) = (a : Int) by omega, show (((b + 1 : Nat) : Int) - 1) = (b : Int) by omega]
  intro d
  induction d with
  | zero =>
    intro p q0 hd hp h
    rw [DiffT.first, dif_neg (by omega)] at h
    cases h
  | succ d ih =>
    intro p q0 hd hp h
    rw [DiffT.first, dif_pos (by omega)] at h
    refine Ev.succ (g := fun k => emenderref23_pairs.j2 k X (n : Int) (m : Int) Y out (i : Int) (j : Int) (p : Int) (q0 : Int) false true) (fun k => ?_) (Ev.succ (g := fun k => emenderref23_pairs.l2 k X (n : Int) (m : Int) Y out (i : Int) (j : Int) (p : Int) (j : Int) false) (fun k => ?_) ?_)
    · simp only [emenderref23_pairs.l1]
      rw [if_pos (by omega), Bool.not_false]
    · simp only [emenderref23_pairs.j2]
      rw [if_pos trivial]
    · refine row_l2 hn hm hX hY out i j p hi hj (by omega) r _ j rfl hj (fun q' hq' => ?_) (fun hq' => ?_)
      · rw [hq'] at h
        simp only [Option.some.injEq, Prod.mk.injEq] at h
        obtain ⟨rfl, rfl⟩ := h
        exact hend
      · rw [hq'] at h
        exact ih (p + 1) m (by omega) (by omega) h
theorem pairs_l0 {L : Nat → Nat → Bool} {n m : Nat} {X : List (List Bool)} {Y : List (List Int)} (hn : n ≤ 400) (hm : m ≤ 400) (hX : Like L n m X) (hY : Tab L n m Y 0 0) : ∀ (kk i j : Nat) (out : List S76), DiffT.T L n m i j ≤ kk → out.length + kk ≤ 1000 → i ≤ n → j ≤ m →
    Ev (fun k => emenderref23_pairs.l0 k X (n : Int) (m : Int) Y out (i : Int) (j : Int)) (out ++ diff_grid.enc (DiffT.P L n m kk i j)) := by
  intro kk
  induction kk with
  | zero =>
    intro i j out hT ho hi hj
    have hv0 := hY.val i j hi hj (by omega)
    refine Ev.now fun k => ?_
    simp only [emenderref23_pairs.l0, rdL, rdV, hY.len, hY.row i hi, hv0]
    rw [if_pos (by omega), if_pos (by omega), if_pos (by omega), if_pos (by omega), if_neg (by omega)]
    simp [DiffT.P, diff_grid.enc]
  | succ kk ih =>
    intro i j out hT ho hi hj
    have hv0 := hY.val i j hi hj (by omega)
    simp only [DiffT.P]
    by_cases h0 : DiffT.T L n m i j = 0
    · rw [if_pos h0]
      refine Ev.now fun k => ?_
      simp only [emenderref23_pairs.l0, rdL, rdV, hY.len, hY.row i hi, hv0]
      rw [if_pos (by omega), if_pos (by omega), if_pos (by omega), if_pos (by omega), if_neg (by omega)]
      simp [diff_grid.enc]
    · rw [if_neg h0]
      obtain ⟨p, q, e, a1, a2, a3, a4, a5, a6⟩ := DiffT.step (like := L) (n := n) (m := m) (i := i) (j := j) (by omega)
      rw [e]
      have hr := ih (p + 1) (q + 1) (out ++ [(⟨(p : Int), (q : Int)⟩ : S76)]) (by omega) (by rw [List.length_append, List.length_singleton]; omega) (by omega) (by omega)
      rw [List.append_assoc] at hr
      refine Ev.succ (g := fun k => emenderref23_pairs.l1 k X (n : Int) (m : Int) Y out (i : Int) (j : Int) (i : Int) (j : Int) false) (fun k => ?_) (search hn hm hX hY out (by omega) i j hi hj p q _ a2 a4 hr _ i j rfl hi e)
      simp only [emenderref23_pairs.l0, rdL, rdV, hY.len, hY.row i hi, hv0]
      rw [if_pos (by omega), if_pos (by omega), if_pos (by omega), if_pos (by omega), if_pos (by omega)]
theorem pairs_f {L : Nat → Nat → Bool} {n m : Nat} {X : List (List Bool)} (hn : n ≤ 400) (hm : m ≤ 400) (hX : Like L n m X) : Ev (fun k => emenderref23_pairs.f k X (n : Int) (m : Int)) (diff_grid.enc (DiffT.P L n m n 0 0)) := by
  obtain ⟨Y, h1, h2⟩ := table_f hn hm hX
  have hT := DiffT.T_le (like := L) (n := n) (m := m) _ 0 0 rfl
  have := pairs_l0 hn hm hX h1 n 0 0 [] (by omega) (by simp; omega) (Nat.zero_le _) (Nat.zero_le _)
  rw [List.nil_append] at this
  exact Ev.bind (g := fun k t => emenderref23_pairs.l0 k X (n : Int) (m : Int) t ([] : List S76) 0 0) h2 this
/-! ### what is alike -/
theorem like_l1 (a b : List S64) (ha : a.length ≤ 400) (hb : b.length ≤ 400) (x6 : List (List Bool)) (h6 : x6.length = a.length) (i : Nat) (hi : i < a.length) (r : List S76 × Int) : ∀ (d j : Nat) (x8 : List Bool), b.length - j = d → j ≤ b.length → x8.length = b.length → (∀ j', j' < j → x8.getD j' false = diff_Pairs.like a b i j') →
    (∀ y : List Bool, y.length = b.length → (∀ j', j' < b.length → y.getD j' false = diff_Pairs.like a b i j') → Ev (fun k => emenderref23_Pairs.l0 k a b (x6.set i y) ((i + 1 : Nat) : Int)) r) →
    Ev (fun k => emenderref23_Pairs.l1 k a b x6 (i : Int) x8 (j : Int)) r := by
  intro d
  induction d with
  | zero =>
    intro j x8 hd hj hl hx h
    obtain rfl : j = b.length := by omega
    refine Ev.succ (fun k => ?_) (h x8 hl hx)
    simp only [emenderref23_Pairs.l1]
    rw [if_neg (by omega), if_pos (by omega), if_pos (by omega), w64 (by omega), Int.toNat_natCast]
    rfl
  | succ d ih =>
    intro j x8 hd hj hl hx h
    refine Ev.succ (g := fun k => emenderref23_Pairs.l1 k a b x6 (i : Int) (x8.set j (diff_Pairs.like a b i j)) ((j + 1 : Nat) : Int)) (fun k => ?_) (ih (j + 1) _ (by omega) (by omega) (by rw [List.length_set, hl]) (fun j' hj' => ?_) h)
    · simp only [emenderref23_Pairs.l1]
      rw [if_pos (by omega), if_pos (by omega), if_pos (by omega), if_pos (by omega), if_pos (by omega), w64 (by omega), Int.toNat_natCast]
      rfl
    · by_cases e : j' = j
      · subst e
        rw [List.getD_eq_getElem?_getD, List.getElem?_set_self (by omega), Option.getD_some]
      · rw [List.getD_eq_getElem?_getD, List.getElem?_set_ne (Ne.symm e), ← List.getD_eq_getElem?_getD]
        exact hx j' (by omega)
theorem like_l0 (a b : List S64) (ha : a.length ≤ 400) (hb : b.length ≤ 400) : ∀ (d i : Nat) (x6 : List (List Bool)), a.length - i = d → i ≤ a.length → x6.length = a.length → (∀ i', i' < i → (x6.getD i' []).length = b.length ∧ ∀ j', j' < b.length → (x6.getD i' []).getD j' false = diff_Pairs.like a b i' j') →
    Ev (fun k => emenderref23_Pairs.l0 k a b x6 (i : Int)) (diff_grid.enc (DiffT.P (diff_Pairs.like a b) a.length b.length a.length 0 0), 0) := by
  intro d
  induction d with
  | zero =>
    intro i x6 hd hi hl hx
    obtain rfl : i = a.length := by omega
    have hX : Like (diff_Pairs.like a b) a.length b.length x6 := ⟨hl, fun i h => (hx i h).1, fun i j h1 h2 => (hx i h1).2 j h2⟩
    refine Ev.succ (g := fun k => (emenderref23_pairs.f k x6 (a.length : Int) (b.length : Int)).bind fun t => some (t, 0)) (fun k => ?_) (Ev.bind (g := fun _ t => some (t, (0 : Int))) (pairs_f ha hb hX) ⟨0, fun k _ => rfl⟩)
    simp only [emenderref23_Pairs.l0]
    rw [if_neg (by omega)]
  | succ d ih =>
    intro i x6 hd hi hl hx
    refine Ev.succ (g := fun k => emenderref23_Pairs.l1 k a b x6 (i : Int) (List.replicate b.length false) ((0 : Nat) : Int)) (fun k => ?_) (like_l1 a b ha hb x6 hl i (by omega) _ _ 0 _ rfl (Nat.zero_le _) (by simp) (fun j' h => by omega) (fun y hy1 hy2 => ?_))
    · simp only [emenderref23_Pairs.l0]
      rw [if_pos (by omega), if_pos (by omega), Int.toNat_natCast, if_pos (by omega)]
      rfl
    · refine ih (i + 1) _ (by omega) (by omega) (by rw [List.length_set, hl]) (fun i' hi' => ?_)
      by_cases e : i' = i
      · subst e
        rw [List.getD_eq_getElem?_getD, List.getElem?_set_self (by omega), Option.getD_some]
        exact ⟨hy1, hy2⟩
      · rw [List.getD_eq_getElem?_getD, List.getElem?_set_ne (Ne.symm e), ← List.getD_eq_getElem?_getD]
        exact hx i' (by omega)
theorem Pairs_f (a b : List S64) (r : List S76 × Int) (hr : diff_Pairs.f a b = some r) : Ev (fun k => emenderref23_Pairs.f k a b) r := by
  unfold diff_Pairs.f at hr
  by_cases h : a.length > 400 ∨ b.length > 400
  · rw [if_pos h] at hr
    obtain rfl := Option.some.inj hr
    refine Ev.of (g := fun k => emenderref23_Pairs.j0 k a b true) (fun k => ?_) (Ev.now fun k => by simp only [emenderref23_Pairs.j0]; rw [if_pos trivial])
    unfold emenderref23_Pairs.f
    by_cases c : (a.length : Int) > 400
    · rw [if_pos c]
    · rw [if_neg c, decide_eq_true (by omega)]
  · rw [if_neg h] at hr
    obtain rfl := Option.some.inj hr
    refine Ev.of (g := fun k => emenderref23_Pairs.j0 k a b false) (fun k => ?_) (Ev.succ (g := fun k => emenderref23_Pairs.l0 k a b (List.replicate a.length []) ((0 : Nat) : Int)) (fun k => ?_) (like_l0 a b (by omega) (by omega) _ 0 _ rfl (Nat.zero_le _) (by simp) (fun i' h => by omega)))
    · unfold emenderref23_Pairs.f
      rw [if_neg (by omega), decide_eq_false (by omega)]
    · simp only [emenderref23_Pairs.j0]
      rw [if_neg (by decide), if_pos (by omega), Int.toNat_natCast, if_pos (by omega)]
      rfl
/-! ### the ranges -/
theorem edits_l0 (n m : Nat) (hn : n ≤ 400) (hm : m ≤ 400) (L : Nat → Nat → Bool) (x6 : List S76) (h6 : x6.length ≤ 1000) : ∀ (l : List (Nat × Nat)) (i j : Nat), DiffT.Rise L n m i j l → ∀ (x : Nat) (out : List S41), x6.drop x = diff_grid.enc (l ++ [(n, m)]) → x ≤ x6.length → out.length ≤ x → i ≤ n → j ≤ m →
    Ev (fun k => emenderref23_Edits.l0 k x6 out (i : Int) (j : Int) (x : Int)) (out ++ diff_Edits.outs (diff_gaps.trace (n : Int) (m : Int) ((i : Int), (j : Int)) (diff_grid.enc l)), 0) := by
  have one : ∀ (x i j p q : Nat) (rest : List (Nat × Nat)) (out : List S41), x6.drop x = diff_grid.enc ((p, q) :: rest) → x ≤ x6.length → out.length ≤ x → i ≤ p → j ≤ q → p ≤ 400 → q ≤ 400 → x6.drop (x + 1) = diff_grid.enc rest ∧ x + 1 ≤ x6.length ∧ (out ++ diff_Edits.add ((i : Int), (j : Int)) ((p : Int), (q : Int))).length ≤ x + 1 ∧
      ∀ k, emenderref23_Edits.l0 (k + 1) x6 out (i : Int) (j : Int) (x : Int) = emenderref23_Edits.l0 k x6 (out ++ diff_Edits.add ((i : Int), (j : Int)) ((p : Int), (q : Int))) ((p + 1 : Nat) : Int) ((q + 1 : Nat) : Int) ((x + 1 : Nat) : Int) := by
    intro x i j p q rest out hx hxl hol hip hjq hp hq
    have hlt : x < x6.length := by
      have := congrArg List.length hx
      simp only [List.length_drop, diff_grid.enc, List.length_map, List.length_cons] at this
      omega
    rw [List.drop_eq_getElem_cons hlt] at hx
    simp only [diff_grid.enc, List.map_cons] at hx
    injection hx with hx1 hx2
    have hrd : rd_T76 x6 (x : Int) = ⟨(p : Int), (q : Int)⟩ := by
      simp only [rd_T76, Int.toNat_natCast, List.getD_eq_getElem?_getD, List.getElem?_eq_getElem hlt, Option.getD_some, hx1]
    refine ⟨hx2, by omega, ?_, fun k => ?_⟩
    · rw [List.length_append]
      unfold diff_Edits.add
      split
      · simp; omega
      · simp; omega
    · simp only [emenderref23_Edits.l0]
      rw [hrd]
      dsimp only
      rw [w64 (i := (p : Int) - (i : Int)) (by omega), w64 (i := (q : Int) - (j : Int)) (by omega), w64 (i := (p : Int) + 1) (by omega), w64 (i := (q : Int) + 1) (by omega), w64 (i := (x : Int) + 1) (by omega), if_pos (by omega), if_pos (by omega)]
      unfold diff_Edits.add
      by_cases c1 : (p : Int) > (i : Int)
      · rw [if_pos c1, if_pos (by omega), if_neg (fun e => by simp only [Prod.mk.injEq] at e; omega)]
        rfl
      · rw [if_neg c1]
        by_cases c2 : (q : Int) > (j : Int)
        · rw [if_pos c2, if_pos (by omega), if_neg (fun e => by simp only [Prod.mk.injEq] at e; omega)]
          rfl
        · rw [if_neg c2, if_pos (by simp only [Prod.mk.injEq]; omega), List.append_nil]
          rfl
  intro l i j h
  induction h with
  | nil i j =>
    intro x out hx hxl hol hi hj
    rw [List.nil_append] at hx
    obtain ⟨g1, g2, g3, g4⟩ := one x i j n m [] out hx hxl hol hi hj hn hm
    refine Ev.succ g4 (Ev.now fun k => ?_)
    simp only [emenderref23_Edits.l0]
    have : x + 1 = x6.length := by
      have := congrArg List.length g1
      simp only [List.length_drop, diff_grid.enc, List.map_nil, List.length_nil] at this
      omega
    rw [if_neg (by omega)]
    simp [diff_grid.enc, diff_gaps.trace, diff_Edits.outs]
  | cons i j p q l h1 h2 h3 h4 h5 h ih =>
    intro x out hx hxl hol hi hj
    rw [List.cons_append] at hx
    obtain ⟨g1, g2, g3, g4⟩ := one x i j p q _ out hx hxl hol h1 h3 (by omega) (by omega)
    have := ih (x + 1) _ g1 g2 g3 (by omega) (by omega)
    refine Ev.succ g4 ?_
    rw [List.append_assoc] at this
    exact this
theorem Edits_f (a b : List S64) (r : List S41 × Int) (hr : diff_Edits.f a b = some r) : Ev (fun k => emenderref23_Edits.f k a b) r := by
  unfold diff_Edits.f at hr
  by_cases h : a.length > 400 ∨ b.length > 400
  · rw [if_pos h] at hr
    obtain rfl := Option.some.inj hr
    have hp := Pairs_f a b ([], 2) (by unfold diff_Pairs.f; rw [if_pos h])
    exact Ev.bind (g := fun k (bt : List S76 × Int) => (if bt.2 = 0 then (if bt.1.length < 8796093022208 then (emenderref23_Edits.l0 k (bt.1 ++ [(⟨(a.length : Int), (b.length : Int)⟩ : S76)]) ([] : List (S41)) 0 0 0) else (none)) else (some (([] : List (S41)), bt.2)))) hp ⟨0, fun k _ => by show (if (2 : Int) = 0 then _ else _) = _; rw [if_neg (by decide)]⟩
  · rw [if_neg h] at hr
    obtain rfl := Option.some.inj hr
    have hp := Pairs_f a b _ (show diff_Pairs.f a b = some (diff_grid.enc (DiffT.P (diff_Pairs.like a b) a.length b.length a.length 0 0), 0) by unfold diff_Pairs.f; rw [if_neg h])
    have hT := DiffT.T_le (like := diff_Pairs.like a b) (n := a.length) (m := b.length) _ 0 0 rfl
    have hPl := DiffT.P_length (like := diff_Pairs.like a b) (n := a.length) (m := b.length) a.length 0 0 (by omega)
    have hr := DiffT.P_rise (like := diff_Pairs.like a b) (n := a.length) (m := b.length) a.length 0 0
    obtain ⟨l, hl⟩ : ∃ l, l = DiffT.P (diff_Pairs.like a b) a.length b.length a.length 0 0 := ⟨_, rfl⟩
    rw [← hl] at hp hPl hr ⊢
    have he := edits_l0 a.length b.length (by omega) (by omega) _ (diff_grid.enc l ++ [(⟨(a.length : Int), (b.length : Int)⟩ : S76)]) (by simp only [diff_grid.enc, List.length_append, List.length_map, List.length_singleton]; omega) l 0 0 hr 0 [] (by simp [diff_grid.enc]) (Nat.zero_le _) (Nat.zero_le _) (Nat.zero_le _) (Nat.zero_le _)
    rw [List.nil_append] at he
    refine Ev.bind (g := fun k (bt : List S76 × Int) => (if bt.2 = 0 then (if bt.1.length < 8796093022208 then (emenderref23_Edits.l0 k (bt.1 ++ [(⟨(a.length : Int), (b.length : Int)⟩ : S76)]) ([] : List (S41)) 0 0 0) else (none)) else (some (([] : List (S41)), bt.2)))) hp (Ev.of (fun k => ?_) he)
    dsimp only
    rw [if_pos rfl, if_pos (by simp only [diff_grid.enc, List.length_map]; omega)]
    rfl
/-! ### the same lists -/
theorem same_pairs (x : List S76) (hx : x.length ≤ 4611686018427387904) : ∀ (d i : Nat), x.length - i = d → i ≤ x.length → Ev (fun k => emenderlaw23_pairs.l0 k x x (i : Int)) true := by
  intro d
  induction d with
  | zero => intro i hd hi; exact Ev.now fun k => by simp only [emenderlaw23_pairs.l0]; rw [if_neg (by omega)]
  | succ d ih =>
    intro i hd hi
    refine Ev.succ (g := fun k => emenderlaw23_pairs.l0 k x x ((i + 1 : Nat) : Int)) (fun k => ?_) (ih (i + 1) (by omega) (by omega))
    simp only [emenderlaw23_pairs.l0]
    rw [if_pos (by omega), if_pos (by omega), if_pos (by omega), if_neg (by simp), w64 (by omega)]
    rfl
theorem same_ranges (x : List S41) (hx : x.length ≤ 4611686018427387904) : ∀ (d i : Nat), x.length - i = d → i ≤ x.length → Ev (fun k => emenderlaw23_ranges.l0 k x x (i : Int)) true := by
  intro d
  induction d with
  | zero => intro i hd hi; exact Ev.now fun k => by simp only [emenderlaw23_ranges.l0]; rw [if_neg (by omega)]
  | succ d ih =>
    intro i hd hi
    refine Ev.succ (g := fun k => emenderlaw23_ranges.l0 k x x ((i + 1 : Nat) : Int)) (fun k => ?_) (ih (i + 1) (by omega) (by omega))
    simp only [emenderlaw23_ranges.l0]
    rw [if_pos (by omega), if_pos (by omega), if_pos (by omega), if_neg (by simp), w64 (by omega)]
    rfl
theorem pairs_same (x : List S76) (hx : x.length ≤ 4611686018427387904) : Ev (fun k => emenderlaw23_pairs.f k x x) true :=
  Ev.of (g := fun k => emenderlaw23_pairs.l0 k x x ((0 : Nat) : Int)) (fun k => by unfold emenderlaw23_pairs.f; rw [if_pos rfl]; rfl) (same_pairs x hx _ 0 rfl (Nat.zero_le _))
theorem ranges_same (x : List S41) (hx : x.length ≤ 4611686018427387904) : Ev (fun k => emenderlaw23_ranges.f k x x) true :=
  Ev.of (g := fun k => emenderlaw23_ranges.l0 k x x ((0 : Nat) : Int)) (fun k => by unfold emenderlaw23_ranges.f; rw [if_pos rfl]; rfl) (same_ranges x hx _ 0 rfl (Nat.zero_le _))
theorem awakeE : Ev (fun k => emenderlaw23_awake.f k) true := ⟨10, fun k hk => awake23 k hk⟩
theorem DiffPairs : emenderlaw23_DiffPairs.Pure := by
  intro a b ha _ hb _
  have J : ∀ c, Ev (fun k => emenderlaw23_DiffPairs.j0 k a b c) true := by
    intro c
    cases c with
    | true =>
      refine Ev.succ (g := fun k => (emenderlaw23_awake.f k).bind fun t => some t) (fun k => ?_) (Ev.bind (g := fun _ t => some t) awakeE ⟨0, fun _ _ => rfl⟩)
      simp only [emenderlaw23_DiffPairs.j0]
      rw [if_pos trivial]
    | false =>
      obtain ⟨P, hP⟩ : ∃ r, diff_Pairs.f a b = some r := ⟨_, rfl⟩
      obtain ⟨E, hE⟩ : ∃ r, diff_Edits.f a b = some r := ⟨_, rfl⟩
      have hPl : P.1.length ≤ 1000 := by
        unfold diff_Pairs.f at hP
        obtain rfl := Option.some.inj hP
        split
        · simp
        · have hT := DiffT.T_le (like := diff_Pairs.like a b) (n := a.length) (m := b.length) _ 0 0 rfl
          have hPl := DiffT.P_length (like := diff_Pairs.like a b) (n := a.length) (m := b.length) a.length 0 0 (by omega)
          simp only [diff_grid.enc, List.length_map]
          omega
      have hEl : E.1.length ≤ 2000 := by
        unfold diff_Edits.f at hE
        obtain rfl := Option.some.inj hE
        split
        · simp
        · have hT := DiffT.T_le (like := diff_Pairs.like a b) (n := a.length) (m := b.length) _ 0 0 rfl
          have hPl := DiffT.P_length (like := diff_Pairs.like a b) (n := a.length) (m := b.length) a.length 0 0 (by omega)
          have hel := diff_Edits.outs_len (diff_gaps.trace (a.length : Int) (b.length : Int) (0, 0) (diff_grid.enc (DiffT.P (diff_Pairs.like a b) a.length b.length a.length 0 0)))
          rw [diff_gaps.trace_len] at hel
          simp only [diff_grid.enc, List.length_map] at hel ⊢
          omega
      obtain ⟨K1, h1⟩ := our_ends a b (by omega) (by omega)
      obtain ⟨K2, h2⟩ := ref_ends a b (by omega) (by omega)
      obtain ⟨K3, h3⟩ := Pairs_f a b P hP
      obtain ⟨K4, h4⟩ := Edits_f a b E hE
      obtain ⟨K5, h5⟩ := pairs_same P.1 (by omega)
      obtain ⟨K6, h6⟩ := ranges_same E.1 (by omega)
      obtain ⟨K7, h7⟩ := awakeE
      refine ⟨K1 + K2 + K3 + K4 + K5 + K6 + K7 + 1, fun k hk => ?_⟩
      obtain ⟨k, rfl⟩ : ∃ m, k = m + 1 := ⟨k - 1, by omega⟩
      replace h1 := h1 k (by omega)
      replace h2 := h2 k (by omega)
      replace h3 := h3 k (by omega)
      replace h4 := h4 k (by omega)
      replace h5 := h5 k (by omega)
      replace h6 := h6 k (by omega)
      replace h7 := h7 k (by omega)
      dsimp only at h1 h2 h3 h4 h5 h6 h7
      simp only [emenderlaw23_DiffPairs.j0]
      rw [if_neg (by decide), h1, Option.bind_some, h2, Option.bind_some, hP, Option.bind_some, h3, Option.bind_some, hE, Option.bind_some, h4, Option.bind_some, if_pos rfl, if_pos rfl, h5, Option.bind_some, if_pos rfl, if_pos rfl, h6, Option.bind_some, if_pos rfl, if_pos rfl, h7, Option.bind_some]
  unfold emenderlaw23_DiffPairs.f
  by_cases h1 : (a.length : Int) > 60
  · simp only [if_pos h1]
    by_cases h2 : (a.length : Int) ≤ 400
    · simp only [if_pos h2]
      obtain ⟨K, h⟩ := J (decide ((b.length : Int) ≤ 400))
      exact ⟨K, h K (Nat.le_refl _)⟩
    · simp only [if_neg h2]
      obtain ⟨K, h⟩ := J false
      exact ⟨K, h K (Nat.le_refl _)⟩
  · simp only [if_neg h1]
    by_cases h3 : (b.length : Int) > 60
    · simp only [if_pos h3]
      by_cases h2 : (a.length : Int) ≤ 400
      · simp only [if_pos h2]
        obtain ⟨K, h⟩ := J (decide ((b.length : Int) ≤ 400))
        exact ⟨K, h K (Nat.le_refl _)⟩
      · simp only [if_neg h2]
        obtain ⟨K, h⟩ := J false
        exact ⟨K, h K (Nat.le_refl _)⟩
    · simp only [if_neg h3]
      obtain ⟨K, h⟩ := J false
      exact ⟨K, h K (Nat.le_refl _)⟩
end Go.Proofs.Ytjpmlggkhhoooaa.Pure
