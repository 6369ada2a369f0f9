/- What two rows share: the longest pairs, of as many the least, in plain words. -/
namespace Go.Proofs.DiffT
/-- How long the longest pairs are, from each two places on. -/
def T (like : Nat → Nat → Bool) (n m i j : Nat) : Nat :=
  if _h : i < n ∧ j < m then
    max (max (T like n m (i + 1) j) (T like n m i (j + 1))) (if like i j = true then 1 + T like n m (i + 1) (j + 1) else 0)
  else 0
termination_by (n - i) + (m - j)
theorem T_in {like : Nat → Nat → Bool} {n m i j : Nat} (h1 : i < n) (h2 : j < m) : T like n m i j = max (max (T like n m (i + 1) j) (T like n m i (j + 1))) (if like i j = true then 1 + T like n m (i + 1) (j + 1) else 0) := by
  rw [T, dif_pos ⟨h1, h2⟩]
theorem T_out {like : Nat → Nat → Bool} {n m i j : Nat} (h : n ≤ i ∨ m ≤ j) : T like n m i j = 0 := by
  rw [T, dif_neg (by omega)]
theorem T_le {like : Nat → Nat → Bool} {n m : Nat} : ∀ (d i j : Nat), (n - i) + (m - j) = d → T like n m i j ≤ n - i ∧ T like n m i j ≤ m - j := by
  intro d
  induction d using Nat.strongRecOn with
  | _ d ih =>
    intro i j hd
    by_cases h : i < n ∧ j < m
    · rw [T_in h.1 h.2]
      have h1 := ih _ (by omega) (i + 1) j rfl
      have h2 := ih _ (by omega) i (j + 1) rfl
      have h3 := ih _ (by omega) (i + 1) (j + 1) rfl
      split <;> omega
    · rw [T_out (by omega)]
      omega
/-- Where the longest pairs may begin. -/
def Fit (like : Nat → Nat → Bool) (n m i j p q : Nat) : Bool := like p q && decide (1 + T like n m (p + 1) (q + 1) = T like n m i j)
theorem fit_some {like : Nat → Nat → Bool} {n m : Nat} : ∀ (d i j : Nat), (n - i) + (m - j) = d → 0 < T like n m i j → ∃ p q, i ≤ p ∧ p < n ∧ j ≤ q ∧ q < m ∧ like p q = true ∧ 1 + T like n m (p + 1) (q + 1) = T like n m i j := by
  intro d
  induction d using Nat.strongRecOn with
  | _ d ih =>
    intro i j hd h0
    by_cases h : i < n ∧ j < m
    · have e := T_in (like := like) h.1 h.2
      by_cases c1 : T like n m i j = T like n m (i + 1) j
      · obtain ⟨p, q, a1, a2, a3, a4, a5, a6⟩ := ih _ (by omega) (i + 1) j rfl (by omega)
        exact ⟨p, q, by omega, a2, a3, a4, a5, by omega⟩
      · by_cases c2 : T like n m i j = T like n m i (j + 1)
        · obtain ⟨p, q, a1, a2, a3, a4, a5, a6⟩ := ih _ (by omega) i (j + 1) rfl (by omega)
          exact ⟨p, q, a1, a2, by omega, a4, a5, by omega⟩
        · by_cases c3 : like i j = true
          · rw [if_pos c3] at e
            exact ⟨i, j, Nat.le_refl _, h.1, Nat.le_refl _, h.2, c3, by omega⟩
          · rw [if_neg c3] at e
            omega
    · rw [T_out (by omega)] at h0
      omega
/-- The first place in a line, from q on. -/
def inRow (f : Nat → Bool) (m q : Nat) : Option Nat := if _h : q < m then (if f q = true then some q else inRow f m (q + 1)) else none
termination_by m - q
theorem inRow_some {f : Nat → Bool} {m : Nat} : ∀ (d q r : Nat), m - q = d → inRow f m q = some r → q ≤ r ∧ r < m ∧ f r = true := by
  intro d
  induction d with
  | zero =>
    intro q r hd h
    rw [inRow, dif_neg (by omega)] at h
    cases h
  | succ d ih =>
    intro q r hd h
    rw [inRow, dif_pos (by omega)] at h
    split at h
    · rename_i hf
      obtain rfl := Option.some.inj h
      exact ⟨Nat.le_refl _, by omega, hf⟩
    · obtain ⟨a, b, c⟩ := ih (q + 1) r (by omega) h
      exact ⟨by omega, b, c⟩
theorem inRow_none {f : Nat → Bool} {m : Nat} : ∀ (d q : Nat), m - q = d → inRow f m q = none → ∀ r, q ≤ r → r < m → f r = false := by
  intro d
  induction d with
  | zero => intro q hd h r h1 h2; omega
  | succ d ih =>
    intro q hd h r h1 h2
    rw [inRow, dif_pos (by omega)] at h
    split at h
    · cases h
    · rename_i hf
      by_cases e : r = q
      · subst e
        simpa using hf
      · exact ih (q + 1) (by omega) h r (by omega) h2
/-- The first place, line by line. -/
def first (f : Nat → Nat → Bool) (n m p j : Nat) : Option (Nat × Nat) := if _h : p < n then (match inRow (f p) m j with | some q => some (p, q) | none => first f n m (p + 1) j) else none
termination_by n - p
theorem first_some {f : Nat → Nat → Bool} {n m j : Nat} : ∀ (d p a b : Nat), n - p = d → first f n m p j = some (a, b) → p ≤ a ∧ a < n ∧ j ≤ b ∧ b < m ∧ f a b = true := by
  intro d
  induction d with
  | zero =>
    intro p a b hd h
    rw [first, dif_neg (by omega)] at h
    cases h
  | succ d ih =>
    intro p a b hd h
    rw [first, dif_pos (by omega)] at h
    cases e : inRow (f p) m j with
    | some q =>
      rw [e] at h
      simp only [Option.some.injEq, Prod.mk.injEq] at h
      obtain ⟨rfl, rfl⟩ := h
      obtain ⟨a1, a2, a3⟩ := inRow_some _ _ _ rfl e
      exact ⟨Nat.le_refl _, by omega, a1, a2, a3⟩
    | none =>
      rw [e] at h
      obtain ⟨a1, a2⟩ := ih (p + 1) a b (by omega) h
      exact ⟨by omega, a2⟩
theorem first_none {f : Nat → Nat → Bool} {n m j : Nat} : ∀ (d p : Nat), n - p = d → first f n m p j = none → ∀ a b, p ≤ a → a < n → j ≤ b → b < m → f a b = false := by
  intro d
  induction d with
  | zero => intro p hd h a b h1 h2; omega
  | succ d ih =>
    intro p hd h a b h1 h2 h3 h4
    rw [first, dif_pos (by omega)] at h
    cases e : inRow (f p) m j with
    | some q => rw [e] at h; cases h
    | none =>
      rw [e] at h
      by_cases c : a = p
      · subst c
        exact inRow_none _ _ rfl e b h3 h4
      · exact ih (p + 1) (by omega) h a b (by omega) h2 h3 h4
/-- The longest pairs from two places on, of as many the least. -/
def P (like : Nat → Nat → Bool) (n m : Nat) : Nat → Nat → Nat → List (Nat × Nat)
  | 0, _, _ => []
  | k + 1, i, j => if T like n m i j = 0 then [] else match first (Fit like n m i j) n m i j with | some (p, q) => (p, q) :: P like n m k (p + 1) (q + 1) | none => []
theorem fit_iff {like : Nat → Nat → Bool} {n m i j p q : Nat} : Fit like n m i j p q = true ↔ like p q = true ∧ 1 + T like n m (p + 1) (q + 1) = T like n m i j := by simp [Fit]
theorem step {like : Nat → Nat → Bool} {n m i j : Nat} (h : 0 < T like n m i j) : ∃ p q, first (Fit like n m i j) n m i j = some (p, q) ∧ i ≤ p ∧ p < n ∧ j ≤ q ∧ q < m ∧ like p q = true ∧ 1 + T like n m (p + 1) (q + 1) = T like n m i j := by
  obtain ⟨p, q, a1, a2, a3, a4, a5, a6⟩ := fit_some _ i j rfl h
  cases e : first (Fit like n m i j) n m i j with
  | none =>
    have := first_none _ _ rfl e p q a1 a2 a3 a4
    rw [fit_iff.2 ⟨a5, a6⟩] at this
    cases this
  | some r =>
    obtain ⟨p', q'⟩ := r
    obtain ⟨b1, b2, b3, b4, b5⟩ := first_some _ _ _ _ rfl e
    obtain ⟨c1, c2⟩ := fit_iff.1 b5
    exact ⟨p', q', rfl, b1, b2, b3, b4, c1, c2⟩
theorem P_length {like : Nat → Nat → Bool} {n m : Nat} : ∀ (k i j : Nat), T like n m i j ≤ k → (P like n m k i j).length = T like n m i j
  | 0, i, j, h => by simp [P]; omega
  | k + 1, i, j, h => by
    simp only [P]
    by_cases h0 : T like n m i j = 0
    · rw [if_pos h0, h0]; rfl
    · rw [if_neg h0]
      obtain ⟨p, q, e, a1, a2, a3, a4, a5, a6⟩ := step (like := like) (n := n) (m := m) (i := i) (j := j) (by omega)
      rw [e]
      simp only [List.length_cons]
      rw [P_length k (p + 1) (q + 1) (by omega)]
      omega
/-- Pairs that rise from two places on, of places that are alike. -/
inductive Rise (like : Nat → Nat → Bool) (n m : Nat) : Nat → Nat → List (Nat × Nat) → Prop
  | nil (i j : Nat) : Rise like n m i j []
  | cons (i j p q : Nat) (l : List (Nat × Nat)) (h1 : i ≤ p) (h2 : p < n) (h3 : j ≤ q) (h4 : q < m) (h5 : like p q = true) (h : Rise like n m (p + 1) (q + 1) l) : Rise like n m i j ((p, q) :: l)
theorem P_rise {like : Nat → Nat → Bool} {n m : Nat} : ∀ (k i j : Nat), Rise like n m i j (P like n m k i j)
  | 0, i, j => .nil i j
  | k + 1, i, j => by
    simp only [P]
    by_cases h0 : T like n m i j = 0
    · rw [if_pos h0]; exact .nil i j
    · rw [if_neg h0]
      obtain ⟨p, q, e, a1, a2, a3, a4, a5, a6⟩ := step (like := like) (n := n) (m := m) (i := i) (j := j) (by omega)
      rw [e]
      exact .cons i j p q _ a1 a2 a3 a4 a5 (P_rise k (p + 1) (q + 1))
/-- Of two rows that are alike place by place, all is in pairs. -/
theorem T_diag {like : Nat → Nat → Bool} {n : Nat} (h : ∀ i, i < n → like i i = true) : ∀ (d i : Nat), n - i = d → i ≤ n → T like n n i i = n - i := by
  intro d
  induction d with
  | zero => intro i hd hi; rw [T_out (by omega)]; omega
  | succ d ih =>
    intro i hd hi
    have h1 := T_le (like := like) (n := n) (m := n) _ (i + 1) i rfl
    have h2 := T_le (like := like) (n := n) (m := n) _ i (i + 1) rfl
    have h3 := ih (i + 1) (by omega) (by omega)
    rw [T_in (by omega) (by omega), if_pos (h i (by omega)), h3]
    omega
theorem P_diag {like : Nat → Nat → Bool} {n : Nat} (h : ∀ i, i < n → like i i = true) : ∀ (k i : Nat), n - i ≤ k → i ≤ n → P like n n k i i = (List.range' i (n - i)).map fun x => (x, x)
  | 0, i, hk, hi => by
    have : n - i = 0 := by omega
    rw [this]; rfl
  | k + 1, i, hk, hi => by
    simp only [P]
    have e := T_diag h _ i rfl hi
    by_cases h0 : n - i = 0
    · rw [if_pos (by omega), h0]; rfl
    · rw [if_neg (by omega)]
      have hf : first (Fit like n n i i) n n i i = some (i, i) := by
        rw [first, dif_pos (by omega), inRow, dif_pos (by omega), if_pos]
        rw [fit_iff]
        exact ⟨h i (by omega), by rw [T_diag h _ (i + 1) rfl (by omega)]; omega⟩
      rw [hf]
      simp only
      rw [P_diag h k (i + 1) (by omega) (by omega)]
      obtain ⟨d, hd⟩ : ∃ d, n - i = d + 1 := ⟨n - i - 1, by omega⟩
      rw [hd, show n - (i + 1) = d by omega, List.range'_succ]
      rfl
end Go.Proofs.DiffT
