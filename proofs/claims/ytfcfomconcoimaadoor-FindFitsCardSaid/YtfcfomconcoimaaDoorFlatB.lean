/- More of what is open in tokens: how it changes from place to place. -/
import Derived.Test.YtfcfomconcoimaaDoorFlatA
import Derived.Test.YtfcfomconcoimaaDoorPFax0
import Derived.Test.YtfcfomconcoimaaDoorPFax3
namespace Go.Proofs.YtfcfomconcoimaaDoor.FlatB
open Go.RowKit Go.Proofs.YtfcfomconcoimaaDoorW.PrintWords Go.Proofs.YtfcfomconcoimaaDoorW.PrintMore
open Go.Proofs.YtfcfomconcoimaaDoor Go.Proofs.YtfcfomconcoimaaDoor.PFa Go.Proofs.YtfcfomconcoimaaDoor.FlatA

def upd (s : List Int) (i : Int) (t : S48) : List Int := if t.f0 = 1 then s ++ [i] else if t.f0 = 2 then s.dropLast else s
theorem stk_snoc : ∀ (l : List S48) (t : S48) (i : Int) (s : List Int), stk (l ++ [t]) i s = upd (stk l i s) (i + l.length) t
  | [], t, i, s => by simp [stk, upd]
  | x :: l, t, i, s => by
    have := stk_snoc l t (i + 1) (if x.f0 = 1 then s ++ [i] else if x.f0 = 2 then s.dropLast else s)
    simp only [List.cons_append, stk]
    rw [this]
    congr 1
    simp only [List.length_cons]
    omega
theorem stackAt_zero (l : List S48) : stackAt l 0 = [] := by
  unfold stackAt
  rw [if_neg (by omega)]
  rfl
theorem stackAt_succ (l : List S48) (i : Int) (h0 : 0 ≤ i) (h : i.toNat < l.length) : stackAt l (i + 1) = upd (stackAt l i) i l[i.toNat] := by
  unfold stackAt
  have e : (i + 1).toNat = i.toNat + 1 := by omega
  rw [if_neg (by omega), if_neg (by omega), e, List.take_succ_eq_append_getElem h, stk_snoc, List.length_take]
  congr 1
  omega
theorem dropLast_mem {s : List Int} {x : Int} (h : x ∈ s.dropLast) : x ∈ s := List.dropLast_subset s h
theorem stackAt_mem (l : List S48) : ∀ (n : Nat), n ≤ l.length → ∀ x ∈ stackAt l n, 0 ≤ x ∧ x < n
  | 0, _, x, hx => by
    rw [show ((0 : Nat) : Int) = 0 from rfl, stackAt_zero] at hx
    simp at hx
  | n + 1, hn, x, hx => by
    have := stackAt_succ l n (by omega) (by omega)
    rw [show (((n + 1 : Nat)) : Int) = (n : Int) + 1 by omega, this] at hx
    have ih := stackAt_mem l n (by omega)
    unfold upd at hx
    split at hx
    · rcases List.mem_append.1 hx with hx | hx
      · have := ih x hx
        omega
      · have : x = (n : Int) := by simpa using hx
        omega
    · split at hx
      · have := ih x (dropLast_mem hx)
        omega
      · have := ih x hx
        omega
theorem stackAt_mem' (l : List S48) (a : Int) : ∀ x ∈ stackAt l a, 0 ≤ x ∧ x < a := by
  intro x hx
  by_cases h : a > (l.length : Int)
  · unfold stackAt at hx
    rw [if_pos h] at hx
    simp at hx
  · by_cases h0 : 0 ≤ a
    · have := stackAt_mem l a.toNat (by omega) x (by rw [show ((a.toNat : Nat) : Int) = a by omega]; exact hx)
      omega
    · unfold stackAt at hx
      rw [if_neg h, show a.toNat = 0 by omega] at hx
      simp [stk] at hx
theorem top_append (s : List Int) (x : Int) : top (s ++ [x]) = x := by simp [top]
theorem top_mem {s : List Int} (h : s ≠ []) : top s ∈ s := by
  unfold top
  rw [List.getLast?_eq_some_getLast h]
  exact List.getLast_mem h
theorem top_neg (l : List S48) (a : Int) : top (stackAt l a) < 0 ↔ stackAt l a = [] := by
  constructor
  · intro h
    by_cases e : stackAt l a = []
    · exact e
    · have := stackAt_mem' l a _ (top_mem e)
      omega
  · intro h
    rw [h]
    simp [top]
theorem dropLast_snoc (s : List Int) (h : s ≠ []) : s = s.dropLast ++ [top s] := by
  unfold top
  rw [List.getLast?_eq_some_getLast h]
  simp [List.dropLast_concat_getLast]
/-- A base and what was opened since: the innermost is the base's own just where nothing was opened since. -/
def Base (b : List Int) (i : Int) : Prop := top b = i
theorem base_top {b u : List Int} {i : Int} (hb : top b = i) (hu : ∀ x ∈ u, i < x) : top (b ++ u) = i ↔ u = [] := by
  constructor
  · intro h
    by_cases e : u = []
    · exact e
    · have h1 : top (b ++ u) = top u := by
        unfold top
        rw [List.getLast?_append, List.getLast?_eq_some_getLast e]
        rfl
      rw [h1] at h
      have := hu _ (top_mem e)
      omega
  · rintro rfl
    simpa using hb
theorem upd_base (b u : List Int) (j : Int) (t : S48) (h : t.f0 = 2 → u ≠ []) : upd (b ++ u) j t = b ++ upd u j t := by
  unfold upd
  split
  · simp
  · split
    · rename_i h2
      rw [List.dropLast_append_of_ne_nil (h h2)]
    · rfl
theorem upd_mem {u : List Int} {i j : Int} {t : S48} (hu : ∀ x ∈ u, i < x) (hj : i < j) : ∀ x ∈ upd u j t, i < x := by
  intro x hx
  unfold upd at hx
  split at hx
  · rcases List.mem_append.1 hx with hx | hx
    · exact hu x hx
    · have : x = j := by simpa using hx
      omega
  · split at hx
    · exact hu x (dropLast_mem hx)
    · exact hu x hx
/-- What is open at a place, and where it was opened. -/
theorem history (l : List S48) : ∀ (n : Nat), n ≤ l.length → ∀ (s : List Int) (p : Int) (v : List Int), stackAt l n = s ++ [p] ++ v →
    (0 ≤ p ∧ p < n) ∧ (∃ h : p.toNat < l.length, l[p.toNat].f0 = 1) ∧ stackAt l p = s ∧ (∀ x ∈ v, p < x) ∧ ∀ j : Int, p < j → j ≤ n → ∃ u, stackAt l j = s ++ [p] ++ u ∧ ∀ x ∈ u, p < x
  | 0, _, s, p, v, h => by
    rw [show ((0 : Nat) : Int) = 0 from rfl, stackAt_zero] at h
    simp at h
  | n + 1, hn, s, p, v, h => by
    have e : (((n + 1 : Nat)) : Int) = (n : Int) + 1 := by omega
    have hs := stackAt_succ l n (by omega) (by omega)
    have ih := history l n (by omega)
    rw [e] at h ⊢
    have h1 := h
    rw [hs] at h
    have ht : (n : Int).toNat = n := by omega
    have go : ∀ w, stackAt l n = s ++ [p] ++ w → (∀ x ∈ v, x ∈ w ∨ x = n) → (0 ≤ p ∧ p < (n : Int) + 1) ∧ (∃ h : p.toNat < l.length, l[p.toNat].f0 = 1) ∧ stackAt l p = s ∧ (∀ x ∈ v, p < x) ∧ ∀ j : Int, p < j → j ≤ (n : Int) + 1 → ∃ u, stackAt l j = s ++ [p] ++ u ∧ ∀ x ∈ u, p < x := by
      intro w hw hv
      obtain ⟨a, b, c, d, f⟩ := ih s p w hw
      have hvp : ∀ x ∈ v, p < x := by
        intro x hx
        rcases hv x hx with hx | hx
        · exact d x hx
        · omega
      refine ⟨⟨a.1, by omega⟩, b, c, hvp, fun j hj hj2 => ?_⟩
      by_cases hj3 : j ≤ n
      · exact f j hj hj3
      · obtain rfl : j = (n : Int) + 1 := by omega
        exact ⟨v, h1, hvp⟩
    unfold upd at h
    by_cases k1 : l[(n : Int).toNat].f0 = 1
    · rw [if_pos k1] at h
      rcases List.eq_nil_or_concat v with hv | ⟨v', q, hv⟩
      · subst hv
        rw [List.append_nil] at h
        obtain ⟨h2, h3⟩ := List.append_inj' h rfl
        obtain rfl : (n : Int) = p := by simpa using h3
        refine ⟨⟨by omega, by omega⟩, ⟨by omega, k1⟩, h2, by simp, fun j hj hj2 => ?_⟩
        obtain rfl : j = (n : Int) + 1 := by omega
        exact ⟨[], h1, by simp⟩
      · rw [List.concat_eq_append] at hv
        subst hv
        rw [← List.append_assoc] at h
        obtain ⟨h2, h3⟩ := List.append_inj' h rfl
        obtain rfl : (n : Int) = q := by simpa using h3
        refine go v' h2 ?_
        intro x hx
        simpa using hx
    · rw [if_neg k1] at h
      by_cases k2 : l[(n : Int).toNat].f0 = 2
      · rw [if_pos k2] at h
        have hne : stackAt l n ≠ [] := by
          intro h0
          rw [h0] at h
          simp at h
        have := dropLast_snoc _ hne
        rw [h, List.append_assoc] at this
        exact go _ this (by intro x hx; simp [hx])
      · rw [if_neg k2] at h
        exact go v h (fun x hx => .inl hx)
/-- The check of tokens goes along with what is open. -/
theorem check_run (l : List S48) : ∀ (d : Nat) (i : Int) (n : Int) (r : Int × Int), 0 ≤ i → i + d = l.length → flat_Check.l0 (l.drop i.toNat) n i = some r → r.2 = 0 → n = (stackAt l i).length →
    (∀ j : Int, i ≤ j → ∀ h : j.toNat < l.length, (l[j.toNat].f0 = 2 → stackAt l j ≠ []) ∧ right l[j.toNat].f0 l[j.toNat].f1 l[j.toNat].f2 l[j.toNat].f3 = true ∧ (l[j.toNat].f0 = 1 → (stackAt l j).length ≠ 32)) ∧ stackAt l l.length = [] ∧ r.1 = l.length := by
  intro d
  induction d with
  | zero =>
    intro i n r h0 h1 h hr hn
    obtain rfl : i = l.length := by omega
    rw [List.drop_eq_nil_of_le (by omega)] at h
    unfold flat_Check.l0 at h
    by_cases c : n > 0
    · rw [if_pos c] at h
      obtain rfl := Option.some.inj h
      simp at hr
    · rw [if_neg c] at h
      obtain rfl := Option.some.inj h
      refine ⟨fun j hj hh => absurd hh (by omega), List.eq_nil_of_length_eq_zero (by omega), rfl⟩
  | succ d ih =>
    intro i n r h0 h1 h hr hn
    have hlt : i.toNat < l.length := by omega
    rw [flat_Check.step l n i hlt, flat_right, Option.bind_some, rd_get l i hlt] at h
    have e : i.toNat + 1 = (i + 1).toNat := by omega
    have hs := stackAt_succ l i h0 hlt
    have fin : (l[i.toNat].f0 = 2 → stackAt l i ≠ []) → right l[i.toNat].f0 l[i.toNat].f1 l[i.toNat].f2 l[i.toNat].f3 = true → (l[i.toNat].f0 = 1 → (stackAt l i).length ≠ 32) → ∀ n', flat_Check.l0 (l.drop (i + 1).toNat) n' (i + 1) = some r → n' = (stackAt l (i + 1)).length → (∀ j : Int, i ≤ j → ∀ h : j.toNat < l.length, (l[j.toNat].f0 = 2 → stackAt l j ≠ []) ∧ right l[j.toNat].f0 l[j.toNat].f1 l[j.toNat].f2 l[j.toNat].f3 = true ∧ (l[j.toNat].f0 = 1 → (stackAt l j).length ≠ 32)) ∧ stackAt l l.length = [] ∧ r.1 = l.length := by
      intro p1 p2 p3 n' h' hn'
      obtain ⟨q1, q2, q3⟩ := ih (i + 1) n' r (by omega) (by omega) h' hr hn'
      refine And.intro (fun j hj hh => ?_) ⟨q2, q3⟩
      by_cases hj2 : j = i
      · subst hj2
        exact ⟨p1, p2, p3⟩
      · exact q1 j (by omega) hh
    by_cases c1 : right l[i.toNat].f0 l[i.toNat].f1 l[i.toNat].f2 l[i.toNat].f3 = true
    · rw [if_pos c1] at h
      by_cases c2 : l[i.toNat].f0 = 2
      · rw [if_pos c2] at h
        by_cases c3 : n = 0
        · rw [if_pos c3] at h
          obtain rfl := Option.some.inj h
          simp at hr
        · rw [if_neg c3, e] at h
          refine fin (fun _ h' => ?_) c1 (fun h' => by omega) _ h ?_
          · rw [h'] at hn
            simp at hn
            omega
          · rw [hs]
            unfold upd
            rw [if_neg (by omega), if_pos c2, List.length_dropLast]
            omega
      · rw [if_neg c2] at h
        by_cases c4 : l[i.toNat].f0 = 1
        · rw [if_pos c4] at h
          by_cases c5 : n = 32
          · rw [if_pos c5] at h
            obtain rfl := Option.some.inj h
            simp at hr
          · rw [if_neg c5, e] at h
            refine fin (fun h' => absurd h' c2) c1 (fun _ h' => by omega) _ h ?_
            rw [hs]
            unfold upd
            rw [if_pos c4]
            simp
            omega
        · rw [if_neg c4, e] at h
          refine fin (fun h' => absurd h' c2) c1 (fun h' => absurd h' c4) _ h ?_
          rw [hs]
          unfold upd
          rw [if_neg c4, if_neg c2]
          exact hn
    · rw [if_neg c1] at h
      obtain rfl := Option.some.inj h
      simp at hr
end Go.Proofs.YtfcfomconcoimaaDoor.FlatB
