/- The partner of a place, what stands just in a place, and the check, told by the program and by the document's answer: the same. -/
import Derived.Test.YtamgpedfhcalpaaFlatB
import Derived.Test.YtamgpedfhcalpaaPFlx0
import Derived.Test.YtamgpedfhcalpaaPFlx10
import Derived.Test.YtamgpedfhcalpaaPFlx13
import Derived.Test.YtamgpedfhcalpaaPFlx15
import Derived.Test.YtamgpedfhcalpaaPFlx16
import Derived.Test.YtamgpedfhcalpaaPFlx4
import Derived.Test.YtamgpedfhcalpaaPFlx6
namespace Go.Proofs.Ytamgpedfhcalpaa.FlatC
open Go.RowKit Go.Proofs.YtamgpedfhcalpaaW.PrintWords Go.Proofs.YtamgpedfhcalpaaW.PrintMore
open Go.Proofs.Ytamgpedfhcalpaa Go.Proofs.Ytamgpedfhcalpaa.PFl Go.Proofs.Ytamgpedfhcalpaa.FlatA Go.Proofs.Ytamgpedfhcalpaa.FlatB

def Closes (l : List S23) (i j r : Int) : Prop :=
  (r = -1 ∧ stackAt l l.length ≠ []) ∨ (j ≤ r ∧ r < l.length ∧ (∀ h : r.toNat < l.length, l[r.toNat].f0 = 2) ∧ stackAt l r = stackAt l i ++ [i] ∧ ∀ j' : Int, j ≤ j' → j' ≤ r → ∃ u, stackAt l j' = stackAt l i ++ [i] ++ u ∧ ∀ x ∈ u, i < x)
theorem partner_loop (l : List S23) (hl : l.length < 17592186044416) (i : Int) (h0 : 0 ≤ i) (hi : i.toNat < l.length) : ∀ (d : Nat) (j : Int) (u : List Int), i < j → j + d = l.length → stackAt l j = stackAt l i ++ [i] ++ u → (∀ x ∈ u, i < x) →
    ∃ r, (∀ k, d < k → flat_Partner.l0 k i ((u.length : Int) + 1) (l.drop i.toNat) ((l.drop i.toNat).length : Int) (j - i) = some r) ∧ (∀ k, d + (2 * l.length + 3) < k → emenderref04_Partner.l0 k l i j = some r) ∧ Closes l i j r := by
  intro d
  induction d with
  | zero =>
    intro j u hij hd hs hu
    refine ⟨-1, fun k hk => ?_, fun k hk => ?_, .inl ⟨rfl, ?_⟩⟩
    · obtain ⟨k, rfl⟩ : ∃ m, k = m + 1 := ⟨k - 1, by omega⟩
      simp only [flat_Partner.l0]
      rw [if_neg (by rw [List.length_drop]; omega)]
    · obtain ⟨k, rfl⟩ : ∃ m, k = m + 1 := ⟨k - 1, by omega⟩
      simp only [emenderref04_Partner.l0]
      rw [if_neg (by omega)]
    · rw [show (l.length : Int) = j by omega, hs]
      simp
  | succ d ih =>
    intro j u hij hd hs hu
    have hj : j.toNat < l.length := by omega
    have hul : u.length ≤ l.length := by
      have := stackAt_length l j
      rw [hs] at this
      simp at this
      omega
    have hsu := stackAt_succ l j (by omega) hj
    have hw : wrap64 (j + 1) = j + 1 := w64 (by omega) (by omega)
    have hwi : wrap64 (j - i + 1) = j - i + 1 := w64 (by omega) (by omega)
    have hwd : wrap64 ((u.length : Int) + 1 + 1) = (u.length : Int) + 1 + 1 := w64 (by omega) (by omega)
    have hwe : wrap64 ((u.length : Int) + 1 - 1) = (u.length : Int) := by rw [w64 (by omega) (by omega)]; omega
    have hrd : rd_T23 (l.drop i.toNat) (j - i) = l[j.toNat] := by
      rw [rd_get _ _ (by rw [List.length_drop]; omega), List.getElem_drop]
      congr 1
      omega
    have flat : ∀ k, flat_Partner.l0 (k + 1) i ((u.length : Int) + 1) (l.drop i.toNat) ((l.drop i.toNat).length : Int) (j - i) = (if l[j.toNat].f0 = 1 then flat_Partner.l0 k i ((u.length : Int) + 1 + 1) (l.drop i.toNat) ((l.drop i.toNat).length : Int) (j + 1 - i) else if l[j.toNat].f0 = 2 then (if (u.length : Int) = 0 then some j else flat_Partner.l0 k i (u.length : Int) (l.drop i.toNat) ((l.drop i.toNat).length : Int) (j + 1 - i)) else flat_Partner.l0 k i ((u.length : Int) + 1) (l.drop i.toNat) ((l.drop i.toNat).length : Int) (j + 1 - i)) := by
      intro k
      simp only [flat_Partner.l0]
      rw [if_pos (by rw [List.length_drop]; omega), if_pos (by omega), if_pos (by rw [List.length_drop]; omega), hrd, hwd, hwe, hwi, show j - i + 1 = j + 1 - i by omega, show wrap64 (i + (j - i)) = j by rw [w64 (by omega) (by omega)]; omega]
    have ref : ∀ k, 2 * l.length + 2 < k → emenderref04_Partner.l0 (k + 1) l i j = (if l[j.toNat].f0 = 2 then (if top (stackAt l j) = i then some j else emenderref04_Partner.l0 k l i (j + 1)) else emenderref04_Partner.l0 k l i (j + 1)) := by
      intro k hk
      simp only [emenderref04_Partner.l0]
      rw [if_pos (by omega), if_pos (by omega), rd_get l j hj, hw, ref_around l hl j k hk, Option.bind_some]
    have hb : top (stackAt l i ++ [i]) = i := top_append _ _
    have htop := base_top hb hu
    rw [← hs] at htop
    have more : ∀ u' : List Int, stackAt l (j + 1) = stackAt l i ++ [i] ++ u' → (∀ x ∈ u', i < x) → ∃ r, (∀ k, d < k → flat_Partner.l0 k i ((u'.length : Int) + 1) (l.drop i.toNat) ((l.drop i.toNat).length : Int) (j + 1 - i) = some r) ∧ (∀ k, d + (2 * l.length + 3) < k → emenderref04_Partner.l0 k l i (j + 1) = some r) ∧ Closes l i j r := by
      intro u' h1 h2
      obtain ⟨r, a, b, c⟩ := ih (j + 1) u' (by omega) (by omega) h1 h2
      refine ⟨r, a, b, ?_⟩
      rcases c with c | ⟨c1, c2, c3, c4, c5⟩
      · exact .inl c
      · refine .inr ⟨by omega, c2, c3, c4, fun j' hj' hr' => ?_⟩
        by_cases e : j' = j
        · subst e
          exact ⟨u, hs, hu⟩
        · exact c5 j' (by omega) hr'
    by_cases k1 : l[j.toNat].f0 = 1
    · have : stackAt l (j + 1) = stackAt l i ++ [i] ++ (u ++ [j]) := by
        rw [hsu, hs]
        unfold upd
        rw [if_pos k1]
        simp
      obtain ⟨r, a, b, c⟩ := more (u ++ [j]) this (by
        intro x hx
        rcases List.mem_append.1 hx with hx | hx
        · exact hu x hx
        · have : x = j := by simpa using hx
          omega)
      refine ⟨r, fun k hk => ?_, fun k hk => ?_, c⟩
      · obtain ⟨k, rfl⟩ : ∃ m, k = m + 1 := ⟨k - 1, by omega⟩
        rw [flat k, if_pos k1]
        have := a k (by omega)
        simpa using this
      · obtain ⟨k, rfl⟩ : ∃ m, k = m + 1 := ⟨k - 1, by omega⟩
        rw [ref k (by omega), if_neg (by omega)]
        exact b k (by omega)
    · by_cases k2 : l[j.toNat].f0 = 2
      · by_cases hu0 : u = []
        · subst hu0
          refine ⟨j, fun k hk => ?_, fun k hk => ?_, .inr ⟨Int.le_refl _, by omega, fun _ => k2, by simpa using hs, fun j' hj' hr' => ?_⟩⟩
          · obtain ⟨k, rfl⟩ : ∃ m, k = m + 1 := ⟨k - 1, by omega⟩
            rw [flat k, if_neg k1, if_pos k2, if_pos (by simp)]
          · obtain ⟨k, rfl⟩ : ∃ m, k = m + 1 := ⟨k - 1, by omega⟩
            rw [ref k (by omega), if_pos k2, if_pos (htop.2 rfl)]
          · obtain rfl : j' = j := by omega
            exact ⟨[], hs, hu⟩
        · have hlen : u.length ≠ 0 := fun h => hu0 (List.eq_nil_of_length_eq_zero h)
          have : stackAt l (j + 1) = stackAt l i ++ [i] ++ u.dropLast := by
            rw [hsu, hs]
            unfold upd
            rw [if_neg k1, if_pos k2, List.dropLast_append_of_ne_nil hu0]
          obtain ⟨r, a, b, c⟩ := more u.dropLast this (fun x hx => hu x (dropLast_mem hx))
          refine ⟨r, fun k hk => ?_, fun k hk => ?_, c⟩
          · obtain ⟨k, rfl⟩ : ∃ m, k = m + 1 := ⟨k - 1, by omega⟩
            rw [flat k, if_neg k1, if_pos k2, if_neg (by omega)]
            have := a k (by omega)
            rw [List.length_dropLast, show ((u.length - 1 : Nat) : Int) + 1 = u.length by omega] at this
            exact this
          · obtain ⟨k, rfl⟩ : ∃ m, k = m + 1 := ⟨k - 1, by omega⟩
            rw [ref k (by omega), if_pos k2, if_neg (fun h => hu0 (htop.1 h))]
            exact b k (by omega)
      · have : stackAt l (j + 1) = stackAt l i ++ [i] ++ u := by
          rw [hsu, hs]
          unfold upd
          rw [if_neg k1, if_neg k2]
        obtain ⟨r, a, b, c⟩ := more u this hu
        refine ⟨r, fun k hk => ?_, fun k hk => ?_, c⟩
        · obtain ⟨k, rfl⟩ : ∃ m, k = m + 1 := ⟨k - 1, by omega⟩
          rw [flat k, if_neg k1, if_neg k2]
          exact a k (by omega)
        · obtain ⟨k, rfl⟩ : ∃ m, k = m + 1 := ⟨k - 1, by omega⟩
          rw [ref k (by omega), if_neg k2]
          exact b k (by omega)
theorem stack_open (l : List S23) (i : Int) (h0 : 0 ≤ i) (hi : i.toNat < l.length) (h1 : l[i.toNat].f0 = 1) : stackAt l (i + 1) = stackAt l i ++ [i] := by
  rw [stackAt_succ l i h0 hi]
  unfold upd
  rw [if_pos h1]
/-- The partner of a place: one number, which both tell. -/
theorem partner (l : List S23) (hl : l.length < 17592186044416) (i : Int) : ∃ r, (∀ k, l.length + 3 < k → flat_Partner.f k l i = some r) ∧ (∀ k, 3 * l.length + 6 < k → emenderref04_Partner.f k l i = some r) ∧
    (0 ≤ i → ∀ hi : i.toNat < l.length, (l[i.toNat].f0 = 1 → Closes l i (i + 1) r) ∧ (l[i.toNat].f0 = 2 → r = top (stackAt l i)) ∧ (l[i.toNat].f0 ≠ 1 → l[i.toNat].f0 ≠ 2 → r = -1)) := by
  by_cases h0 : i < 0
  · refine ⟨-1, fun k hk => ?_, fun k hk => ?_, fun h => absurd h (by omega)⟩
    · obtain ⟨k, rfl⟩ : ∃ m, k = m + 1 := ⟨k - 1, by omega⟩
      unfold flat_Partner.f
      rw [if_pos h0]
      simp only [flat_Partner.j0]
      rw [if_pos trivial]
    · obtain ⟨k, rfl⟩ : ∃ m, k = m + 1 := ⟨k - 1, by omega⟩
      unfold emenderref04_Partner.f
      rw [if_pos h0]
      simp only [emenderref04_Partner.j0]
      rw [if_pos trivial]
  · by_cases hlt : i ≥ (l.length : Int)
    · refine ⟨-1, fun k hk => ?_, fun k hk => ?_, fun h hi => absurd hi (by omega)⟩
      · obtain ⟨k, rfl⟩ : ∃ m, k = m + 1 := ⟨k - 1, by omega⟩
        unfold flat_Partner.f
        rw [if_neg h0]
        simp only [flat_Partner.j0]
        rw [if_pos (decide_eq_true hlt)]
      · obtain ⟨k, rfl⟩ : ∃ m, k = m + 1 := ⟨k - 1, by omega⟩
        unfold emenderref04_Partner.f
        rw [if_neg h0]
        simp only [emenderref04_Partner.j0]
        rw [if_pos (decide_eq_true hlt)]
    · have hi : i.toNat < l.length := by omega
      have flat : ∀ k, flat_Partner.f (k + 1) l i = (if l[i.toNat].f0 = 2 then (flat_Around.f k l i).bind fun t => some t else if l[i.toNat].f0 = 1 then flat_Partner.l0 k i 0 (l.drop i.toNat) ((l.drop i.toNat).length : Int) 0 else some (-1)) := by
        intro k
        unfold flat_Partner.f
        rw [if_neg h0]
        simp only [flat_Partner.j0]
        rw [if_neg (by simp; omega), if_pos (by omega), if_pos (by omega), rd_get l i hi, if_pos (show i ≤ (l.length : Int) by omega)]
        rfl
      have ref : ∀ k, emenderref04_Partner.f (k + 1) l i = (if l[i.toNat].f0 = 2 then (emenderref04_Around.f k l i).bind fun t => some t else if l[i.toNat].f0 = 1 then emenderref04_Partner.l0 k l i (i + 1) else some (-1)) := by
        intro k
        unfold emenderref04_Partner.f
        rw [if_neg h0]
        simp only [emenderref04_Partner.j0]
        rw [if_neg (by simp; omega), if_pos (by omega), if_pos (by omega), rd_get l i hi, w64 (by omega) (by omega)]
      by_cases k2 : l[i.toNat].f0 = 2
      · refine ⟨top (stackAt l i), fun k hk => ?_, fun k hk => ?_, fun _ _ => ⟨fun h => by omega, fun _ => rfl, fun _ h => absurd k2 h⟩⟩
        · obtain ⟨k, rfl⟩ : ∃ m, k = m + 1 := ⟨k - 1, by omega⟩
          rw [flat, if_pos k2, flat_around l hl i k (by omega)]
          rfl
        · obtain ⟨k, rfl⟩ : ∃ m, k = m + 1 := ⟨k - 1, by omega⟩
          rw [ref, if_pos k2, ref_around l hl i k (by omega)]
          rfl
      · by_cases k1 : l[i.toNat].f0 = 1
        · obtain ⟨r, a, b, c⟩ := partner_loop l hl i (by omega) hi (l.length - i.toNat - 1) (i + 1) [] (by omega) (by omega) (by simpa using stack_open l i (by omega) hi k1) (by simp)
          refine ⟨r, fun k hk => ?_, fun k hk => ?_, fun _ _ => ⟨fun _ => c, fun h => absurd h k2, fun h => absurd k1 h⟩⟩
          · obtain ⟨k, rfl⟩ : ∃ m, k = m + 2 := ⟨k - 2, by omega⟩
            rw [flat, if_neg k2, if_pos k1]
            simp only [flat_Partner.l0]
            rw [if_pos (by rw [List.length_drop]; omega), if_pos (by omega), if_pos (by rw [List.length_drop]; omega), rd_get _ _ (by rw [List.length_drop]; omega), List.getElem_drop]
            have := a k (by omega)
            have e : l[i.toNat + (0 : Int).toNat] = l[i.toNat] := by congr 1
            rw [e, if_pos k1, w64 (by omega) (by omega)]
            rw [show i + 1 - i = 0 + 1 by omega] at this
            exact this
          · obtain ⟨k, rfl⟩ : ∃ m, k = m + 1 := ⟨k - 1, by omega⟩
            rw [ref, if_neg k2, if_pos k1]
            exact b k (by omega)
        · refine ⟨-1, fun k hk => ?_, fun k hk => ?_, fun _ _ => ⟨fun h => absurd h k1, fun h => absurd h k2, fun _ _ => rfl⟩⟩
          · obtain ⟨k, rfl⟩ : ∃ m, k = m + 1 := ⟨k - 1, by omega⟩
            rw [flat, if_neg k2, if_neg k1]
          · obtain ⟨k, rfl⟩ : ∃ m, k = m + 1 := ⟨k - 1, by omega⟩
            rw [ref, if_neg k2, if_neg k1]
/-- The check of the document's answer is the program's. -/
theorem ref_check_l0 (l : List S23) (hl : l.length < 17592186044416) : ∀ (d k : Nat) (n i : Int), 0 ≤ i → i + d = l.length → 0 ≤ n → n ≤ 32 → 3 * d + 1 < k → emenderref04_Check.l0 k l n i = flat_Check.l0 (l.drop i.toNat) n i := by
  intro d
  induction d with
  | zero =>
    intro k n i h0 h1 hn hn2 hk
    obtain ⟨k, rfl⟩ : ∃ m, k = m + 1 := ⟨k - 1, by omega⟩
    simp only [emenderref04_Check.l0]
    rw [if_neg (by omega), List.drop_eq_nil_of_le (by omega)]
    unfold flat_Check.l0
    rw [show (l.length : Int) = i by omega]
  | succ d ih =>
    intro k n i h0 h1 hn hn2 hk
    obtain ⟨k, rfl⟩ : ∃ m, k = m + 4 := ⟨k - 4, by omega⟩
    have hlt : i.toNat < l.length := by omega
    have hw : wrap64 (i + 1) = i + 1 := w64 (by omega) (by omega)
    have hwn : wrap64 (n + 1) = n + 1 := w64 (by omega) (by omega)
    have e : i.toNat + 1 = (i + 1).toNat := by omega
    rw [flat_Check.step l n i hlt, flat_right, Option.bind_some, rd_get l i hlt, e]
    simp only [emenderref04_Check.l0]
    rw [if_pos (by omega), if_pos h0, rd_get l i hlt, ref_right, Option.bind_some]
    simp only [emenderref04_Check.j1, emenderref04_Check.j2]
    have hlt' : i < (l.length : Int) := by omega
    simp only [rd_get l i hlt, if_pos h0, if_pos hlt', hw, hwn]
    by_cases c1 : right l[i.toNat].f0 l[i.toNat].f1 l[i.toNat].f2 l[i.toNat].f3 = true
    · rw [if_pos c1, if_pos c1]
      by_cases k2 : l[i.toNat].f0 = 2
      · have k1 : ¬ l[i.toNat].f0 = 1 := by omega
        simp only [if_pos k2, if_neg k1]
        by_cases c3 : n = 0
        · rw [if_pos (by simpa using c3), if_pos c3]
        · have hwm : wrap64 (n - 1) = n - 1 := w64 (by omega) (by omega)
          rw [if_neg (by simpa using c3), if_neg c3, hwm, if_neg (by omega)]
          exact ih (k + 1) (n - 1) (i + 1) (by omega) (by omega) (by omega) (by omega) (by omega)
      · simp only [if_neg k2]
        rw [if_neg (by decide)]
        by_cases k1 : l[i.toNat].f0 = 1
        · simp only [if_pos k1]
          by_cases c5 : n = 32
          · rw [if_pos (by omega), if_pos c5]
          · rw [if_neg (by omega), if_neg c5]
            exact ih (k + 1) (n + 1) (i + 1) (by omega) (by omega) (by omega) (by omega) (by omega)
        · simp only [if_neg k1]
          rw [if_neg (by omega)]
          exact ih (k + 1) n (i + 1) (by omega) (by omega) (by omega) (by omega) (by omega)
    · rw [if_neg c1, if_neg c1]
      rw [if_pos trivial]
theorem ref_check (l : List S23) (hl : l.length < 17592186044416) (k : Nat) (hk : 3 * l.length + 2 < k) : emenderref04_Check.f k l = flat_Check.f l := by
  unfold emenderref04_Check.f flat_Check.f
  by_cases h : (l.length : Int) > 2048
  · rw [if_pos h, if_pos h]
  · rw [if_neg h, if_neg h]
    have := ref_check_l0 l hl l.length k 0 0 (by omega) (by omega) (by omega) (by omega) (by omega)
    simpa using this
theorem check_some : ∀ (l : List S23) (n i : Int), ∃ r, flat_Check.l0 l n i = some r
  | [], n, i => by
    unfold flat_Check.l0
    split <;> exact ⟨_, rfl⟩
  | t :: ts, n, i => by
    unfold flat_Check.l0
    rw [flat_right, Option.bind_some]
    split
    · split
      · split
        · exact ⟨_, rfl⟩
        · exact check_some ts _ _
      · split
        · split
          · exact ⟨_, rfl⟩
          · exact check_some ts _ _
        · exact check_some ts _ _
    · exact ⟨_, rfl⟩
theorem check_f_some (l : List S23) : ∃ r, flat_Check.f l = some r := by
  unfold flat_Check.f
  split
  · exact ⟨_, rfl⟩
  · exact check_some l 0 0
end Go.Proofs.Ytamgpedfhcalpaa.FlatC
