/- FlatKids: what stands just in any place of any tokens: the program tells what the document's answer tells; for all tokens and places. -/
import Derived.Test.YtamgpedfhcalpaaGFlatKids
import Derived.Test.YtamgpedfhcalpaaFlatC
namespace Go.Proofs.Ytamgpedfhcalpaa.Pure
open Go.RowKit Go.Proofs.YtamgpedfhcalpaaW.PrintWords Go.Proofs.YtamgpedfhcalpaaW.PrintMore
open Go.Proofs.Ytamgpedfhcalpaa Go.Proofs.Ytamgpedfhcalpaa.PFl Go.Proofs.Ytamgpedfhcalpaa.FlatA Go.Proofs.Ytamgpedfhcalpaa.FlatB Go.Proofs.Ytamgpedfhcalpaa.FlatC

set_option linter.unusedSimpArgs false
theorem kids_loop (l : List S23) (hl : l.length < 17592186044415) (a : Int) (b : List Int) (hb : top b = a) (ha : a ≥ 0 ∨ (a = -1 ∧ b = [])) : ∀ (d : Nat) (j : Int) (u out : List Int), 0 ≤ j → a < j → j + d = l.length → stackAt l j = b ++ u → (∀ x ∈ u, a < x) → (out.length : Int) ≤ j →
    ∃ r : List Int, r.length ≤ l.length ∧ (∀ k, 2 * d < k → flat_Kids.l0 k l a out (u.length : Int) j = some r) ∧ (∀ k, 2 * d + (2 * l.length + 4) < k → emenderref04_Kids.l0 k l a out j = some r) := by
  intro d
  induction d with
  | zero =>
    intro j u out h0 haj hd hs hu ho
    refine ⟨out, by omega, fun k hk => ?_, fun k hk => ?_⟩
    · obtain ⟨k, rfl⟩ : ∃ m, k = m + 1 := ⟨k - 1, by omega⟩
      simp only [flat_Kids.l0]
      rw [if_neg (by omega)]
    · obtain ⟨k, rfl⟩ : ∃ m, k = m + 1 := ⟨k - 1, by omega⟩
      simp only [emenderref04_Kids.l0]
      rw [if_neg (by omega)]
  | succ d ih =>
    intro j u out h0 haj hd hs hu ho
    have hj : j.toNat < l.length := by omega
    have hj' : j < (l.length : Int) := by omega
    have hul : u.length ≤ l.length := by
      have := stackAt_length l j
      rw [hs] at this
      simp at this
      omega
    have hsu := stackAt_succ l j h0 hj
    have hw : wrap64 (j + 1) = j + 1 := w64 (by omega) (by omega)
    have hwd : wrap64 ((u.length : Int) + 1) = (u.length : Int) + 1 := w64 (by omega) (by omega)
    have hwe : wrap64 ((u.length : Int) - 1) = (u.length : Int) - 1 := w64 (by omega) (by omega)
    have htop := base_top hb hu
    rw [← hs] at htop
    have hul0 : (u.length : Int) = 0 ↔ u = [] := ⟨fun h => List.eq_nil_of_length_eq_zero (by omega), fun h => by simp [h]⟩
    by_cases k2 : l[j.toNat].f0 = 2
    · have flat : ∀ k, flat_Kids.l0 (k + 1) l a out (u.length : Int) j = (if u = [] then (if a ≥ 0 then some out else flat_Kids.l0 k l a out 0 (j + 1)) else flat_Kids.l0 k l a out ((u.dropLast).length : Int) (j + 1)) := by
        intro k
        simp only [flat_Kids.l0]
        rw [if_pos hj', if_pos h0, rd_get l j hj, if_pos k2, hw, hwe]
        by_cases e : u = []
        · subst e
          rw [if_pos (by simp), if_pos rfl]
          rfl
        · have : u.length ≠ 0 := fun h => e (List.eq_nil_of_length_eq_zero h)
          rw [if_neg (by omega), if_neg e, List.length_dropLast]
          congr 1
          unfold mx
          split <;> omega
      have ref : ∀ k, 2 * l.length + 2 < k → emenderref04_Kids.l0 (k + 2) l a out j = (if u = [] then (if a ≥ 0 then some out else emenderref04_Kids.l0 k l a out (j + 1)) else emenderref04_Kids.l0 k l a out (j + 1)) := by
        intro k hk
        simp only [emenderref04_Kids.l0, emenderref04_Kids.j2]
        rw [if_pos hj', if_pos h0, rd_get l j hj, if_pos k2, ref_around l (by omega) j _ (by omega), Option.bind_some]
        simp only [if_pos h0, if_pos hj', if_pos k2, hw]
        by_cases e : u = []
        · rw [if_pos (htop.2 e), if_pos e]
          by_cases c : a ≥ 0
          · rw [if_pos (decide_eq_true c), if_pos c]
          · rw [if_neg (by simpa using c), if_neg c]
        · rw [if_neg (fun h => e (htop.1 h)), if_neg e, if_neg (by decide)]
      by_cases e : u = []
      · subst e
        rcases ha with ha | ⟨ha, hbe⟩
        · refine ⟨out, by omega, fun k hk => ?_, fun k hk => ?_⟩
          · obtain ⟨k, rfl⟩ : ∃ m, k = m + 1 := ⟨k - 1, by omega⟩
            rw [flat, if_pos rfl, if_pos ha]
          · obtain ⟨k, rfl⟩ : ∃ m, k = m + 2 := ⟨k - 2, by omega⟩
            rw [ref k (by omega), if_pos rfl, if_pos ha]
        · obtain ⟨r, q1, q2, q3⟩ := ih (j + 1) [] out (by omega) (by omega) (by omega) (by rw [hsu, hs, hbe]; unfold upd; rw [if_neg (by omega), if_pos k2]; rfl) (by simp) (by omega)
          refine ⟨r, q1, fun k hk => ?_, fun k hk => ?_⟩
          · obtain ⟨k, rfl⟩ : ∃ m, k = m + 1 := ⟨k - 1, by omega⟩
            rw [flat, if_pos rfl, if_neg (by omega)]
            exact q2 k (by omega)
          · obtain ⟨k, rfl⟩ : ∃ m, k = m + 2 := ⟨k - 2, by omega⟩
            rw [ref k (by omega), if_pos rfl, if_neg (by omega)]
            exact q3 k (by omega)
      · obtain ⟨r, q1, q2, q3⟩ := ih (j + 1) u.dropLast out (by omega) (by omega) (by omega) (by rw [hsu, hs]; unfold upd; rw [if_neg (by omega), if_pos k2, List.dropLast_append_of_ne_nil e]) (fun x hx => hu x (dropLast_mem hx)) (by omega)
        refine ⟨r, q1, fun k hk => ?_, fun k hk => ?_⟩
        · obtain ⟨k, rfl⟩ : ∃ m, k = m + 1 := ⟨k - 1, by omega⟩
          rw [flat, if_neg e]
          exact q2 k (by omega)
        · obtain ⟨k, rfl⟩ : ∃ m, k = m + 2 := ⟨k - 2, by omega⟩
          rw [ref k (by omega), if_neg e]
          exact q3 k (by omega)
    · -- no end
      have told : ∀ out' : List Int, out' = (if u = [] ∧ 0 ≤ l[j.toNat].f0 ∧ l[j.toNat].f0 ≤ 3 then out ++ [j] else out) → ∀ u' : List Int, u' = (if l[j.toNat].f0 = 1 then u ++ [j] else u) → ∃ r : List Int, r.length ≤ l.length ∧ (∀ k, 2 * d < k → flat_Kids.l0 k l a out' (u'.length : Int) (j + 1) = some r) ∧ (∀ k, 2 * d + (2 * l.length + 4) < k → emenderref04_Kids.l0 k l a out' (j + 1) = some r) := by
        intro out' h1 u' h2
        refine ih (j + 1) u' out' (by omega) (by omega) (by omega) ?_ ?_ ?_
        · rw [hsu, hs, h2]
          unfold upd
          split
          · simp
          · first
            | rfl
            | rw [if_neg k2]
        · rw [h2]
          split
          · intro x hx
            rcases List.mem_append.1 hx with hx | hx
            · exact hu x hx
            · have : x = j := by simpa using hx
              omega
          · exact hu
        · rw [h1]
          split
          · simp
            omega
          · omega
      obtain ⟨r, q1, q2, q3⟩ := told _ rfl _ rfl
      have flat : ∀ k, flat_Kids.l0 (k + 2) l a out (u.length : Int) j = flat_Kids.l0 k l a (if u = [] ∧ 0 ≤ l[j.toNat].f0 ∧ l[j.toNat].f0 ≤ 3 then out ++ [j] else out) (((if l[j.toNat].f0 = 1 then u ++ [j] else u) : List Int).length : Int) (j + 1) := by
        intro k
        simp only [flat_Kids.l0, flat_Kids.j2]
        rw [if_pos hj', if_pos h0, rd_get l j hj, if_neg k2, if_pos (show out.length < 17592186044416 by omega), hw, hwd]
        simp only [Option.bind_some]
        by_cases e : u = []
        · rw [if_pos (hul0.2 e)]
          by_cases c0 : l[j.toNat].f0 ≥ 0
          · rw [if_pos c0]
            by_cases c3 : l[j.toNat].f0 ≤ 3
            · rw [if_pos (decide_eq_true c3), if_pos (show u = [] ∧ 0 ≤ l[j.toNat].f0 ∧ l[j.toNat].f0 ≤ 3 from ⟨e, c0, c3⟩)]
              by_cases c1 : l[j.toNat].f0 = 1
              · rw [if_pos c1, if_pos c1]
                simp
              · rw [if_neg c1, if_neg c1]
            · rw [if_neg (by simpa using c3), if_neg (show ¬ (u = [] ∧ 0 ≤ l[j.toNat].f0 ∧ l[j.toNat].f0 ≤ 3) from fun h => c3 h.2.2)]
              by_cases c1 : l[j.toNat].f0 = 1
              · omega
              · rw [if_neg c1, if_neg c1]
          · rw [if_neg c0, if_neg (by decide), if_neg (show ¬ (u = [] ∧ 0 ≤ l[j.toNat].f0 ∧ l[j.toNat].f0 ≤ 3) from fun h => c0 h.2.1)]
            by_cases c1 : l[j.toNat].f0 = 1
            · omega
            · rw [if_neg c1, if_neg c1]
        · rw [if_neg (fun h => e (hul0.1 h)), if_neg (by decide), if_neg (show ¬ (u = [] ∧ 0 ≤ l[j.toNat].f0 ∧ l[j.toNat].f0 ≤ 3) from fun h => e h.1)]
          by_cases c1 : l[j.toNat].f0 = 1
          · rw [if_pos c1, if_pos c1]
            simp
          · rw [if_neg c1, if_neg c1]
      have ref : ∀ k, 2 * l.length + 2 < k → emenderref04_Kids.l0 (k + 2) l a out j = emenderref04_Kids.l0 k l a (if u = [] ∧ 0 ≤ l[j.toNat].f0 ∧ l[j.toNat].f0 ≤ 3 then out ++ [j] else out) (j + 1) := by
        intro k hk
        simp only [emenderref04_Kids.l0, emenderref04_Kids.j2]
        rw [if_pos hj', if_pos h0, rd_get l j hj, if_neg k2, if_neg (by decide), if_pos h0, if_pos hj', if_neg k2, if_pos (show out.length < 17592186044416 by omega), hw, ref_around l (by omega) j _ (by omega), Option.bind_some]
        by_cases c0 : l[j.toNat].f0 ≥ 0
        · rw [if_pos c0]
          by_cases c3 : l[j.toNat].f0 ≤ 3
          · rw [if_pos c3]
            by_cases e : u = []
            · rw [if_pos (htop.2 e), if_pos (show u = [] ∧ 0 ≤ l[j.toNat].f0 ∧ l[j.toNat].f0 ≤ 3 from ⟨e, c0, c3⟩)]
            · rw [if_neg (fun h => e (htop.1 h)), if_neg (show ¬ (u = [] ∧ 0 ≤ l[j.toNat].f0 ∧ l[j.toNat].f0 ≤ 3) from fun h => e h.1)]
          · rw [if_neg c3, if_neg (show ¬ (u = [] ∧ 0 ≤ l[j.toNat].f0 ∧ l[j.toNat].f0 ≤ 3) from fun h => c3 h.2.2)]
        · rw [if_neg c0, if_neg (show ¬ (u = [] ∧ 0 ≤ l[j.toNat].f0 ∧ l[j.toNat].f0 ≤ 3) from fun h => c0 h.2.1)]
      refine ⟨r, q1, fun k hk => ?_, fun k hk => ?_⟩
      · obtain ⟨k, rfl⟩ : ∃ m, k = m + 2 := ⟨k - 2, by omega⟩
        rw [flat]
        exact q2 k (by omega)
      · obtain ⟨k, rfl⟩ : ∃ m, k = m + 2 := ⟨k - 2, by omega⟩
        rw [ref k (by omega)]
        exact q3 k (by omega)
theorem kids (l : List S23) (hl : l.length < 17592186044415) (a : Int) (ha : -9223372036854775808 ≤ a) : ∃ r : List Int, r.length ≤ l.length ∧ (∀ k, 2 * l.length + 3 < k → flat_Kids.f k l a = some r) ∧ (∀ k, 4 * l.length + 8 < k → emenderref04_Kids.f k l a = some r) := by
  have none_ : (∀ k, 0 < k → flat_Kids.f k l a = flat_Kids.j0 k l a true) → (∀ k, 0 < k → emenderref04_Kids.f k l a = emenderref04_Kids.j0 k l a [] true) → ∃ r : List Int, r.length ≤ l.length ∧ (∀ k, 2 * l.length + 3 < k → flat_Kids.f k l a = some r) ∧ (∀ k, 4 * l.length + 8 < k → emenderref04_Kids.f k l a = some r) := by
    intro h1 h2
    refine ⟨[], by simp, fun k hk => ?_, fun k hk => ?_⟩
    · obtain ⟨k, rfl⟩ : ∃ m, k = m + 1 := ⟨k - 1, by omega⟩
      rw [h1 _ (by omega)]
      simp only [flat_Kids.j0]
      rw [if_pos trivial]
    · obtain ⟨k, rfl⟩ : ∃ m, k = m + 1 := ⟨k - 1, by omega⟩
      rw [h2 _ (by omega)]
      simp only [emenderref04_Kids.j0]
      rw [if_pos trivial]
  have some_ : ∀ b : List Int, top b = a → (a ≥ 0 ∨ (a = -1 ∧ b = [])) → a + 1 ≤ l.length → stackAt l (a + 1) = b → (∀ k, 0 < k → flat_Kids.f k l a = flat_Kids.j0 k l a false) → (∀ k, 0 < k → emenderref04_Kids.f k l a = emenderref04_Kids.j0 k l a [] false) → ∃ r : List Int, r.length ≤ l.length ∧ (∀ k, 2 * l.length + 3 < k → flat_Kids.f k l a = some r) ∧ (∀ k, 4 * l.length + 8 < k → emenderref04_Kids.f k l a = some r) := by
    intro b hb hab hal hs h1 h2
    have hw : wrap64 (a + 1) = a + 1 := w64 (by omega) (by omega)
    obtain ⟨r, q1, q2, q3⟩ := kids_loop l hl a b hb hab (l.length - (a + 1).toNat) (a + 1) [] [] (by omega) (by omega) (by omega) (by simpa using hs) (by simp) (by simp; omega)
    refine ⟨r, q1, fun k hk => ?_, fun k hk => ?_⟩
    · obtain ⟨k, rfl⟩ : ∃ m, k = m + 1 := ⟨k - 1, by omega⟩
      rw [h1 _ (by omega)]
      simp only [flat_Kids.j0]
      rw [if_neg (by decide), hw]
      exact q2 k (by omega)
    · obtain ⟨k, rfl⟩ : ∃ m, k = m + 1 := ⟨k - 1, by omega⟩
      rw [h2 _ (by omega)]
      simp only [emenderref04_Kids.j0]
      rw [if_neg (by decide), hw]
      exact q3 k (by omega)
  by_cases c1 : a < -1
  · exact none_ (fun k _ => by unfold flat_Kids.f; rw [if_pos c1]) (fun k _ => by unfold emenderref04_Kids.f; rw [if_pos c1])
  · by_cases c2 : a ≥ (l.length : Int)
    · exact none_ (fun k _ => by unfold flat_Kids.f; rw [if_neg c1, if_pos c2]) (fun k _ => by unfold emenderref04_Kids.f; rw [if_neg c1, if_pos c2])
    · by_cases c3 : a ≥ 0
      · have hi : a.toNat < l.length := by omega
        by_cases c4 : l[a.toNat].f0 = 1
        · exact some_ (stackAt l a ++ [a]) (top_append _ _) (.inl c3) (by omega) (stack_open l a c3 hi c4)
            (fun k _ => by unfold flat_Kids.f; rw [if_neg c1, if_neg c2, if_pos c3, if_pos c3, if_pos (by omega), rd_get l a hi]; simp [c4])
            (fun k _ => by unfold emenderref04_Kids.f; rw [if_neg c1, if_neg c2, if_pos c3, if_pos c3, if_pos (by omega), rd_get l a hi]; simp [c4])
        · have c5 : (l[a.toNat].f0 != 1) = true := by simpa using c4
          exact none_ (fun k _ => by unfold flat_Kids.f; rw [if_neg c1, if_neg c2, if_pos c3, if_pos c3, if_pos (by omega), rd_get l a hi, c5])
            (fun k _ => by unfold emenderref04_Kids.f; rw [if_neg c1, if_neg c2, if_pos c3, if_pos c3, if_pos (by omega), rd_get l a hi, c5])
      · obtain rfl : a = -1 := by omega
        exact some_ [] rfl (.inr ⟨rfl, rfl⟩) (by omega) (stackAt_zero l) (fun k _ => by unfold flat_Kids.f; rw [if_neg c1, if_neg c2, if_neg c3]) (fun k _ => by unfold emenderref04_Kids.f; rw [if_neg c1, if_neg c2, if_neg c3])
theorem same_loop (r : List Int) (hr : r.length < 17592186044416) : ∀ (d k : Nat) (i : Int), 0 ≤ i → i + d = r.length → d < k → emenderlaw04_FlatKids.l0 k r r i = some true := by
  intro d
  induction d with
  | zero =>
    intro k i h0 h1 hk
    obtain ⟨k, rfl⟩ : ∃ m, k = m + 1 := ⟨k - 1, by omega⟩
    simp only [emenderlaw04_FlatKids.l0]
    rw [if_neg (by omega), awake_true]
    rfl
  | succ d ih =>
    intro k i h0 h1 hk
    obtain ⟨k, rfl⟩ : ∃ m, k = m + 1 := ⟨k - 1, by omega⟩
    simp only [emenderlaw04_FlatKids.l0]
    rw [if_pos (by omega), if_pos h0, if_pos (by omega)]
    simp only [if_true]
    rw [w64 (by omega) (by omega)]
    exact ih k (i + 1) (by omega) (by omega) (by omega)
theorem FlatKids : emenderlaw04_FlatKids.Pure := by
  intro l a hl _ ha
  have ha' : -9223372036854775808 ≤ a := by
    exact (wf64 ha).1
  obtain ⟨r, q1, q2, q3⟩ := kids l (by omega) a ha'
  refine ⟨4 * l.length + 9, ?_⟩
  unfold emenderlaw04_FlatKids.f
  rw [q2 _ (by omega), Option.bind_some, q3 _ (by omega), Option.bind_some, if_pos rfl]
  exact same_loop r (by omega) r.length _ 0 (by omega) (by omega) (by omega)
end Go.Proofs.Ytamgpedfhcalpaa.Pure
