/- FlatPairs: in a document each TOpen has a TClose behind it, of which it is the partner, and between them a document; nothing else has a partner; for all tokens. -/
import Derived.Test.YtamgpedfhcalpaaGFlatPairs
import Derived.Test.YtamgpedfhcalpaaFlatC
namespace Go.Proofs.Ytamgpedfhcalpaa.Pure
open Go.RowKit Go.Proofs.YtamgpedfhcalpaaW.PrintWords Go.Proofs.YtamgpedfhcalpaaW.PrintMore
open Go.Proofs.Ytamgpedfhcalpaa Go.Proofs.Ytamgpedfhcalpaa.PFl Go.Proofs.Ytamgpedfhcalpaa.FlatA Go.Proofs.Ytamgpedfhcalpaa.FlatB Go.Proofs.Ytamgpedfhcalpaa.FlatC
set_option linter.unusedSimpArgs false

structure Doc (l : List S23) : Prop where
  len : l.length ≤ 2048
  ends : ∀ j : Int, 0 ≤ j → ∀ h : j.toNat < l.length, l[j.toNat].f0 = 2 → stackAt l j ≠ []
  right : ∀ j : Int, 0 ≤ j → ∀ h : j.toNat < l.length, right l[j.toNat].f0 l[j.toNat].f1 l[j.toNat].f2 l[j.toNat].f3 = true
  deep : ∀ j : Int, 0 ≤ j → ∀ h : j.toNat < l.length, l[j.toNat].f0 = 1 → (stackAt l j).length ≠ 32
  shut : stackAt l l.length = []
theorem doc_of {l : List S23} {r : Int × Int} (h : flat_Check.f l = some r) (hr : r.2 = 0) : Doc l := by
  unfold flat_Check.f at h
  by_cases c : (l.length : Int) > 2048
  · rw [if_pos c] at h
    obtain rfl := Option.some.inj h
    simp at hr
  · rw [if_neg c] at h
    obtain ⟨a, b, _⟩ := check_run l l.length 0 0 r (by omega) (by omega) (by simpa using h) hr (by rw [stackAt_zero]; rfl)
    exact ⟨by omega, fun j h0 hj => (a j h0 hj).1, fun j h0 hj => (a j h0 hj).2.1, fun j h0 hj => (a j h0 hj).2.2, b⟩
theorem doc_deep {l : List S23} (D : Doc l) : ∀ n : Nat, n ≤ l.length → (stackAt l n).length ≤ 32
  | 0, _ => by rw [show ((0 : Nat) : Int) = 0 from rfl, stackAt_zero]; simp
  | n + 1, h => by
    have ih := doc_deep D n (by omega)
    have hs := stackAt_succ l n (by omega) (by omega)
    rw [show (((n + 1 : Nat)) : Int) = (n : Int) + 1 by omega, hs]
    unfold upd
    split
    · rename_i k1
      have := D.deep n (by omega) (by omega) k1
      simp
      omega
    · split
      · simp
        omega
      · exact ih
theorem seg_check (l : List S23) (D : Doc l) (i p : Int) (h0 : 0 ≤ i) (hp : p < l.length) (b : List Int) (hb : 0 < b.length) (hall : ∀ j' : Int, i + 1 ≤ j' → j' ≤ p → ∃ u, stackAt l j' = b ++ u ∧ ∀ x ∈ u, i < x) (hend : stackAt l p = b) : ∀ (d : Nat) (j : Int) (u : List Int), i < j → j + d = p → stackAt l j = b ++ u →
    ∃ q, flat_Check.l0 (((l.take p.toNat).drop (i + 1).toNat).drop (j - (i + 1)).toNat) (u.length : Int) (j - (i + 1)) = some (q, 0) := by
  intro d
  induction d with
  | zero =>
    intro j u hij hd hs
    obtain rfl : j = p := by omega
    rw [hend] at hs
    have hu : u = [] := by
      have := congrArg List.length hs
      simp only [List.length_append] at this
      exact List.eq_nil_of_length_eq_zero (by omega)
    subst hu
    rw [List.drop_eq_nil_of_le (by rw [List.length_drop, List.length_take]; omega)]
    unfold flat_Check.l0
    rw [if_neg (by simp)]
    exact ⟨_, rfl⟩
  | succ d ih =>
    intro j u hij hd hs
    have hj : j.toNat < l.length := by omega
    have hlen : (j - (i + 1)).toNat < ((l.take p.toNat).drop (i + 1).toNat).length := by rw [List.length_drop, List.length_take]; omega
    have hsu := stackAt_succ l j (by omega) hj
    obtain ⟨u', hu', _⟩ := hall (j + 1) (by omega) (by omega)
    have hdl := doc_deep D j.toNat (by omega)
    rw [show ((j.toNat : Nat) : Int) = j by omega, hs, List.length_append] at hdl
    have e : (j - (i + 1)).toNat + 1 = (j + 1 - (i + 1)).toNat := by omega
    have e2 : j - (i + 1) + 1 = j + 1 - (i + 1) := by omega
    have hg : rd_T23 ((l.take p.toNat).drop (i + 1).toNat) (j - (i + 1)) = l[j.toNat] := by
      rw [rd_get _ _ hlen, List.getElem_drop, List.getElem_take]
      congr 1
      omega
    rw [flat_Check.step _ _ _ hlen, hg, flat_right, Option.bind_some, D.right j (by omega) hj, if_pos rfl, e, e2]
    unfold upd at hsu
    by_cases k2 : l[j.toNat].f0 = 2
    · rw [if_pos k2]
      rw [if_neg (by omega), if_pos k2] at hsu
      have hu : u ≠ [] := by
        intro e0
        subst e0
        rw [hs, hu'] at hsu
        have := congrArg List.length hsu
        simp at this
        omega
      have hul : u.length ≠ 0 := fun h => hu (List.eq_nil_of_length_eq_zero h)
      rw [if_neg (by omega)]
      obtain ⟨q, hq⟩ := ih (j + 1) u.dropLast (by omega) (by omega) (by rw [hsu, hs, List.dropLast_append_of_ne_nil hu])
      rw [List.length_dropLast, show ((u.length - 1 : Nat) : Int) = (u.length : Int) - 1 by omega] at hq
      exact ⟨q, hq⟩
    · rw [if_neg k2]
      by_cases k1 : l[j.toNat].f0 = 1
      · rw [if_pos k1, if_neg (by omega)]
        rw [if_pos k1] at hsu
        obtain ⟨q, hq⟩ := ih (j + 1) (u ++ [j]) (by omega) (by omega) (by rw [hsu, hs, List.append_assoc])
        rw [List.length_append] at hq
        exact ⟨q, hq⟩
      · rw [if_neg k1]
        rw [if_neg k1, if_neg k2] at hsu
        exact ih (j + 1) u (by omega) (by omega) (by rw [hsu, hs])
theorem pairs_loop (l : List S23) (D : Doc l) : ∀ (d k : Nat) (i : Int), 0 ≤ i → i + d = l.length → 3 * d + l.length + 9 < k → emenderlaw04_FlatPairs.l0 k l i = some true := by
  have hl : l.length < 17592186044416 := by have := D.len; omega
  intro d
  induction d with
  | zero =>
    intro k i h0 h1 hk
    obtain ⟨k, rfl⟩ : ∃ m, k = m + 1 := ⟨k - 1, by omega⟩
    simp only [emenderlaw04_FlatPairs.l0]
    rw [if_neg (by omega), awake_true]
    rfl
  | succ d ih =>
    intro k i h0 h1 hk
    obtain ⟨k, rfl⟩ : ∃ m, k = m + 3 := ⟨k - 3, by omega⟩
    have hi : i.toNat < l.length := by omega
    have hi' : i < (l.length : Int) := by omega
    have hw : wrap64 (i + 1) = i + 1 := w64 (by omega) (by omega)
    have next := ih (k + 1) (i + 1) (by omega) (by omega) (by omega)
    have next2 := ih k (i + 1) (by omega) (by omega) (by omega)
    obtain ⟨p, hp, _, hpp⟩ := partner l hl i
    obtain ⟨p1, p2, p3⟩ := hpp h0 hi
    simp only [emenderlaw04_FlatPairs.l0]
    rw [if_pos hi', hp _ (by omega), Option.bind_some, if_pos h0, rd_get l i hi]
    simp only [emenderlaw04_FlatPairs.j1]
    rw [hw, if_pos h0, if_pos hi', rd_get l i hi]
    by_cases k1 : l[i.toNat].f0 = 1
    · rw [if_pos k1, if_neg (by decide)]
      rcases p1 k1 with ⟨_, c⟩ | ⟨c1, c2, c3, c4, c5⟩
      · exact absurd D.shut c
      · have hpl : p.toNat < l.length := by omega
        obtain ⟨q, hq, _, hqq⟩ := partner l hl p
        obtain ⟨_, q2, _⟩ := hqq (by omega) hpl
        have hqi : q = i := by rw [q2 (c3 hpl), c4, top_append]
        rw [if_neg (by omega), if_neg (by omega), hq _ (by omega), Option.bind_some, if_pos hqi]
        obtain ⟨z, hz⟩ := seg_check l D i p h0 c2 (stackAt l i ++ [i]) (by simp) c5 c4 (p - (i + 1)).toNat (i + 1) [] (by omega) (by omega) (by simpa using stack_open l i h0 hi k1)
        have hz' : flat_Check.f ((l.take p.toNat).drop (i + 1).toNat) = some (z, 0) := by
          unfold flat_Check.f
          rw [if_neg (by rw [List.length_drop, List.length_take]; have := D.len; omega)]
          rw [show i + 1 - (i + 1) = 0 by omega] at hz
          simpa using hz
        simp only [emenderlaw04_FlatPairs.j2]
        rw [if_neg (by simp [k1, show p > i by omega]), if_pos (by omega), hw, if_pos (by omega), if_pos (by omega), if_pos (by omega), hz', Option.bind_some, if_pos rfl, flat_around l hl p _ (by omega), Option.bind_some, if_pos (by rw [c4, top_append])]
        exact next2
    · rw [if_neg k1]
      by_cases k2 : l[i.toNat].f0 = 2
      · have hne := D.ends i h0 hi k2
        have hsp := dropLast_snoc _ hne
        have hpt := p2 k2
        rw [← hpt] at hsp
        obtain ⟨⟨a1, a2⟩, ⟨a3, a4⟩, a5, _, a6⟩ := history l i.toNat (by omega) (stackAt l i).dropLast p [] (by rw [show ((i.toNat : Nat) : Int) = i by omega, List.append_nil]; exact hsp)
        rw [show ((i.toNat : Nat) : Int) = i by omega] at a2 a6
        obtain ⟨q, hq, _, hqq⟩ := partner l hl p
        obtain ⟨q1, _, _⟩ := hqq a1 a3
        have hsu := stackAt_succ l i h0 hi
        unfold upd at hsu
        rw [if_neg k1, if_pos k2] at hsu
        have hqi : q = i := by
          rcases q1 a4 with ⟨_, c⟩ | ⟨c1, c2, c3, c4, c5⟩
          · exact absurd D.shut c
          · have hql : q.toNat < l.length := by omega
            rcases Int.lt_trichotomy q i with hlt | heq | hgt
            · exfalso
              have hq1 := stackAt_succ l q (by omega) hql
              unfold upd at hq1
              rw [if_neg (by have := c3 hql; omega), if_pos (c3 hql), c4] at hq1
              obtain ⟨u, hu, _⟩ := a6 (q + 1) (by omega) (by omega)
              rw [hq1, a5] at hu
              have := congrArg List.length hu
              simp at this
            · exact heq
            · exfalso
              obtain ⟨u, hu, _⟩ := c5 (i + 1) (by omega) (by omega)
              rw [hsu, a5] at hu
              have := congrArg List.length hu
              simp at this
        have k2' : (l[i.toNat].f0 != 2) = false := by simp [k2]
        have k1' : (l[i.toNat].f0 == 1) = false := by simpa using k1
        rw [k2', if_neg (by decide), if_neg (by omega), if_neg (by omega), hq _ (by omega), Option.bind_some, if_pos hqi]
        simp only [emenderlaw04_FlatPairs.j2]
        rw [if_neg (by rw [k1', decide_eq_false (show ¬ p > i by omega)]; decide), if_neg (by omega), hw]
        exact next2
      · have k2' : (l[i.toNat].f0 != 2) = true := by simpa using k2
        rw [k2', if_pos rfl, if_pos (p3 k1 k2)]
        exact next
theorem FlatPairs : emenderlaw04_FlatPairs.Pure := by
  intro l hl _
  obtain ⟨r, hr⟩ := check_f_some l
  refine ⟨4 * l.length + 10, ?_⟩
  unfold emenderlaw04_FlatPairs.f
  rw [hr, Option.bind_some]
  by_cases h : r.2 = 0
  · rw [if_pos h]
    exact pairs_loop l (doc_of hr h) l.length _ 0 (by omega) (by omega) (by omega)
  · rw [if_neg h, awake_true]
    rfl
end Go.Proofs.Ytamgpedfhcalpaa.Pure
