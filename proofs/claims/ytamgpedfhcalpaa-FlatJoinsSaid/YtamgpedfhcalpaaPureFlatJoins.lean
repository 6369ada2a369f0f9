/- FlatJoins: two documents, one behind the other, are one, if they are not too long; one within a TOpen and a TClose, if it is not too deep; for all tokens. -/
import Derived.Test.YtamgpedfhcalpaaGFlatJoins
import Derived.Test.YtamgpedfhcalpaaFlatDm
namespace Go.Proofs.Ytamgpedfhcalpaa.Pure
open Go.RowKit Go.Proofs.YtamgpedfhcalpaaW.PrintWords Go.Proofs.YtamgpedfhcalpaaW.PrintMore
open Go.Proofs.Ytamgpedfhcalpaa Go.Proofs.Ytamgpedfhcalpaa.PFm Go.Proofs.Ytamgpedfhcalpaa.FlatA Go.Proofs.Ytamgpedfhcalpaa.FlatB Go.Proofs.Ytamgpedfhcalpaa.FlatD
set_option linter.unusedSimpArgs false

/-- One step of the check. -/
theorem check_cons (t : S23) (ts : List S23) (n i : Int) : flat_Check.l0 (t :: ts) n i = if right t.f0 t.f1 t.f2 t.f3 = true then (if t.f0 = 2 then (if n = 0 then some (i, 4) else flat_Check.l0 ts (n - 1) (i + 1)) else if t.f0 = 1 then (if n = 32 then some (i, 8) else flat_Check.l0 ts (n + 1) (i + 1)) else flat_Check.l0 ts n (i + 1)) else some (i, 4) := by
  simp only [flat_Check.l0]
  rw [flat_right, Option.bind_some]
/-- A document, and what comes behind it. -/
theorem check_append : ∀ (a b : List S23) (n i q : Int), 0 ≤ n → flat_Check.l0 a n i = some (q, 0) → flat_Check.l0 (a ++ b) n i = flat_Check.l0 b 0 (i + a.length)
  | [], b, n, i, q, hn, h => by
    unfold flat_Check.l0 at h
    by_cases c : n > 0
    · rw [if_pos c] at h
      simp at h
    · obtain rfl : n = 0 := by omega
      simp
  | t :: a, b, n, i, q, hn, h => by
    rw [check_cons] at h
    rw [List.cons_append, check_cons]
    have e : i + ((t :: a).length : Int) = i + 1 + a.length := by rw [List.length_cons]; omega
    rw [e]
    by_cases c1 : right t.f0 t.f1 t.f2 t.f3 = true
    · rw [if_pos c1] at h ⊢
      by_cases c2 : t.f0 = 2
      · rw [if_pos c2] at h ⊢
        by_cases c3 : n = 0
        · rw [if_pos c3] at h
          simp at h
        · rw [if_neg c3] at h ⊢
          exact check_append a b (n - 1) (i + 1) q (by omega) h
      · rw [if_neg c2] at h ⊢
        by_cases c4 : t.f0 = 1
        · rw [if_pos c4] at h ⊢
          by_cases c5 : n = 32
          · rw [if_pos c5] at h
            simp at h
          · rw [if_neg c5] at h ⊢
            exact check_append a b (n + 1) (i + 1) q (by omega) h
        · rw [if_neg c4] at h ⊢
          exact check_append a b n (i + 1) q hn h
    · rw [if_neg c1] at h
      simp at h
/-- Where the check begins to count doesn't matter. -/
theorem check_shift : ∀ (a : List S23) (n i j q e : Int), flat_Check.l0 a n i = some (q, e) → flat_Check.l0 a n j = some (q + (j - i), e)
  | [], n, i, j, q, e, h => by
    unfold flat_Check.l0 at h ⊢
    by_cases c : n > 0
    · rw [if_pos c] at h ⊢
      simp only [Option.some.injEq, Prod.mk.injEq] at h ⊢
      omega
    · rw [if_neg c] at h ⊢
      simp only [Option.some.injEq, Prod.mk.injEq] at h ⊢
      omega
  | t :: a, n, i, j, q, e, h => by
    rw [check_cons] at h ⊢
    have s : ∀ m, flat_Check.l0 a m (i + 1) = some (q, e) → flat_Check.l0 a m (j + 1) = some (q + (j - i), e) := by
      intro m hm
      have := check_shift a m (i + 1) (j + 1) q e hm
      rw [show j + 1 - (i + 1) = j - i by omega] at this
      exact this
    have o : ∀ x : Int, some (i, x) = some (q, e) → some (j, x) = some (q + (j - i), e) := by
      intro x hx
      simp only [Option.some.injEq, Prod.mk.injEq] at hx ⊢
      omega
    by_cases c1 : right t.f0 t.f1 t.f2 t.f3 = true
    · rw [if_pos c1] at h ⊢
      by_cases c2 : t.f0 = 2
      · rw [if_pos c2] at h ⊢
        by_cases c3 : n = 0
        · rw [if_pos c3] at h ⊢
          exact o _ h
        · rw [if_neg c3] at h ⊢
          exact s _ h
      · rw [if_neg c2] at h ⊢
        by_cases c4 : t.f0 = 1
        · rw [if_pos c4] at h ⊢
          by_cases c5 : n = 32
          · rw [if_pos c5] at h ⊢
            exact o _ h
          · rw [if_neg c5] at h ⊢
            exact s _ h
        · rw [if_neg c4] at h ⊢
          exact s _ h
    · rw [if_neg c1] at h ⊢
      exact o _ h
theorem check_parts {l : List S23} {r : Int × Int} (h : flat_Check.f l = some r) (hr : r.2 = 0) : l.length ≤ 2048 ∧ flat_Check.l0 l 0 0 = some ((l.length : Int), 0) := by
  unfold flat_Check.f at h
  by_cases c : (l.length : Int) > 2048
  · rw [if_pos c] at h
    obtain rfl := Option.some.inj h
    simp at hr
  · rw [if_neg c] at h
    obtain ⟨_, _, b⟩ := check_run l l.length 0 0 r (by omega) (by omega) (by simpa using h) hr (by rw [stackAt_zero]; rfl)
    refine ⟨by omega, ?_⟩
    rw [h]
    have : r = ((l.length : Int), 0) := Prod.ext b hr
    rw [this]
/-- A document within a TOpen: the check of its rest, from a place on. -/
theorem within_run (l : List S23) (hall : ∀ j : Int, 0 ≤ j → ∀ h : j.toNat < l.length, (l[j.toNat].f0 = 2 → stackAt l j ≠ []) ∧ right l[j.toNat].f0 l[j.toNat].f1 l[j.toNat].f2 l[j.toNat].f3 = true ∧ (l[j.toNat].f0 = 1 → (stackAt l j).length ≠ 32)) (hend : stackAt l l.length = []) (c : S23) (hc : c.f0 = 2 ∧ right c.f0 c.f1 c.f2 c.f3 = true) : ∀ (d : Nat) (i : Int), 0 ≤ i → i + d = l.length → (stackAt l i).length < 32 →
    ∃ q e, flat_Check.l0 (l.drop i.toNat ++ [c]) (((stackAt l i).length : Int) + 1) (i + 1) = some (q, e) ∧ ((e = 0 ∧ ∀ p : Int, i ≤ p → p < l.length → (stackAt l p).length < 32) ∨ (e = 8 ∧ ∃ p : Int, i ≤ p ∧ p < l.length ∧ (stackAt l p).length = 32)) := by
  intro d
  induction d with
  | zero =>
    intro i h0 h1 hlt
    obtain rfl : i = l.length := by omega
    rw [List.drop_eq_nil_of_le (by omega), hend, List.nil_append, check_cons, if_pos hc.2, if_pos hc.1, if_neg (by simp)]
    unfold flat_Check.l0
    rw [if_neg (by simp)]
    exact ⟨_, _, rfl, .inl ⟨rfl, fun p hp hp2 => by omega⟩⟩
  | succ d ih =>
    intro i h0 h1 hlt
    have hi : i.toNat < l.length := by omega
    have hs := stackAt_succ l i h0 hi
    obtain ⟨a1, a2, a3⟩ := hall i h0 hi
    have e : i.toNat + 1 = (i + 1).toNat := by omega
    rw [List.drop_eq_getElem_cons hi, List.cons_append, check_cons, if_pos a2, e]
    unfold upd at hs
    have next : (stackAt l (i + 1)).length < 32 → ∃ q e, flat_Check.l0 (l.drop (i + 1).toNat ++ [c]) (((stackAt l (i + 1)).length : Int) + 1) (i + 1 + 1) = some (q, e) ∧ ((e = 0 ∧ ∀ p : Int, i ≤ p → p < l.length → (stackAt l p).length < 32) ∨ (e = 8 ∧ ∃ p : Int, i ≤ p ∧ p < l.length ∧ (stackAt l p).length = 32)) := by
      intro hl2
      obtain ⟨q, e, h2, h3⟩ := ih (i + 1) (by omega) (by omega) hl2
      refine ⟨q, e, h2, ?_⟩
      rcases h3 with ⟨h3, h4⟩ | ⟨h3, p, h4, h5, h6⟩
      · refine .inl ⟨h3, fun p hp hp2 => ?_⟩
        by_cases hpi : p = i
        · rw [hpi]
          exact hlt
        · exact h4 p (by omega) hp2
      · exact .inr ⟨h3, p, by omega, h5, h6⟩
    by_cases k2 : l[i.toNat].f0 = 2
    · have hne : (stackAt l i).length ≠ 0 := fun h => a1 k2 (List.eq_nil_of_length_eq_zero h)
      rw [if_neg (by omega), if_pos k2] at hs
      rw [if_pos k2, if_neg (by omega)]
      have := next (by rw [hs, List.length_dropLast]; omega)
      rw [hs, List.length_dropLast, show (((stackAt l i).length - 1 : Nat) : Int) + 1 = ((stackAt l i).length : Int) + 1 - 1 by omega] at this
      exact this
    · rw [if_neg k2]
      by_cases k1 : l[i.toNat].f0 = 1
      · rw [if_pos k1] at hs
        rw [if_pos k1]
        by_cases c31 : (stackAt l i).length = 31
        · rw [if_pos (by omega)]
          refine ⟨_, _, rfl, .inr ⟨rfl, i + 1, by omega, ?_, by rw [hs]; simp [c31]⟩⟩
          by_cases hlast : i + 1 = l.length
          · rw [← hlast, hs] at hend
            simp at hend
          · omega
        · rw [if_neg (by omega)]
          have := next (by rw [hs]; simp; omega)
          rw [hs, List.length_append, show (((stackAt l i).length + [i].length : Nat) : Int) = ((stackAt l i).length : Int) + 1 by simp] at this
          exact this
      · rw [if_neg k1]
        rw [if_neg k1, if_neg k2] at hs
        have := next (by rw [hs]; exact hlt)
        rw [hs] at this
        exact this
theorem joins_loop (a b all : List S23) (x2 x12 x13 : Int) (hl : all.length < 17592186044416) (F : Int → Option Bool) (hF : ∀ (k : Nat) (D i : Int), i = all.length → emenderlaw04_FlatJoins.l0 (k + 1) a b x2 all x12 x13 D i = F D) : ∀ (d k : Nat) (D i : Int), 0 ≤ i → i + d = all.length → d + all.length + 1 < k →
    ∃ D', emenderlaw04_FlatJoins.l0 k a b x2 all x12 x13 D i = F D' ∧ (D' < 32 ↔ D < 32 ∧ ∀ p : Int, i ≤ p → p < all.length → (stackAt all p).length < 32) := by
  intro d
  induction d with
  | zero =>
    intro k D i h0 h1 hk
    obtain ⟨k, rfl⟩ : ∃ m, k = m + 1 := ⟨k - 1, by omega⟩
    exact ⟨D, hF k D i (by omega), ⟨fun h => ⟨h, fun p hp hp2 => by omega⟩, fun h => h.1⟩⟩
  | succ d ih =>
    intro k D i h0 h1 hk
    obtain ⟨k, rfl⟩ : ∃ m, k = m + 1 := ⟨k - 1, by omega⟩
    obtain ⟨D', h2, h3⟩ := ih k (mx D ((stackAt all i).length : Int)) (i + 1) (by omega) (by omega) (by omega)
    refine ⟨D', ?_, ?_⟩
    · simp only [emenderlaw04_FlatJoins.l0]
      rw [if_pos (by omega), flat_deep all hl i k (by omega), Option.bind_some, w64 (by omega) (by omega)]
      exact h2
    · rw [h3]
      have hm : mx D ((stackAt all i).length : Int) < 32 ↔ D < 32 ∧ (stackAt all i).length < 32 := by
        unfold mx
        split <;> omega
      rw [hm]
      constructor
      · rintro ⟨⟨h4, h5⟩, h6⟩
        refine ⟨h4, fun p hp hp2 => ?_⟩
        by_cases e : p = i
        · rw [e]
          exact h5
        · exact h6 p (by omega) hp2
      · rintro ⟨h4, h5⟩
        exact ⟨⟨h4, h5 i (by omega) (by omega)⟩, fun p hp hp2 => h5 p (by omega) hp2⟩
theorem FlatJoins : emenderlaw04_FlatJoins.Pure := by
  intro a b t ha _ hb _ ht
  have ht2 : 0 ≤ t ∧ t ≤ 255 := by
    simp [Lit.wf, IntKind.min, IntKind.max, IntKind.signed, IntKind.bits] at ht
    omega
  have check_some : ∀ l : List S23, ∃ r, flat_Check.f l = some r := by
    intro l
    unfold flat_Check.f
    split
    · exact ⟨_, rfl⟩
    · have : ∀ (l : List S23) (n i : Int), ∃ r, flat_Check.l0 l n i = some r := by
        intro l
        induction l with
        | nil =>
          intro n i
          unfold flat_Check.l0
          split <;> exact ⟨_, rfl⟩
        | cons t ts ih =>
          intro n i
          rw [check_cons]
          repeat' split
          all_goals first | exact ⟨_, rfl⟩ | exact ih _ _
      exact this l 0 0
  obtain ⟨r, hr⟩ := check_some a
  obtain ⟨s, hs⟩ := check_some b
  refine ⟨2 * (a.length + b.length) + 5, ?_⟩
  unfold emenderlaw04_FlatJoins.f
  rw [hr, Option.bind_some, hs, Option.bind_some]
  have quit : ∀ k, emenderlaw04_FlatJoins.j0 (k + 1) a b t true = some true := by
    intro k
    simp only [emenderlaw04_FlatJoins.j0]
    rw [if_pos trivial, awake_true]
    rfl
  by_cases e1 : r.2 = 0
  · rw [if_pos e1]
    by_cases e2 : s.2 = 0
    · rw [if_pos e2, w64 (by omega) (by omega)]
      by_cases e3 : (a.length : Int) + (b.length : Int) > 2046
      · rw [decide_eq_true e3]
        exact quit _
      · rw [decide_eq_false e3]
        obtain ⟨la, ca⟩ := check_parts hr e1
        obtain ⟨lb, cb⟩ := check_parts hs e2
        have call : flat_Check.l0 (a ++ b) 0 0 = some (((a ++ b).length : Int), 0) := by
          rw [check_append a b 0 0 _ (by omega) ca, check_shift b 0 0 (0 + a.length) _ _ cb]
          simp only [List.length_append]
          congr 2
          omega
        generalize hall : a ++ b = all at call
        have hlen : all.length = a.length + b.length := by rw [← hall, List.length_append]
        have callf : flat_Check.f all = some ((all.length : Int), 0) := by
          unfold flat_Check.f
          rw [if_neg (by omega), call]
        obtain ⟨f1, f2, _⟩ := check_run all all.length 0 0 _ (by omega) (by omega) (by simpa using call) rfl (by rw [stackAt_zero]; rfl)
        have hT0 : 0 ≤ Int.tmod t 15 := Int.tmod_nonneg _ ht2.1
        have hT1 : Int.tmod t 15 < 15 := Int.tmod_lt_of_pos _ (by omega)
        simp only [emenderlaw04_FlatJoins.j0]
        rw [if_neg (by decide), Option.bind_some, if_pos (by simp; omega), List.nil_append, Option.bind_some, if_pos (by omega), Option.bind_some, hall, callf, Option.bind_some]
        -- what the end tells
        obtain ⟨q, e, hin, hcase⟩ := within_run all (fun j h0 hj => f1 j h0 hj) f2 ⟨2, 0, 0, 0⟩ ⟨rfl, rfl⟩ all.length 0 (by omega) (by omega) (by rw [stackAt_zero]; simp)
        have hright : right 1 (wrap64 (1 + wrap64 (Int.tmod t 15))) 0 0 = true := by
          have w1 : wrap64 (Int.tmod t 15) = Int.tmod t 15 := w64 (by omega) (by omega)
          rw [w1, w64 (by omega) (by omega)]
          unfold right flat_Right.f
          rw [if_neg (by decide), if_neg (by decide), if_pos rfl, if_pos (by omega), if_pos (by omega), if_pos (by decide), if_pos (by decide)]
          rfl
        have hinf : flat_Check.f (([(⟨1, wrap64 (1 + (wrap64 (Int.tmod t 15))), 0, 0⟩ : S23)] ++ all) ++ [(⟨2, 0, 0, 0⟩ : S23)]) = some (q, e) := by
          unfold flat_Check.f
          rw [if_neg (by simp; omega), List.singleton_append, List.cons_append, check_cons, if_pos hright, if_neg (by simp), if_pos rfl, if_neg (by simp)]
          rw [stackAt_zero] at hin
          simpa using hin
        have tA := txt_length a
        have tB := txt_length b
        have htext : flat_Text.txt all = flat_Text.txt a ++ flat_Text.txt b := by rw [← hall, txt_append]
        have hF : ∀ (k : Nat) (D i : Int), i = all.length → emenderlaw04_FlatJoins.l0 (k + 1) a b t all (all.length : Int) 0 D i = (if ((e == 0) == (decide (D < 32))) = true then (if e = 0 then some true else (if e = 8 then some true else some false)) else some false) := by
          intro k D i hi
          simp only [emenderlaw04_FlatJoins.l0]
          rw [if_neg (by omega), Option.bind_some, if_pos (by simp; omega), Option.bind_some, if_pos (by simp; omega), hinf, Option.bind_some, flat_text all (by omega), Option.bind_some, flat_text a (by omega), Option.bind_some, flat_text b (by omega), Option.bind_some]
          simp only [if_true, Option.bind_some]
          rw [if_pos (by rw [str_size, str_size]; omega), str_append, htext, awake_true]
          simp only [if_true, Option.bind_some]
        obtain ⟨D', h1, h2⟩ := joins_loop a b all t (all.length : Int) 0 (by omega) _ hF all.length (2 * (a.length + b.length) + 4) 0 0 (by omega) (by omega) (by omega)
        rw [h1]
        rcases hcase with ⟨he, hp⟩ | ⟨he, p, hp1, hp2, hp3⟩
        · subst he
          have : D' < 32 := h2.2 ⟨by omega, fun p hp0 hp1 => hp p hp0 hp1⟩
          simp [decide_eq_true this]
        · subst he
          have : ¬ D' < 32 := by
            intro h
            have := (h2.1 h).2 p hp1 hp2
            omega
          rw [decide_eq_false this]
          rfl
    · rw [if_neg e2]
      exact quit _
  · rw [if_neg e1]
    exact quit _
end Go.Proofs.Ytamgpedfhcalpaa.Pure
