/- AnchorSpans: a place is in a stretch just if a note is at it; stretches rise, and do not touch; for every notes and place. -/
import Derived.Test.YtgafgkojbbndmaaGAnchorSpans
namespace Go.Proofs.Ytgafgkojbbndmaa.Pure
open Go.RowKit Go.Proofs.YtgafgkojbbndmaaW.PrintWords Go.Proofs.YtgafgkojbbndmaaW.PrintMore
open Go.Proofs.Ytgafgkojbbndmaa Go.Proofs.Ytgafgkojbbndmaa.PAs
set_option linter.unusedVariables false
set_option linter.unusedSimpArgs false

abbrev inn := emenderlaw25_AnchorSpans.in_
structure Good (out : List S37) : Prop where
  each : ∀ x ∈ out, x.f0 < x.f1
  pair : out.Pairwise fun x y => x.f1 < y.f0
theorem span_snoc (init : List S37) (x : S37) (n : S35) : anc_span (init ++ [x]) n = if n.f1 ≤ x.f1 then init ++ [⟨x.f0, if x.f1 < n.f2 then n.f2 else x.f1⟩] else init ++ [x] ++ [⟨n.f1, n.f2⟩] := by
  have e : rd_T37 (init ++ [x]) (((init ++ [x]).length : Int) - 1) = x := by
    have : ((((init ++ [x]).length : Nat) : Int) - 1).toNat = init.length := by rw [List.length_append, List.length_singleton]; omega
    unfold rd_T37
    rw [this]
    simp [List.getD_eq_getElem?_getD]
  unfold anc_span
  rw [e]
  by_cases h : n.f1 ≤ x.f1
  · rw [if_pos ⟨by rw [List.length_append, List.length_singleton]; omega, h⟩, if_pos h]
    rw [List.length_append, List.length_singleton, Nat.add_sub_cancel, List.set_append_right _ _ (Nat.le_refl _), Nat.sub_self]
    rfl
  · rw [if_neg (fun h2 => h h2.2), if_neg h]
theorem span_nil (n : S35) : anc_span [] n = [⟨n.f1, n.f2⟩] := by
  unfold anc_span
  rw [if_neg (by simp)]
  rfl
theorem inn_mk (p a b : Int) : inn p ⟨a, b⟩ = (decide (a ≤ p) && decide (p < b)) := rfl
theorem spans_inv : ∀ (L : List S35) (out : List S37), (L.Pairwise fun x y => x.f1 ≤ y.f1) → (∀ n ∈ L, n.f1 < n.f2) → Good out → (∀ x ∈ out, ∀ n ∈ L, x.f0 ≤ n.f1) →
    Good (L.foldl anc_span out) ∧ ∀ p, (L.foldl anc_span out).any (inn p) = (out.any (inn p) || L.any (anc_on p))
  | [], out, _, _, hg, _ => ⟨hg, fun p => by simp⟩
  | n :: L, out, hs, hw, hg, hx => by
    obtain ⟨s1, s2⟩ := List.pairwise_cons.1 hs
    have hn := hw n (List.mem_cons_self ..)
    have hw2 := fun m hm => hw m (List.mem_cons_of_mem _ hm)
    rw [List.foldl_cons]
    have key : ∀ out2, anc_span out n = out2 → Good out2 → (∀ x ∈ out2, ∀ m ∈ L, x.f0 ≤ m.f1) → (∀ p, out2.any (inn p) = (out.any (inn p) || anc_on p n)) → Good (L.foldl anc_span (anc_span out n)) ∧ ∀ p, (L.foldl anc_span (anc_span out n)).any (inn p) = (out.any (inn p) || (n :: L).any (anc_on p)) := by
      intro out2 e g h1 h2
      rw [e]
      obtain ⟨r1, r2⟩ := spans_inv L out2 s2 hw2 g h1
      refine ⟨r1, fun p => ?_⟩
      rw [r2, h2, List.any_cons, Bool.or_assoc]
    rcases List.eq_nil_or_concat out with rfl | ⟨init, x, rfl⟩
    · refine key _ (span_nil n) ⟨fun x hx => by rw [List.mem_singleton.1 hx]; exact hn, List.pairwise_singleton _ _⟩ (fun x hx m hm => by rw [List.mem_singleton.1 hx]; exact s1 m hm) (fun p => ?_)
      simp [emenderlaw25_AnchorSpans.in_, anc_on]
    · rw [List.concat_eq_append] at *
      have hxx := hg.each x (by simp)
      obtain ⟨p1, _, p3⟩ := List.pairwise_append.1 hg.pair
      have hxn := hx x (by simp) n (List.mem_cons_self ..)
      by_cases h : n.f1 ≤ x.f1
      · refine key (init ++ [⟨x.f0, if x.f1 < n.f2 then n.f2 else x.f1⟩]) (by rw [span_snoc, if_pos h]) ⟨fun y hy => ?_, ?_⟩ (fun y hy m hm => ?_) (fun p => ?_)
        · rcases List.mem_append.1 hy with hy | hy
          · exact hg.each y (List.mem_append_left _ hy)
          · rw [List.mem_singleton.1 hy]
            show x.f0 < (if x.f1 < n.f2 then n.f2 else x.f1)
            by_cases c : x.f1 < n.f2
            · rw [if_pos c]; omega
            · rw [if_neg c]; omega
        · exact List.pairwise_append.2 ⟨p1, List.pairwise_singleton _ _, fun a ha b hb => by rw [List.mem_singleton.1 hb]; exact p3 a ha x (by simp)⟩
        · rcases List.mem_append.1 hy with hy | hy
          · exact hx y (List.mem_append_left _ hy) m (List.mem_cons_of_mem _ hm)
          · rw [List.mem_singleton.1 hy]
            exact hx x (by simp) m (List.mem_cons_of_mem _ hm)
        · rw [List.any_append, List.any_append, Bool.or_assoc]
          congr 1
          simp only [List.any_cons, List.any_nil, Bool.or_false, emenderlaw25_AnchorSpans.in_, anc_on]
          by_cases c1 : x.f1 < n.f2
          · rw [if_pos c1, Bool.eq_iff_iff]
            simp
            omega
          · rw [if_neg c1, Bool.eq_iff_iff]
            simp
            omega
      · refine key (init ++ [x] ++ [⟨n.f1, n.f2⟩]) (by rw [span_snoc, if_neg h]) ⟨fun y hy => ?_, ?_⟩ (fun y hy m hm => ?_) (fun p => ?_)
        · rcases List.mem_append.1 hy with hy | hy
          · exact hg.each y hy
          · rw [List.mem_singleton.1 hy]
            exact hn
        · refine List.pairwise_append.2 ⟨hg.pair, List.pairwise_singleton _ _, fun a ha b hb => ?_⟩
          rw [List.mem_singleton.1 hb]
          rcases List.mem_append.1 ha with ha | ha
          · have := p3 a ha x (by simp)
            show a.f1 < n.f1
            omega
          · rw [List.mem_singleton.1 ha]
            show x.f1 < n.f1
            omega
        · rcases List.mem_append.1 hy with hy | hy
          · exact hx y hy m (List.mem_cons_of_mem _ hm)
          · rw [List.mem_singleton.1 hy]
            exact s1 m hm
        · rw [List.any_append]
          congr 1
          simp [emenderlaw25_AnchorSpans.in_, anc_on]
theorem good_ok {out : List S37} (h : Good out) : emenderlaw25_AnchorSpans.ok out = true := by
  unfold emenderlaw25_AnchorSpans.ok
  refine List.all_eq_true.2 fun j hj => ?_
  have hj' := List.mem_range.1 hj
  have rd : ∀ (i : Nat) (hi : i < out.length), rd_T37 out (i : Int) = out[i] := fun i hi => by simp [rd_T37, List.getD_eq_getElem?_getD, List.getElem?_eq_getElem hi]
  rw [rd j hj', Bool.and_eq_true_iff, Bool.or_eq_true_iff]
  refine ⟨decide_eq_true (h.each _ (List.getElem_mem hj')), ?_⟩
  by_cases h0 : j = 0
  · exact .inl (decide_eq_true h0)
  · right
    rw [show ((j : Int) - 1) = ((j - 1 : Nat) : Int) by omega, rd (j - 1) (by omega)]
    exact decide_eq_true (List.pairwise_iff_getElem.1 h.pair (j - 1) j (by omega) hj' (by omega))
theorem ins_wide (n : S35) (hn : n.f1 < n.f2) : ∀ l : List S35, (∀ x ∈ l, x.f1 < x.f2) → ∀ x ∈ anc_ins n l, x.f1 < x.f2 := fun l h x hx => by
  rcases (anc_ins_mem n l x).1 hx with rfl | hx
  · exact hn
  · exact h x hx
theorem add_wide (l : List S35) (n : S35) (h : ∀ x ∈ l, x.f1 < x.f2) : ∀ x ∈ anc_Add.l l n, x.f1 < x.f2 := by
  unfold anc_Add.l
  by_cases he : anc_Add.e l n = 0
  · rw [if_pos he]
    refine ins_wide n ?_ l h
    unfold anc_Add.e at he
    by_cases c : n.f1 < 0 ∨ n.f1 ≥ n.f2 ∨ n.f2 > 2048
    · rw [if_pos c] at he
      cases he
    · omega
  · rw [if_neg he]
    exact h
theorem all_wide (a : List S37) : ∀ (r : List Nat) (l : List S35), (∀ x ∈ l, x.f1 < x.f2) → ∀ x ∈ r.foldl (fun (l : List S35) (j : Nat) => anc_Add.l l (emenderlaw25_AnchorSpans.one a (j : Int))) l, x.f1 < x.f2
  | [], l, h => h
  | j :: r, l, h => all_wide a r _ (add_wide l _ h)
theorem AnchorSpans : emenderlaw25_AnchorSpans.Pure := by
  intro a p _ _ _
  have hw : ∀ x ∈ emenderlaw25_AnchorSpans.all a, x.f1 < x.f2 := all_wide a _ [] (fun x hx => by cases hx)
  unfold emenderlaw25_AnchorSpans.f
  generalize emenderlaw25_AnchorSpans.all a = ns at *
  have hs : (anc_sort ns).Pairwise fun x y => x.f1 ≤ y.f1 := (anc_sort_sorted ns).imp fun {x y} h => by
    simp only [Bool.not_eq_true'] at h
    rw [anc_ltOf_false] at h
    unfold anc_lt at h
    omega
  have hp : (anc_sort ns).Perm ns := List.mergeSort_perm _ _
  obtain ⟨g, hc⟩ := spans_inv (anc_sort ns) [] hs (fun n hn => hw n (hp.mem_iff.1 hn)) ⟨fun x hx => (by cases hx), List.Pairwise.nil⟩ (fun x hx => by cases hx)
  have hat : (anc_At.f ns p).length = ((anc_sort ns).filter (anc_on p)).length := by
    unfold anc_At.f anc_ids
    rw [List.length_mergeSort, List.length_map]
  have hany : (anc_Spans.f ns).any (emenderlaw25_AnchorSpans.in_ p) = decide (0 < (anc_At.f ns p).length) := by
    have := hc p
    rw [List.any_nil, Bool.false_or] at this
    refine this.trans ?_
    rw [hat, Bool.eq_iff_iff, List.any_eq_true, decide_eq_true_eq, List.length_pos_iff_exists_mem]
    constructor
    · rintro ⟨x, hx, ho⟩
      exact ⟨x, List.mem_filter.2 ⟨hx, ho⟩⟩
    · rintro ⟨x, hx⟩
      obtain ⟨h1, h2⟩ := List.mem_filter.1 hx
      exact ⟨x, h1, h2⟩
  rw [if_pos ⟨good_ok g, hany⟩]

end Go.Proofs.Ytgafgkojbbndmaa.Pure
