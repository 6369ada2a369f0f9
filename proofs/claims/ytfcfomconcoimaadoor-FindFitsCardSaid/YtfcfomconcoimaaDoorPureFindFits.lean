/- FindFits: each place that is found has just the text, none is over another one, and behind them all nothing is found; for every document and text. -/
import Derived.Test.YtfcfomconcoimaaDoorGFindFits
import Derived.Test.YtfcfomconcoimaaDoorFindB
namespace Go.Proofs.YtfcfomconcoimaaDoor.Pure
open Go.RowKit Go.Proofs.YtfcfomconcoimaaDoorW.PrintWords Go.Proofs.YtfcfomconcoimaaDoorW.PrintMore
set_option linter.unusedVariables false
set_option linter.unusedSimpArgs false
open Go.Proofs.YtfcfomconcoimaaDoor Go.Proofs.YtfcfomconcoimaaDoor.PFa Go.Proofs.YtfcfomconcoimaaDoor.FlatC Go.Proofs.YtfcfomconcoimaaDoor.FindA Go.Proofs.YtfcfomconcoimaaDoor.FindB

theorem fits_txt : ∀ (u : List S48) (p : List Int), (∀ t ∈ u, flat_Right.f t.f0 t.f1 t.f2 t.f3 = some true) → M u = p.map some → flat_Text.txt u = p.flatMap Lib.encodeRune
  | [], p, _, h => by
    have : p = [] := by
      cases p with
      | nil => rfl
      | cons c p => cases h
    subst this
    rfl
  | t :: u, p, hr, h => by
    cases p with
    | nil => cases h
    | cons c p =>
      unfold M at h
      rw [List.map_cons, List.map_cons] at h
      injection h with h1 h2
      have h0 : t.f0 = 0 ∧ t.f2 = c := by
        unfold FindB.tok at h1
        split at h1
        · exact ⟨by assumption, Option.some.inj h1⟩
        · cases h1
      unfold flat_Text.txt
      rw [List.flatMap_cons, List.flatMap_cons]
      have ih := fits_txt u p (fun x hx => hr x (List.mem_cons_of_mem _ hx)) h2
      unfold flat_Text.txt at ih
      rw [ih]
      unfold flat_Text.one
      rw [if_pos h0.1, if_pos (hr t (List.mem_cons_self ..)), h0.2]
theorem fits_l0 (l : List S48) (s : ByteArray) (p : List Int) (c : Int) (hp : 0 < p.length) (hc : flat_Check.f l = some (c, 0)) (hs : find_points.f s = some (p, 0)) (x5 : List S28) (hx : x5.length ≤ 3000) :
    ∀ (r : List S28) (last k : Nat), k ≤ x5.length → x5.drop k = r → r = G p ((M l).drop last) 0 (last : Int) → last ≤ l.length → emenderlaw26_FindFits.l0 (r.length + 1) l s x5 (last : Int) (k : Int) = some true
  | [], last, k, hk, h5, hG, hl => by
    have hk5 : k = x5.length := by
      have := congrArg List.length h5
      rw [List.length_drop] at this
      simp only [List.length_nil] at this
      omega
    rw [List.length_nil, Nat.zero_add, emenderlaw26_FindFits.l0, if_neg (by omega), if_pos (by omega), if_pos (by omega), Int.toNat_natCast]
    obtain ⟨⟨d1, d2⟩, hd⟩ := check_f_some (l.drop last)
    rw [hd, Option.bind_some]
    by_cases h0 : d2 = 0
    · subst h0
      rw [if_pos rfl]
      have hf : find_Find.f (l.drop last) s false false = some (find_Find.all p false false (find_runs.f (l.drop last)), 0) := by
        unfold find_Find.f
        have := (check_ok hc).1
        rw [hd, Option.bind_some, if_pos rfl, hs, Option.bind_some, if_pos rfl, if_neg (show ¬ p.length = 0 by omega), if_pos (by rw [List.length_drop]; omega)]
      rw [hf, Option.bind_some, if_pos rfl, all_G p hp, M_drop, G_empty p _ _ 0 hG.symm, awake_]
      rfl
    · rw [if_neg h0, awake_]
      rfl
  | e :: r, last, k, hk, h5, hG, hl => by
    have hk5 : k < x5.length := by
      have := congrArg List.length h5
      rw [List.length_drop] at this
      simp only [List.length_cons] at this
      omega
    rw [List.drop_eq_getElem_cons hk5] at h5
    injection h5 with h51 h52
    obtain ⟨j, h1, h2, h3⟩ := G_step p hp _ _ _ _ hG.symm
    rw [List.drop_drop] at h2 h3
    have hlen := h2.length_le
    rw [List.length_map, List.length_drop] at hlen
    have hM : (M l).length = l.length := by unfold M; rw [List.length_map]
    rw [hM] at hlen
    have hb := (check_ok hc).1
    have e0 : (rd_T28 x5 (k : Int)).f0 = ((last + j : Nat) : Int) := by rw [rd28 x5 k hk5, h51, h1]; simp
    have e1 : (rd_T28 x5 (k : Int)).f1 = ((last + j + p.length : Nat) : Int) := by rw [rd28 x5 k hk5, h51, h1]; simp
    rw [List.length_cons, emenderlaw26_FindFits.l0, if_pos (by omega), if_pos (by omega), e0, e1, if_neg (by omega), if_neg (by omega), if_neg (by omega), if_pos (by omega), if_pos (by omega), if_pos (by omega), Int.toNat_natCast, Int.toNat_natCast]
    have hu : flat_Text.f ((l.take (last + j + p.length)).drop (last + j)) = some s := by
      unfold flat_Text.f
      rw [if_pos (by rw [List.length_drop, List.length_take]; omega)]
      rw [fits_txt _ p (fun t ht => (check_ok hc).2 t (List.mem_of_mem_take (List.mem_of_mem_drop ht))) ?_, enc_points hs]
      have : M ((l.take (last + j + p.length)).drop (last + j)) = ((M l).drop (last + j)).take p.length := by
        unfold M
        rw [List.map_drop, List.map_take, List.drop_take]
        congr 1
        omega
      rw [this]
      obtain ⟨Y, hY⟩ := h2
      rw [← hY, List.take_append_of_le_length (by rw [List.length_map]; exact Nat.le_refl _), List.take_of_length_le (by rw [List.length_map]; exact Nat.le_refl _)]
    rw [hu, Option.bind_some, if_pos rfl, w64 (by omega)]
    have := fits_l0 l s p c hp hc hs x5 hx r (last + j + p.length) (k + 1) hk5 h52 (by
      rw [h3, ← Nat.add_assoc]
      congr 1) (by omega)
    exact this
theorem FindFits : emenderlaw26_FindFits.Pure := by
  intro l s _ _ _
  rcases find_all_cases l s with ⟨e, he, hf⟩ | ⟨p, c, hp, hc, hs, hf⟩
  · refine ⟨1, ?_⟩
    unfold emenderlaw26_FindFits.f
    rw [hf, Option.bind_some, if_neg he, emenderlaw26_FindFits.j0, if_pos rfl, if_neg he, if_pos (show ((([] : List S28), e).1.length : Int) = 0 from rfl), awake_]
    rfl
  · have hl := (check_ok hc).1
    have h1 := all_len p hp false false l
    refine ⟨(find_Find.all p false false (find_runs.f l)).length + 1 + 1, ?_⟩
    unfold emenderlaw26_FindFits.f
    rw [hf, Option.bind_some, if_pos rfl, emenderlaw26_FindFits.j0]
    by_cases h3 : (l.length : Int) > 300
    · rw [if_pos (decide_eq_true h3), if_pos rfl, awake_]
      rfl
    · rw [if_neg (by rw [decide_eq_false h3]; decide)]
      have := fits_l0 l s p c hp hc hs (find_Find.all p false false (find_runs.f l)) (by omega) (find_Find.all p false false (find_runs.f l)) 0 0 (Nat.zero_le _) (List.drop_zero ..) (by rw [List.drop_zero]; exact all_G p hp l) (Nat.zero_le _)
      exact this

end Go.Proofs.YtfcfomconcoimaaDoor.Pure
