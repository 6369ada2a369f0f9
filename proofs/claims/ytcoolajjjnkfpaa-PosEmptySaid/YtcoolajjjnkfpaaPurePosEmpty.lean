/- PosEmpty: through no range, and through ranges that change nothing, a place stays, and is not gone. -/
import Derived.Test.YtcoolajjjnkfpaaGPosEmpty
import Derived.Test.YtcoolajjjnkfpaaPosD
namespace Go.Proofs.Ytcoolajjjnkfpaa.Pure
open Go.RowKit Go.Proofs.YtcoolajjjnkfpaaW.PrintWords Go.Proofs.YtcoolajjjnkfpaaW.PrintMore
open Go.Proofs.Ytcoolajjjnkfpaa Go.Proofs.Ytcoolajjjnkfpaa.PPa Go.Proofs.Ytcoolajjjnkfpaa.PosA Go.Proofs.Ytcoolajjjnkfpaa.PosB Go.Proofs.Ytcoolajjjnkfpaa.PosD

theorem posEmpty_sh (l : List S37) (hz : ∀ r ∈ l, r.f1 = 0 ∧ r.f2 = 0) (i : Nat) : pos_each.sh l i = 0 := by
  unfold pos_each.sh
  induction l generalizing i with
  | nil => simp
  | cons r rs ih =>
    cases i with
    | zero => simp
    | succ i =>
      have h := hz r List.mem_cons_self
      simp only [List.take_succ_cons, List.map_cons, List.sum_cons]
      rw [ih (fun r hr => hz r (List.mem_cons_of_mem _ hr)) i]
      omega
theorem posEmpty_V (l : List S37) (hz : ∀ r ∈ l, r.f1 = 0 ∧ r.f2 = 0) (p side : Int) : ∀ (m i : Nat), i + m = l.length → (V l p side m i).1 = p ∧ (V l p side m i).2.1 = false
  | 0, i, _ => by unfold V; rw [posEmpty_sh l hz]; exact ⟨Int.add_zero _, rfl⟩
  | m + 1, i, h => by
    have hi : i < l.length := by omega
    have hr := hz l[i] (List.getElem_mem hi)
    rw [← rd_get l i hi] at hr
    unfold V
    rw [posEmpty_sh l hz]
    split
    · exact ⟨Int.add_zero _, rfl⟩
    split
    · unfold S
      dsimp only
      rw [posEmpty_sh l hz, hr.1, hr.2]
      refine ⟨?_, by simp⟩
      split <;> omega
    · exact posEmpty_V l hz p side m (i + 1) (by omega)
def posEmpty_end : Int → List S37 → Int
  | e, [] => e
  | _, r :: rs => posEmpty_end (r.f0 + r.f1) rs
theorem posEmpty_okL : ∀ (l : List S37) (e last x : Int), pos_Right.okL e l = true → posEmpty_end e l = last → last ≤ x → x ≤ 65536 → 0 ≤ x → pos_Right.okL e (l ++ [⟨x, 0, 0⟩]) = true ∧ posEmpty_end e (l ++ [⟨x, 0, 0⟩]) = x
  | [], e, last, x, _, h, h1, h2, h3 => by
    unfold posEmpty_end at h
    subst h
    refine ⟨?_, ?_⟩
    · rw [List.nil_append, okL_good (by dsimp only; omega)]; rfl
    · show x + 0 = x
      omega
  | r :: rs, e, last, x, h, he, h1, h2, h3 => by
    have hb : ¬ (r.f0 < e ∨ r.f0 > 65536 ∨ r.f1 < 0 ∨ r.f1 > 65536 ∨ r.f2 < 0 ∨ r.f2 > 65536) := fun hb => by rw [okL_bad hb] at h; cases h
    rw [okL_good hb] at h
    have := posEmpty_okL rs (r.f0 + r.f1) last x h he h1 h2 h3
    rw [List.cons_append, okL_good hb]
    exact this
theorem posEmpty_M (l : List S37) (p side : Int) (hp : 0 ≤ p ∧ p ≤ 65536) (ho : pos_Right.okL 0 l = true) (h4 : l.length ≤ 4) (hz : ∀ r ∈ l, r.f1 = 0 ∧ r.f2 = 0) : ∃ a b, M l p side = (p, false, a, b, 0) := by
  have hr : pos_Right.okB l = true := by unfold pos_Right.okB; rw [ho, decide_eq_true (by omega)]; rfl
  have hv := posEmpty_V l hz p side l.length 0 (by omega)
  have he := V_err l p side l.length 0
  rw [M_val hr hp.1 hp.2]
  refine ⟨(V l p side l.length 0).2.2.1, (V l p side l.length 0).2.2.2.1, ?_⟩
  exact Prod.ext hv.1 (Prod.ext hv.2 (Prod.ext rfl (Prod.ext rfl he)))
theorem posEmpty_l0 (xs : List Int) (hx : ∀ y ∈ xs, 0 ≤ y) (p side : Int) (hp : 0 ≤ p ∧ p ≤ 65536) (o : Int) (haw : ∀ k, 10 ≤ k → emenderlaw08_awake.f k = some true) :
    ∀ (m i k : Nat) (l : List S37) (last : Int), i + m = 4 → i ≤ xs.length → l.length = i → pos_Right.okL 0 l = true → posEmpty_end 0 l = last → 0 ≤ last ∧ last ≤ 100 * i → (∀ r ∈ l, r.f1 = 0 ∧ r.f2 = 0) → m + 20 ≤ k →
      emenderlaw08_PosEmpty.l0 k xs p side l last (i : Int) p false (-1) o = some true
  | m, i, 0, _, _, _, _, _, _, _, _, _, h => by omega
  | m, i, k + 1, l, last, hm, hi, hl, ho, he, hb, hz, hk => by
    obtain ⟨a, b, hM⟩ := posEmpty_M l p side hp ho (by omega) hz
    have hf : pos_Map.f k l p side = some (p, false, a, b, 0) := by rw [map_f l (by omega) p side k (by omega), hM]
    have hk2 := haw k (by omega)
    unfold emenderlaw08_PosEmpty.l0
    by_cases c1 : i < xs.length
    · by_cases c2 : i < 4
      · obtain ⟨m, rfl⟩ : ∃ m', m = m' + 1 := ⟨m - 1, by omega⟩
        have hy : 0 ≤ rd xs (i : Int) := by
          have e : rd xs (i : Int) = xs[i] := by simp [rd, List.getD_eq_getElem?_getD, List.getElem?_eq_getElem c1]
          rw [e]
          exact hx _ (List.getElem_mem c1)
        have t0 : 0 ≤ Int.tmod (rd xs (i : Int)) 100 := Int.tmod_nonneg _ hy
        have t1 : Int.tmod (rd xs (i : Int)) 100 < 100 := Int.tmod_lt_of_pos _ (by decide)
        rw [if_pos (by omega), if_pos (by omega), if_pos (by omega), if_pos (by omega), w64 (i := Int.tmod (rd xs (i : Int)) 100) (by omega), w64 (i := last + Int.tmod (rd xs (i : Int)) 100) (by omega), w64 (i := (i : Int) + 1) (by omega)]
        generalize Int.tmod (rd xs (i : Int)) 100 = t at *
        have hn := posEmpty_okL l 0 last (last + t) ho he (by omega) (by omega) (by omega)
        exact posEmpty_l0 xs hx p side hp o haw m (i + 1) k (l ++ [⟨last + t, 0, 0⟩]) (last + t) (by omega) c1 (by simp [hl]) hn.1 hn.2 (by omega) (fun r hr => by
          rcases List.mem_append.1 hr with h | h
          · exact hz r h
          · rw [List.mem_singleton.1 h]; exact ⟨rfl, rfl⟩) (by omega)
      · rw [if_pos (by omega), if_neg (by omega)]
        simp [hf, hk2]
    · rw [if_neg (by omega)]
      simp [hf, hk2]
theorem PosEmpty : emenderlaw08_PosEmpty.PureG := by
  intro xs p side hl hx _ _
  refine ⟨100, ?_⟩
  have haw : ∀ k, 10 ≤ k → emenderlaw08_awake.f k = some true := by
    intro k hk
    unfold emenderlaw08_awake.f
    rw [map_f _ (by decide) 5 1 _ (by simp only [List.length_cons, List.length_nil]; omega), Option.bind_some]
    have e : M [(⟨1, 0, 2⟩ : S37)] 5 1 = (7, false, -1, 0, 0) := by decide
    rw [e]
    rfl
  have hx' : ∀ y ∈ xs, 0 ≤ y := by
    intro y hy
    have := hx y hy
    simp [Lit.wf, IntKind.min, IntKind.max, IntKind.signed, IntKind.bits] at this
    omega
  unfold emenderlaw08_PosEmpty.f
  rw [map_f [] (by decide) p side 100 (by decide), Option.bind_some]
  by_cases c : (M ([] : List S37) p side).2.2.2.2 = 0
  · rw [if_pos c]
    obtain ⟨hr, h0, h1⟩ := M_ok c
    have e : M ([] : List S37) p side = (p, false, -1, 0, 0) := by
      rw [M_val hr h0 h1]
      show (p + 0, false, (-1 : Int), (0 : Int), (0 : Int)) = _
      rw [Int.add_zero]
    rw [e]
    exact posEmpty_l0 xs hx' p side ⟨h0, h1⟩ 0 haw 4 0 100 [] 0 (by omega) (by omega) rfl rfl rfl (by omega) (by simp) (by omega)
  · rw [if_neg c]
    have e : (M ([] : List S37) p side).1 = 0 ∧ (M ([] : List S37) p side).2.1 = false := by
      unfold M at *
      split at c
      · rename_i hr
        rw [if_pos hr]
        split at c
        · rename_i h; rw [if_pos h]; exact ⟨rfl, rfl⟩
        · rename_i h
          rw [if_neg h]
          split at c
          · rename_i h2; rw [if_pos h2]; exact ⟨rfl, rfl⟩
          · exact absurd (V_err _ _ _ _ _) c
      · rename_i hr; rw [if_neg hr]; exact ⟨rfl, rfl⟩
    rw [if_pos e.1, e.2, if_neg (by simp), haw 100 (by decide)]
    rfl

end Go.Proofs.Ytcoolajjjnkfpaa.Pure
