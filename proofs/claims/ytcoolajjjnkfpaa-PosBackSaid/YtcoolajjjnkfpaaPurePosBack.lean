/- PosBack: a place that is in no range comes back through the map turned round; a map turned round twice is itself; for every map and place. -/
import Derived.Test.YtcoolajjjnkfpaaGPosBack
import Derived.Test.YtcoolajjjnkfpaaPosDb
import Derived.Test.YtcoolajjjnkfpaaPosEb
namespace Go.Proofs.Ytcoolajjjnkfpaa.Pure
open Go.RowKit Go.Proofs.YtcoolajjjnkfpaaW.PrintWords Go.Proofs.YtcoolajjjnkfpaaW.PrintMore
open Go.Proofs.Ytcoolajjjnkfpaa Go.Proofs.Ytcoolajjjnkfpaa.PPb Go.Proofs.Ytcoolajjjnkfpaa.PosA Go.Proofs.Ytcoolajjjnkfpaa.PosB Go.Proofs.Ytcoolajjjnkfpaa.PosD Go.Proofs.Ytcoolajjjnkfpaa.PosE

theorem posBack_out (l : List S37) (p side : Int) (ho : ∀ j : Nat, j < l.length → p < (rd_T37 l (j : Int)).f0 ∨ (rd_T37 l (j : Int)).f0 + (rd_T37 l (j : Int)).f1 < p) : ∀ (m i : Nat), i + m = l.length → ∃ n, i ≤ n ∧ n ≤ l.length ∧ V l p side m i = (p + pos_each.sh l n, false, -1, 0, 0) ∧ (∀ j : Nat, i ≤ j → j < n → (rd_T37 l (j : Int)).f0 + (rd_T37 l (j : Int)).f1 < p) ∧ (n < l.length → p < (rd_T37 l (n : Int)).f0)
  | 0, i, h => ⟨i, Nat.le_refl _, by omega, rfl, fun j h1 h2 => by omega, fun h => by omega⟩
  | m + 1, i, h => by
    have hi : i < l.length := by omega
    unfold V
    by_cases c1 : p < (rd_T37 l (i : Int)).f0
    · rw [if_pos c1]
      exact ⟨i, Nat.le_refl _, by omega, rfl, fun j h1 h2 => by omega, fun _ => c1⟩
    rw [if_neg c1]
    have c2 := (ho i hi).resolve_left c1
    rw [if_neg (by omega)]
    obtain ⟨n, h1, h2, h3, h4, h5⟩ := posBack_out l p side ho m (i + 1) (by omega)
    refine ⟨n, by omega, h2, h3, fun j hj1 hj2 => ?_, h5⟩
    by_cases e : j = i
    · subst e; exact c2
    · exact h4 j (by omega) hj2
theorem posBack_at (l : List S37) (hok : pos_each.Ok l) (q side : Int) (n : Nat) (hn : n ≤ l.length) (h1 : ∀ j : Nat, j < n → (rd_T37 l (j : Int)).f0 + (rd_T37 l (j : Int)).f1 < q) (h2 : n < l.length → q < (rd_T37 l (n : Int)).f0) : ∀ (m i : Nat), i + m = l.length → i ≤ n → V l q side m i = (q + pos_each.sh l n, false, -1, 0, 0)
  | 0, i, h, hin => by
    obtain rfl : i = n := by omega
    rfl
  | m + 1, i, h, hin => by
    have hi : i < l.length := by omega
    have hg := hok.get (i : Int) (by omega)
    unfold V
    by_cases e : i = n
    · subst e
      rw [if_pos (h2 hi)]
    · have := h1 i (by omega)
      rw [if_neg (by omega), if_neg (by omega)]
      exact posBack_at l hok q side n hn h1 h2 m (i + 1) (by omega) (by omega)
theorem posBack_l0 (l back : List S37) (p side s1 : Int) (s2 : Bool) (s3 s4 : Int) (hok : pos_each.Ok l) (R : Nat → Prop) (haw : ∀ k, 10 ≤ k → emenderlaw08_awake.f k = some true)
    (hend : ∀ k i : Nat, 30 ≤ k → i = l.length → (∀ j : Nat, j < l.length → p < (rd_T37 l (j : Int)).f0 ∨ (rd_T37 l (j : Int)).f0 + (rd_T37 l (j : Int)).f1 < p) → emenderlaw08_PosBack.l0 (k + 1) l p side back (i : Int) s1 s2 s3 s4 = some true) :
    ∀ (m i k : Nat), i + m = l.length → 31 + m ≤ k → (∀ j : Nat, j < i → p < (rd_T37 l (j : Int)).f0 ∨ (rd_T37 l (j : Int)).f0 + (rd_T37 l (j : Int)).f1 < p) → emenderlaw08_PosBack.l0 k l p side back (i : Int) s1 s2 s3 s4 = some true
  | 0, i, k, h, hk, ho => by
    obtain ⟨k, rfl⟩ : ∃ k', k = k' + 1 := ⟨k - 1, by omega⟩
    exact hend k i (by omega) (by omega) (fun j hj => ho j (by omega))
  | m + 1, i, k, h, hk, ho => by
    obtain ⟨k, rfl⟩ : ∃ k', k = k' + 1 := ⟨k - 1, by omega⟩
    have hi : i < l.length := by omega
    have hg := hok.get (i : Int) (by omega)
    have h4 := hok.1
    have step : (p < (rd_T37 l (i : Int)).f0 ∨ (rd_T37 l (i : Int)).f0 + (rd_T37 l (i : Int)).f1 < p) → emenderlaw08_PosBack.l0 k l p side back ((i + 1 : Nat) : Int) s1 s2 s3 s4 = some true := fun hp =>
      posBack_l0 l back p side s1 s2 s3 s4 hok R haw hend m (i + 1) k (by omega) (by omega) (fun j hj => by
        by_cases e : j = i
        · subst e; exact hp
        · exact ho j (by omega))
    unfold emenderlaw08_PosBack.l0
    rw [if_pos (by omega), if_pos (by omega), w64 (i := (rd_T37 l (i : Int)).f0 + _) (by omega), w64 (i := (i : Int) + 1) (by omega)]
    by_cases c1 : p ≥ (rd_T37 l (i : Int)).f0
    · rw [if_pos c1]
      by_cases c2 : p ≤ (rd_T37 l (i : Int)).f0 + (rd_T37 l (i : Int)).f1
      · rw [if_pos c2, haw k (by omega)]
        rfl
      · rw [if_neg c2]
        exact step (.inr (by omega))
    · rw [if_neg c1]
      exact step (.inl (by omega))
theorem PosBack : emenderlaw08_PosBack.Pure := by
  intro l p side hl _ _ _
  refine ⟨l.length + 100, ?_⟩
  have hs : l.length ≤ 4611686018427387904 := by omega
  have haw : ∀ k, 10 ≤ k → emenderlaw08_awake.f k = some true := by
    intro k hk
    unfold emenderlaw08_awake.f
    rw [map_f _ (by decide) 5 1 _ (by simp only [List.length_cons, List.length_nil]; omega), Option.bind_some]
    have e : M [(⟨1, 0, 2⟩ : S37)] 5 1 = (7, false, -1, 0, 0) := by decide
    rw [e]
    rfl
  have hj : ∀ (x9 : List S37) (a : Int) (b : Bool) (c d : Int), emenderlaw08_PosBack.j0 (l.length + 100) l p side x9 true a b c d = some true := by
    intro x9 a b c d
    rw [show emenderlaw08_PosBack.j0 (l.length + 100) = emenderlaw08_PosBack.j0 ((l.length + 99) + 1) from rfl, emenderlaw08_PosBack.j0, if_pos rfl, haw _ (by omega)]
    rfl
  unfold emenderlaw08_PosBack.f
  rw [map_f l hs p side _ (by omega), invert_f l hs _ (by omega), Option.bind_some, Option.bind_some]
  by_cases c1 : (M l p side).2.2.2.2 = 0
  · rw [if_pos c1]
    by_cases c2 : (I l).2 = 0
    · rw [if_pos c2]
      by_cases c3 : (M l p side).1 > 65536
      · rw [decide_eq_true c3, hj]
      rw [decide_eq_false c3]
      rw [show emenderlaw08_PosBack.j0 (l.length + 100) = emenderlaw08_PosBack.j0 ((l.length + 99) + 1) from rfl, emenderlaw08_PosBack.j0, if_neg (by simp)]
      obtain ⟨hr, h0, h1⟩ := M_ok c1
      have hok := pos_Right.ok_of hr
      have h4 := hok.1
      have hrT : pos_Right.okB (T l) = true := by
        unfold I at c2
        rw [if_pos hr] at c2
        by_cases c : pos_Right.okB (T l) = true
        · exact c
        · rw [if_neg c] at c2
          cases c2
      have hIl : I l = (T l, 0) := by unfold I; rw [if_pos hr, if_pos hrT]
      have hIT : I (T l) = (l, 0) := by unfold I; rw [T_T, if_pos hrT, if_pos hr]
      have hokT := pos_Right.ok_of hrT
      have hsT : pos_Right.okL 0 (T l) = true := by unfold pos_Right.okB at hrT; simp at hrT; exact hrT.1
      rw [hIl, M_val hr h0 h1]
      rw [M_val hr h0 h1] at c3
      refine posBack_l0 l (T l) p side _ _ _ _ hok (fun _ => True) haw ?_ l.length 0 _ (by omega) (by omega) (fun j hj => by omega)
      intro k i hk hi ho
      subst hi
      obtain ⟨n, _, hn, hV, hlt, hge⟩ := posBack_out l p side ho l.length 0 (by omega)
      rw [hV] at c3 ⊢
      dsimp only at c3 ⊢
      have hbn := pos_each.sh_bound hok n hn
      -- the place behind the change lies where it lay
      have g1 : ∀ j : Nat, j < n → (rd_T37 (T l) (j : Int)).f0 + (rd_T37 (T l) (j : Int)).f1 < p + pos_each.sh l n := by
        intro j hj
        have hend : ∀ j : Nat, j < l.length → (rd_T37 (T l) (j : Int)).f0 + (rd_T37 (T l) (j : Int)).f1 = (rd_T37 l (j : Int)).f0 + (rd_T37 l (j : Int)).f1 + pos_each.sh l (j + 1) := fun j hj => by
          have h2 := pos_each.sh_succ l (j : Int) (by omega)
          rw [Int.toNat_natCast] at h2
          rw [T_get l j hj, h2]
          unfold pos_each.beg
          dsimp only
          omega
        have hl1 := hend (n - 1) (by omega)
        rw [show n - 1 + 1 = n by omega] at hl1
        have hp := hlt (n - 1) (by omega) (by omega)
        by_cases e : j = n - 1
        · rw [e]; omega
        · have hgT := hokT.get ((n - 1 : Nat) : Int) (by rw [T_length]; omega)
          have := (sorted (T l) 0 hsT j (by rw [T_length]; omega)).2 (n - 1) (by rw [T_length]; omega) (by omega)
          rw [← rd_get (T l) j (by rw [T_length]; omega), ← rd_get (T l) (n - 1) (by rw [T_length]; omega)] at this
          omega
      have g2 : n < (T l).length → p + pos_each.sh l n < (rd_T37 (T l) (n : Int)).f0 := by
        intro h
        rw [T_length] at h
        have := hge h
        rw [T_get l n h]
        unfold pos_each.beg
        dsimp only
        omega
      have hq0 : 0 ≤ p + pos_each.sh l n := by
        by_cases e : n = 0
        · subst e; rw [pos_each.sh_zero]; omega
        · have := g1 (n - 1) (by omega)
          have hg := hokT.get ((n - 1 : Nat) : Int) (by rw [T_length]; omega)
          omega
      have hVT := posBack_at (T l) hokT (p + pos_each.sh l n) side n (by rw [T_length]; exact hn) g1 g2 (T l).length 0 (by omega) (by omega)
      unfold emenderlaw08_PosBack.l0
      rw [if_neg (by omega), map_f (T l) (by rw [T_length]; exact hs) _ side k (by rw [T_length]; omega), invert_f (T l) (by rw [T_length]; exact hs) k (by rw [T_length]; omega), Option.bind_some, Option.bind_some, hIT, M_val hrT hq0 (by omega), hVT, sh_T l n hn]
      dsimp only
      rw [if_pos rfl, if_pos (by omega), if_neg (by simp), if_pos rfl, if_pos rfl, ranges_f l hs k (by omega), Option.bind_some, if_pos rfl, haw k (by omega)]
      rfl
    · rw [if_neg c2, hj]
  · rw [if_neg c1, hj]

end Go.Proofs.Ytcoolajjjnkfpaa.Pure
