/- PosAdds: maps, one behind the other, without mirrors, send a place where each sends it, one by one; for all maps, places and sides. -/
import Derived.Test.YtcoolajjjnkfpaaGPosAdds
import Derived.Test.YtcoolajjjnkfpaaPosBd
namespace Go.Proofs.Ytcoolajjjnkfpaa.Pure
open Go.RowKit Go.Proofs.YtcoolajjjnkfpaaW.PrintWords Go.Proofs.YtcoolajjjnkfpaaW.PrintMore
open Go.Proofs.Ytcoolajjjnkfpaa Go.Proofs.Ytcoolajjjnkfpaa.PPd Go.Proofs.Ytcoolajjjnkfpaa.PosA Go.Proofs.Ytcoolajjjnkfpaa.PosB

theorem adds_rd {l : List (List S37)} {i : Int} (h0 : 0 ≤ i) (h1 : i < (l.length : Int)) : rd_L2 l i ∈ l := by
  unfold rd_L2
  rw [List.getD_eq_getElem?_getD, List.getElem?_eq_getElem (show i.toNat < l.length by omega)]
  exact List.getElem_mem _
theorem adds_one {l : List (List S37)} {i n : Int} (h0 : 0 ≤ i) (h1 : i < n) (h2 : n ≤ (l.length : Int)) : oneAt (emenderlaw08_PosAdds.maps l n) i = ⟨rd_L2 l i, -1⟩ := by
  unfold oneAt emenderlaw08_PosAdds.maps rd_L2
  rw [List.getD_eq_getElem?_getD, List.getD_eq_getElem?_getD, List.getElem?_map, List.getElem?_take, if_pos (by omega), List.getElem?_eq_getElem (show i.toNat < l.length by omega)]
  rfl
theorem adds_go (l : List (List S37)) (side : Int) (K : Nat) (hK : ∀ y ∈ l, y.length + 2 ≤ K) : ∀ (f : Nat) (i x : Int) (gone : Bool), 0 ≤ i → i ≤ 40 → i ≤ (l.length : Int) → 41 ≤ i + f →
    ∃ z, emenderlaw08_PosAdds.go K l side f i x gone = some z ∧ ∀ x' gone' n, z = some (x', gone', n) → i ≤ n ∧ n ≤ 40 ∧ n ≤ (l.length : Int) ∧ ∀ g : Nat, n < i + g → pos_MMap.l K (emenderlaw08_PosAdds.maps l n) side g i x gone = if x' > 65536 then some (0, false, 0, 0, 1) else some (x', gone', -1, 0, 0)
  | 0, i, x, gone, _, h40, _, h => by omega
  | f + 1, i, x, gone, h0, h40, hl, hf => by
    rw [emenderlaw08_PosAdds.go]
    by_cases c : i < (l.length : Int) ∧ i < 40
    · rw [if_pos c]
      by_cases cm : (rd_L2 l i).length ≤ 9223372036854775807
      · have hy := hK _ (adds_rd h0 c.1)
        rw [if_pos cm, right_f _ cm K hy, Option.bind_some]
        by_cases cr : pos_Right.okB (rd_L2 l i) = true
        · have c4 : (rd_L2 l i).length ≤ 4 := by
            have := pos_Right.l0_true K _ _ _ _ _ ((right_f _ cm K hy).trans (by rw [cr]))
            omega
          rw [if_pos cr, if_pos c4, map_f _ cm x side K hy, Option.bind_some]
          by_cases ce : (M (rd_L2 l i) x side).2.2.2.2 = 0
          · rw [if_pos ce]
            obtain ⟨z, hz, hs⟩ := adds_go l side K hK f (i + 1) (M (rd_L2 l i) x side).1 (gone || (M (rd_L2 l i) x side).2.1) (by omega) (by omega) (by omega) (by omega)
            refine ⟨z, hz, fun x' gone' n e => ?_⟩
            obtain ⟨a1, a2, a3, a4⟩ := hs x' gone' n e
            refine ⟨by omega, a2, a3, fun g hg => ?_⟩
            obtain ⟨g', rfl⟩ : ∃ g', g = g' + 1 := ⟨g - 1, by omega⟩
            rw [pos_MMap.l, if_pos (by rw [emenderlaw08_PosAdds.maps_len l n (by omega) a3]; omega), adds_one h0 (by omega) a3]
            dsimp only
            rw [map_f _ cm x side K hy, Option.bind_some, if_pos ce, if_neg, a4 g' (by omega)]
            unfold pos_MMap.mir
            rw [adds_one h0 (by omega) a3]
            simp only [Bool.and_eq_true, decide_eq_true_eq]
            omega
          · rw [if_neg ce]
            exact ⟨none, rfl, fun _ _ _ e => by cases e⟩
        · rw [if_neg cr]
          exact ⟨none, rfl, fun _ _ _ e => by cases e⟩
      · rw [if_neg cm]
        exact ⟨none, rfl, fun _ _ _ e => by cases e⟩
    · rw [if_neg c]
      refine ⟨_, rfl, fun x' gone' n e => ?_⟩
      injection e with e
      simp only [Prod.mk.injEq] at e
      obtain ⟨rfl, rfl, rfl⟩ := e
      refine ⟨Int.le_refl _, h40, hl, fun g hg => ?_⟩
      obtain ⟨g', rfl⟩ : ∃ g', g = g' + 1 := ⟨g - 1, by omega⟩
      rw [pos_MMap.l, if_neg (by rw [emenderlaw08_PosAdds.maps_len l _ h0 hl]; omega)]

theorem adds_sum (l : List (List S37)) : ∀ y ∈ l, y.length ≤ (l.map List.length).sum := by
  induction l with
  | nil => intro y hy; cases hy
  | cons a r ih =>
    intro y hy
    rw [List.map_cons, List.sum_cons]
    rcases List.mem_cons.1 hy with rfl | h
    · omega
    · have := ih y h; omega
theorem awake_true (k : Nat) (h : 10 ≤ k) : emenderlaw08_awake.f k = some true := by
  unfold emenderlaw08_awake.f
  rw [map_f _ (by decide) 5 1 _ (by simp; omega), Option.bind_some]
  have e : M [(⟨1, 0, 2⟩ : S37)] 5 1 = (7, false, -1, 0, 0) := by decide
  rw [e]
  rfl
theorem PosAdds : emenderlaw08_PosAdds.Pure := by
  intro l p side _ _ _ _
  refine ⟨(l.map List.length).sum + 100, ?_⟩
  generalize hk : (l.map List.length).sum + 100 = K
  have hK : ∀ y ∈ l, y.length + 2 ≤ K := fun y hy => by have := adds_sum l y hy; omega
  obtain ⟨z, hz, hs⟩ := adds_go l side K hK 41 0 p false (by omega) (by omega) (by omega) (by omega)
  unfold emenderlaw08_PosAdds.f
  rw [awake_true K (by omega), Option.bind_some, hz, Option.bind_some]
  cases z with
  | none => rfl
  | some t =>
    obtain ⟨x', gone', n⟩ := t
    obtain ⟨a1, a2, a3, a4⟩ := hs x' gone' n rfl
    simp only [emenderlaw08_PosAdds.fin]
    unfold pos_MMap.f
    have hl := emenderlaw08_PosAdds.maps_len l n a1 a3
    by_cases cb : pos_MMap.bad (emenderlaw08_PosAdds.maps l n) 0 p = true
    · rw [if_pos cb, Option.bind_some]
      unfold pos_MMap.bad at cb
      simp only [Bool.or_eq_true, decide_eq_true_eq] at cb
      rw [if_neg (by decide), if_pos (by omega)]
    · rw [if_neg cb, a4 _ (by omega)]
      by_cases cx : x' > 65536
      · rw [if_pos cx, Option.bind_some, if_neg (by decide), if_pos (by omega)]
      · rw [if_neg cx, Option.bind_some, if_pos rfl, if_pos ⟨rfl, rfl, rfl⟩]

end Go.Proofs.Ytcoolajjjnkfpaa.Pure
