/- FlatDeep: a place is one deeper behind a TOpen, one less deep behind a TClose that ends something, as deep else; for all tokens. -/
import Derived.Test.YtamgpedfhcalpaaGFlatDeep
import Derived.Test.YtamgpedfhcalpaaFlatB
namespace Go.Proofs.Ytamgpedfhcalpaa.Pure
open Go.RowKit Go.Proofs.YtamgpedfhcalpaaW.PrintWords Go.Proofs.YtamgpedfhcalpaaW.PrintMore
open Go.Proofs.Ytamgpedfhcalpaa Go.Proofs.Ytamgpedfhcalpaa.PFl Go.Proofs.Ytamgpedfhcalpaa.FlatA Go.Proofs.Ytamgpedfhcalpaa.FlatB

set_option linter.unusedSimpArgs false
theorem deep_loop (l : List S23) (hl : l.length < 17592186044416) : ∀ (d k : Nat) (i : Int), 0 ≤ i → i + d = l.length → 3 * d + l.length + 5 < k → emenderlaw04_FlatDeep.l0 k l i = some true := by
  intro d
  induction d with
  | zero =>
    intro k i h0 h1 hk
    obtain ⟨k, rfl⟩ : ∃ m, k = m + 1 := ⟨k - 1, by omega⟩
    simp only [emenderlaw04_FlatDeep.l0]
    rw [if_neg (by omega), awake_true]
    rfl
  | succ d ih =>
    intro k i h0 h1 hk
    obtain ⟨k, rfl⟩ : ∃ m, k = m + 3 := ⟨k - 3, by omega⟩
    have hlt : i.toNat < l.length := by omega
    have hlt' : i < (l.length : Int) := by omega
    have hw : wrap64 (i + 1) = i + 1 := w64 (by omega) (by omega)
    have hsl := stackAt_length l i
    have hw1 : wrap64 (((stackAt l i).length : Int) + 1) = ((stackAt l i).length : Int) + 1 := w64 (by omega) (by omega)
    have hw2 : wrap64 (((stackAt l i).length : Int) - 1) = ((stackAt l i).length : Int) - 1 := w64 (by omega) (by omega)
    have hs := stackAt_succ l i h0 hlt
    have last : ∀ x5 : Int, x5 = ((stackAt l (i + 1)).length : Int) → emenderlaw04_FlatDeep.j2 (k + 1) l i ((stackAt l i).length : Int) x5 = some true := by
      intro x5 h5
      simp only [emenderlaw04_FlatDeep.j2]
      rw [hw, flat_deep l hl (i + 1) k (by omega), Option.bind_some, if_pos h5.symm, flat_around l hl i k (by omega), Option.bind_some, if_neg, ih k (i + 1) (by omega) (by omega) (by omega)]
      have := top_neg l i
      by_cases e : stackAt l i = []
      · have t := this.2 e
        simp [e, decide_eq_true t, top]
      · have t : ¬ top (stackAt l i) < 0 := fun h => e (this.1 h)
        have : (stackAt l i).length ≠ 0 := fun h => e (List.eq_nil_of_length_eq_zero h)
        simp [decide_eq_false t, e] <;> omega
    simp only [emenderlaw04_FlatDeep.l0]
    rw [if_pos hlt', flat_deep l hl i (k + 2) (by omega), Option.bind_some, if_pos h0]
    simp only [emenderlaw04_FlatDeep.j1]
    simp only [rd_get l i hlt, if_pos h0, if_pos hlt', hw1, hw2]
    unfold upd at hs
    by_cases k1 : l[i.toNat].f0 = 1
    · have k2 : ¬ l[i.toNat].f0 = 2 := by omega
      simp only [if_pos k1, if_neg k2]
      rw [if_pos k1] at hs
      exact last _ (by rw [hs]; simp)
    · simp only [if_neg k1]
      rw [if_neg k1] at hs
      by_cases k2 : l[i.toNat].f0 = 2
      · simp only [if_pos k2]
        rw [if_pos k2] at hs
        exact last _ (by rw [hs, List.length_dropLast]; unfold mx; split <;> omega)
      · simp only [if_neg k2]
        rw [if_neg k2] at hs
        exact last _ (by rw [hs])
theorem FlatDeep : emenderlaw04_FlatDeep.Pure := by
  intro l hl _
  have hl' : l.length < 17592186044416 := by omega
  refine ⟨4 * l.length + 6, ?_⟩
  unfold emenderlaw04_FlatDeep.f
  rw [flat_deep l hl' 0 _ (by omega), Option.bind_some, stackAt_zero, if_pos (by simp)]
  exact deep_loop l hl' l.length _ 0 (by omega) (by omega) (by omega)
end Go.Proofs.Ytamgpedfhcalpaa.Pure
