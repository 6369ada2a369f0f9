/- FlatText: the text of tokens is that of their parts, one behind the other, wherever they are cut; for all tokens and places. -/
import Derived.Test.YtamgpedfhcalpaaGFlatText
import Derived.Test.YtamgpedfhcalpaaFlatDm
namespace Go.Proofs.Ytamgpedfhcalpaa.Pure
open Go.RowKit Go.Proofs.YtamgpedfhcalpaaW.PrintWords Go.Proofs.YtamgpedfhcalpaaW.PrintMore
open Go.Proofs.Ytamgpedfhcalpaa Go.Proofs.Ytamgpedfhcalpaa.PFm Go.Proofs.Ytamgpedfhcalpaa.FlatA Go.Proofs.Ytamgpedfhcalpaa.FlatB Go.Proofs.Ytamgpedfhcalpaa.FlatD

theorem FlatText : emenderlaw04_FlatText.Pure := by
  intro l a hl _ ha
  have ha2 : 0 ≤ a ∧ a ≤ 65535 := by
    simp [Lit.wf, IntKind.min, IntKind.max, IntKind.signed, IntKind.bits] at ha
    omega
  have w1 : wrap64 ((l.length : Int) + 1) = (l.length : Int) + 1 := w64 (by omega) (by omega)
  have w2 : wrap64 a = a := w64 (by omega) (by omega)
  have hk0 : 0 ≤ Int.tmod a ((l.length : Int) + 1) := Int.tmod_nonneg _ ha2.1
  have hk1 : Int.tmod a ((l.length : Int) + 1) < (l.length : Int) + 1 := Int.tmod_lt_of_pos _ (by omega)
  have w3 : wrap64 ((l.length : Int) - Int.tmod a ((l.length : Int) + 1)) = (l.length : Int) - Int.tmod a ((l.length : Int) + 1) := w64 (by omega) (by omega)
  refine ⟨l.length + 1, ?_⟩
  unfold emenderlaw04_FlatText.f
  rw [w1, w2, if_neg (by omega)]
  generalize hj : Int.tmod a ((l.length : Int) + 1) = j at *
  have c1 : cutS l 0 j = (l.take j.toNat, 0) := by
    unfold cutS
    rw [if_neg (by omega)]
    rfl
  have c2 : cutS l j l.length = (l.drop j.toNat, 0) := by
    unfold cutS
    rw [if_neg (by omega), Int.toNat_natCast, List.take_length]
  have h1 : (l.take j.toNat).length = j.toNat := by rw [List.length_take]; omega
  have h2 : (l.drop j.toNat).length = l.length - j.toNat := by rw [List.length_drop]
  have t1 := txt_length (l.take j.toNat)
  have t2 := txt_length (l.drop j.toNat)
  rw [flat_cut l (by omega), Option.bind_some, flat_cut l (by omega), Option.bind_some, c1, c2, if_pos rfl, if_pos rfl, if_pos (by simp only [h1]; omega), w3, if_pos (by simp only [h2]; omega), flat_text _ (by simp only [h1]; omega), Option.bind_some, flat_text _ (by simp only [h2]; omega), Option.bind_some,
    if_pos (by rw [str_size, str_size]; dsimp only; omega), flat_text l (by omega), Option.bind_some, str_append, ← txt_append, List.take_append_drop, if_pos rfl, Option.bind_some, if_pos (by simp only [h1]; simp; omega), Option.bind_some, List.nil_append, if_pos (by simp only [h1, h2]; omega), List.take_append_drop, flat_same l l (by omega) _ (by omega), sameL_refl, Option.bind_some, if_pos rfl, awake_true]
  rfl
end Go.Proofs.Ytamgpedfhcalpaa.Pure
