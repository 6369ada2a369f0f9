-- Written for this claim by a program (the kit's print, with hand-made contracts for what it does not take).
import Derived.Test.YtgafgkojbbndmaaPAsx0
import Derived.Test.YtgafgkojbbndmaaPAsx1
import Derived.Test.YtgafgkojbbndmaaPAsx2
namespace Go.Proofs.Ytgafgkojbbndmaa.PAs
open Go.RowKit Go.Proofs.YtgafgkojbbndmaaW.PrintWords Go.Proofs.YtgafgkojbbndmaaW.PrintLast Go.Proofs.YtgafgkojbbndmaaW.PrintMore
attribute [local go_sem] max2_int min2_int max_two min_two max_three min_three max_four min_four   -- for this text's walks alone
set_option linter.unusedVariables false
set_option linter.unusedSimpArgs false

/-! ### emenderlaw25_awake: function 10 -/
/-! ### Awake -/
def emenderlaw25_awake.f : Option Bool := some true
theorem anc_awake.calls (w : World) : Calls Try.prog 10 #[] w fun e w' => e = .returned (.bool true) ∧ Below w.heap.size w w' := by
  go_enter Try.func10, Try.ntmps10
  go_wp2_with fail
  refine (anc_New.calls w).mono ?_
  rintro e w1 ⟨b, rfl, hm, hb⟩
  have HM := Aside0.mk hm
  have HB := Aside0.mk hb
  clear hm hb
  go_wp2_with fail
  refine (anc_Add.calls w.heap.size b [] ⟨1, 0, 2⟩ w w1 HM.out HB.out (below_size HB.out) (by decide)).mono ?_
  rintro e w2 ⟨rfl, hm2, hb2, _⟩
  have he : anc_Add.e [] ⟨1, 0, 2⟩ = 0 := by decide
  rw [he]
  have hl : anc_Add.l [] ⟨1, 0, 2⟩ = [⟨1, 0, 2⟩] := by unfold anc_Add.l; rw [he, if_pos rfl]; rfl
  rw [hl] at hm2
  have HM2 := Aside0.mk hm2
  have HB2 := Aside0.mk hb2
  clear hm2 hb2 he hl HM HB
  go_wp2_with fail
  refine (anc_List.calls w.heap.size b [⟨1, 0, 2⟩] w2 HM2.out).mono ?_
  rintro e w3 ⟨v, rfl, hrow, hb3⟩
  obtain ⟨A, c, rfl, hc, KC⟩ := Kd.R_reads hrow
  have el : (anc_sort [⟨1, 0, 2⟩]).length = 1 := by unfold anc_sort; exact List.length_mergeSort _
  rw [el]
  have HB3 := Aside0.mk (below_then HB2.out (below_size HB2.out) hb3)
  clear hrow hb3 hc KC el HM2 HB2
  go_wp2
  go_ret
  exact ⟨rfl, HB3.out⟩

end Go.Proofs.Ytgafgkojbbndmaa.PAs
