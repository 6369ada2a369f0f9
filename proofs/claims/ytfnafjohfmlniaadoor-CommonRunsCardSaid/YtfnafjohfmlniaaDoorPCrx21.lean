-- Written for this claim by a program (the kit's print, with hand-made contracts for what it does not take).
import Derived.Test.YtfnafjohfmlniaaDoorPCrx0
import Derived.Test.YtfnafjohfmlniaaDoorPCrx12
import Derived.Test.YtfnafjohfmlniaaDoorPCrx20
namespace Go.Proofs.YtfnafjohfmlniaaDoor.PCr
open Go.RowKit Go.Proofs.YtfnafjohfmlniaaDoorW.PrintWords Go.Proofs.YtfnafjohfmlniaaDoorW.PrintLast Go.Proofs.YtfnafjohfmlniaaDoorW.PrintMore
attribute [local go_sem] max2_int min2_int max_two min_two max_three min_three max_four min_four   -- for this text's walks alone
set_option linter.unusedVariables false
set_option linter.unusedSimpArgs false

/-! ### emenderlaw28_CommonRuns: function 4 -/
mutual
def emenderlaw28_CommonRuns.j0 : Nat → ByteArray → Bool → Option (Bool)
  | 0, _, _ => none
  | k + 1, x0, x17 => if x17 = true then ((emenderlaw28_awake.f).bind fun t132 => (some t132)) else ((common_Runs.f x0).bind fun bt133 => ((emenderref28_Runs.f x0).bind fun bt138 => (if (bt133.1.length : Int) = (bt138.1.length : Int) then (if bt133.2.1 = bt138.2.1 then (emenderlaw28_CommonRuns.j1 k bt133.1 bt138.1 (bt133.2.2 != bt138.2.2)) else (emenderlaw28_CommonRuns.j1 k bt133.1 bt138.1 true)) else (emenderlaw28_CommonRuns.j1 k bt133.1 bt138.1 true))))
def emenderlaw28_CommonRuns.j1 : Nat → List (S38) → List (S39) → Bool → Option (Bool)
  | 0, _, _, _ => none
  | k + 1, x3, x6, x45 => if x45 = true then (none) else (emenderlaw28_CommonRuns.l0 k x3 x6 0)
def emenderlaw28_CommonRuns.l0 : Nat → List (S38) → List (S39) → Int → Option (Bool)
  | 0, _, _, _ => none
  | k + 1, x3, x6, x9 => if x9 < (x3.length : Int) then (if 0 ≤ x9 then (if x9 < (x6.length : Int) then (if ((rd_T38 x3 x9).f0) = ((rd_T39 x6 x9).f0) then (if ((rd_T38 x3 x9).f1) = ((rd_T39 x6 x9).f1) then (if ((rd_T38 x3 x9).f2) = ((rd_T39 x6 x9).f2) then (if (((rd_T38 x3 x9).f3) != ((rd_T39 x6 x9).f3)) = true then (none) else (if (((rd_T38 x3 x9).f4) != ((rd_T39 x6 x9).f4)) = true then (none) else (emenderlaw28_CommonRuns.l0 k x3 x6 (wrap64 (x9 + 1))))) else (none)) else (none)) else (none)) else (none)) else (none)) else ((emenderlaw28_awake.f).bind fun t153 => (some t153))
end
def emenderlaw28_CommonRuns.f (k : Nat) (a0 : ByteArray) : Option (Bool) := if (a0.size : Int) > 600 then (emenderlaw28_CommonRuns.j0 k a0 (decide ((a0.size : Int) ≤ 4000))) else (emenderlaw28_CommonRuns.j0 k a0 false)
theorem emenderlaw28_CommonRuns.mono_l : ∀ k, (∀ y0 y1, LeO (emenderlaw28_CommonRuns.j0 k y0 y1) (emenderlaw28_CommonRuns.j0 (k + 1) y0 y1)) ∧ (∀ y0 y1 y2, LeO (emenderlaw28_CommonRuns.j1 k y0 y1 y2) (emenderlaw28_CommonRuns.j1 (k + 1) y0 y1 y2)) ∧ (∀ y0 y1 y2, LeO (emenderlaw28_CommonRuns.l0 k y0 y1 y2) (emenderlaw28_CommonRuns.l0 (k + 1) y0 y1 y2))
  | 0 => ⟨fun _ _ r h => by simp [emenderlaw28_CommonRuns.j0] at h, fun _ _ _ r h => by simp [emenderlaw28_CommonRuns.j1] at h, fun _ _ _ r h => by simp [emenderlaw28_CommonRuns.l0] at h⟩
  | k + 1 => by
    obtain ⟨ih0, ih1, ih2⟩ := emenderlaw28_CommonRuns.mono_l k
    refine ⟨?_, ?_, ?_⟩
    · intro y0 y1
      unfold emenderlaw28_CommonRuns.j0
      repeat' first
      | (with_reducible exact ih0 _ _)
      | (with_reducible exact ih1 _ _ _)
      | (with_reducible exact ih2 _ _ _)
      | (with_reducible exact LeO.refl _)
      | (with_reducible exact LeO.none _)
      | (with_reducible refine LeO.ite ?_ ?_)
      | (with_reducible refine LeO.bind ?_ (fun _ => ?_))
      | exact ih0 _ _
      | exact ih1 _ _ _
      | exact ih2 _ _ _
      | exact LeO.none _
      | refine LeO.ite ?_ ?_
      | refine LeO.bind ?_ (fun _ => ?_)
    · intro y0 y1 y2
      unfold emenderlaw28_CommonRuns.j1
      repeat' first
      | (with_reducible exact ih0 _ _)
      | (with_reducible exact ih1 _ _ _)
      | (with_reducible exact ih2 _ _ _)
      | (with_reducible exact LeO.refl _)
      | (with_reducible exact LeO.none _)
      | (with_reducible refine LeO.ite ?_ ?_)
      | (with_reducible refine LeO.bind ?_ (fun _ => ?_))
      | exact ih0 _ _
      | exact ih1 _ _ _
      | exact ih2 _ _ _
      | exact LeO.none _
      | refine LeO.ite ?_ ?_
      | refine LeO.bind ?_ (fun _ => ?_)
    · intro y0 y1 y2
      unfold emenderlaw28_CommonRuns.l0
      repeat' first
      | (with_reducible exact ih0 _ _)
      | (with_reducible exact ih1 _ _ _)
      | (with_reducible exact ih2 _ _ _)
      | (with_reducible exact LeO.refl _)
      | (with_reducible exact LeO.none _)
      | (with_reducible refine LeO.ite ?_ ?_)
      | (with_reducible refine LeO.bind ?_ (fun _ => ?_))
      | exact ih0 _ _
      | exact ih1 _ _ _
      | exact ih2 _ _ _
      | exact LeO.none _
      | refine LeO.ite ?_ ?_
      | refine LeO.bind ?_ (fun _ => ?_)
theorem emenderlaw28_CommonRuns.mono : ∀ a0 k, LeO (emenderlaw28_CommonRuns.f k a0) (emenderlaw28_CommonRuns.f (k + 1) a0) := by
  intro a0 k
  obtain ⟨ih0, ih1, ih2⟩ := emenderlaw28_CommonRuns.mono_l k
  unfold emenderlaw28_CommonRuns.f
  repeat' first
      | (with_reducible exact ih0 _ _)
      | (with_reducible exact ih1 _ _ _)
      | (with_reducible exact ih2 _ _ _)
      | (with_reducible exact LeO.refl _)
      | (with_reducible exact LeO.none _)
      | (with_reducible refine LeO.ite ?_ ?_)
      | (with_reducible refine LeO.bind ?_ (fun _ => ?_))
      | exact ih0 _ _
      | exact ih1 _ _ _
      | exact ih2 _ _ _
      | exact LeO.none _
      | refine LeO.ite ?_ ?_
      | refine LeO.bind ?_ (fun _ => ?_)
set_option maxHeartbeats 8000000 in
set_option maxRecDepth 100000 in
theorem emenderlaw28_CommonRuns.calls (k : Nat) (a0 : ByteArray) (r : Bool) (w : World) (HT_ : Aside0 (Lib.Utf8Tabs 0 1 w)) (h : emenderlaw28_CommonRuns.f k a0 = some r) :
    Calls Tryd.prog 4 #[.string a0] w fun e w' => e = .returned (.bool r) ∧ Below w.heap.size w w' := by
  have HU8_ := HT_
  have HB := Aside0.mk (Below.refl w.heap.size w)
  have H : (if (a0.size : Int) > 600 then (emenderlaw28_CommonRuns.j0 k a0 (decide ((a0.size : Int) ≤ 4000))) else (emenderlaw28_CommonRuns.j0 k a0 false)) = some r := h
  clear h
  have HC2 := Aside0.mk H
  clear H
  go_enter Tryd.func4, Tryd.ntmps4
  go_upto_region 1 with (fail)
  repeat (go_quiet (fail); go_upto_region 1 with (fail))
  go_cut [17] (fun v17 wc => ∃ (kq : Nat) (x17_1 : Bool), v17 = .bool x17_1 ∧ Aside0 (emenderlaw28_CommonRuns.j0 kq a0 x17_1 = some r) ∧ Aside0 (kq ≤ k) ∧ Aside0 (Below w.heap.size w wc))
  case first =>
    have H := HC2.out
    clear HC2
    by_cases c3 : (a0.size : Int) > 600
    · rw [if_pos c3] at H
      have c3b0 : decide (600 < (a0.size : Int)) = true := decide_eq_true c3
      have c3b1 : decide (600 < a0.size) = true := decide_eq_true (by omega)
      clear c3
      (first | rw [c3b0] | (simp only [i64_w, i32_w]; rw [c3b0]) | skip)
      have H' := Aside0.mk H
      clear H
      go_wp2
      repeat (go_quiet (fail); try go_wp2)
      go_meet
      case rel => exact ⟨_, (decide ((a0.size : Int) ≤ 4000)), (by first | rfl | (simp; done) | (simp [*]; done)), H', ⟨by first | omega | exact Nat.le_refl _⟩, ⟨by repeat (first | (with_reducible first | exact HB.out | apply below_alloc | apply pw_below_drewN | apply below_drew1) | exact HB.out)⟩⟩
    · rw [if_neg c3] at H
      have c3b0 : decide (600 < (a0.size : Int)) = false := decide_eq_false c3
      have c3b1 : decide (600 < a0.size) = false := decide_eq_false (by omega)
      clear c3
      (first | rw [c3b0] | (simp only [i64_w, i32_w]; rw [c3b0]) | skip)
      have H' := Aside0.mk H
      clear H
      go_wp2
      repeat (go_quiet (fail); try go_wp2)
      go_meet
      case rel => exact ⟨_, (false), (by first | rfl | (simp; done) | (simp [*]; done)), H', ⟨by first | omega | exact Nat.le_refl _⟩, ⟨by repeat (first | (with_reducible first | exact HB.out | apply below_alloc | apply pw_below_drewN | apply below_drew1) | exact HB.out)⟩⟩
  case rest =>
    clear HC2
    try clear p2
    try clear c3
    try clear c3b0
    try clear c3b1
    obtain ⟨kq, x17_1, rfl, HA, HJ1, HB⟩ := hcut
    cases kq with
    | zero => exact absurd HA.out (by simp [emenderlaw28_CommonRuns.j0])
    | succ kj1 =>
      have H := HA.out
      clear HA
      simp only [emenderlaw28_CommonRuns.j0] at H
      by_cases c4 : x17_1 = true
      · subst c4
        have H1 : ((emenderlaw28_awake.f).bind fun t132 => (some t132)) = some r := by rw [if_pos rfl] at H; exact H
        clear H
        have H := H1
        clear H1
        replace H := Option.bind_eq_some_iff.mp H
        obtain ⟨t132, A50, H⟩ := H
        replace H : (some t132) = some r := H
        have A5 := Aside0.mk A50
        clear A50
        obtain rfl := Option.some.inj H
        go_wp2_with (first | (go_at_call 9; (with_reducible refine (emenderlaw28_awake.calls  t132 _ A5.out).mono ?_); rintro e w6 ⟨rfl, hb⟩; have n0_ := Aside0.mk (below_step (by repeat (first | (with_reducible first | exact HB.out | apply below_alloc | apply pw_below_drewN | apply below_drew1) | exact HB.out)) hb); clear HB; have HB := n0_; clear n0_; (try clear hb); (try clear hb2); (try clear hk); (try clear hi)))
        repeat (go_quiet (first | (go_at_call 9; (with_reducible refine (emenderlaw28_awake.calls  t132 _ A5.out).mono ?_); rintro e w6 ⟨rfl, hb⟩; have n0_ := Aside0.mk (below_step (by repeat (first | (with_reducible first | exact HB.out | apply below_alloc | apply pw_below_drewN | apply below_drew1) | exact HB.out)) hb); clear HB; have HB := n0_; clear n0_; (try clear hb); (try clear hb2); (try clear hk); (try clear hi))); try go_wp2_with (first | (go_at_call 9; (with_reducible refine (emenderlaw28_awake.calls  t132 _ A5.out).mono ?_); rintro e w6 ⟨rfl, hb⟩; have n0_ := Aside0.mk (below_step (by repeat (first | (with_reducible first | exact HB.out | apply below_alloc | apply pw_below_drewN | apply below_drew1) | exact HB.out)) hb); clear HB; have HB := n0_; clear n0_; (try clear hb); (try clear hb2); (try clear hk); (try clear hi))))
        go_ret
        exact ⟨by first | rfl | (simp [errW_none, errW_some] <;> rfl) | (simp [*, errW_none, errW_some] <;> rfl), by repeat (first | (with_reducible first | exact HB.out | apply below_alloc | apply pw_below_drewN | apply below_drew1) | exact HB.out)⟩
      · replace c4 := Bool.eq_false_iff.mpr c4
        subst c4
        have H1 : ((common_Runs.f a0).bind fun bt133 => ((emenderref28_Runs.f a0).bind fun bt138 => (if (bt133.1.length : Int) = (bt138.1.length : Int) then (if bt133.2.1 = bt138.2.1 then (emenderlaw28_CommonRuns.j1 kj1 bt133.1 bt138.1 (bt133.2.2 != bt138.2.2)) else (emenderlaw28_CommonRuns.j1 kj1 bt133.1 bt138.1 true)) else (emenderlaw28_CommonRuns.j1 kj1 bt133.1 bt138.1 true)))) = some r := by rw [if_neg (show ¬ (false = true) by decide)] at H; exact H
        clear H
        have H := H1
        clear H1
        replace H := Option.bind_eq_some_iff.mp H
        obtain ⟨⟨t133, t134, t135⟩, A70, H⟩ := H
        replace H : ((emenderref28_Runs.f a0).bind fun bt138 => (if (t133.length : Int) = (bt138.1.length : Int) then (if t134 = bt138.2.1 then (emenderlaw28_CommonRuns.j1 kj1 t133 bt138.1 (t135 != bt138.2.2)) else (emenderlaw28_CommonRuns.j1 kj1 t133 bt138.1 true)) else (emenderlaw28_CommonRuns.j1 kj1 t133 bt138.1 true))) = some r := H
        have A7 := Aside0.mk A70
        clear A70
        replace H := Option.bind_eq_some_iff.mp H
        obtain ⟨⟨t138, t139, t140⟩, A80, H⟩ := H
        replace H : (if (t133.length : Int) = (t138.length : Int) then (if t134 = t139 then (emenderlaw28_CommonRuns.j1 kj1 t133 t138 (t135 != t140)) else (emenderlaw28_CommonRuns.j1 kj1 t133 t138 true)) else (emenderlaw28_CommonRuns.j1 kj1 t133 t138 true)) = some r := H
        have A8 := Aside0.mk A80
        clear A80
        have HC9 := Aside0.mk H
        clear H
        go_upto_region 5 with (first | (go_at_call 13; (with_reducible refine (common_Runs.calls a0 t133 t134 t135 _ A7.out).mono ?_); rintro e w10 ⟨v136, rfl, ho0, hb⟩; have n0_ := Aside0.mk (Kd.R_lower ho0 (below_size (by repeat (first | (with_reducible first | exact HB.out | apply below_alloc | apply pw_below_drewN | apply below_drew1) | exact HB.out)))); have n1_ := Aside0.mk (below_step (by repeat (first | (with_reducible first | exact HB.out | apply below_alloc | apply pw_below_drewN | apply below_drew1) | exact HB.out)) hb); clear HB; have HO137 := n0_; have HB := n1_; clear n0_ n1_; (try clear hb); (try clear hb2); (try clear hk); (try clear hi); (try clear ho0)) | (go_at_call 14; (with_reducible refine (emenderref28_Runs.calls a0 t138 t139 t140 _ A8.out).mono ?_); rintro e w11 ⟨v141, rfl, ho0, hb⟩; have n0_ := Aside0.mk (Kd.R_below (by (with_reducible repeat (first | apply Kd.R_alloc | apply Kd.R_drewN | apply Kd.R_drew)); exact HO137.out) hb); have n1_ := Aside0.mk (Kd.R_lower ho0 (below_size (by repeat (first | (with_reducible first | exact HB.out | apply below_alloc | apply pw_below_drewN | apply below_drew1) | exact HB.out)))); have n2_ := Aside0.mk (below_step (by repeat (first | (with_reducible first | exact HB.out | apply below_alloc | apply pw_below_drewN | apply below_drew1) | exact HB.out)) hb); clear HO137; clear HB; have HO137 := n0_; have HO142 := n1_; have HB := n2_; clear n0_ n1_ n2_; (try clear hb); (try clear hb2); (try clear hk); (try clear hi); (try clear ho0)))
        repeat (go_quiet (first | (go_at_call 13; (with_reducible refine (common_Runs.calls a0 t133 t134 t135 _ A7.out).mono ?_); rintro e w10 ⟨v136, rfl, ho0, hb⟩; have n0_ := Aside0.mk (Kd.R_lower ho0 (below_size (by repeat (first | (with_reducible first | exact HB.out | apply below_alloc | apply pw_below_drewN | apply below_drew1) | exact HB.out)))); have n1_ := Aside0.mk (below_step (by repeat (first | (with_reducible first | exact HB.out | apply below_alloc | apply pw_below_drewN | apply below_drew1) | exact HB.out)) hb); clear HB; have HO137 := n0_; have HB := n1_; clear n0_ n1_; (try clear hb); (try clear hb2); (try clear hk); (try clear hi); (try clear ho0)) | (go_at_call 14; (with_reducible refine (emenderref28_Runs.calls a0 t138 t139 t140 _ A8.out).mono ?_); rintro e w11 ⟨v141, rfl, ho0, hb⟩; have n0_ := Aside0.mk (Kd.R_below (by (with_reducible repeat (first | apply Kd.R_alloc | apply Kd.R_drewN | apply Kd.R_drew)); exact HO137.out) hb); have n1_ := Aside0.mk (Kd.R_lower ho0 (below_size (by repeat (first | (with_reducible first | exact HB.out | apply below_alloc | apply pw_below_drewN | apply below_drew1) | exact HB.out)))); have n2_ := Aside0.mk (below_step (by repeat (first | (with_reducible first | exact HB.out | apply below_alloc | apply pw_below_drewN | apply below_drew1) | exact HB.out)) hb); clear HO137; clear HB; have HO137 := n0_; have HO142 := n1_; have HB := n2_; clear n0_ n1_ n2_; (try clear hb); (try clear hb2); (try clear hk); (try clear hi); (try clear ho0))); go_upto_region 5 with (first | (go_at_call 13; (with_reducible refine (common_Runs.calls a0 t133 t134 t135 _ A7.out).mono ?_); rintro e w10 ⟨v136, rfl, ho0, hb⟩; have n0_ := Aside0.mk (Kd.R_lower ho0 (below_size (by repeat (first | (with_reducible first | exact HB.out | apply below_alloc | apply pw_below_drewN | apply below_drew1) | exact HB.out)))); have n1_ := Aside0.mk (below_step (by repeat (first | (with_reducible first | exact HB.out | apply below_alloc | apply pw_below_drewN | apply below_drew1) | exact HB.out)) hb); clear HB; have HO137 := n0_; have HB := n1_; clear n0_ n1_; (try clear hb); (try clear hb2); (try clear hk); (try clear hi); (try clear ho0)) | (go_at_call 14; (with_reducible refine (emenderref28_Runs.calls a0 t138 t139 t140 _ A8.out).mono ?_); rintro e w11 ⟨v141, rfl, ho0, hb⟩; have n0_ := Aside0.mk (Kd.R_below (by (with_reducible repeat (first | apply Kd.R_alloc | apply Kd.R_drewN | apply Kd.R_drew)); exact HO137.out) hb); have n1_ := Aside0.mk (Kd.R_lower ho0 (below_size (by repeat (first | (with_reducible first | exact HB.out | apply below_alloc | apply pw_below_drewN | apply below_drew1) | exact HB.out)))); have n2_ := Aside0.mk (below_step (by repeat (first | (with_reducible first | exact HB.out | apply below_alloc | apply pw_below_drewN | apply below_drew1) | exact HB.out)) hb); clear HO137; clear HB; have HO137 := n0_; have HO142 := n1_; have HB := n2_; clear n0_ n1_ n2_; (try clear hb); (try clear hb2); (try clear hk); (try clear hi); (try clear ho0))))
        (try simp only [Act.put, List.setIfInBounds_toArray, List.set_cons_zero, List.set_cons_succ])
        go_cut [45] (fun v45 wc => ∃ (kq : Nat) (x45_8 : Bool), v45 = .bool x45_8 ∧ Aside0 (emenderlaw28_CommonRuns.j1 kq t133 t138 x45_8 = some r) ∧ Aside0 (kq ≤ kj1) ∧ Aside0 (Kd.R k38 38 wc w.heap.size (fun _ => True) v136 t133) ∧ Aside0 (Kd.R k39 39 wc w.heap.size (fun _ => True) v141 t138) ∧ Aside0 (Below w.heap.size w wc))
        case first =>
          have H := HC9.out
          clear HC9
          by_cases c12 : (t133.length : Int) = (t138.length : Int)
          · rw [if_pos c12] at H
            have c12b0 : ((t133.length : Int) == (t138.length : Int)) = true := beq_iff_eq.mpr c12
            have c12b1 : ((t133.length : Int) != (t138.length : Int)) = false := bne_eq_false_iff_eq.mpr c12
            have c12b2 : (t133.length == t138.length) = true := by first | simpa using c12 | (simp at c12 ⊢; omega)
            clear c12
            (first | rw [c12b0] | (simp only [i64_w, i32_w]; rw [c12b0]) | skip)
            by_cases c13 : t134 = t139
            · rw [if_pos c13] at H
              have c13b0 : (t134 == t139) = true := beq_iff_eq.mpr c13
              have c13b1 : (t134 != t139) = false := bne_eq_false_iff_eq.mpr c13
              clear c13
              have H' := Aside0.mk H
              clear H
              obtain ⟨Ao14, co14, eo14⟩ := Kd.R_slice HO137.out
              subst eo14
              obtain ⟨Ao15, co15, eo15⟩ := Kd.R_slice HO142.out
              subst eo15
              go_wp2
              repeat (go_quiet (fail); try go_wp2)
              go_meet
              case rel => exact ⟨_, ((t135 != t140)), (by first | rfl | (simp; done) | (simp [*]; done)), H', ⟨by have := HJ1.out; first | omega | exact Nat.le_refl _⟩, ⟨by (with_reducible repeat (first | apply Kd.R_alloc | apply Kd.R_drewN | apply Kd.R_drew)); exact HO137.out⟩, ⟨by (with_reducible repeat (first | apply Kd.R_alloc | apply Kd.R_drewN | apply Kd.R_drew)); exact HO142.out⟩, ⟨by repeat (first | (with_reducible first | exact HB.out | apply below_alloc | apply pw_below_drewN | apply below_drew1) | exact HB.out)⟩⟩
            · rw [if_neg c13] at H
              have c13b0 : (t134 == t139) = false := beq_eq_false_iff_ne.mpr c13
              have c13b1 : (t134 != t139) = true := bne_iff_ne.mpr c13
              have H' := Aside0.mk H
              clear H
              obtain ⟨Ao16, co16, eo16⟩ := Kd.R_slice HO137.out
              subst eo16
              obtain ⟨Ao17, co17, eo17⟩ := Kd.R_slice HO142.out
              subst eo17
              go_wp2
              repeat (go_quiet (fail); try go_wp2)
              go_meet
              case rel => exact ⟨_, (true), (by first | rfl | (simp; done) | (simp [*]; done)), H', ⟨by have := HJ1.out; first | omega | exact Nat.le_refl _⟩, ⟨by (with_reducible repeat (first | apply Kd.R_alloc | apply Kd.R_drewN | apply Kd.R_drew)); exact HO137.out⟩, ⟨by (with_reducible repeat (first | apply Kd.R_alloc | apply Kd.R_drewN | apply Kd.R_drew)); exact HO142.out⟩, ⟨by repeat (first | (with_reducible first | exact HB.out | apply below_alloc | apply pw_below_drewN | apply below_drew1) | exact HB.out)⟩⟩
          · rw [if_neg c12] at H
            have c12b0 : ((t133.length : Int) == (t138.length : Int)) = false := beq_eq_false_iff_ne.mpr c12
            have c12b1 : ((t133.length : Int) != (t138.length : Int)) = true := bne_iff_ne.mpr c12
            have c12b2 : (t133.length == t138.length) = false := by first | simpa using c12 | (simp at c12 ⊢; omega)
            (first | rw [c12b0] | (simp only [i64_w, i32_w]; rw [c12b0]) | skip)
            have H' := Aside0.mk H
            clear H
            obtain ⟨Ao18, co18, eo18⟩ := Kd.R_slice HO137.out
            subst eo18
            obtain ⟨Ao19, co19, eo19⟩ := Kd.R_slice HO142.out
            subst eo19
            go_wp2
            repeat (go_quiet (fail); try go_wp2)
            go_meet
            case rel => exact ⟨_, (true), (by first | rfl | (simp; done) | (simp [*]; done)), H', ⟨by have := HJ1.out; first | omega | exact Nat.le_refl _⟩, ⟨by (with_reducible repeat (first | apply Kd.R_alloc | apply Kd.R_drewN | apply Kd.R_drew)); exact HO137.out⟩, ⟨by (with_reducible repeat (first | apply Kd.R_alloc | apply Kd.R_drewN | apply Kd.R_drew)); exact HO142.out⟩, ⟨by repeat (first | (with_reducible first | exact HB.out | apply below_alloc | apply pw_below_drewN | apply below_drew1) | exact HB.out)⟩⟩
        case rest =>
          clear HC9
          try clear c1
          try clear p2
          try clear c3
          try clear c3b0
          try clear c3b1
          try clear c4
          try clear c12
          try clear c12b0
          try clear c12b1
          try clear c12b2
          try clear c13
          try clear c13b0
          try clear c13b1
          try clear p2
          obtain ⟨kq, x45_8, rfl, HA, HJ8, HO_3, HO_6, HB⟩ := hcut
          cases kq with
          | zero => exact absurd HA.out (by simp [emenderlaw28_CommonRuns.j1])
          | succ kj8 =>
            have H := HA.out
            clear HA
            simp only [emenderlaw28_CommonRuns.j1] at H
            by_cases c20 : x45_8 = true
            · subst c20
              have H1 : (none) = some r := by rw [if_pos rfl] at H; exact H
              clear H
              have H := H1
              clear H1
              exact absurd H (by simp)
            · replace c20 := Bool.eq_false_iff.mpr c20
              subst c20
              have H1 : (emenderlaw28_CommonRuns.l0 kj8 t133 t138 0) = some r := by rw [if_neg (show ¬ (false = true) by decide)] at H; exact H
              clear H
              have H := H1
              clear H1
              have H' := Aside0.mk H
              clear H
              go_wp2
              repeat (go_quiet (fail); try go_wp2)
              go_loopg [9] kj8 (fun kq v9 w' => ∃ (x9_3 : Int), v9 = .int .i64 x9_3 ∧ Aside0 (emenderlaw28_CommonRuns.l0 kq t133 t138 x9_3 = some r) ∧ Aside0 (kq ≤ kj8) ∧ Aside0 (Kd.R k38 38 w' w.heap.size (fun _ => True) v136 t133) ∧ Aside0 (Kd.R k39 39 w' w.heap.size (fun _ => True) v141 t138) ∧ Aside0 (Below w.heap.size w w'))
              case atStart => exact ⟨(0), (by first | rfl | (simp; done) | (simp [*]; done)), H', ⟨Nat.le_refl _⟩, ⟨by (with_reducible repeat (first | apply Kd.R_alloc | apply Kd.R_drewN | apply Kd.R_drew)); exact HO_3.out⟩, ⟨by (with_reducible repeat (first | apply Kd.R_alloc | apply Kd.R_drewN | apply Kd.R_drew)); exact HO_6.out⟩, ⟨by repeat (first | (with_reducible first | exact HB.out | apply below_alloc | apply pw_below_drewN | apply below_drew1) | exact HB.out)⟩⟩
              case round =>
                clear H'
                try clear c1
                try clear c2
                try clear p2
                try clear c3
                try clear c3b0
                try clear c3b1
                try clear c4
                try clear c12
                try clear c12b0
                try clear c12b1
                try clear c12b2
                try clear c13
                try clear c13b0
                try clear c13b1
                try clear c20
                try clear p2
                obtain ⟨x9_3, rfl, HA, HK3, HO_3, HO_6, HB⟩ := hrel
                cases gk with
                | zero => exact absurd HA.out (by simp [emenderlaw28_CommonRuns.l0])
                | succ k3 =>
                  have H := HA.out
                  clear HA
                  simp only [emenderlaw28_CommonRuns.l0] at H
                  by_cases c21 : x9_3 < (t133.length : Int)
                  · rw [if_pos c21] at H
                    have c21b0 : decide (x9_3 < (t133.length : Int)) = true := decide_eq_true c21
                    clear c21
                    by_cases c22 : 0 ≤ x9_3
                    · rw [if_pos c22] at H
                      have c22b0 : decide (0 ≤ x9_3) = true := decide_eq_true c22
                      clear c22
                      by_cases c23 : x9_3 < (t138.length : Int)
                      · rw [if_pos c23] at H
                        have c23b0 : decide (x9_3 < (t138.length : Int)) = true := decide_eq_true c23
                        clear c23
                        by_cases c24 : ((rd_T38 t133 x9_3).f0) = ((rd_T39 t138 x9_3).f0)
                        · rw [if_pos c24] at H
                          have c24b0 : (((rd_T38 t133 x9_3).f0) == ((rd_T39 t138 x9_3).f0)) = true := beq_iff_eq.mpr c24
                          have c24b1 : (((rd_T38 t133 x9_3).f0) != ((rd_T39 t138 x9_3).f0)) = false := bne_eq_false_iff_eq.mpr c24
                          clear c24
                          by_cases c25 : ((rd_T38 t133 x9_3).f1) = ((rd_T39 t138 x9_3).f1)
                          · rw [if_pos c25] at H
                            have c25b0 : (((rd_T38 t133 x9_3).f1) == ((rd_T39 t138 x9_3).f1)) = true := beq_iff_eq.mpr c25
                            have c25b1 : (((rd_T38 t133 x9_3).f1) != ((rd_T39 t138 x9_3).f1)) = false := bne_eq_false_iff_eq.mpr c25
                            clear c25
                            by_cases c26 : ((rd_T38 t133 x9_3).f2) = ((rd_T39 t138 x9_3).f2)
                            · rw [if_pos c26] at H
                              have c26b0 : (((rd_T38 t133 x9_3).f2) == ((rd_T39 t138 x9_3).f2)) = true := beq_iff_eq.mpr c26
                              have c26b1 : (((rd_T38 t133 x9_3).f2) != ((rd_T39 t138 x9_3).f2)) = false := bne_eq_false_iff_eq.mpr c26
                              clear c26
                              by_cases c27 : (((rd_T38 t133 x9_3).f3) != ((rd_T39 t138 x9_3).f3)) = true
                              · rw [if_pos c27] at H
                                exact absurd H (by simp)
                              · rw [if_neg c27] at H
                                have c27b0 : (((rd_T38 t133 x9_3).f3) != ((rd_T39 t138 x9_3).f3)) = false := by simpa using c27
                                (try (have c27b1 : decide (((rd_T38 t133 x9_3).f3) = ((rd_T39 t138 x9_3).f3)) = true := by simpa using c27))
                                (try (have c27b2 : (((rd_T38 t133 x9_3).f3) == ((rd_T39 t138 x9_3).f3)) = true := by simpa using c27))
                                clear c27
                                by_cases c28 : (((rd_T38 t133 x9_3).f4) != ((rd_T39 t138 x9_3).f4)) = true
                                · rw [if_pos c28] at H
                                  exact absurd H (by simp)
                                · rw [if_neg c28] at H
                                  have c28b0 : (((rd_T38 t133 x9_3).f4) != ((rd_T39 t138 x9_3).f4)) = false := by simpa using c28
                                  (try (have c28b1 : decide (((rd_T38 t133 x9_3).f4) = ((rd_T39 t138 x9_3).f4)) = true := by simpa using c28))
                                  (try (have c28b2 : (((rd_T38 t133 x9_3).f4) == ((rd_T39 t138 x9_3).f4)) = true := by simpa using c28))
                                  clear c28
                                  have H' := Aside0.mk H
                                  clear H
                                  obtain ⟨Ao29, co29, eo29⟩ := Kd.R_slice HO_3.out
                                  subst eo29
                                  have p143 : 0 ≤ (x9_3 : Int) := of_decide_eq_true (by first | (with_reducible assumption) | assumption)
                                  have q143 : x9_3 < (t133.length : Int) := of_decide_eq_true (by first | (with_reducible assumption) | assumption)
                                  obtain ⟨ad143, e143, hx143_0, hx143_1, hx143_2, hx143_3, hx143_4⟩ := at_T38 (Kd.R_reads' HO_3.out).2.2 x9_3 p143 q143
                                  cases e143
                                  replace p143 := eq_true p143
                                  replace q143 := eq_true q143
                                  obtain ⟨Ao30, co30, eo30⟩ := Kd.R_slice HO_6.out
                                  subst eo30
                                  have p144 : 0 ≤ (x9_3 : Int) := of_decide_eq_true (by first | (with_reducible assumption) | assumption)
                                  have q144 : x9_3 < (t138.length : Int) := of_decide_eq_true (by first | (with_reducible assumption) | assumption)
                                  obtain ⟨ad144, e144, hx144_0, hx144_1, hx144_2, hx144_3, hx144_4⟩ := at_T39 (Kd.R_reads' HO_6.out).2.2 x9_3 p144 q144
                                  cases e144
                                  replace p144 := eq_true p144
                                  replace q144 := eq_true q144
                                  have p145 : 0 ≤ (x9_3 : Int) := of_decide_eq_true (by first | (with_reducible assumption) | assumption)
                                  have q145 : x9_3 < (t133.length : Int) := of_decide_eq_true (by first | (with_reducible assumption) | assumption)
                                  obtain ⟨ad145, e145, hx145_0, hx145_1, hx145_2, hx145_3, hx145_4⟩ := at_T38 (Kd.R_reads' HO_3.out).2.2 x9_3 p145 q145
                                  obtain rfl : ad143 = ad145 := (by injection e145)
                                  replace p145 := eq_true p145
                                  replace q145 := eq_true q145
                                  have p146 : 0 ≤ (x9_3 : Int) := of_decide_eq_true (by first | (with_reducible assumption) | assumption)
                                  have q146 : x9_3 < (t138.length : Int) := of_decide_eq_true (by first | (with_reducible assumption) | assumption)
                                  obtain ⟨ad146, e146, hx146_0, hx146_1, hx146_2, hx146_3, hx146_4⟩ := at_T39 (Kd.R_reads' HO_6.out).2.2 x9_3 p146 q146
                                  obtain rfl : ad144 = ad146 := (by injection e146)
                                  replace p146 := eq_true p146
                                  replace q146 := eq_true q146
                                  have p147 : 0 ≤ (x9_3 : Int) := of_decide_eq_true (by first | (with_reducible assumption) | assumption)
                                  have q147 : x9_3 < (t133.length : Int) := of_decide_eq_true (by first | (with_reducible assumption) | assumption)
                                  obtain ⟨ad147, e147, hx147_0, hx147_1, hx147_2, hx147_3, hx147_4⟩ := at_T38 (Kd.R_reads' HO_3.out).2.2 x9_3 p147 q147
                                  obtain rfl : ad143 = ad147 := (by injection e147)
                                  replace p147 := eq_true p147
                                  replace q147 := eq_true q147
                                  have p148 : 0 ≤ (x9_3 : Int) := of_decide_eq_true (by first | (with_reducible assumption) | assumption)
                                  have q148 : x9_3 < (t138.length : Int) := of_decide_eq_true (by first | (with_reducible assumption) | assumption)
                                  obtain ⟨ad148, e148, hx148_0, hx148_1, hx148_2, hx148_3, hx148_4⟩ := at_T39 (Kd.R_reads' HO_6.out).2.2 x9_3 p148 q148
                                  obtain rfl : ad144 = ad148 := (by injection e148)
                                  replace p148 := eq_true p148
                                  replace q148 := eq_true q148
                                  have p149 : 0 ≤ (x9_3 : Int) := of_decide_eq_true (by first | (with_reducible assumption) | assumption)
                                  have q149 : x9_3 < (t133.length : Int) := of_decide_eq_true (by first | (with_reducible assumption) | assumption)
                                  obtain ⟨ad149, e149, hx149_0, hx149_1, hx149_2, hx149_3, hx149_4⟩ := at_T38 (Kd.R_reads' HO_3.out).2.2 x9_3 p149 q149
                                  obtain rfl : ad143 = ad149 := (by injection e149)
                                  replace p149 := eq_true p149
                                  replace q149 := eq_true q149
                                  have p150 : 0 ≤ (x9_3 : Int) := of_decide_eq_true (by first | (with_reducible assumption) | assumption)
                                  have q150 : x9_3 < (t138.length : Int) := of_decide_eq_true (by first | (with_reducible assumption) | assumption)
                                  obtain ⟨ad150, e150, hx150_0, hx150_1, hx150_2, hx150_3, hx150_4⟩ := at_T39 (Kd.R_reads' HO_6.out).2.2 x9_3 p150 q150
                                  obtain rfl : ad144 = ad150 := (by injection e150)
                                  replace p150 := eq_true p150
                                  replace q150 := eq_true q150
                                  have p151 : 0 ≤ (x9_3 : Int) := of_decide_eq_true (by first | (with_reducible assumption) | assumption)
                                  have q151 : x9_3 < (t133.length : Int) := of_decide_eq_true (by first | (with_reducible assumption) | assumption)
                                  obtain ⟨ad151, e151, hx151_0, hx151_1, hx151_2, hx151_3, hx151_4⟩ := at_T38 (Kd.R_reads' HO_3.out).2.2 x9_3 p151 q151
                                  obtain rfl : ad143 = ad151 := (by injection e151)
                                  replace p151 := eq_true p151
                                  replace q151 := eq_true q151
                                  have p152 : 0 ≤ (x9_3 : Int) := of_decide_eq_true (by first | (with_reducible assumption) | assumption)
                                  have q152 : x9_3 < (t138.length : Int) := of_decide_eq_true (by first | (with_reducible assumption) | assumption)
                                  obtain ⟨ad152, e152, hx152_0, hx152_1, hx152_2, hx152_3, hx152_4⟩ := at_T39 (Kd.R_reads' HO_6.out).2.2 x9_3 p152 q152
                                  obtain rfl : ad144 = ad152 := (by injection e152)
                                  replace p152 := eq_true p152
                                  replace q152 := eq_true q152
                                  go_wp2
                                  repeat (go_quiet (fail); try go_wp2)
                                  go_roundg k3
                                  case measure => have := HJ1.out; have := HJ8.out; have := HK3.out; omega
                                  case rel => exact ⟨(wrap64 (x9_3 + 1)), (by first | rfl | (simp; done) | (simp [*]; done)), H', ⟨by have := HJ1.out; have := HJ8.out; have := HK3.out; omega⟩, ⟨by (with_reducible repeat (first | apply Kd.R_alloc | apply Kd.R_drewN | apply Kd.R_drew)); exact HO_3.out⟩, ⟨by (with_reducible repeat (first | apply Kd.R_alloc | apply Kd.R_drewN | apply Kd.R_drew)); exact HO_6.out⟩, ⟨by repeat (first | (with_reducible first | exact HB.out | apply below_alloc | apply pw_below_drewN | apply below_drew1) | exact HB.out)⟩⟩
                            · rw [if_neg c26] at H
                              exact absurd H (by simp)
                          · rw [if_neg c25] at H
                            exact absurd H (by simp)
                        · rw [if_neg c24] at H
                          exact absurd H (by simp)
                      · rw [if_neg c23] at H
                        exact absurd H (by simp)
                    · rw [if_neg c22] at H
                      exact absurd H (by simp)
                  · rw [if_neg c21] at H
                    have c21b0 : decide (x9_3 < (t133.length : Int)) = false := decide_eq_false c21
                    clear c21
                    replace H := Option.bind_eq_some_iff.mp H
                    obtain ⟨t153, A310, H⟩ := H
                    replace H : (some t153) = some r := H
                    have A31 := Aside0.mk A310
                    clear A310
                    obtain rfl := Option.some.inj H
                    obtain ⟨Ao32, co32, eo32⟩ := Kd.R_slice HO_3.out
                    subst eo32
                    go_wp2_with (first | (go_at_call 9; (with_reducible refine (emenderlaw28_awake.calls  t153 _ A31.out).mono ?_); rintro e w33 ⟨rfl, hb⟩; have n0_ := Aside0.mk (Kd.R_below (by (with_reducible repeat (first | apply Kd.R_alloc | apply Kd.R_drewN | apply Kd.R_drew)); exact HO_3.out) hb); have n1_ := Aside0.mk (Kd.R_below (by (with_reducible repeat (first | apply Kd.R_alloc | apply Kd.R_drewN | apply Kd.R_drew)); exact HO_6.out) hb); have n2_ := Aside0.mk (below_step (by repeat (first | (with_reducible first | exact HB.out | apply below_alloc | apply pw_below_drewN | apply below_drew1) | exact HB.out)) hb); clear HO_3; clear HO_6; clear HB; have HO_3 := n0_; have HO_6 := n1_; have HB := n2_; clear n0_ n1_ n2_; (try clear hb); (try clear hb2); (try clear hk); (try clear hi)))
                    repeat (go_quiet (first | (go_at_call 9; (with_reducible refine (emenderlaw28_awake.calls  t153 _ A31.out).mono ?_); rintro e w33 ⟨rfl, hb⟩; have n0_ := Aside0.mk (Kd.R_below (by (with_reducible repeat (first | apply Kd.R_alloc | apply Kd.R_drewN | apply Kd.R_drew)); exact HO_3.out) hb); have n1_ := Aside0.mk (Kd.R_below (by (with_reducible repeat (first | apply Kd.R_alloc | apply Kd.R_drewN | apply Kd.R_drew)); exact HO_6.out) hb); have n2_ := Aside0.mk (below_step (by repeat (first | (with_reducible first | exact HB.out | apply below_alloc | apply pw_below_drewN | apply below_drew1) | exact HB.out)) hb); clear HO_3; clear HO_6; clear HB; have HO_3 := n0_; have HO_6 := n1_; have HB := n2_; clear n0_ n1_ n2_; (try clear hb); (try clear hb2); (try clear hk); (try clear hi))); try go_wp2_with (first | (go_at_call 9; (with_reducible refine (emenderlaw28_awake.calls  t153 _ A31.out).mono ?_); rintro e w33 ⟨rfl, hb⟩; have n0_ := Aside0.mk (Kd.R_below (by (with_reducible repeat (first | apply Kd.R_alloc | apply Kd.R_drewN | apply Kd.R_drew)); exact HO_3.out) hb); have n1_ := Aside0.mk (Kd.R_below (by (with_reducible repeat (first | apply Kd.R_alloc | apply Kd.R_drewN | apply Kd.R_drew)); exact HO_6.out) hb); have n2_ := Aside0.mk (below_step (by repeat (first | (with_reducible first | exact HB.out | apply below_alloc | apply pw_below_drewN | apply below_drew1) | exact HB.out)) hb); clear HO_3; clear HO_6; clear HB; have HO_3 := n0_; have HO_6 := n1_; have HB := n2_; clear n0_ n1_ n2_; (try clear hb); (try clear hb2); (try clear hk); (try clear hi))))
                    go_ret
                    exact ⟨by first | rfl | (simp [errW_none, errW_some] <;> rfl) | (simp [*, errW_none, errW_some] <;> rfl), by repeat (first | (with_reducible first | exact HB.out | apply below_alloc | apply pw_below_drewN | apply below_drew1) | exact HB.out)⟩

/-- THE ONE PURE STATEMENT of emenderlaw28_CommonRuns: yours. -/
def emenderlaw28_CommonRuns.Pure : Prop := ∀ (a0 : ByteArray), a0.size ≤ 140737488351232 → ∃ k, emenderlaw28_CommonRuns.f k a0 = some true
theorem emenderlaw28_CommonRuns.walk (P : emenderlaw28_CommonRuns.Pure) (a0 : ByteArray) (w : World) (HT_ : Aside0 (Lib.Utf8Tabs 0 1 w)) (w0 : a0.size ≤ 140737488351232) :
    Calls Tryd.prog 4 #[.string a0] w fun e w' => e = .returned (.bool true) ∧ Below w.heap.size w w' := by
  obtain ⟨k, h⟩ := P a0 w0
  refine (emenderlaw28_CommonRuns.calls k a0 true w HT_ h).mono ?_
  rintro e w' ⟨rfl, hd⟩
  exact ⟨rfl, hd⟩

end Go.Proofs.YtfnafjohfmlniaaDoor.PCr
