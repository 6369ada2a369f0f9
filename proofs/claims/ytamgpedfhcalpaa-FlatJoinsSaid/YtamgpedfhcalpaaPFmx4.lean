-- Written for this claim by a program (the kit's print, with hand-made contracts for what it does not take).
import Derived.Test.YtamgpedfhcalpaaPFmx0
import Derived.Test.YtamgpedfhcalpaaPFmx2
namespace Go.Proofs.Ytamgpedfhcalpaa.PFm
open Go.RowKit Go.Proofs.YtamgpedfhcalpaaW.PrintWords Go.Proofs.YtamgpedfhcalpaaW.PrintLast Go.Proofs.YtamgpedfhcalpaaW.PrintMore
attribute [local go_sem] max2_int min2_int max_two min_two max_three min_three max_four min_four   -- for this text's walks alone
set_option linter.unusedVariables false
set_option linter.unusedSimpArgs false

/-! ### flat_stack: function 33 -/
def flat_stack.l0 : Nat → List Int → List (S23) → Int → Int → Option (List Int)
  | 0, _, _, _, _ => none
  | k + 1, x5, x15, x16, x17 => if x17 < x16 then (if 0 ≤ x17 then (if x17 < (x15.length : Int) then (if ((rd_T23 x15 x17).f0) = 1 then (if x5.length < 17592186044416 then (flat_stack.l0 k (x5 ++ [x17]) x15 x16 (wrap64 (x17 + 1))) else (none)) else (if ((rd_T23 x15 x17).f0) = 2 then (if (x5.length : Int) > 0 then (if 0 ≤ (wrap64 ((x5.length : Int) - 1)) then (if (wrap64 ((x5.length : Int) - 1)) ≤ (x5.length : Int) then (flat_stack.l0 k (x5.take ((wrap64 ((x5.length : Int) - 1)) : Int).toNat) x15 x16 (wrap64 (x17 + 1))) else (none)) else (none)) else (flat_stack.l0 k x5 x15 x16 (wrap64 (x17 + 1)))) else (flat_stack.l0 k x5 x15 x16 (wrap64 (x17 + 1))))) else (none)) else (none)) else (some x5)
def flat_stack.f (k : Nat) (l0 : List (S23)) (a1 : Int) : Option (List Int) := if a1 > (l0.length : Int) then (some ([] : List Int)) else (if 0 ≤ (mx a1 0) then (if (mx a1 0) ≤ (l0.length : Int) then ((some (l0.take ((mx a1 0) : Int).toNat : List (S23))).bind fun y108 => (flat_stack.l0 k ([] : List Int) y108 (y108.length : Int) 0)) else (none)) else (none))
theorem flat_stack.mono_l : ∀ k, (∀ y0 y1 y2 y3, LeO (flat_stack.l0 k y0 y1 y2 y3) (flat_stack.l0 (k + 1) y0 y1 y2 y3))
  | 0 => fun _ _ _ _ r h => by simp [flat_stack.l0] at h
  | k + 1 => by
    have ih0 := flat_stack.mono_l k
    · intro y0 y1 y2 y3
      unfold flat_stack.l0
      repeat' first
      | (with_reducible exact ih0 _ _ _ _)
      | (with_reducible exact LeO.refl _)
      | (with_reducible exact LeO.none _)
      | (with_reducible refine LeO.ite ?_ ?_)
      | (with_reducible refine LeO.bind ?_ (fun _ => ?_))
      | exact ih0 _ _ _ _
      | exact LeO.none _
      | refine LeO.ite ?_ ?_
      | refine LeO.bind ?_ (fun _ => ?_)
theorem flat_stack.mono : ∀ a0 a1 k, LeO (flat_stack.f k a0 a1) (flat_stack.f (k + 1) a0 a1) := by
  intro a0 a1 k
  have ih0 := flat_stack.mono_l k
  unfold flat_stack.f
  repeat' first
      | (with_reducible exact ih0 _ _ _ _)
      | (with_reducible exact LeO.refl _)
      | (with_reducible exact LeO.none _)
      | (with_reducible refine LeO.ite ?_ ?_)
      | (with_reducible refine LeO.bind ?_ (fun _ => ?_))
      | exact ih0 _ _ _ _
      | exact LeO.none _
      | refine LeO.ite ?_ ?_
      | refine LeO.bind ?_ (fun _ => ?_)
set_option maxHeartbeats 8000000 in
set_option maxRecDepth 100000 in
theorem flat_stack.calls (k : Nat) (A0 : Option Addr) (c0 : Nat) (l0 : List (S23)) (a1 : Int) (r : List Int) (w : World) (hr0 : Kd.C k23 w A0 l0.length l0) (hc0 : l0.length ≤ c0) (h : flat_stack.f k l0 a1 = some r) :
    Calls Try.prog 33 #[.slice A0 l0.length c0, .int .i64 a1] w fun e w' => ∃ v0_ : Value, e = .returned (v0_) ∧ Kd.R (Kd.int .i64) 3 w' w.heap.size (fun _ => True) v0_ r ∧ Below w.heap.size w w' := by
  have hu23 := Try.underlying23
  have HR0 := Aside0.mk hr0
  have HC0 := Aside0.mk hc0
  clear hr0 hc0
  have HB := Aside0.mk (Below.refl w.heap.size w)
  have H : (if a1 > (l0.length : Int) then (some ([] : List Int)) else (if 0 ≤ (mx a1 0) then (if (mx a1 0) ≤ (l0.length : Int) then ((some (l0.take ((mx a1 0) : Int).toNat : List (S23))).bind fun y108 => (flat_stack.l0 k ([] : List Int) y108 (y108.length : Int) 0)) else (none)) else (none))) = some r := h
  clear h
  by_cases c3 : a1 > (l0.length : Int)
  · rw [if_pos c3] at H
    have c3b0 : decide ((l0.length : Int) < a1) = true := decide_eq_true c3
    clear c3
    obtain rfl := Option.some.inj H
    go_enter Try.func33, Try.ntmps33
    go_wp2
    go_ret
    exact ⟨_, by first | rfl | (simp [errW_none, errW_some] <;> rfl) | (simp [*, errW_none, errW_some] <;> rfl), by first | exact Kd.R_nil _ _ _ _ _ | exact Kd.N_nil _ _ _ _ _ | exact Kd.V_nil _ _ _ _ _ | exact Kd.Q_nil _ _ _ _ _ | exact Kd.S_nil _ _ _ _ _, by repeat (first | (with_reducible first | exact HB.out | apply below_alloc | apply pw_below_drewN | apply below_drew1) | exact HB.out)⟩
  · rw [if_neg c3] at H
    have c3b0 : decide ((l0.length : Int) < a1) = false := decide_eq_false c3
    clear c3
    obtain ⟨ji4, hji4⟩ : ∃ j_ : Int, (mx a1 0) = j_ := ⟨_, rfl⟩
    replace H : (if 0 ≤ (ji4) then (if (ji4) ≤ (l0.length : Int) then ((some (l0.take ((ji4) : Int).toNat : List (S23))).bind fun y108 => (flat_stack.l0 k ([] : List Int) y108 (y108.length : Int) 0)) else (none)) else (none)) = some r := by first | (rw [hji4] at H; exact H) | (simp only [hji4] at H ⊢; exact H)
    (try (have hji4l : 0 ≤ ji4 := by (rw [← hji4]; unfold mx; (repeat' split) <;> omega)))
    (try (have hji4m : 0 ≤ ji4 := by omega))
    have hji4_ : (if a1 < 0 then 0 else a1) = ji4 := hji4
    by_cases c5 : 0 ≤ (ji4)
    · rw [if_pos c5] at H
      have c5b0 := eq_true c5
      have c5b1 : decide (0 ≤ (ji4)) = true := decide_eq_true c5
      clear c5
      by_cases c6 : (ji4) ≤ (l0.length : Int)
      · rw [if_pos c6] at H
        have c6b0 := eq_true c6
        have c6b1 : decide ((ji4) ≤ (l0.length : Int)) = true := decide_eq_true c6
        clear c6
        obtain ⟨y108, hy108⟩ : ∃ y_ : List (S23), y_ = (l0.take ((ji4) : Int).toNat) := ⟨_, rfl⟩
        replace H : (flat_stack.l0 k ([] : List Int) y108 (y108.length : Int) 0) = some r := by first | (rw [hy108]; with_reducible exact H) | (have H2_ := (Option.bind_some _ _).symm.trans H; rw [hy108]; with_reducible exact H2_) | (have H2_ := (Option.bind_some _ _).symm.trans H; with_reducible exact H2_) | with_reducible exact H | (rw [hy108]; exact H) | exact H
        have Ny108 := Aside0.mk hy108
        clear hy108
        have H' := Aside0.mk H
        clear H
        have q7 : ((ji4) : Int) ≤ ((l0.length : Int) : Int) := of_decide_eq_true (by first | (with_reducible assumption) | assumption)
        obtain ⟨i07, hi07, _, hsz7, _⟩ := info_parts info23
        have hroom7 : l0.length ≤ c0 := HC0.out
        have hC7 : Kd.C k23 _ A0 l0.length l0 := HR0.out
        have hcut7 := cut_to (P := Try.prog) 26 23 .i64 Try.underlying26 hi07 A0 l0.length c0 (ji4) (of_decide_eq_true (by first | (with_reducible assumption) | assumption)) q7 hroom7
        have hr7 := Kd.C_take (m := ((ji4) : Int).toNat) hC7 (by omega)
        have hy7 : y108.length = ((ji4) : Int).toNat := (by rw [Ny108.out, List.length_take]; omega)
        rw [← Ny108.out] at hr7
        rw [← hy7] at hcut7
        have HR111 := Aside0.mk hr7
        have HC111 := Aside0.mk (show y108.length ≤ c0 from by omega)
        clear hr7 hC7 hroom7 hi07 hsz7
        have KY7 := Aside0.mk hy7
        clear hy7
        replace q7 := eq_true q7
        go_enter Try.func33, Try.ntmps33
        go_wp2
        go_loopg [5, 17] k (fun kq v5 v17 w' => ∃ (x5_1 : List Int) (x17_1 : Int), v17 = .int .i64 x17_1 ∧ Aside0 (flat_stack.l0 kq x5_1 y108 (y108.length : Int) x17_1 = some r) ∧ Aside0 (kq ≤ k) ∧ Aside0 (Kd.R (Kd.int .i64) 3 w' w.heap.size (fun _ => True) v5 x5_1) ∧ Aside0 (Below w.heap.size w w'))
        case atStart => exact ⟨(([] : List Int)), (0), (by first | rfl | (simp; done) | (simp [*]; done)), H', ⟨Nat.le_refl _⟩, ⟨by first | exact Kd.R_nil _ _ _ _ _ | exact Kd.N_nil _ _ _ _ _ | exact Kd.V_nil _ _ _ _ _ | exact Kd.Q_nil _ _ _ _ _ | exact Kd.S_nil _ _ _ _ _⟩, ⟨by repeat (first | (with_reducible first | exact HB.out | apply below_alloc | apply pw_below_drewN | apply below_drew1) | exact HB.out)⟩⟩
        case round =>
          clear H'
          try clear p2
          try clear c3
          try clear c3b0
          try clear c5
          try clear c5b0
          try clear c5b1
          try clear c6
          try clear c6b0
          try clear c6b1
          try clear q7
          try clear q7
          obtain ⟨x5_1, x17_1, rfl, HA, HK1, HO_5, HB⟩ := hrel
          cases gk with
          | zero => exact absurd HA.out (by simp [flat_stack.l0])
          | succ k1 =>
            have H := HA.out
            clear HA
            simp only [flat_stack.l0] at H
            by_cases c8 : x17_1 < (y108.length : Int)
            · rw [if_pos c8] at H
              have c8b0 : decide (x17_1 < (y108.length : Int)) = true := decide_eq_true c8
              clear c8
              by_cases c9 : 0 ≤ x17_1
              · rw [if_pos c9] at H
                have c9b0 : decide (0 ≤ x17_1) = true := decide_eq_true c9
                clear c9
                by_cases c10 : x17_1 < (y108.length : Int)
                · rw [if_pos c10] at H
                  have c10b0 : decide (x17_1 < (y108.length : Int)) = true := decide_eq_true c10
                  clear c10
                  by_cases c11 : ((rd_T23 y108 x17_1).f0) = 1
                  · rw [if_pos c11] at H
                    have c11b0 : (((rd_T23 y108 x17_1).f0) == 1) = true := beq_iff_eq.mpr c11
                    have c11b1 : (((rd_T23 y108 x17_1).f0) != 1) = false := bne_eq_false_iff_eq.mpr c11
                    clear c11
                    by_cases c12 : x5_1.length < 17592186044416
                    · rw [if_pos c12] at H
                      have LMc12 := Aside0.mk c12
                      clear c12
                      obtain ⟨y114, hy114⟩ : ∃ y_ : List Int, y_ = (x5_1 ++ [x17_1]) := ⟨_, rfl⟩
                      replace H : (flat_stack.l0 k1 y114 y108 (y108.length : Int) (wrap64 (x17_1 + 1))) = some r := by first | (rw [hy114]; with_reducible exact H) | (have H2_ := (Option.bind_some _ _).symm.trans H; rw [hy114]; with_reducible exact H2_) | (have H2_ := (Option.bind_some _ _).symm.trans H; with_reducible exact H2_) | with_reducible exact H | (rw [hy114]; exact H) | exact H
                      have Ny114 := Aside0.mk hy114
                      clear hy114
                      have H' := Aside0.mk H
                      clear H
                      have p112 : 0 ≤ (x17_1 : Int) := of_decide_eq_true (by first | (with_reducible assumption) | assumption)
                      have q112 : x17_1 < (y108.length : Int) := of_decide_eq_true (by first | (with_reducible assumption) | assumption)
                      obtain ⟨ad112, e112, hx112_0, hx112_1, hx112_2, hx112_3⟩ := at_T23 HR111.out x17_1 p112 q112
                      cases e112
                      replace hx112_0 := (HB.out.cell (World.block_lt_of_cell? w _ hx112_0)).trans hx112_0
                      replace hx112_1 := (HB.out.cell (World.block_lt_of_cell? w _ hx112_1)).trans hx112_1
                      replace hx112_2 := (HB.out.cell (World.block_lt_of_cell? w _ hx112_2)).trans hx112_2
                      replace hx112_3 := (HB.out.cell (World.block_lt_of_cell? w _ hx112_3)).trans hx112_3
                      replace p112 := eq_true p112
                      replace q112 := eq_true q112
                      go_wp2_with (first | ((with_reducible refine gate_dst (N := 7) rfl ?_); (try (refine gate_guard (by rfl) ?_; dsimp only)); refine box_event ?hg (N := 7) ?hd (cs := #[.int .i64 0, .int .i64 0, .int .i64 0, .int .i64 0]) (t := 23) ?hr ?_; (case hd => rfl); (case hg => rfl); (case hr => first | (go_simp; done) | (go_simp; rfl)); intro gb113 hg w13 hbox hb; have n0_ := Aside0.mk (Kd.R_below (by (with_reducible repeat (first | apply Kd.R_alloc | apply Kd.R_drewN | apply Kd.R_drew)); exact HO_5.out) hb); have n1_ := Aside0.mk (below_step (by repeat (first | (with_reducible first | exact HB.out | apply below_alloc | apply pw_below_drewN | apply below_drew1) | exact HB.out)) hb); have n2_ := Aside0.mk (hbox); have n3_ := Aside0.mk ((by rw [hg]; exact (below_size (by repeat (first | (with_reducible first | exact HB.out | apply below_alloc | apply pw_below_drewN | apply below_drew1) | exact HB.out))) : w.heap.size ≤ gb113)); have n4_ := Aside0.mk ((by rw [hg]; exact (below_size (by repeat (first | (with_reducible first | exact HB.out | apply below_alloc | apply pw_below_drewN | apply below_drew1) | exact HB.out))) : w.heap.size ≤ gb113)); clear HO_5; clear HB; have HO_5 := n0_; have HB := n1_; have BK113 := n2_; have GW113 := n3_; have GE113 := n4_; clear n0_ n1_ n2_ n3_ n4_; clear hb hbox hg; have hcz14_0 : w13.cell? ⟨gb113, 0, none⟩ = some (.int .i64 0) := (blk_cell BK113.out 0).trans rfl; have hcz14_1 : w13.cell? ⟨gb113, 1, none⟩ = some (.int .i64 0) := (blk_cell BK113.out 1).trans rfl; have hcz14_2 : w13.cell? ⟨gb113, 2, none⟩ = some (.int .i64 0) := (blk_cell BK113.out 2).trans rfl; have hcz14_3 : w13.cell? ⟨gb113, 3, none⟩ = some (.int .i64 0) := (blk_cell BK113.out 3).trans rfl; have hfz14_0 := blk_frozen BK113.out 0; have hfz14_1 := blk_frozen BK113.out 1; have hfz14_2 := blk_frozen BK113.out 2; have hfz14_3 := blk_frozen BK113.out 3) | ((with_reducible refine gate_builtin (b := .append) (xs := #[.tmp 26, .tmp 28]) rfl ?_); (try (refine gate_guard (by rfl) ?_; dsimp only)); at_builtin; refine Kd.R_append (Kd.int .i64) (w0 := w) w.heap.size rfl (.tmp 26) (.tmp 28) 29 3 (.int .i64 0) 8 rfl Try.underlying29 info3 rfl (by decide) (by omega) u5 x5_1 x17_1 [.int .i64 x17_1] (fun _ => True) (fun _ => False) rfl (by first | (go_simp; done) | (go_simp; rfl)) ?aP (fun _ hk => hk.elim) ?aF ?aO ?aB ?aS ?aL ?_; (case aP => exact rfl); (case aB => exact (by repeat (first | (with_reducible first | exact HB.out | apply below_alloc | apply pw_below_drewN | apply below_drew1 | refine below_set ?_ GE113.out) | exact HB.out))); (case aF => exact (fun _ _ => trivial)); (case aO => exact (by (with_reducible repeat (first | apply Kd.R_alloc | apply Kd.R_drewN | apply Kd.R_drew)); exact Kd.R_mono (Kd.R_far (p := ⟨gb113, 3, none⟩) (Kd.R_far (p := ⟨gb113, 2, none⟩) (Kd.R_far (p := ⟨gb113, 1, none⟩) (Kd.R_far (p := ⟨gb113, 0, none⟩) (Kd.R_types HO_5.out BK113.out (by decide)) (fun _ hk => hk.2) (.int .i64 ((rd_T23 y108 x17_1).f0))) (fun _ hk => hk.2) (.int .i64 ((rd_T23 y108 x17_1).f1))) (fun _ hk => hk.2) (.int .i64 ((rd_T23 y108 x17_1).f2))) (fun _ hk => hk.2) (.int .i64 ((rd_T23 y108 x17_1).f3))) (fun _ hk => trivial))); (case aS => exact (below_size (by repeat (first | (with_reducible first | exact HB.out | apply below_alloc | apply pw_below_drewN | apply below_drew1 | refine below_set ?_ GE113.out) | exact HB.out)))); (case aL => have := LMc12.out; omega); intro v115 w15 ho hb hg hat; rw [← Ny114.out] at ho; have n0_ := Aside0.mk (blk_grown (g := gb113) (o := .cells #[.int .i64 ((rd_T23 y108 x17_1).f0), .int .i64 ((rd_T23 y108 x17_1).f1), .int .i64 ((rd_T23 y108 x17_1).f2), .int .i64 ((rd_T23 y108 x17_1).f3)] 23 (0, 0)) (by (with_reducible repeat (first | refine blk_drewN ?_ _ | refine blk_drew ?_ | refine blk_alloc ?_ _)); refine blk_put (cs := #[.int .i64 ((rd_T23 y108 x17_1).f0), .int .i64 ((rd_T23 y108 x17_1).f1), .int .i64 ((rd_T23 y108 x17_1).f2), .int .i64 0]) ?_ 3 _ rfl; (with_reducible repeat (first | refine blk_drewN ?_ _ | refine blk_drew ?_ | refine blk_alloc ?_ _)); refine blk_put (cs := #[.int .i64 ((rd_T23 y108 x17_1).f0), .int .i64 ((rd_T23 y108 x17_1).f1), .int .i64 0, .int .i64 0]) ?_ 2 _ rfl; (with_reducible repeat (first | refine blk_drewN ?_ _ | refine blk_drew ?_ | refine blk_alloc ?_ _)); refine blk_put (cs := #[.int .i64 ((rd_T23 y108 x17_1).f0), .int .i64 0, .int .i64 0, .int .i64 0]) ?_ 1 _ rfl; (with_reducible repeat (first | refine blk_drewN ?_ _ | refine blk_drew ?_ | refine blk_alloc ?_ _)); refine blk_put (cs := #[.int .i64 0, .int .i64 0, .int .i64 0, .int .i64 0]) ?_ 0 _ rfl; (with_reducible repeat (first | refine blk_drewN ?_ _ | refine blk_drew ?_ | refine blk_alloc ?_ _)); exact BK113.out) hg (Kd.R_ne HO_5.out BK113.out (by decide))); have n1_ := Aside0.mk (hb); have n2_ := Aside0.mk (ho); clear BK113; clear HB; clear HO_5; have BK113 := n0_; have HB := n1_; have HO116 := n2_; clear n0_ n1_ n2_; clear ho hb hg hat))
                      go_roundg k1
                      case measure => have := HK1.out; omega
                      case rel => exact ⟨(y114), (wrap64 (x17_1 + 1)), (by first | rfl | (simp; done) | (simp [*]; done)), H', ⟨by have := HK1.out; omega⟩, ⟨by (with_reducible repeat (first | apply Kd.R_alloc | apply Kd.R_drewN | apply Kd.R_drew)); exact HO116.out⟩, ⟨by repeat (first | (with_reducible first | exact HB.out | apply below_alloc | apply pw_below_drewN | apply below_drew1 | refine below_set ?_ GE113.out) | exact HB.out)⟩⟩
                    · rw [if_neg c12] at H
                      exact absurd H (by simp)
                  · rw [if_neg c11] at H
                    have c11b0 : (((rd_T23 y108 x17_1).f0) == 1) = false := beq_eq_false_iff_ne.mpr c11
                    have c11b1 : (((rd_T23 y108 x17_1).f0) != 1) = true := bne_iff_ne.mpr c11
                    by_cases c16 : ((rd_T23 y108 x17_1).f0) = 2
                    · rw [if_pos c16] at H
                      have c16b0 : (((rd_T23 y108 x17_1).f0) == 2) = true := beq_iff_eq.mpr c16
                      have c16b1 : (((rd_T23 y108 x17_1).f0) != 2) = false := bne_eq_false_iff_eq.mpr c16
                      clear c16
                      by_cases c17 : (x5_1.length : Int) > 0
                      · rw [if_pos c17] at H
                        have c17b0 : decide (0 < (x5_1.length : Int)) = true := decide_eq_true c17
                        have c17b1 : decide (0 < x5_1.length) = true := decide_eq_true (by omega)
                        clear c17
                        obtain ⟨ji18, hji18⟩ : ∃ j_ : Int, (wrap64 ((x5_1.length : Int) - 1)) = j_ := ⟨_, rfl⟩
                        replace H : (if 0 ≤ (ji18) then (if (ji18) ≤ (x5_1.length : Int) then (flat_stack.l0 k1 (x5_1.take ((ji18) : Int).toNat) y108 (y108.length : Int) (wrap64 (x17_1 + 1))) else (none)) else (none)) = some r := by first | (rw [hji18] at H; exact H) | (simp only [hji18] at H ⊢; exact H)
                        have hji18w : (IntKind.i64.wrap ((x5_1.length : Int) - 1)) = ji18 := (i64_w _).trans hji18
                        by_cases c19 : 0 ≤ (ji18)
                        · rw [if_pos c19] at H
                          have c19b0 := eq_true c19
                          have c19b1 : decide (0 ≤ (ji18)) = true := decide_eq_true c19
                          clear c19
                          by_cases c20 : (ji18) ≤ (x5_1.length : Int)
                          · rw [if_pos c20] at H
                            have c20b0 := eq_true c20
                            have c20b1 : decide ((ji18) ≤ (x5_1.length : Int)) = true := decide_eq_true c20
                            clear c20
                            obtain ⟨y117, hy117⟩ : ∃ y_ : List Int, y_ = (x5_1.take ((ji18) : Int).toNat) := ⟨_, rfl⟩
                            replace H : (flat_stack.l0 k1 y117 y108 (y108.length : Int) (wrap64 (x17_1 + 1))) = some r := by first | (rw [hy117]; with_reducible exact H) | (have H2_ := (Option.bind_some _ _).symm.trans H; rw [hy117]; with_reducible exact H2_) | (have H2_ := (Option.bind_some _ _).symm.trans H; with_reducible exact H2_) | with_reducible exact H | (rw [hy117]; exact H) | exact H
                            have Ny117 := Aside0.mk hy117
                            clear hy117
                            have H' := Aside0.mk H
                            clear H
                            have p112 : 0 ≤ (x17_1 : Int) := of_decide_eq_true (by first | (with_reducible assumption) | assumption)
                            have q112 : x17_1 < (y108.length : Int) := of_decide_eq_true (by first | (with_reducible assumption) | assumption)
                            obtain ⟨ad112, e112, hx112_0, hx112_1, hx112_2, hx112_3⟩ := at_T23 HR111.out x17_1 p112 q112
                            cases e112
                            replace hx112_0 := (HB.out.cell (World.block_lt_of_cell? w _ hx112_0)).trans hx112_0
                            replace hx112_1 := (HB.out.cell (World.block_lt_of_cell? w _ hx112_1)).trans hx112_1
                            replace hx112_2 := (HB.out.cell (World.block_lt_of_cell? w _ hx112_2)).trans hx112_2
                            replace hx112_3 := (HB.out.cell (World.block_lt_of_cell? w _ hx112_3)).trans hx112_3
                            replace p112 := eq_true p112
                            replace q112 := eq_true q112
                            go_wp2_with (first | ((with_reducible refine gate_dst (N := 7) rfl ?_); (try (refine gate_guard (by rfl) ?_; dsimp only)); refine box_event ?hg (N := 7) ?hd (cs := #[.int .i64 0, .int .i64 0, .int .i64 0, .int .i64 0]) (t := 23) ?hr ?_; (case hd => rfl); (case hg => rfl); (case hr => first | (go_simp; done) | (go_simp; rfl)); intro gb113 hg w21 hbox hb; have n0_ := Aside0.mk (Kd.R_below (by (with_reducible repeat (first | apply Kd.R_alloc | apply Kd.R_drewN | apply Kd.R_drew)); exact HO_5.out) hb); have n1_ := Aside0.mk (below_step (by repeat (first | (with_reducible first | exact HB.out | apply below_alloc | apply pw_below_drewN | apply below_drew1) | exact HB.out)) hb); have n2_ := Aside0.mk (hbox); have n3_ := Aside0.mk ((by rw [hg]; exact (below_size (by repeat (first | (with_reducible first | exact HB.out | apply below_alloc | apply pw_below_drewN | apply below_drew1) | exact HB.out))) : w.heap.size ≤ gb113)); have n4_ := Aside0.mk ((by rw [hg]; exact (below_size (by repeat (first | (with_reducible first | exact HB.out | apply below_alloc | apply pw_below_drewN | apply below_drew1) | exact HB.out))) : w.heap.size ≤ gb113)); clear HO_5; clear HB; have HO_5 := n0_; have HB := n1_; have BK113 := n2_; have GW113 := n3_; have GE113 := n4_; clear n0_ n1_ n2_ n3_ n4_; clear hb hbox hg; have hcz22_0 : w21.cell? ⟨gb113, 0, none⟩ = some (.int .i64 0) := (blk_cell BK113.out 0).trans rfl; have hcz22_1 : w21.cell? ⟨gb113, 1, none⟩ = some (.int .i64 0) := (blk_cell BK113.out 1).trans rfl; have hcz22_2 : w21.cell? ⟨gb113, 2, none⟩ = some (.int .i64 0) := (blk_cell BK113.out 2).trans rfl; have hcz22_3 : w21.cell? ⟨gb113, 3, none⟩ = some (.int .i64 0) := (blk_cell BK113.out 3).trans rfl; have hfz22_0 := blk_frozen BK113.out 0; have hfz22_1 := blk_frozen BK113.out 1; have hfz22_2 := blk_frozen BK113.out 2; have hfz22_3 := blk_frozen BK113.out 3) | ((with_reducible refine gate_store (t := 23) (p := 7) rfl ?_); refine store_event (t := 23) (p := 7) (v := ?vo_w23) (w1 := ((((w21.setCell ⟨gb113, 0, none⟩ (.int .i64 ((rd_T23 y108 x17_1).f0))).setCell ⟨gb113, 1, none⟩ (.int .i64 ((rd_T23 y108 x17_1).f1))).setCell ⟨gb113, 2, none⟩ (.int .i64 ((rd_T23 y108 x17_1).f2))).setCell ⟨gb113, 3, none⟩ (.int .i64 ((rd_T23 y108 x17_1).f3)))) ?hg ?ho ?hn ?hr ?_; (case ho => rfl); (case hg => rfl); (case hn => rfl); (case hr => first | (go_simp; done) | (go_simp; rfl)); intro w23 hw; have n0_ : Aside0 (Kd.R (Kd.int .i64) 3 w23 w.heap.size (fun _ => True) u5 x5_1) := ⟨(by rw [hw]; exact (by (with_reducible repeat (first | apply Kd.R_alloc | apply Kd.R_drewN | apply Kd.R_drew)); exact Kd.R_mono (Kd.R_far (p := ⟨gb113, 3, none⟩) (Kd.R_far (p := ⟨gb113, 2, none⟩) (Kd.R_far (p := ⟨gb113, 1, none⟩) (Kd.R_far (p := ⟨gb113, 0, none⟩) (Kd.R_types HO_5.out BK113.out (by decide)) (fun _ hk => hk.2) (.int .i64 ((rd_T23 y108 x17_1).f0))) (fun _ hk => hk.2) (.int .i64 ((rd_T23 y108 x17_1).f1))) (fun _ hk => hk.2) (.int .i64 ((rd_T23 y108 x17_1).f2))) (fun _ hk => hk.2) (.int .i64 ((rd_T23 y108 x17_1).f3))) (fun _ hk => trivial)))⟩; have n1_ : Aside0 (w23.heap[gb113]? = some (.cells #[.int .i64 ((rd_T23 y108 x17_1).f0), .int .i64 ((rd_T23 y108 x17_1).f1), .int .i64 ((rd_T23 y108 x17_1).f2), .int .i64 ((rd_T23 y108 x17_1).f3)] 23 (0, 0))) := ⟨(by rw [hw]; exact (by (with_reducible repeat (first | refine blk_drewN ?_ _ | refine blk_drew ?_ | refine blk_alloc ?_ _)); refine blk_put (cs := #[.int .i64 ((rd_T23 y108 x17_1).f0), .int .i64 ((rd_T23 y108 x17_1).f1), .int .i64 ((rd_T23 y108 x17_1).f2), .int .i64 0]) ?_ 3 _ rfl; (with_reducible repeat (first | refine blk_drewN ?_ _ | refine blk_drew ?_ | refine blk_alloc ?_ _)); refine blk_put (cs := #[.int .i64 ((rd_T23 y108 x17_1).f0), .int .i64 ((rd_T23 y108 x17_1).f1), .int .i64 0, .int .i64 0]) ?_ 2 _ rfl; (with_reducible repeat (first | refine blk_drewN ?_ _ | refine blk_drew ?_ | refine blk_alloc ?_ _)); refine blk_put (cs := #[.int .i64 ((rd_T23 y108 x17_1).f0), .int .i64 0, .int .i64 0, .int .i64 0]) ?_ 1 _ rfl; (with_reducible repeat (first | refine blk_drewN ?_ _ | refine blk_drew ?_ | refine blk_alloc ?_ _)); refine blk_put (cs := #[.int .i64 0, .int .i64 0, .int .i64 0, .int .i64 0]) ?_ 0 _ rfl; (with_reducible repeat (first | refine blk_drewN ?_ _ | refine blk_drew ?_ | refine blk_alloc ?_ _)); exact BK113.out))⟩; have n2_ : Aside0 (Below w.heap.size w w23) := ⟨(by rw [hw]; exact (by repeat (first | (with_reducible first | exact HB.out | apply below_alloc | apply pw_below_drewN | apply below_drew1 | refine below_set ?_ GE113.out) | exact HB.out)))⟩; clear hw; clear HO_5; clear BK113; clear HB; have HO_5 := n0_; have BK113 := n1_; have HB := n2_; clear n0_ n1_ n2_; have hcz24_0 : w23.cell? ⟨gb113, 0, none⟩ = some (.int .i64 ((rd_T23 y108 x17_1).f0)) := (blk_cell BK113.out 0).trans rfl; have hcz24_1 : w23.cell? ⟨gb113, 1, none⟩ = some (.int .i64 ((rd_T23 y108 x17_1).f1)) := (blk_cell BK113.out 1).trans rfl; have hcz24_2 : w23.cell? ⟨gb113, 2, none⟩ = some (.int .i64 ((rd_T23 y108 x17_1).f2)) := (blk_cell BK113.out 2).trans rfl; have hcz24_3 : w23.cell? ⟨gb113, 3, none⟩ = some (.int .i64 ((rd_T23 y108 x17_1).f3)) := (blk_cell BK113.out 3).trans rfl; have hfz24_0 := blk_frozen BK113.out 0; have hfz24_1 := blk_frozen BK113.out 1; have hfz24_2 := blk_frozen BK113.out 2; have hfz24_3 := blk_frozen BK113.out 3; obtain ⟨Ao25, co25, eo25⟩ := Kd.R_slice HO_5.out; subst eo25; have q26 : ((ji18) : Int) ≤ ((x5_1.length : Int) : Int) := of_decide_eq_true (by first | (with_reducible assumption) | assumption); obtain ⟨i026, hi026, _, hsz26, _⟩ := info_parts info3; have hcut26 := cut_to (P := Try.prog) 29 3 .i64 Try.underlying29 hi026 Ao25 x5_1.length co25 (ji18) (of_decide_eq_true (by first | (with_reducible assumption) | assumption)) q26 (Kd.R_reads' HO_5.out).2.1; have hr26 := Kd.R_take (m := ((ji18) : Int).toNat) HO_5.out (by omega); have hy26 : y117.length = ((ji18) : Int).toNat := (by rw [Ny117.out, List.length_take]; omega); rw [← Ny117.out] at hr26; rw [← hy26] at hr26 hcut26; clear hy26 hi026 hsz26 HO_5; have HO119 := Aside0.mk hr26; clear hr26; replace q26 := eq_true q26))
                            go_roundg k1
                            case measure => have := HK1.out; omega
                            case rel => exact ⟨(y117), (wrap64 (x17_1 + 1)), (by first | rfl | (simp; done) | (simp [*]; done)), H', ⟨by have := HK1.out; omega⟩, ⟨by (with_reducible repeat (first | apply Kd.R_alloc | apply Kd.R_drewN | apply Kd.R_drew)); exact HO119.out⟩, ⟨by repeat (first | (with_reducible first | exact HB.out | apply below_alloc | apply pw_below_drewN | apply below_drew1 | refine below_set ?_ GE113.out) | exact HB.out)⟩⟩
                          · rw [if_neg c20] at H
                            exact absurd H (by simp)
                        · rw [if_neg c19] at H
                          exact absurd H (by simp)
                      · rw [if_neg c17] at H
                        have c17b0 : decide (0 < (x5_1.length : Int)) = false := decide_eq_false c17
                        have c17b1 : decide (0 < x5_1.length) = false := decide_eq_false (by omega)
                        clear c17
                        have H' := Aside0.mk H
                        clear H
                        have p112 : 0 ≤ (x17_1 : Int) := of_decide_eq_true (by first | (with_reducible assumption) | assumption)
                        have q112 : x17_1 < (y108.length : Int) := of_decide_eq_true (by first | (with_reducible assumption) | assumption)
                        obtain ⟨ad112, e112, hx112_0, hx112_1, hx112_2, hx112_3⟩ := at_T23 HR111.out x17_1 p112 q112
                        cases e112
                        replace hx112_0 := (HB.out.cell (World.block_lt_of_cell? w _ hx112_0)).trans hx112_0
                        replace hx112_1 := (HB.out.cell (World.block_lt_of_cell? w _ hx112_1)).trans hx112_1
                        replace hx112_2 := (HB.out.cell (World.block_lt_of_cell? w _ hx112_2)).trans hx112_2
                        replace hx112_3 := (HB.out.cell (World.block_lt_of_cell? w _ hx112_3)).trans hx112_3
                        replace p112 := eq_true p112
                        replace q112 := eq_true q112
                        go_wp2_with (first | ((with_reducible refine gate_dst (N := 7) rfl ?_); (try (refine gate_guard (by rfl) ?_; dsimp only)); refine box_event ?hg (N := 7) ?hd (cs := #[.int .i64 0, .int .i64 0, .int .i64 0, .int .i64 0]) (t := 23) ?hr ?_; (case hd => rfl); (case hg => rfl); (case hr => first | (go_simp; done) | (go_simp; rfl)); intro gb113 hg w27 hbox hb; have n0_ := Aside0.mk (Kd.R_below (by (with_reducible repeat (first | apply Kd.R_alloc | apply Kd.R_drewN | apply Kd.R_drew)); exact HO_5.out) hb); have n1_ := Aside0.mk (below_step (by repeat (first | (with_reducible first | exact HB.out | apply below_alloc | apply pw_below_drewN | apply below_drew1) | exact HB.out)) hb); have n2_ := Aside0.mk (hbox); have n3_ := Aside0.mk ((by rw [hg]; exact (below_size (by repeat (first | (with_reducible first | exact HB.out | apply below_alloc | apply pw_below_drewN | apply below_drew1) | exact HB.out))) : w.heap.size ≤ gb113)); have n4_ := Aside0.mk ((by rw [hg]; exact (below_size (by repeat (first | (with_reducible first | exact HB.out | apply below_alloc | apply pw_below_drewN | apply below_drew1) | exact HB.out))) : w.heap.size ≤ gb113)); clear HO_5; clear HB; have HO_5 := n0_; have HB := n1_; have BK113 := n2_; have GW113 := n3_; have GE113 := n4_; clear n0_ n1_ n2_ n3_ n4_; clear hb hbox hg; have hcz28_0 : w27.cell? ⟨gb113, 0, none⟩ = some (.int .i64 0) := (blk_cell BK113.out 0).trans rfl; have hcz28_1 : w27.cell? ⟨gb113, 1, none⟩ = some (.int .i64 0) := (blk_cell BK113.out 1).trans rfl; have hcz28_2 : w27.cell? ⟨gb113, 2, none⟩ = some (.int .i64 0) := (blk_cell BK113.out 2).trans rfl; have hcz28_3 : w27.cell? ⟨gb113, 3, none⟩ = some (.int .i64 0) := (blk_cell BK113.out 3).trans rfl; have hfz28_0 := blk_frozen BK113.out 0; have hfz28_1 := blk_frozen BK113.out 1; have hfz28_2 := blk_frozen BK113.out 2; have hfz28_3 := blk_frozen BK113.out 3; obtain ⟨Ao29, co29, eo29⟩ := Kd.R_slice HO_5.out; subst eo29))
                        go_roundg k1
                        case measure => have := HK1.out; omega
                        case rel => exact ⟨(x5_1), (wrap64 (x17_1 + 1)), (by first | rfl | (simp; done) | (simp [*]; done)), H', ⟨by have := HK1.out; omega⟩, ⟨by (with_reducible repeat (first | apply Kd.R_alloc | apply Kd.R_drewN | apply Kd.R_drew)); exact Kd.R_mono (Kd.R_far (p := ⟨gb113, 3, none⟩) (Kd.R_far (p := ⟨gb113, 2, none⟩) (Kd.R_far (p := ⟨gb113, 1, none⟩) (Kd.R_far (p := ⟨gb113, 0, none⟩) (Kd.R_types HO_5.out BK113.out (by decide)) (fun _ hk => hk.2) (.int .i64 ((rd_T23 y108 x17_1).f0))) (fun _ hk => hk.2) (.int .i64 ((rd_T23 y108 x17_1).f1))) (fun _ hk => hk.2) (.int .i64 ((rd_T23 y108 x17_1).f2))) (fun _ hk => hk.2) (.int .i64 ((rd_T23 y108 x17_1).f3))) (fun _ hk => trivial)⟩, ⟨by repeat (first | (with_reducible first | exact HB.out | apply below_alloc | apply pw_below_drewN | apply below_drew1 | refine below_set ?_ GE113.out) | exact HB.out)⟩⟩
                    · rw [if_neg c16] at H
                      have c16b0 : (((rd_T23 y108 x17_1).f0) == 2) = false := beq_eq_false_iff_ne.mpr c16
                      have c16b1 : (((rd_T23 y108 x17_1).f0) != 2) = true := bne_iff_ne.mpr c16
                      have H' := Aside0.mk H
                      clear H
                      have p112 : 0 ≤ (x17_1 : Int) := of_decide_eq_true (by first | (with_reducible assumption) | assumption)
                      have q112 : x17_1 < (y108.length : Int) := of_decide_eq_true (by first | (with_reducible assumption) | assumption)
                      obtain ⟨ad112, e112, hx112_0, hx112_1, hx112_2, hx112_3⟩ := at_T23 HR111.out x17_1 p112 q112
                      cases e112
                      replace hx112_0 := (HB.out.cell (World.block_lt_of_cell? w _ hx112_0)).trans hx112_0
                      replace hx112_1 := (HB.out.cell (World.block_lt_of_cell? w _ hx112_1)).trans hx112_1
                      replace hx112_2 := (HB.out.cell (World.block_lt_of_cell? w _ hx112_2)).trans hx112_2
                      replace hx112_3 := (HB.out.cell (World.block_lt_of_cell? w _ hx112_3)).trans hx112_3
                      replace p112 := eq_true p112
                      replace q112 := eq_true q112
                      go_wp2_with (first | ((with_reducible refine gate_dst (N := 7) rfl ?_); (try (refine gate_guard (by rfl) ?_; dsimp only)); refine box_event ?hg (N := 7) ?hd (cs := #[.int .i64 0, .int .i64 0, .int .i64 0, .int .i64 0]) (t := 23) ?hr ?_; (case hd => rfl); (case hg => rfl); (case hr => first | (go_simp; done) | (go_simp; rfl)); intro gb113 hg w30 hbox hb; have n0_ := Aside0.mk (Kd.R_below (by (with_reducible repeat (first | apply Kd.R_alloc | apply Kd.R_drewN | apply Kd.R_drew)); exact HO_5.out) hb); have n1_ := Aside0.mk (below_step (by repeat (first | (with_reducible first | exact HB.out | apply below_alloc | apply pw_below_drewN | apply below_drew1) | exact HB.out)) hb); have n2_ := Aside0.mk (hbox); have n3_ := Aside0.mk ((by rw [hg]; exact (below_size (by repeat (first | (with_reducible first | exact HB.out | apply below_alloc | apply pw_below_drewN | apply below_drew1) | exact HB.out))) : w.heap.size ≤ gb113)); have n4_ := Aside0.mk ((by rw [hg]; exact (below_size (by repeat (first | (with_reducible first | exact HB.out | apply below_alloc | apply pw_below_drewN | apply below_drew1) | exact HB.out))) : w.heap.size ≤ gb113)); clear HO_5; clear HB; have HO_5 := n0_; have HB := n1_; have BK113 := n2_; have GW113 := n3_; have GE113 := n4_; clear n0_ n1_ n2_ n3_ n4_; clear hb hbox hg; have hcz31_0 : w30.cell? ⟨gb113, 0, none⟩ = some (.int .i64 0) := (blk_cell BK113.out 0).trans rfl; have hcz31_1 : w30.cell? ⟨gb113, 1, none⟩ = some (.int .i64 0) := (blk_cell BK113.out 1).trans rfl; have hcz31_2 : w30.cell? ⟨gb113, 2, none⟩ = some (.int .i64 0) := (blk_cell BK113.out 2).trans rfl; have hcz31_3 : w30.cell? ⟨gb113, 3, none⟩ = some (.int .i64 0) := (blk_cell BK113.out 3).trans rfl; have hfz31_0 := blk_frozen BK113.out 0; have hfz31_1 := blk_frozen BK113.out 1; have hfz31_2 := blk_frozen BK113.out 2; have hfz31_3 := blk_frozen BK113.out 3))
                      go_roundg k1
                      case measure => have := HK1.out; omega
                      case rel => exact ⟨(x5_1), (wrap64 (x17_1 + 1)), (by first | rfl | (simp; done) | (simp [*]; done)), H', ⟨by have := HK1.out; omega⟩, ⟨by (with_reducible repeat (first | apply Kd.R_alloc | apply Kd.R_drewN | apply Kd.R_drew)); exact Kd.R_mono (Kd.R_far (p := ⟨gb113, 3, none⟩) (Kd.R_far (p := ⟨gb113, 2, none⟩) (Kd.R_far (p := ⟨gb113, 1, none⟩) (Kd.R_far (p := ⟨gb113, 0, none⟩) (Kd.R_types HO_5.out BK113.out (by decide)) (fun _ hk => hk.2) (.int .i64 ((rd_T23 y108 x17_1).f0))) (fun _ hk => hk.2) (.int .i64 ((rd_T23 y108 x17_1).f1))) (fun _ hk => hk.2) (.int .i64 ((rd_T23 y108 x17_1).f2))) (fun _ hk => hk.2) (.int .i64 ((rd_T23 y108 x17_1).f3))) (fun _ hk => trivial)⟩, ⟨by repeat (first | (with_reducible first | exact HB.out | apply below_alloc | apply pw_below_drewN | apply below_drew1 | refine below_set ?_ GE113.out) | exact HB.out)⟩⟩
                · rw [if_neg c10] at H
                  exact absurd H (by simp)
              · rw [if_neg c9] at H
                exact absurd H (by simp)
            · rw [if_neg c8] at H
              have c8b0 : decide (x17_1 < (y108.length : Int)) = false := decide_eq_false c8
              clear c8
              obtain rfl := Option.some.inj H
              go_wp2
              go_ret
              exact ⟨_, by first | rfl | (simp [errW_none, errW_some] <;> rfl) | (simp only [← hji4]; first | rfl | (simp [errW_none, errW_some] <;> rfl)) | (simp [*, errW_none, errW_some] <;> rfl), by (with_reducible repeat (first | apply Kd.R_alloc | apply Kd.R_drewN | apply Kd.R_drew)); exact HO_5.out, by repeat (first | (with_reducible first | exact HB.out | apply below_alloc | apply pw_below_drewN | apply below_drew1) | exact HB.out)⟩
      · rw [if_neg c6] at H
        exact absurd H (by simp)
    · rw [if_neg c5] at H
      exact absurd H (by simp)

/-! ### flat_Deep: function 14 -/
def flat_Deep.f (k : Nat) (l0 : List (S23)) (a1 : Int) : Option (Int) := (flat_stack.f k l0 a1).bind fun t120 => (some (t120.length : Int))
theorem flat_Deep.mono : ∀ a0 a1 k, LeO (flat_Deep.f k a0 a1) (flat_Deep.f (k + 1) a0 a1) := by
  intro a0 a1 k
  unfold flat_Deep.f
  repeat' first
      | (with_reducible exact flat_stack.mono _ _ _)
      | (with_reducible exact LeO.refl _)
      | (with_reducible exact LeO.none _)
      | (with_reducible refine LeO.ite ?_ ?_)
      | (with_reducible refine LeO.bind ?_ (fun _ => ?_))
      | exact flat_stack.mono _ _ _
      | exact LeO.none _
      | refine LeO.ite ?_ ?_
      | refine LeO.bind ?_ (fun _ => ?_)
set_option maxHeartbeats 8000000 in
set_option maxRecDepth 100000 in
theorem flat_Deep.calls (k : Nat) (A0 : Option Addr) (c0 : Nat) (l0 : List (S23)) (a1 : Int) (r : Int) (w : World) (hr0 : Kd.C k23 w A0 l0.length l0) (hc0 : l0.length ≤ c0) (h : flat_Deep.f k l0 a1 = some r) :
    Calls Try.prog 14 #[.slice A0 l0.length c0, .int .i64 a1] w fun e w' => e = .returned (.int .i64 r) ∧ Below w.heap.size w w' := by
  have HR0 := Aside0.mk hr0
  have HC0 := Aside0.mk hc0
  clear hr0 hc0
  have HB := Aside0.mk (Below.refl w.heap.size w)
  have H : ((flat_stack.f k l0 a1).bind fun t120 => (some (t120.length : Int))) = some r := h
  clear h
  replace H := Option.bind_eq_some_iff.mp H
  obtain ⟨t120, A30, H⟩ := H
  replace H : (some (t120.length : Int)) = some r := H
  have A3 := Aside0.mk A30
  clear A30
  obtain rfl := Option.some.inj H
  go_enter Try.func14, Try.ntmps14
  go_wp2_with (first | ((with_reducible refine gate_callee (f := 33) rfl ?_); refine goesL_ (some 7) rfl rfl Try.func33 (by kernel_rfl) rfl #[.slice A0 l0.length c0, .int .i64 a1] rfl (by (try simp only [List.map_toArray, List.map_cons, List.map_nil]); first | done | rfl | (simp only [List.length_drop, List.length_take]; rfl)) ?_; (with_reducible refine (flat_stack.calls k _ _ l0 a1 t120 _ ?side1 ?side2 A3.out).mono ?_); (case side1 => repeat (first | exact HR0.out | (with_reducible refine Kd.C_alloc ?_ _) | (with_reducible refine Kd.C_drewN ?_ _) | (with_reducible refine Kd.C_drew ?_))); (case side2 => exact HC0.out); rintro e w4 ⟨v121, rfl, ho0, hb⟩; refine ⟨_, rfl, ?_⟩; have n0_ := Aside0.mk (Kd.R_lower ho0 (below_size (by repeat (first | (with_reducible first | exact HB.out | apply below_alloc | apply pw_below_drewN | apply below_drew1) | exact HB.out)))); have n1_ := Aside0.mk (below_step (by repeat (first | (with_reducible first | exact HB.out | apply below_alloc | apply pw_below_drewN | apply below_drew1) | exact HB.out)) hb); clear HB; have HO122 := n0_; have HB := n1_; clear n0_ n1_; (try clear hb); (try clear hb2); (try clear hk); (try clear hi); (try clear ho0); obtain ⟨Ao5, co5, eo5⟩ := Kd.R_slice HO122.out; subst eo5))
  go_ret
  exact ⟨by first | rfl | (simp [errW_none, errW_some] <;> rfl) | (simp [*, errW_none, errW_some] <;> rfl), by repeat (first | (with_reducible first | exact HB.out | apply below_alloc | apply pw_below_drewN | apply below_drew1) | exact HB.out)⟩

/-! ### flat_Text: function 24 -/

def flat_Text.one (t : S23) : List UInt8 := if t.f0 = 0 then (if flat_Right.f t.f0 t.f1 t.f2 t.f3 = some true then Lib.encodeRune t.f2 else []) else []
def flat_Text.txt (l : List S23) : List UInt8 := l.flatMap flat_Text.one
def flat_Text.f (l0 : List S23) : Option ByteArray := if l0.length < 17592186044416 then some ⟨(flat_Text.txt l0).toArray⟩ else none
theorem flat_Text.step (l0 : List S23) (i : Int) (hi : i.toNat < l0.length) : flat_Text.txt (l0.drop i.toNat) = flat_Text.one (rd_T23 l0 i) ++ flat_Text.txt (l0.drop (i.toNat + 1)) := by
  have e : rd_T23 l0 i = l0[i.toNat] := by simp [rd_T23, List.getD_eq_getElem?_getD, List.getElem?_eq_getElem hi]
  rw [List.drop_eq_getElem_cons hi, e]
  rfl
theorem flat_Text.right_bounds (a b c d : Int) (h : flat_Right.f a b c d = some true) (ha : a = 0) : 0 ≤ c ∧ c ≤ 1114111 := by
  subst ha
  unfold flat_Right.f at h
  simp only [if_true] at h
  by_cases h1 : b = 0
  · rw [if_pos h1] at h
    by_cases h2 : c ≥ 0
    · rw [if_pos h2] at h
      by_cases h3 : c ≤ 1114111
      · exact ⟨h2, h3⟩
      · rw [if_neg h3] at h
        cases h
    · rw [if_neg h2] at h
      cases h
  · rw [if_neg h1] at h
    cases h
theorem flat_Text.encode_le (n : Int) : (Lib.encodeRune n).length ≤ 4 := by
  unfold Lib.encodeRune Lib.encodeRuneZ
  rw [List.length_map]
  split
  · simp
  · split
    · simp
    · split
      · simp
      · split <;> simp
theorem flat_Text.below {T e : TypeId} {B b : Nat} {bs : List Value} {W W1 : World} (h : Lib.IsBuilderF T e B b bs W) (hb : Below W.heap.size W W1) : Lib.IsBuilderF T e B b bs W1 := by
  have one : ∀ p, Lib.BuilderAtF T e B b p bs W → Lib.BuilderAtF T e B b p bs W1 := by
    rintro p ⟨hB, v, h1, h2, h3⟩
    exact ⟨hB, v, blk_below h1 hb, h2.kept (grown_of_below hb none) (by cases v.ownBlock <;> simp), h3⟩
  exact h.elim (fun x => .inl (one _ x)) (fun x => .inr (one _ x))
theorem flat_Text.set {T e t : TypeId} {B b g : Nat} {bs : List Value} {W : World} {cs : Array Value} {fr : Nat × Nat} (h : Lib.IsBuilderF T e B b bs W) (hg : W.heap[g]? = some (.cells cs t fr)) (h1 : t ≠ T) (h2 : t ≠ e) (j : Nat) (u : Value) : Lib.IsBuilderF T e B b bs (W.setCell ⟨g, j, none⟩ u) := by
  have one : ∀ p, Lib.BuilderAtF T e B b p bs W → Lib.BuilderAtF T e B b p bs (W.setCell ⟨g, j, none⟩ u) := by
    rintro p ⟨hB, v, k1, k2, k3⟩
    have hne : b ≠ g := by
      rintro rfl
      rw [hg] at k1
      injection k1 with k1
      injection k1 with _ k1
      exact h1 k1
    refine ⟨hB, v, blk_far k1 hne u, k2.kept (row := some g) ?_ ?_, k3⟩
    · exact ⟨rfl, rfl, rfl, by simp [World.setCell], fun i hi hne => by
        simp only [World.setCell]
        rw [Array.getElem?_modify, if_neg (by rintro rfl; exact hne rfl)]⟩
    · right
      intro e2
      rcases k2.2 with ⟨rfl, _⟩ | ⟨g', cap, cur, fz, rfl, _, hg', _⟩
      · simp [Value.ownBlock] at e2
      · have : g' = g := by simpa [Value.ownBlock] using e2
        subst this
        rw [hg] at hg'
        injection hg' with hg'
        injection hg' with _ hg'
        exact h2 hg'
  exact h.elim (fun x => .inl (one _ x)) (fun x => .inr (one _ x))
theorem flat_Text.set4 {T e t : TypeId} {B b g : Nat} {bs : List Value} {W : World} {a0 a1 a2 a3 : Value} (h : Lib.IsBuilderF T e B b bs W) (hg : W.heap[g]? = some (.cells #[a0, a1, a2, a3] t (0, 0))) (h1 : t ≠ T) (h2 : t ≠ e) (x0 x1 x2 x3 : Value) :
    Lib.IsBuilderF T e B b bs ((((W.setCell ⟨g, 0, none⟩ x0).setCell ⟨g, 1, none⟩ x1).setCell ⟨g, 2, none⟩ x2).setCell ⟨g, 3, none⟩ x3) ∧ ((((W.setCell ⟨g, 0, none⟩ x0).setCell ⟨g, 1, none⟩ x1).setCell ⟨g, 2, none⟩ x2).setCell ⟨g, 3, none⟩ x3).heap[g]? = some (.cells #[x0, x1, x2, x3] t (0, 0)) := by
  have b1 : (W.setCell ⟨g, 0, none⟩ x0).heap[g]? = some (.cells #[x0, a1, a2, a3] t (0, 0)) := by simpa using blk_set hg 0 x0
  have b2 : ((W.setCell ⟨g, 0, none⟩ x0).setCell ⟨g, 1, none⟩ x1).heap[g]? = some (.cells #[x0, x1, a2, a3] t (0, 0)) := by simpa using blk_set b1 1 x1
  have b3 : (((W.setCell ⟨g, 0, none⟩ x0).setCell ⟨g, 1, none⟩ x1).setCell ⟨g, 2, none⟩ x2).heap[g]? = some (.cells #[x0, x1, x2, a3] t (0, 0)) := by simpa using blk_set b2 2 x2
  exact ⟨flat_Text.set (flat_Text.set (flat_Text.set (flat_Text.set h hg h1 h2 0 x0) b1 h1 h2 1 x1) b2 h1 h2 2 x2) b3 h1 h2 3 x3, by simpa using blk_set b3 3 x3⟩
set_option maxHeartbeats 4000000 in
set_option maxRecDepth 100000 in
theorem flat_Text.calls (A0 : Option Addr) (c0 : Nat) (l0 : List S23) (r : ByteArray) (w : World) (hr0 : Kd.C k23 w A0 l0.length l0) (hc0 : l0.length ≤ c0) (h : flat_Text.f l0 = some r) :
    Calls Try.prog 24 #[.slice A0 l0.length c0] w fun e w' => e = .returned (.string r) ∧ Below w.heap.size w w' := by
  have hu_ := Try.underlying23
  have HR0 := Aside0.mk hr0
  have HC0 := Aside0.mk hc0
  clear hr0 hc0
  have HB := Aside0.mk (Below.refl w.heap.size w)
  unfold flat_Text.f at h
  by_cases hl : l0.length < 17592186044416
  · rw [if_pos hl] at h
    obtain rfl := Option.some.inj h
    have HL := Aside0.mk hl
    clear hl h
    go_enter Try.func24, Try.ntmps24
    go_wp2_with (first | ((with_reducible refine gate_dst (N := 3) rfl ?_); refine box_event ?hg (N := 3) ?hd (cs := #[.pointer none, .slice none 0 0]) (t := 53) ?hr ?_; (case hd => rfl); (case hg => rfl); (case hr => first | (go_simp; done) | (go_simp; rfl)); intro gA hg w3 hbox hb; have n0_ := Aside0.mk (below_step HB.out hb); have GA := Aside0.mk ((by rw [hg]; exact (below_size HB.out)) : w.heap.size ≤ gA); have HI := Aside0.mk (show Lib.IsBuilderF 53 5 w.heap.size gA (Lib.byteCells []) w3 from .inl ⟨GA.out, .slice none 0 0, hbox, World.ownsRowF_nil _ _ _ _, by simp [Value.ownBlock]⟩); clear HB; have HB := n0_; clear n0_ hb hbox hg))
    go_loopg [8] l0.length (fun kq v8 w' => ∃ (i : Int), v8 = .int .i64 i ∧ Aside0 (0 ≤ i ∧ i + kq = l0.length) ∧ Aside0 (∃ acc : List UInt8, acc ++ flat_Text.txt (l0.drop i.toNat) = flat_Text.txt l0 ∧ (acc.length : Int) ≤ 4 * i ∧ Lib.IsBuilderF 53 5 w.heap.size gA (Lib.byteCells acc) w') ∧ Aside0 (Below w.heap.size w w'))
    case atStart => exact ⟨0, rfl, ⟨by omega⟩, ⟨[], rfl, by simp, HI.out⟩, HB⟩
    case round =>
      clear HI HB
      obtain ⟨i, rfl, HII, HA, HB⟩ := hrel
      obtain ⟨acc, hacc, hal, hI⟩ := HA.out
      have HI := Aside0.mk hI
      have HACC := Aside0.mk hacc
      have HAL := Aside0.mk hal
      have hI := HII.out
      have hL := HL.out
      clear HII HA hacc hal
      by_cases c3 : i < (l0.length : Int)
      · have c3b : decide (i < (l0.length : Int)) = true := decide_eq_true c3
        have hst := flat_Text.step l0 i (by omega)
        have HACC2 := Aside0.mk (show acc ++ (flat_Text.one (rd_T23 l0 i) ++ flat_Text.txt (l0.drop (i.toNat + 1))) = flat_Text.txt l0 from by rw [← hst]; exact HACC.out)
        clear hst HACC
        obtain ⟨ad, e_, hx0, hx1, hx2, hx3⟩ := at_T23 HR0.out i hI.1 c3
        cases e_
        replace hx0 := (HB.out.cell (World.block_lt_of_cell? w _ hx0)).trans hx0
        replace hx1 := (HB.out.cell (World.block_lt_of_cell? w _ hx1)).trans hx1
        replace hx2 := (HB.out.cell (World.block_lt_of_cell? w _ hx2)).trans hx2
        replace hx3 := (HB.out.cell (World.block_lt_of_cell? w _ hx3)).trans hx3
        have HII := Aside0.mk hI
        have C3 := Aside0.mk c3
        have p1 := eq_true hI.1
        have q1 := eq_true c3
        have WI := Aside0.mk (show wrap64 (i + 1) = i + 1 from by unfold wrap64; omega)
        have T1 := Aside0.mk (show (i + 1).toNat = i.toNat + 1 from by omega)
        have hRS : ∃ b, flat_Right.f (rd_T23 l0 i).f0 (rd_T23 l0 i).f1 (rd_T23 l0 i).f2 (rd_T23 l0 i).f3 = some b := by
          unfold flat_Right.f mark_Right.f
          repeat' split
          all_goals first | exact ⟨_, rfl⟩ | (simp only [Option.bind_some]; exact ⟨_, rfl⟩)
        obtain ⟨tb, hRS⟩ := hRS
        have A6 := Aside0.mk hRS
        clear hI c3 hL hRS
        by_cases c4 : (rd_T23 l0 i).f0 = 0
        · have c4b0 : ((rd_T23 l0 i).f0 == 0) = true := beq_iff_eq.mpr c4
          have C4 := Aside0.mk c4
          clear c4
          go_wp2_with (first | ((with_reducible refine gate_dst (N := 5) rfl ?_); refine box_event ?hg (N := 5) ?hd (cs := #[.int .i64 0, .int .i64 0, .int .i64 0, .int .i64 0]) (t := 23) ?hr ?_; (case hd => rfl); (case hg => rfl); (case hr => first | (go_simp; done) | (go_simp; rfl)); intro gb hg w8 hbox hb; have n0_ := Aside0.mk (below_step (by repeat (first | (with_reducible first | exact HB.out | apply below_alloc | apply pw_below_drewN | apply below_drew1) | exact HB.out)) hb); have n2_ := Aside0.mk ((by rw [hg]; exact (below_size (by repeat (first | (with_reducible first | exact HB.out | apply below_alloc | apply pw_below_drewN | apply below_drew1) | exact HB.out)))) : w.heap.size ≤ gb); have n3_ := Aside0.mk (flat_Text.below HI.out hb); clear HB HI hI; have HB := n0_; have BK := Aside0.mk hbox; have GE := n2_; have HI := n3_; clear n0_ n2_ n3_; clear hb hbox hg; have hcz_0 : w8.cell? ⟨gb, 0, none⟩ = some (.int .i64 0) := (blk_cell BK.out 0).trans rfl; have hcz_1 : w8.cell? ⟨gb, 1, none⟩ = some (.int .i64 0) := (blk_cell BK.out 1).trans rfl; have hcz_2 : w8.cell? ⟨gb, 2, none⟩ = some (.int .i64 0) := (blk_cell BK.out 2).trans rfl; have hcz_3 : w8.cell? ⟨gb, 3, none⟩ = some (.int .i64 0) := (blk_cell BK.out 3).trans rfl; have hfz_0 := blk_frozen BK.out 0; have hfz_1 := blk_frozen BK.out 1; have hfz_2 := blk_frozen BK.out 2; have hfz_3 := blk_frozen BK.out 3))
          refine (flat_Right.calls (rd_T23 l0 i).f0 (rd_T23 l0 i).f1 (rd_T23 l0 i).f2 (rd_T23 l0 i).f3 tb _ A6.out).mono ?_
          rintro e w10 ⟨rfl, hb⟩
          obtain ⟨hI4, hB4⟩ := flat_Text.set4 HI.out BK.out (by decide) (by decide) (.int .i64 (rd_T23 l0 i).f0) (.int .i64 (rd_T23 l0 i).f1) (.int .i64 (rd_T23 l0 i).f2) (.int .i64 (rd_T23 l0 i).f3)
          have n0_ := Aside0.mk (flat_Text.below hI4 hb)
          have n1_ := Aside0.mk (below_step (by repeat (first | (with_reducible first | exact HB.out | apply below_alloc | apply pw_below_drewN | apply below_drew1 | refine below_set ?_ GE.out) | exact HB.out)) hb)
          have n2_ := Aside0.mk (blk_below hB4 hb)
          clear HI HB BK hI4 hB4
          have HI := n0_
          have HB := n1_
          have BK := n2_
          clear n0_ n1_ n2_ hb hcz_0 hcz_1 hcz_2 hcz_3 hfz_0 hfz_1 hfz_2 hfz_3
          have hcy_0 : w10.cell? ⟨gb, 0, none⟩ = some (.int .i64 (rd_T23 l0 i).f0) := (blk_cell BK.out 0).trans rfl
          have hcy_2 : w10.cell? ⟨gb, 2, none⟩ = some (.int .i64 (rd_T23 l0 i).f2) := (blk_cell BK.out 2).trans rfl
          cases tb with
          | false =>
            go_wp2
            go_roundg (gk - 1)
            case measure => have := HII.out; have := C3.out; omega
            case rel => exact ⟨i + 1, by first | rfl | (rw [WI.out]; done) | go_num, ⟨by have := HII.out; have := C3.out; omega⟩, ⟨acc, by rw [T1.out]; have := HACC2.out; unfold flat_Text.one at this; rw [if_pos C4.out, if_neg (by rw [A6.out]; decide)] at this; exact this, by have := HAL.out; omega, HI.out⟩, HB⟩
          | true =>
            have hN := flat_Text.right_bounds _ _ _ _ A6.out C4.out
            have hN0 := hN.1
            have hN1 := hN.2
            have HBW := Aside0.mk HB.out.size
            clear hN
            go_wp2_with fail
            refine (Try.Builder_WriteRune_k w.heap.size gA _ (rd_T23 l0 i).f2 (by omega) (by omega) _ HI.out (by rw [Lib.byteCells_length]; have := HAL.out; have := HII.out; have := C3.out; have := HL.out; omega) HBW.out).mono ?_
            rintro e W1 ⟨rfl, h1, b1, k1⟩
            have n0_ := Aside0.mk ((Or.inr h1 : Lib.IsBuilderF 53 5 w.heap.size gA _ W1))
            have n1_ := Aside0.mk (HB.out.trans b1)
            clear HI HB h1 b1 k1
            have HI := n0_
            have HB := n1_
            clear n0_ n1_
            go_wp2
            go_roundg (gk - 1)
            case measure => have := HII.out; have := C3.out; omega
            case rel => exact ⟨i + 1, by first | rfl | (rw [WI.out]; done) | go_num, ⟨by have := HII.out; have := C3.out; omega⟩, ⟨acc ++ Lib.encodeRune (rd_T23 l0 i).f2, by rw [T1.out]; have := HACC2.out; unfold flat_Text.one at this; rw [if_pos C4.out, if_pos A6.out] at this; rw [List.append_assoc]; exact this, by have := HAL.out; have := flat_Text.encode_le (rd_T23 l0 i).f2; rw [List.length_append]; omega, by rw [Lib.byteCells_append, Lib.byteCells_encodeRune]; exact HI.out⟩, HB⟩
        · have c4b0 : ((rd_T23 l0 i).f0 == 0) = false := beq_eq_false_iff_ne.mpr c4
          have C4 := Aside0.mk c4
          clear c4
          go_wp2_with (first | ((with_reducible refine gate_dst (N := 5) rfl ?_); refine box_event ?hg (N := 5) ?hd (cs := #[.int .i64 0, .int .i64 0, .int .i64 0, .int .i64 0]) (t := 23) ?hr ?_; (case hd => rfl); (case hg => rfl); (case hr => first | (go_simp; done) | (go_simp; rfl)); intro gb hg w8 hbox hb; have n0_ := Aside0.mk (below_step (by repeat (first | (with_reducible first | exact HB.out | apply below_alloc | apply pw_below_drewN | apply below_drew1) | exact HB.out)) hb); have n2_ := Aside0.mk ((by rw [hg]; exact (below_size (by repeat (first | (with_reducible first | exact HB.out | apply below_alloc | apply pw_below_drewN | apply below_drew1) | exact HB.out)))) : w.heap.size ≤ gb); have n3_ := Aside0.mk (flat_Text.below HI.out hb); clear HB HI hI; have HB := n0_; have BK := Aside0.mk hbox; have GE := n2_; have HI := n3_; clear n0_ n2_ n3_; clear hb hbox hg; have hcz_0 : w8.cell? ⟨gb, 0, none⟩ = some (.int .i64 0) := (blk_cell BK.out 0).trans rfl; have hcz_1 : w8.cell? ⟨gb, 1, none⟩ = some (.int .i64 0) := (blk_cell BK.out 1).trans rfl; have hcz_2 : w8.cell? ⟨gb, 2, none⟩ = some (.int .i64 0) := (blk_cell BK.out 2).trans rfl; have hcz_3 : w8.cell? ⟨gb, 3, none⟩ = some (.int .i64 0) := (blk_cell BK.out 3).trans rfl; have hfz_0 := blk_frozen BK.out 0; have hfz_1 := blk_frozen BK.out 1; have hfz_2 := blk_frozen BK.out 2; have hfz_3 := blk_frozen BK.out 3))
          obtain ⟨hI4, _⟩ := flat_Text.set4 HI.out BK.out (by decide) (by decide) (.int .i64 (rd_T23 l0 i).f0) (.int .i64 (rd_T23 l0 i).f1) (.int .i64 (rd_T23 l0 i).f2) (.int .i64 (rd_T23 l0 i).f3)
          have HI4 := Aside0.mk hI4
          clear hI4
          go_wp2
          go_roundg (gk - 1)
          case measure => have := HII.out; have := C3.out; omega
          case rel => exact ⟨i + 1, by first | rfl | (rw [WI.out]; done) | go_num, ⟨by have := HII.out; have := C3.out; omega⟩, ⟨acc, by rw [T1.out]; have := HACC2.out; unfold flat_Text.one at this; rw [if_neg C4.out] at this; exact this, by have := HAL.out; omega, HI4.out⟩, ⟨(by repeat (first | (with_reducible first | exact HB.out | apply below_alloc | apply pw_below_drewN | apply below_drew1 | refine below_set ?_ GE.out) | exact HB.out))⟩⟩
      · have c3b : decide (i < (l0.length : Int)) = false := decide_eq_false c3
        have HBW := Aside0.mk HB.out.size
        have hacc := HACC.out
        rw [List.drop_eq_nil_of_le (by omega)] at hacc
        have HACC2 := Aside0.mk (show acc = flat_Text.txt l0 from by rw [← hacc]; simp [flat_Text.txt])
        clear HACC hacc hI hL c3
        go_wp2_with fail
        refine (Try.Builder_String_any_k w.heap.size gA acc _ HI.out HBW.out).mono ?_
        rintro e W1 ⟨rfl, h1, b1, k1⟩
        have n1_ := Aside0.mk (HB.out.trans b1)
        clear HB h1 b1 k1
        go_wp2
        go_ret
        exact ⟨by first | (rw [HACC2.out]; done) | (rw [HACC2.out]; rfl) | (simp only [HACC2.out]; done), n1_.out⟩
  · rw [if_neg hl] at h
    cases h

end Go.Proofs.Ytamgpedfhcalpaa.PFm
