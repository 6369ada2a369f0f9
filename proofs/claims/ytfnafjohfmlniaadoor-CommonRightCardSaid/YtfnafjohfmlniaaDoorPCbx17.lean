-- Written for this claim by a program (the kit's print, with hand-made contracts for what it does not take).
import Derived.Test.YtfnafjohfmlniaaDoorPCbx0
import Derived.Test.YtfnafjohfmlniaaDoorPCbx12
import Derived.Test.YtfnafjohfmlniaaDoorPCbx13
import Derived.Test.YtfnafjohfmlniaaDoorPCbx14
namespace Go.Proofs.YtfnafjohfmlniaaDoor.PCb
open Go.RowKit Go.Proofs.YtfnafjohfmlniaaDoorW.PrintWords Go.Proofs.YtfnafjohfmlniaaDoorW.PrintLast Go.Proofs.YtfnafjohfmlniaaDoorW.PrintMore
attribute [local go_sem] max2_int min2_int max_two min_two max_three min_three max_four min_four   -- for this text's walks alone
set_option linter.unusedVariables false
set_option linter.unusedSimpArgs false

/-! ### emenderlaw28_CommonRight: function 7 -/
def emenderlaw28_CommonRight.l0 : Nat → ByteArray → List (S43) → Int → Int → Option (Bool)
  | 0, _, _, _, _ => none
  | k + 1, x0, x3, x4, x6 => if x6 < (x3.length : Int) then (if 0 ≤ x6 then ((flat_Right.f ((rd_T43 x3 x6).f0) ((rd_T43 x3 x6).f1) ((rd_T43 x3 x6).f2) ((rd_T43 x3 x6).f3)).bind fun t162 => (if t162 = true then (if ((rd_T43 x3 x6).f0) = 0 then (if ((rd_T43 x3 x6).f2) = 10 then (none) else (emenderlaw28_CommonRight.l0 k x0 x3 x4 (wrap64 (x6 + 1)))) else (none)) else (none))) else (none)) else (if x4 = (x0.size : Int) then ((flat_Text.f x3).bind fun t165 => (if (t165.size : Int) ≤ (x0.size : Int) then ((emenderlaw28_awake.f).bind fun t166 => (some t166)) else (none))) else (none))
def emenderlaw28_CommonRight.f (k : Nat) (a0 : ByteArray) : Option (Bool) := (common_Parse.f a0).bind fun bt155 => (if bt155.2.2 = 0 then (emenderlaw28_CommonRight.l0 k a0 bt155.1 bt155.2.1 0) else (if (bt155.1.length : Int) = 0 then (if bt155.2.1 ≥ 0 then (if bt155.2.1 ≤ (a0.size : Int) then ((emenderlaw28_awake.f).bind fun t160 => (some t160)) else (none)) else (none)) else (none)))
theorem emenderlaw28_CommonRight.mono_l : ∀ k, (∀ y0 y1 y2 y3, LeO (emenderlaw28_CommonRight.l0 k y0 y1 y2 y3) (emenderlaw28_CommonRight.l0 (k + 1) y0 y1 y2 y3))
  | 0 => fun _ _ _ _ r h => by simp [emenderlaw28_CommonRight.l0] at h
  | k + 1 => by
    have ih0 := emenderlaw28_CommonRight.mono_l k
    · intro y0 y1 y2 y3
      unfold emenderlaw28_CommonRight.l0
      repeat' first
      | (with_reducible exact ih0 _ _ _ _)
      | (with_reducible exact LeO.refl _)
      | (with_reducible exact LeO.none _)
      | (with_reducible refine LeO.ite ?_ ?_)
      | (with_reducible refine LeO.bind ?_ (fun _ => ?_))
      | exact ih0 _ _ _ _
      | exact LeO.none _
      | refine LeO.ite ?_ ?_
      | refine LeO.bind ?_ (fun _ => ?_)
theorem emenderlaw28_CommonRight.mono : ∀ a0 k, LeO (emenderlaw28_CommonRight.f k a0) (emenderlaw28_CommonRight.f (k + 1) a0) := by
  intro a0 k
  have ih0 := emenderlaw28_CommonRight.mono_l k
  unfold emenderlaw28_CommonRight.f
  repeat' first
      | (with_reducible exact ih0 _ _ _ _)
      | (with_reducible exact LeO.refl _)
      | (with_reducible exact LeO.none _)
      | (with_reducible refine LeO.ite ?_ ?_)
      | (with_reducible refine LeO.bind ?_ (fun _ => ?_))
      | exact ih0 _ _ _ _
      | exact LeO.none _
      | refine LeO.ite ?_ ?_
      | refine LeO.bind ?_ (fun _ => ?_)
set_option maxHeartbeats 8000000 in
set_option maxRecDepth 100000 in
theorem emenderlaw28_CommonRight.calls (k : Nat) (a0 : ByteArray) (r : Bool) (w : World) (HT_ : Aside0 (Lib.Utf8Tabs 0 1 w)) (h : emenderlaw28_CommonRight.f k a0 = some r) :
    Calls Tryd.prog 7 #[.string a0] w fun e w' => e = .returned (.bool r) ∧ Below w.heap.size w w' := by
  have hu43 := Tryd.underlying43
  have HB := Aside0.mk (Below.refl w.heap.size w)
  have H : ((common_Parse.f a0).bind fun bt155 => (if bt155.2.2 = 0 then (emenderlaw28_CommonRight.l0 k a0 bt155.1 bt155.2.1 0) else (if (bt155.1.length : Int) = 0 then (if bt155.2.1 ≥ 0 then (if bt155.2.1 ≤ (a0.size : Int) then ((emenderlaw28_awake.f).bind fun t160 => (some t160)) else (none)) else (none)) else (none)))) = some r := h
  clear h
  replace H := Option.bind_eq_some_iff.mp H
  obtain ⟨⟨t155, t156, t157⟩, A20, H⟩ := H
  replace H : (if t157 = 0 then (emenderlaw28_CommonRight.l0 k a0 t155 t156 0) else (if (t155.length : Int) = 0 then (if t156 ≥ 0 then (if t156 ≤ (a0.size : Int) then ((emenderlaw28_awake.f).bind fun t160 => (some t160)) else (none)) else (none)) else (none))) = some r := H
  have A2 := Aside0.mk A20
  clear A20
  by_cases c3 : t157 = 0
  · rw [if_pos c3] at H
    have c3b0 : (t157 == 0) = true := beq_iff_eq.mpr c3
    have c3b1 : (t157 != 0) = false := bne_eq_false_iff_eq.mpr c3
    clear c3
    have H' := Aside0.mk H
    clear H
    go_enter Tryd.func7, Tryd.ntmps7
    go_wp2_with (first | ((with_reducible refine gate_callee (f := 10) rfl ?_); refine goesL_ (some 9) rfl rfl Tryd.func10 (by kernel_rfl) rfl #[.string a0] rfl (by (try simp only [List.map_toArray, List.map_cons, List.map_nil]); first | done | rfl | (simp only [List.length_drop, List.length_take]; rfl)) ?_; (with_reducible refine (common_Parse.calls a0 t155 t156 t157 _ A2.out).mono ?_); rintro e w4 ⟨v158, rfl, ho0, hb⟩; refine ⟨_, rfl, ?_⟩; have n0_ := Aside0.mk (Kd.R_lower ho0 (below_size (by repeat (first | (with_reducible first | exact HB.out | apply below_alloc | apply pw_below_drewN | apply below_drew1) | exact HB.out)))); have n1_ := Aside0.mk (below_step (by repeat (first | (with_reducible first | exact HB.out | apply below_alloc | apply pw_below_drewN | apply below_drew1) | exact HB.out)) hb); clear HB; have HO159 := n0_; have HB := n1_; clear n0_ n1_; (try clear hb); (try clear hb2); (try clear hk); (try clear hi); (try clear ho0)))
    go_loopg [6] k (fun kq v6 w' => ∃ (x6_1 : Int), v6 = .int .i64 x6_1 ∧ Aside0 (emenderlaw28_CommonRight.l0 kq a0 t155 t156 x6_1 = some r) ∧ Aside0 (kq ≤ k) ∧ Aside0 (Kd.R k43 43 w' w.heap.size (fun _ => True) v158 t155) ∧ Aside0 (Below w.heap.size w w'))
    case atStart => exact ⟨(0), (by first | rfl | (simp; done) | (simp [*]; done)), H', ⟨Nat.le_refl _⟩, ⟨by (with_reducible repeat (first | apply Kd.R_alloc | apply Kd.R_drewN | apply Kd.R_drew)); exact HO159.out⟩, ⟨by repeat (first | (with_reducible first | exact HB.out | apply below_alloc | apply pw_below_drewN | apply below_drew1) | exact HB.out)⟩⟩
    case round =>
      clear H'
      try clear c1
      try clear p2
      try clear c3
      try clear c3b0
      try clear c3b1
      obtain ⟨x6_1, rfl, HA, HK1, HO_3, HB⟩ := hrel
      cases gk with
      | zero => exact absurd HA.out (by simp [emenderlaw28_CommonRight.l0])
      | succ k1 =>
        have H := HA.out
        clear HA
        simp only [emenderlaw28_CommonRight.l0] at H
        by_cases c5 : x6_1 < (t155.length : Int)
        · rw [if_pos c5] at H
          have c5b0 : decide (x6_1 < (t155.length : Int)) = true := decide_eq_true c5
          clear c5
          by_cases c6 : 0 ≤ x6_1
          · rw [if_pos c6] at H
            have c6b0 : decide (0 ≤ x6_1) = true := decide_eq_true c6
            clear c6
            replace H := Option.bind_eq_some_iff.mp H
            obtain ⟨t162, A70, H⟩ := H
            replace H : (if t162 = true then (if ((rd_T43 t155 x6_1).f0) = 0 then (if ((rd_T43 t155 x6_1).f2) = 10 then (none) else (emenderlaw28_CommonRight.l0 k1 a0 t155 t156 (wrap64 (x6_1 + 1)))) else (none)) else (none)) = some r := H
            have A7 := Aside0.mk A70
            clear A70
            by_cases c8 : t162 = true
            · subst c8
              have H1 : (if ((rd_T43 t155 x6_1).f0) = 0 then (if ((rd_T43 t155 x6_1).f2) = 10 then (none) else (emenderlaw28_CommonRight.l0 k1 a0 t155 t156 (wrap64 (x6_1 + 1)))) else (none)) = some r := by rw [if_pos rfl] at H; exact H
              clear H
              have H := H1
              clear H1
              by_cases c9 : ((rd_T43 t155 x6_1).f0) = 0
              · rw [if_pos c9] at H
                have c9b0 : (((rd_T43 t155 x6_1).f0) == 0) = true := beq_iff_eq.mpr c9
                have c9b1 : (((rd_T43 t155 x6_1).f0) != 0) = false := bne_eq_false_iff_eq.mpr c9
                clear c9
                by_cases c10 : ((rd_T43 t155 x6_1).f2) = 10
                · rw [if_pos c10] at H
                  exact absurd H (by simp)
                · rw [if_neg c10] at H
                  have c10b0 : (((rd_T43 t155 x6_1).f2) == 10) = false := beq_eq_false_iff_ne.mpr c10
                  have c10b1 : (((rd_T43 t155 x6_1).f2) != 10) = true := bne_iff_ne.mpr c10
                  have H' := Aside0.mk H
                  clear H
                  obtain ⟨Ao11, co11, eo11⟩ := Kd.R_slice HO_3.out
                  subst eo11
                  have p161 : 0 ≤ (x6_1 : Int) := of_decide_eq_true (by first | (with_reducible assumption) | assumption)
                  have q161 : x6_1 < (t155.length : Int) := of_decide_eq_true (by first | (with_reducible assumption) | assumption)
                  obtain ⟨ad161, e161, hx161_0, hx161_1, hx161_2, hx161_3⟩ := at_T43 (Kd.R_reads' HO_3.out).2.2 x6_1 p161 q161
                  cases e161
                  replace p161 := eq_true p161
                  replace q161 := eq_true q161
                  go_wp2_with (first | ((with_reducible refine gate_callee (f := 16) rfl ?_); refine goesL_ (some 41) rfl rfl Tryd.func16 (by kernel_rfl) rfl #[.agg #[.int .i64 ((rd_T43 t155 x6_1).f0), .int .i64 ((rd_T43 t155 x6_1).f1), .int .i64 ((rd_T43 t155 x6_1).f2), .int .i64 ((rd_T43 t155 x6_1).f3)]] rfl (by (try simp only [List.map_toArray, List.map_cons, List.map_nil]); first | done | rfl | (simp only [List.length_drop, List.length_take]; rfl)) ?_; (with_reducible refine (flat_Right.calls ((rd_T43 t155 x6_1).f0) ((rd_T43 t155 x6_1).f1) ((rd_T43 t155 x6_1).f2) ((rd_T43 t155 x6_1).f3) true _ A7.out).mono ?_); rintro e w12 ⟨rfl, hb⟩; refine ⟨_, rfl, ?_⟩; have n0_ := Aside0.mk (Kd.R_below (by (with_reducible repeat (first | apply Kd.R_alloc | apply Kd.R_drewN | apply Kd.R_drew)); exact HO_3.out) hb); have n1_ := Aside0.mk (below_step (by repeat (first | (with_reducible first | exact HB.out | apply below_alloc | apply pw_below_drewN | apply below_drew1) | exact HB.out)) hb); clear HO_3; clear HB; have HO_3 := n0_; have HB := n1_; clear n0_ n1_; (try clear hb); (try clear hb2); (try clear hk); (try clear hi); have p163 : 0 ≤ (x6_1 : Int) := of_decide_eq_true (by first | (with_reducible assumption) | assumption); have q163 : x6_1 < (t155.length : Int) := of_decide_eq_true (by first | (with_reducible assumption) | assumption); obtain ⟨ad163, e163, hx163_0, hx163_1, hx163_2, hx163_3⟩ := at_T43 (Kd.R_reads' HO_3.out).2.2 x6_1 p163 q163; obtain rfl : ad161 = ad163 := (by injection e163); replace p163 := eq_true p163; replace q163 := eq_true q163; have p164 : 0 ≤ (x6_1 : Int) := of_decide_eq_true (by first | (with_reducible assumption) | assumption); have q164 : x6_1 < (t155.length : Int) := of_decide_eq_true (by first | (with_reducible assumption) | assumption); obtain ⟨ad164, e164, hx164_0, hx164_1, hx164_2, hx164_3⟩ := at_T43 (Kd.R_reads' HO_3.out).2.2 x6_1 p164 q164; obtain rfl : ad161 = ad164 := (by injection e164); replace p164 := eq_true p164; replace q164 := eq_true q164))
                  go_roundg k1
                  case measure => have := HK1.out; omega
                  case rel => exact ⟨(wrap64 (x6_1 + 1)), (by first | rfl | (simp; done) | (simp [*]; done)), H', ⟨by have := HK1.out; omega⟩, ⟨by (with_reducible repeat (first | apply Kd.R_alloc | apply Kd.R_drewN | apply Kd.R_drew)); exact HO_3.out⟩, ⟨by repeat (first | (with_reducible first | exact HB.out | apply below_alloc | apply pw_below_drewN | apply below_drew1) | exact HB.out)⟩⟩
              · rw [if_neg c9] at H
                exact absurd H (by simp)
            · replace c8 := Bool.eq_false_iff.mpr c8
              subst c8
              have H1 : (none) = some r := by rw [if_neg (show ¬ (false = true) by decide)] at H; exact H
              clear H
              have H := H1
              clear H1
              exact absurd H (by simp)
          · rw [if_neg c6] at H
            exact absurd H (by simp)
        · rw [if_neg c5] at H
          have c5b0 : decide (x6_1 < (t155.length : Int)) = false := decide_eq_false c5
          clear c5
          by_cases c13 : t156 = (a0.size : Int)
          · rw [if_pos c13] at H
            have c13b0 : (t156 == (a0.size : Int)) = true := beq_iff_eq.mpr c13
            have c13b1 : (t156 != (a0.size : Int)) = false := bne_eq_false_iff_eq.mpr c13
            clear c13
            replace H := Option.bind_eq_some_iff.mp H
            obtain ⟨t165, A140, H⟩ := H
            replace H : (if (t165.size : Int) ≤ (a0.size : Int) then ((emenderlaw28_awake.f).bind fun t166 => (some t166)) else (none)) = some r := H
            have A14 := Aside0.mk A140
            clear A140
            by_cases c15 : (t165.size : Int) ≤ (a0.size : Int)
            · rw [if_pos c15] at H
              have c15b0 : decide ((t165.size : Int) ≤ (a0.size : Int)) = true := decide_eq_true c15
              have c15b1 : decide (t165.size ≤ a0.size) = true := decide_eq_true (Int.ofNat_le.mp c15)
              clear c15
              replace H := Option.bind_eq_some_iff.mp H
              obtain ⟨t166, A160, H⟩ := H
              replace H : (some t166) = some r := H
              have A16 := Aside0.mk A160
              clear A160
              obtain rfl := Option.some.inj H
              obtain ⟨Ao17, co17, eo17⟩ := Kd.R_slice HO_3.out
              subst eo17
              go_wp2_with (first | (go_at_call 15; (with_reducible refine (flat_Text.calls _ _ t155 t165 _ ?side1 ?side2 A14.out).mono ?_); (case side1 => repeat (first | exact (Kd.R_reads' HO_3.out).2.2 | (with_reducible refine Kd.C_alloc ?_ _) | (with_reducible refine Kd.C_drewN ?_ _) | (with_reducible refine Kd.C_drew ?_))); (case side2 => exact (Kd.R_reads' HO_3.out).2.1); rintro e w18 ⟨rfl, hb⟩; have n0_ := Aside0.mk (Kd.R_below (by (with_reducible repeat (first | apply Kd.R_alloc | apply Kd.R_drewN | apply Kd.R_drew)); exact HO_3.out) hb); have n1_ := Aside0.mk (below_step (by repeat (first | (with_reducible first | exact HB.out | apply below_alloc | apply pw_below_drewN | apply below_drew1) | exact HB.out)) hb); clear HO_3; clear HB; have HO_3 := n0_; have HB := n1_; clear n0_ n1_; (try clear hb); (try clear hb2); (try clear hk); (try clear hi)) | (go_at_call 9; (with_reducible refine (emenderlaw28_awake.calls  t166 _ A16.out).mono ?_); rintro e w19 ⟨rfl, hb⟩; have n0_ := Aside0.mk (Kd.R_below (by (with_reducible repeat (first | apply Kd.R_alloc | apply Kd.R_drewN | apply Kd.R_drew)); exact HO_3.out) hb); have n1_ := Aside0.mk (below_step (by repeat (first | (with_reducible first | exact HB.out | apply below_alloc | apply pw_below_drewN | apply below_drew1) | exact HB.out)) hb); clear HO_3; clear HB; have HO_3 := n0_; have HB := n1_; clear n0_ n1_; (try clear hb); (try clear hb2); (try clear hk); (try clear hi)))
              go_ret
              exact ⟨by first | rfl | (simp [errW_none, errW_some] <;> rfl) | (simp [*, errW_none, errW_some] <;> rfl), by repeat (first | (with_reducible first | exact HB.out | apply below_alloc | apply pw_below_drewN | apply below_drew1) | exact HB.out)⟩
            · rw [if_neg c15] at H
              exact absurd H (by simp)
          · rw [if_neg c13] at H
            exact absurd H (by simp)
  · rw [if_neg c3] at H
    have c3b0 : (t157 == 0) = false := beq_eq_false_iff_ne.mpr c3
    have c3b1 : (t157 != 0) = true := bne_iff_ne.mpr c3
    by_cases c20 : (t155.length : Int) = 0
    · rw [if_pos c20] at H
      have c20b0 : ((t155.length : Int) == 0) = true := beq_iff_eq.mpr c20
      have c20b1 : ((t155.length : Int) != 0) = false := bne_eq_false_iff_eq.mpr c20
      clear c20
      by_cases c21 : t156 ≥ 0
      · rw [if_pos c21] at H
        have c21b0 : decide (0 ≤ t156) = true := decide_eq_true c21
        clear c21
        by_cases c22 : t156 ≤ (a0.size : Int)
        · rw [if_pos c22] at H
          have c22b0 : decide (t156 ≤ (a0.size : Int)) = true := decide_eq_true c22
          clear c22
          replace H := Option.bind_eq_some_iff.mp H
          obtain ⟨t160, A230, H⟩ := H
          replace H : (some t160) = some r := H
          have A23 := Aside0.mk A230
          clear A230
          obtain rfl := Option.some.inj H
          go_enter Tryd.func7, Tryd.ntmps7
          go_wp2_with (first | ((with_reducible refine gate_callee (f := 10) rfl ?_); refine goesL_ (some 9) rfl rfl Tryd.func10 (by kernel_rfl) rfl #[.string a0] rfl (by (try simp only [List.map_toArray, List.map_cons, List.map_nil]); first | done | rfl | (simp only [List.length_drop, List.length_take]; rfl)) ?_; (with_reducible refine (common_Parse.calls a0 t155 t156 t157 _ A2.out).mono ?_); rintro e w24 ⟨v158, rfl, ho0, hb⟩; refine ⟨_, rfl, ?_⟩; have n0_ := Aside0.mk (Kd.R_lower ho0 (below_size (by repeat (first | (with_reducible first | exact HB.out | apply below_alloc | apply pw_below_drewN | apply below_drew1) | exact HB.out)))); have n1_ := Aside0.mk (below_step (by repeat (first | (with_reducible first | exact HB.out | apply below_alloc | apply pw_below_drewN | apply below_drew1) | exact HB.out)) hb); clear HB; have HO159 := n0_; have HB := n1_; clear n0_ n1_; (try clear hb); (try clear hb2); (try clear hk); (try clear hi); (try clear ho0); obtain ⟨Ao25, co25, eo25⟩ := Kd.R_slice HO159.out; subst eo25) | (go_at_call 9; (with_reducible refine (emenderlaw28_awake.calls  t160 _ A23.out).mono ?_); rintro e w26 ⟨rfl, hb⟩; have n0_ := Aside0.mk (Kd.R_below (by (with_reducible repeat (first | apply Kd.R_alloc | apply Kd.R_drewN | apply Kd.R_drew)); exact HO159.out) hb); have n1_ := Aside0.mk (below_step (by repeat (first | (with_reducible first | exact HB.out | apply below_alloc | apply pw_below_drewN | apply below_drew1) | exact HB.out)) hb); clear HO159; clear HB; have HO159 := n0_; have HB := n1_; clear n0_ n1_; (try clear hb); (try clear hb2); (try clear hk); (try clear hi)))
          go_ret
          exact ⟨by first | rfl | (simp [errW_none, errW_some] <;> rfl) | (simp [*, errW_none, errW_some] <;> rfl), by repeat (first | (with_reducible first | exact HB.out | apply below_alloc | apply pw_below_drewN | apply below_drew1) | exact HB.out)⟩
        · rw [if_neg c22] at H
          exact absurd H (by simp)
      · rw [if_neg c21] at H
        exact absurd H (by simp)
    · rw [if_neg c20] at H
      exact absurd H (by simp)

/-- THE ONE PURE STATEMENT of emenderlaw28_CommonRight: yours. -/
def emenderlaw28_CommonRight.Pure : Prop := ∀ (a0 : ByteArray), a0.size ≤ 140737488351232 → ∃ k, emenderlaw28_CommonRight.f k a0 = some true
theorem emenderlaw28_CommonRight.walk (P : emenderlaw28_CommonRight.Pure) (a0 : ByteArray) (w : World) (HT_ : Aside0 (Lib.Utf8Tabs 0 1 w)) (w0 : a0.size ≤ 140737488351232) :
    Calls Tryd.prog 7 #[.string a0] w fun e w' => e = .returned (.bool true) ∧ Below w.heap.size w w' := by
  obtain ⟨k, h⟩ := P a0 w0
  refine (emenderlaw28_CommonRight.calls k a0 true w HT_ h).mono ?_
  rintro e w' ⟨rfl, hd⟩
  exact ⟨rfl, hd⟩

end Go.Proofs.YtfnafjohfmlniaaDoor.PCb
