-- Written for this claim by a program (the kit's print, with hand-made contracts for what it does not take).
import Derived.Test.YtfcfomconcoimaaDoorPFax0
import Derived.Test.YtfcfomconcoimaaDoorPFax3
import Derived.Test.YtfcfomconcoimaaDoorPFax8
import Derived.Test.YtfcfomconcoimaaDoorPFax9
import Derived.Test.YtfcfomconcoimaaDoorPFax11
namespace Go.Proofs.YtfcfomconcoimaaDoor.PFa
open Go.RowKit Go.Proofs.YtfcfomconcoimaaDoorW.PrintWords Go.Proofs.YtfcfomconcoimaaDoorW.PrintLast Go.Proofs.YtfcfomconcoimaaDoorW.PrintMore
attribute [local go_sem] max2_int min2_int max_two min_two max_three min_three max_four min_four   -- for this text's walks alone
set_option linter.unusedVariables false
set_option linter.unusedSimpArgs false

/-! ### emenderlaw26_FindFits: function 4 -/
mutual
def emenderlaw26_FindFits.j0 : Nat → List (S48) → ByteArray → List (S28) → Int → Bool → Option (Bool)
  | 0, _, _, _, _, _ => none
  | k + 1, x0, x1, x5, x6, x27 => if x27 = true then (if x6 = 0 then ((emenderlaw26_awake.f).bind fun t129 => (some t129)) else (if (x5.length : Int) = 0 then ((emenderlaw26_awake.f).bind fun t130 => (some t130)) else (none))) else (emenderlaw26_FindFits.l0 k x0 x1 x5 0 0)
def emenderlaw26_FindFits.l0 : Nat → List (S48) → ByteArray → List (S28) → Int → Int → Option (Bool)
  | 0, _, _, _, _, _ => none
  | k + 1, x0, x1, x5, x7, x8 => if x8 < (x5.length : Int) then (if 0 ≤ x8 then (if ((rd_T28 x5 x8).f0) < x7 then (none) else (if ((rd_T28 x5 x8).f1) > (x0.length : Int) then (none) else (if ((rd_T28 x5 x8).f0) ≥ ((rd_T28 x5 x8).f1) then (none) else (if 0 ≤ ((rd_T28 x5 x8).f0) then (if ((rd_T28 x5 x8).f0) ≤ ((rd_T28 x5 x8).f1) then (if ((rd_T28 x5 x8).f1) ≤ (x0.length : Int) then ((flat_Text.f ((x0.take (((rd_T28 x5 x8).f1) : Int).toNat).drop (((rd_T28 x5 x8).f0) : Int).toNat)).bind fun t137 => (if t137.toList = x1.toList then (emenderlaw26_FindFits.l0 k x0 x1 x5 ((rd_T28 x5 x8).f1) (wrap64 (x8 + 1))) else (none))) else (none)) else (none)) else (none))))) else (none)) else (if 0 ≤ x7 then (if x7 ≤ (x0.length : Int) then ((flat_Check.f (x0.drop (x7 : Int).toNat)).bind fun bt142 => (if bt142.2 = 0 then ((find_Find.f (x0.drop (x7 : Int).toNat) x1 false false).bind fun bt148 => (if bt148.2 = 0 then (if (bt148.1.length : Int) = 0 then ((emenderlaw26_awake.f).bind fun t152 => (some t152)) else (none)) else (none))) else ((emenderlaw26_awake.f).bind fun t153 => (some t153)))) else (none)) else (none))
end
def emenderlaw26_FindFits.f (k : Nat) (l0 : List (S48)) (a1 : ByteArray) : Option (Bool) := (find_Find.f l0 a1 false false).bind fun bt125 => (if bt125.2 = 0 then (emenderlaw26_FindFits.j0 k l0 a1 bt125.1 bt125.2 (decide ((l0.length : Int) > 300))) else (emenderlaw26_FindFits.j0 k l0 a1 bt125.1 bt125.2 true))
theorem emenderlaw26_FindFits.mono_l : ∀ k, (∀ y0 y1 y2 y3 y4, LeO (emenderlaw26_FindFits.j0 k y0 y1 y2 y3 y4) (emenderlaw26_FindFits.j0 (k + 1) y0 y1 y2 y3 y4)) ∧ (∀ y0 y1 y2 y3 y4, LeO (emenderlaw26_FindFits.l0 k y0 y1 y2 y3 y4) (emenderlaw26_FindFits.l0 (k + 1) y0 y1 y2 y3 y4))
  | 0 => ⟨fun _ _ _ _ _ r h => by simp [emenderlaw26_FindFits.j0] at h, fun _ _ _ _ _ r h => by simp [emenderlaw26_FindFits.l0] at h⟩
  | k + 1 => by
    obtain ⟨ih0, ih1⟩ := emenderlaw26_FindFits.mono_l k
    refine ⟨?_, ?_⟩
    · intro y0 y1 y2 y3 y4
      unfold emenderlaw26_FindFits.j0
      repeat' first
      | (with_reducible exact ih0 _ _ _ _ _)
      | (with_reducible exact ih1 _ _ _ _ _)
      | (with_reducible exact LeO.refl _)
      | (with_reducible exact LeO.none _)
      | (with_reducible refine LeO.ite ?_ ?_)
      | (with_reducible refine LeO.bind ?_ (fun _ => ?_))
      | exact ih0 _ _ _ _ _
      | exact ih1 _ _ _ _ _
      | exact LeO.none _
      | refine LeO.ite ?_ ?_
      | refine LeO.bind ?_ (fun _ => ?_)
    · intro y0 y1 y2 y3 y4
      unfold emenderlaw26_FindFits.l0
      repeat' first
      | (with_reducible exact ih0 _ _ _ _ _)
      | (with_reducible exact ih1 _ _ _ _ _)
      | (with_reducible exact LeO.refl _)
      | (with_reducible exact LeO.none _)
      | (with_reducible refine LeO.ite ?_ ?_)
      | (with_reducible refine LeO.bind ?_ (fun _ => ?_))
      | exact ih0 _ _ _ _ _
      | exact ih1 _ _ _ _ _
      | exact LeO.none _
      | refine LeO.ite ?_ ?_
      | refine LeO.bind ?_ (fun _ => ?_)
theorem emenderlaw26_FindFits.mono : ∀ a0 a1 k, LeO (emenderlaw26_FindFits.f k a0 a1) (emenderlaw26_FindFits.f (k + 1) a0 a1) := by
  intro a0 a1 k
  obtain ⟨ih0, ih1⟩ := emenderlaw26_FindFits.mono_l k
  unfold emenderlaw26_FindFits.f
  repeat' first
      | (with_reducible exact ih0 _ _ _ _ _)
      | (with_reducible exact ih1 _ _ _ _ _)
      | (with_reducible exact LeO.refl _)
      | (with_reducible exact LeO.none _)
      | (with_reducible refine LeO.ite ?_ ?_)
      | (with_reducible refine LeO.bind ?_ (fun _ => ?_))
      | exact ih0 _ _ _ _ _
      | exact ih1 _ _ _ _ _
      | exact LeO.none _
      | refine LeO.ite ?_ ?_
      | refine LeO.bind ?_ (fun _ => ?_)
set_option maxHeartbeats 8000000 in
set_option maxRecDepth 100000 in
theorem emenderlaw26_FindFits.calls (k : Nat) (A0 : Option Addr) (c0 : Nat) (l0 : List (S48)) (a1 : ByteArray) (r : Bool) (w : World) (HT_ : Aside0 (Lib.Utf8Tabs 0 1 w)) (hr0 : Kd.C k48 w A0 l0.length l0) (hc0 : l0.length ≤ c0) (h : emenderlaw26_FindFits.f k l0 a1 = some r) :
    Calls Tryd.prog 4 #[.slice A0 l0.length c0, .string a1] w fun e w' => e = .returned (.bool r) ∧ Below w.heap.size w w' := by
  have HU8_ := HT_
  have HR0 := Aside0.mk hr0
  have HC0 := Aside0.mk hc0
  clear hr0 hc0
  have HB := Aside0.mk (Below.refl w.heap.size w)
  have H : ((find_Find.f l0 a1 false false).bind fun bt125 => (if bt125.2 = 0 then (emenderlaw26_FindFits.j0 k l0 a1 bt125.1 bt125.2 (decide ((l0.length : Int) > 300))) else (emenderlaw26_FindFits.j0 k l0 a1 bt125.1 bt125.2 true))) = some r := h
  clear h
  replace H := Option.bind_eq_some_iff.mp H
  obtain ⟨⟨t125, t126⟩, A30, H⟩ := H
  replace H : (if t126 = 0 then (emenderlaw26_FindFits.j0 k l0 a1 t125 t126 (decide ((l0.length : Int) > 300))) else (emenderlaw26_FindFits.j0 k l0 a1 t125 t126 true)) = some r := H
  have A3 := Aside0.mk A30
  clear A30
  have HC4 := Aside0.mk H
  clear H
  go_enter Tryd.func4, Tryd.ntmps4
  go_upto_region 2 with (first | ((with_reducible refine gate_callee (f := 8) rfl ?_); refine goesL_ (some 18) rfl rfl Tryd.func8 (by kernel_rfl) rfl #[.slice A0 l0.length c0, .string a1, .bool false, .bool false] rfl (by (try simp only [List.map_toArray, List.map_cons, List.map_nil]); first | done | rfl | (simp only [List.length_drop, List.length_take]; rfl)) ?_; (with_reducible refine (find_Find.calls _ _ l0 a1 false false t125 t126 _ ?side1 ?side2 A3.out).mono ?_); (case side1 => repeat (first | exact HR0.out | (with_reducible refine Kd.C_alloc ?_ _) | (with_reducible refine Kd.C_drewN ?_ _) | (with_reducible refine Kd.C_drew ?_))); (case side2 => exact HC0.out); rintro e w5 ⟨v127, rfl, ho0, hb⟩; refine ⟨_, rfl, ?_⟩; have n0_ := Aside0.mk (Kd.R_lower ho0 (below_size (by repeat (first | (with_reducible first | exact HB.out | apply below_alloc | apply pw_below_drewN | apply below_drew1) | exact HB.out)))); have n1_ := Aside0.mk (below_step (by repeat (first | (with_reducible first | exact HB.out | apply below_alloc | apply pw_below_drewN | apply below_drew1) | exact HB.out)) hb); clear HB; have HO128 := n0_; have HB := n1_; clear n0_ n1_; (try clear hb); (try clear hb2); (try clear hk); (try clear hi); (try clear ho0)))
  (try simp only [Act.put, List.setIfInBounds_toArray, List.set_cons_zero, List.set_cons_succ])
  go_cut [27] (fun v27 wc => ∃ (kq : Nat) (x27_3 : Bool), v27 = .bool x27_3 ∧ Aside0 (emenderlaw26_FindFits.j0 kq l0 a1 t125 t126 x27_3 = some r) ∧ Aside0 (kq ≤ k) ∧ Aside0 (Kd.R k28 28 wc w.heap.size (fun _ => True) v127 t125) ∧ Aside0 (Below w.heap.size w wc))
  case first =>
    have H := HC4.out
    clear HC4
    by_cases c6 : t126 = 0
    · rw [if_pos c6] at H
      have c6b0 : (t126 == 0) = true := beq_iff_eq.mpr c6
      have c6b1 : (t126 != 0) = false := bne_eq_false_iff_eq.mpr c6
      clear c6
      (first | rw [c6b0] | (simp only [i64_w, i32_w]; rw [c6b0]) | skip)
      have H' := Aside0.mk H
      clear H
      go_wp2
      go_meet
      case rel => exact ⟨_, (decide ((l0.length : Int) > 300)), (by first | rfl | (simp; done) | (simp [*]; done)), H', ⟨by first | omega | exact Nat.le_refl _⟩, ⟨by (with_reducible repeat (first | apply Kd.R_alloc | apply Kd.R_drewN | apply Kd.R_drew)); exact HO128.out⟩, ⟨by repeat (first | (with_reducible first | exact HB.out | apply below_alloc | apply pw_below_drewN | apply below_drew1) | exact HB.out)⟩⟩
    · rw [if_neg c6] at H
      have c6b0 : (t126 == 0) = false := beq_eq_false_iff_ne.mpr c6
      have c6b1 : (t126 != 0) = true := bne_iff_ne.mpr c6
      (first | rw [c6b0] | (simp only [i64_w, i32_w]; rw [c6b0]) | skip)
      have H' := Aside0.mk H
      clear H
      go_wp2
      go_meet
      case rel => exact ⟨_, (true), (by first | rfl | (simp; done) | (simp [*]; done)), H', ⟨by first | omega | exact Nat.le_refl _⟩, ⟨by (with_reducible repeat (first | apply Kd.R_alloc | apply Kd.R_drewN | apply Kd.R_drew)); exact HO128.out⟩, ⟨by repeat (first | (with_reducible first | exact HB.out | apply below_alloc | apply pw_below_drewN | apply below_drew1) | exact HB.out)⟩⟩
  case rest =>
    clear HC4
    try clear p2
    try clear c4
    try clear c6
    try clear c6b0
    try clear c6b1
    obtain ⟨kq, x27_3, rfl, HA, HJ3, HO_5, HB⟩ := hcut
    cases kq with
    | zero => exact absurd HA.out (by simp [emenderlaw26_FindFits.j0])
    | succ kj3 =>
      have H := HA.out
      clear HA
      simp only [emenderlaw26_FindFits.j0] at H
      by_cases c7 : x27_3 = true
      · subst c7
        have H1 : (if t126 = 0 then ((emenderlaw26_awake.f).bind fun t129 => (some t129)) else (if (t125.length : Int) = 0 then ((emenderlaw26_awake.f).bind fun t130 => (some t130)) else (none))) = some r := by rw [if_pos rfl] at H; exact H
        clear H
        have H := H1
        clear H1
        by_cases c8 : t126 = 0
        · rw [if_pos c8] at H
          have c8b0 : (t126 == 0) = true := beq_iff_eq.mpr c8
          have c8b1 : (t126 != 0) = false := bne_eq_false_iff_eq.mpr c8
          clear c8
          replace H := Option.bind_eq_some_iff.mp H
          obtain ⟨t129, A90, H⟩ := H
          replace H : (some t129) = some r := H
          have A9 := Aside0.mk A90
          clear A90
          obtain rfl := Option.some.inj H
          go_wp2_with (first | (go_at_call 7; (with_reducible refine (emenderlaw26_awake.calls  t129 _ A9.out).mono ?_); rintro e w10 ⟨rfl, hb⟩; have n0_ := Aside0.mk (Kd.R_below (by (with_reducible repeat (first | apply Kd.R_alloc | apply Kd.R_drewN | apply Kd.R_drew)); exact HO_5.out) hb); have n1_ := Aside0.mk (below_step (by repeat (first | (with_reducible first | exact HB.out | apply below_alloc | apply pw_below_drewN | apply below_drew1) | exact HB.out)) hb); clear HO_5; clear HB; have HO_5 := n0_; have HB := n1_; clear n0_ n1_; (try clear hb); (try clear hb2); (try clear hk); (try clear hi)))
          go_ret
          exact ⟨by first | rfl | (simp [errW_none, errW_some] <;> rfl) | (simp [*, errW_none, errW_some] <;> rfl), by repeat (first | (with_reducible first | exact HB.out | apply below_alloc | apply pw_below_drewN | apply below_drew1) | exact HB.out)⟩
        · rw [if_neg c8] at H
          have c8b0 : (t126 == 0) = false := beq_eq_false_iff_ne.mpr c8
          have c8b1 : (t126 != 0) = true := bne_iff_ne.mpr c8
          by_cases c11 : (t125.length : Int) = 0
          · rw [if_pos c11] at H
            have c11b0 : ((t125.length : Int) == 0) = true := beq_iff_eq.mpr c11
            have c11b1 : ((t125.length : Int) != 0) = false := bne_eq_false_iff_eq.mpr c11
            clear c11
            replace H := Option.bind_eq_some_iff.mp H
            obtain ⟨t130, A120, H⟩ := H
            replace H : (some t130) = some r := H
            have A12 := Aside0.mk A120
            clear A120
            obtain rfl := Option.some.inj H
            obtain ⟨Ao13, co13, eo13⟩ := Kd.R_slice HO_5.out
            subst eo13
            go_wp2_with (first | (go_at_call 7; (with_reducible refine (emenderlaw26_awake.calls  t130 _ A12.out).mono ?_); rintro e w14 ⟨rfl, hb⟩; have n0_ := Aside0.mk (Kd.R_below (by (with_reducible repeat (first | apply Kd.R_alloc | apply Kd.R_drewN | apply Kd.R_drew)); exact HO_5.out) hb); have n1_ := Aside0.mk (below_step (by repeat (first | (with_reducible first | exact HB.out | apply below_alloc | apply pw_below_drewN | apply below_drew1) | exact HB.out)) hb); clear HO_5; clear HB; have HO_5 := n0_; have HB := n1_; clear n0_ n1_; (try clear hb); (try clear hb2); (try clear hk); (try clear hi)))
            go_ret
            exact ⟨by first | rfl | (simp [errW_none, errW_some] <;> rfl) | (simp [*, errW_none, errW_some] <;> rfl), by repeat (first | (with_reducible first | exact HB.out | apply below_alloc | apply pw_below_drewN | apply below_drew1) | exact HB.out)⟩
          · rw [if_neg c11] at H
            exact absurd H (by simp)
      · replace c7 := Bool.eq_false_iff.mpr c7
        subst c7
        have H1 : (emenderlaw26_FindFits.l0 kj3 l0 a1 t125 0 0) = some r := by rw [if_neg (show ¬ (false = true) by decide)] at H; exact H
        clear H
        have H := H1
        clear H1
        have H' := Aside0.mk H
        clear H
        go_wp2
        go_loopg [7, 8] kj3 (fun kq v7 v8 w' => ∃ (x7_2 : Int) (x8_2 : Int), v7 = .int .i64 x7_2 ∧ v8 = .int .i64 x8_2 ∧ Aside0 (emenderlaw26_FindFits.l0 kq l0 a1 t125 x7_2 x8_2 = some r) ∧ Aside0 (kq ≤ kj3) ∧ Aside0 (Kd.R k28 28 w' w.heap.size (fun _ => True) v127 t125) ∧ Aside0 (Below w.heap.size w w'))
        case atStart => exact ⟨(0), (0), (by first | rfl | (simp; done) | (simp [*]; done)), (by first | rfl | (simp; done) | (simp [*]; done)), H', ⟨Nat.le_refl _⟩, ⟨by (with_reducible repeat (first | apply Kd.R_alloc | apply Kd.R_drewN | apply Kd.R_drew)); exact HO_5.out⟩, ⟨by repeat (first | (with_reducible first | exact HB.out | apply below_alloc | apply pw_below_drewN | apply below_drew1) | exact HB.out)⟩⟩
        case round =>
          clear H'
          try clear c1
          try clear p2
          try clear c4
          try clear c6
          try clear c6b0
          try clear c6b1
          try clear c7
          try clear c8
          try clear c8b0
          try clear c8b1
          try clear c11
          try clear c11b0
          try clear c11b1
          try clear p2
          obtain ⟨x7_2, x8_2, rfl, rfl, HA, HK2, HO_5, HB⟩ := hrel
          cases gk with
          | zero => exact absurd HA.out (by simp [emenderlaw26_FindFits.l0])
          | succ k2 =>
            have H := HA.out
            clear HA
            simp only [emenderlaw26_FindFits.l0] at H
            by_cases c15 : x8_2 < (t125.length : Int)
            · rw [if_pos c15] at H
              have c15b0 : decide (x8_2 < (t125.length : Int)) = true := decide_eq_true c15
              clear c15
              by_cases c16 : 0 ≤ x8_2
              · rw [if_pos c16] at H
                have c16b0 : decide (0 ≤ x8_2) = true := decide_eq_true c16
                clear c16
                by_cases c17 : ((rd_T28 t125 x8_2).f0) < x7_2
                · rw [if_pos c17] at H
                  exact absurd H (by simp)
                · rw [if_neg c17] at H
                  have c17b0 : decide (((rd_T28 t125 x8_2).f0) < x7_2) = false := decide_eq_false c17
                  clear c17
                  by_cases c18 : ((rd_T28 t125 x8_2).f1) > (l0.length : Int)
                  · rw [if_pos c18] at H
                    exact absurd H (by simp)
                  · rw [if_neg c18] at H
                    have c18b0 : decide ((l0.length : Int) < ((rd_T28 t125 x8_2).f1)) = false := decide_eq_false c18
                    clear c18
                    by_cases c19 : ((rd_T28 t125 x8_2).f0) ≥ ((rd_T28 t125 x8_2).f1)
                    · rw [if_pos c19] at H
                      exact absurd H (by simp)
                    · rw [if_neg c19] at H
                      have c19b0 : decide (((rd_T28 t125 x8_2).f1) ≤ ((rd_T28 t125 x8_2).f0)) = false := decide_eq_false c19
                      clear c19
                      by_cases c20 : 0 ≤ ((rd_T28 t125 x8_2).f0)
                      · rw [if_pos c20] at H
                        have c20b0 := eq_true c20
                        have c20b1 : decide (0 ≤ ((rd_T28 t125 x8_2).f0)) = true := decide_eq_true c20
                        clear c20
                        by_cases c21 : ((rd_T28 t125 x8_2).f0) ≤ ((rd_T28 t125 x8_2).f1)
                        · rw [if_pos c21] at H
                          have c21b0 := eq_true c21
                          have c21b1 : decide (((rd_T28 t125 x8_2).f0) ≤ ((rd_T28 t125 x8_2).f1)) = true := decide_eq_true c21
                          clear c21
                          by_cases c22 : ((rd_T28 t125 x8_2).f1) ≤ (l0.length : Int)
                          · rw [if_pos c22] at H
                            have c22b0 := eq_true c22
                            have c22b1 : decide (((rd_T28 t125 x8_2).f1) ≤ (l0.length : Int)) = true := decide_eq_true c22
                            clear c22
                            obtain ⟨y133, hy133⟩ : ∃ y_ : List (S48), y_ = ((l0.take (((rd_T28 t125 x8_2).f1) : Int).toNat).drop (((rd_T28 t125 x8_2).f0) : Int).toNat) := ⟨_, rfl⟩
                            replace H : ((flat_Text.f y133).bind fun t137 => (if t137.toList = a1.toList then (emenderlaw26_FindFits.l0 k2 l0 a1 t125 ((rd_T28 t125 x8_2).f1) (wrap64 (x8_2 + 1))) else (none))) = some r := by first | (rw [hy133]; with_reducible exact H) | (have H2_ := (Option.bind_some _ _).symm.trans H; rw [hy133]; with_reducible exact H2_) | (have H2_ := (Option.bind_some _ _).symm.trans H; with_reducible exact H2_) | with_reducible exact H | (rw [hy133]; exact H) | exact H
                            have Ny133 := Aside0.mk hy133
                            clear hy133
                            replace H := Option.bind_eq_some_iff.mp H
                            obtain ⟨t137, A230, H⟩ := H
                            replace H : (if t137.toList = a1.toList then (emenderlaw26_FindFits.l0 k2 l0 a1 t125 ((rd_T28 t125 x8_2).f1) (wrap64 (x8_2 + 1))) else (none)) = some r := H
                            have A23 := Aside0.mk A230
                            clear A230
                            by_cases c24 : t137.toList = a1.toList
                            · rw [if_pos c24] at H
                              have c24b0 : (t137.toList == a1.toList) = true := beq_iff_eq.mpr c24
                              have c24b1 : (t137.toList != a1.toList) = false := bne_eq_false_iff_eq.mpr c24
                              clear c24
                              have H' := Aside0.mk H
                              clear H
                              obtain ⟨Ao25, co25, eo25⟩ := Kd.R_slice HO_5.out
                              subst eo25
                              have p131 : 0 ≤ (x8_2 : Int) := of_decide_eq_true (by first | (with_reducible assumption) | assumption)
                              have q131 : x8_2 < (t125.length : Int) := of_decide_eq_true (by first | (with_reducible assumption) | assumption)
                              obtain ⟨ad131, e131, hx131_0, hx131_1⟩ := at_T28 (Kd.R_reads' HO_5.out).2.2 x8_2 p131 q131
                              cases e131
                              replace p131 := eq_true p131
                              replace q131 := eq_true q131
                              have p132 : 0 ≤ (x8_2 : Int) := of_decide_eq_true (by first | (with_reducible assumption) | assumption)
                              have q132 : x8_2 < (t125.length : Int) := of_decide_eq_true (by first | (with_reducible assumption) | assumption)
                              obtain ⟨ad132, e132, hx132_0, hx132_1⟩ := at_T28 (Kd.R_reads' HO_5.out).2.2 x8_2 p132 q132
                              obtain rfl : ad131 = ad132 := (by injection e132)
                              replace p132 := eq_true p132
                              replace q132 := eq_true q132
                              have q26 : (((rd_T28 t125 x8_2).f1) : Int) ≤ ((l0.length : Int) : Int) := of_decide_eq_true (by first | (with_reducible assumption) | assumption)
                              obtain ⟨i026, hi026, _, hsz26, _⟩ := info_parts info48
                              have hroom26 : l0.length ≤ c0 := HC0.out
                              have hC26 : Kd.C k48 _ A0 l0.length l0 := HR0.out
                              have ql26 : (((rd_T28 t125 x8_2).f0) : Int) ≤ (((rd_T28 t125 x8_2).f1) : Int) := of_decide_eq_true (by first | (with_reducible assumption) | assumption)
                              have q026 : (0 : Int) ≤ (((rd_T28 t125 x8_2).f0) : Int) := of_decide_eq_true (by first | (with_reducible assumption) | assumption)
                              have hcut26 := cut_mid (P := Tryd.prog) 22 48 .i64 .i64 Tryd.underlying22 hi026 4 hsz26 A0 l0.length c0 ((rd_T28 t125 x8_2).f0) ((rd_T28 t125 x8_2).f1) q026 ql26 q26 hroom26
                              have hr26 := Kd.C_mid (lo := (((rd_T28 t125 x8_2).f0) : Int).toNat) (hi := (((rd_T28 t125 x8_2).f1) : Int).toNat) (c := c0) hC26 (by omega) (by omega) hroom26
                              obtain ⟨A26, hA26⟩ : ∃ A1, A1 = (if c0 = (((rd_T28 t125 x8_2).f0) : Int).toNat then A0 else (A0 : Option Addr).map (·.add ((((rd_T28 t125 x8_2).f0) : Int).toNat * 4))) := ⟨_, rfl⟩
                              obtain ⟨c26, hc26⟩ : ∃ c1, c1 = c0 - (((rd_T28 t125 x8_2).f0) : Int).toNat := ⟨_, rfl⟩
                              have hy26 : y133.length = (((rd_T28 t125 x8_2).f1) : Int).toNat - (((rd_T28 t125 x8_2).f0) : Int).toNat := (by rw [Ny133.out, List.length_drop, List.length_take] <;> omega)
                              rw [show ((l0).take (((rd_T28 t125 x8_2).f1) : Int).toNat).drop (((rd_T28 t125 x8_2).f0) : Int).toNat = y133 from Ny133.out.symm] at hr26
                              replace hr26 : Kd.C k48 _ A26 y133.length y133 := (by rw [hA26]; exact hr26)
                              rw [← hy26, ← hA26, ← hc26] at hcut26
                              have HR136 := Aside0.mk hr26
                              have HC136 := Aside0.mk (show y133.length ≤ c26 from by rw [hy26, hc26]; exact Nat.sub_le_sub_right (Nat.le_trans (by omega) hroom26) _)
                              clear hr26 hC26 hroom26 hi026 hsz26 hc26
                              have KY26 := Aside0.mk hy26
                              have KA26 := Aside0.mk hA26
                              clear hy26 hA26
                              replace q26 := eq_true q26
                              go_wp2_with (first | (go_at_call 9; (with_reducible refine (flat_Text.calls _ _ y133 t137 _ ?side1 ?side2 A23.out).mono ?_); (case side1 => repeat (first | exact (Kd.C_below HR136.out HB.out) | (with_reducible refine Kd.C_alloc ?_ _) | (with_reducible refine Kd.C_drewN ?_ _) | (with_reducible refine Kd.C_drew ?_))); (case side2 => exact HC136.out); rintro e w27 ⟨rfl, hb⟩; have n0_ := Aside0.mk (Kd.R_below (by (with_reducible repeat (first | apply Kd.R_alloc | apply Kd.R_drewN | apply Kd.R_drew)); exact HO_5.out) hb); have n1_ := Aside0.mk (below_step (by repeat (first | (with_reducible first | exact HB.out | apply below_alloc | apply pw_below_drewN | apply below_drew1) | exact HB.out)) hb); clear HO_5; clear HB; have HO_5 := n0_; have HB := n1_; clear n0_ n1_; (try clear hb); (try clear hb2); (try clear hk); (try clear hi)))
                              go_roundg k2
                              case measure => have := HJ3.out; have := HK2.out; omega
                              case rel => exact ⟨((rd_T28 t125 x8_2).f1), (wrap64 (x8_2 + 1)), (by first | rfl | (simp; done) | (simp [*]; done)), (by first | rfl | (simp; done) | (simp [*]; done)), H', ⟨by have := HJ3.out; have := HK2.out; omega⟩, ⟨by (with_reducible repeat (first | apply Kd.R_alloc | apply Kd.R_drewN | apply Kd.R_drew)); exact HO_5.out⟩, ⟨by repeat (first | (with_reducible first | exact HB.out | apply below_alloc | apply pw_below_drewN | apply below_drew1) | exact HB.out)⟩⟩
                            · rw [if_neg c24] at H
                              exact absurd H (by simp)
                          · rw [if_neg c22] at H
                            exact absurd H (by simp)
                        · rw [if_neg c21] at H
                          exact absurd H (by simp)
                      · rw [if_neg c20] at H
                        exact absurd H (by simp)
              · rw [if_neg c16] at H
                exact absurd H (by simp)
            · rw [if_neg c15] at H
              have c15b0 : decide (x8_2 < (t125.length : Int)) = false := decide_eq_false c15
              clear c15
              by_cases c28 : 0 ≤ x7_2
              · rw [if_pos c28] at H
                have c28b0 := eq_true c28
                have c28b1 : decide (0 ≤ x7_2) = true := decide_eq_true c28
                clear c28
                by_cases c29 : x7_2 ≤ (l0.length : Int)
                · rw [if_pos c29] at H
                  have c29b0 := eq_true c29
                  have c29b1 : decide (x7_2 ≤ (l0.length : Int)) = true := decide_eq_true c29
                  clear c29
                  obtain ⟨y138, hy138⟩ : ∃ y_ : List (S48), y_ = (l0.drop (x7_2 : Int).toNat) := ⟨_, rfl⟩
                  replace H : ((flat_Check.f y138).bind fun bt142 => (if bt142.2 = 0 then ((find_Find.f (l0.drop (x7_2 : Int).toNat) a1 false false).bind fun bt148 => (if bt148.2 = 0 then (if (bt148.1.length : Int) = 0 then ((emenderlaw26_awake.f).bind fun t152 => (some t152)) else (none)) else (none))) else ((emenderlaw26_awake.f).bind fun t153 => (some t153)))) = some r := by first | (rw [hy138]; with_reducible exact H) | (have H2_ := (Option.bind_some _ _).symm.trans H; rw [hy138]; with_reducible exact H2_) | (have H2_ := (Option.bind_some _ _).symm.trans H; with_reducible exact H2_) | with_reducible exact H | (rw [hy138]; exact H) | exact H
                  have Ny138 := Aside0.mk hy138
                  clear hy138
                  replace H := Option.bind_eq_some_iff.mp H
                  obtain ⟨⟨t142, t143⟩, A300, H⟩ := H
                  replace H : (if t143 = 0 then ((find_Find.f (l0.drop (x7_2 : Int).toNat) a1 false false).bind fun bt148 => (if bt148.2 = 0 then (if (bt148.1.length : Int) = 0 then ((emenderlaw26_awake.f).bind fun t152 => (some t152)) else (none)) else (none))) else ((emenderlaw26_awake.f).bind fun t153 => (some t153))) = some r := H
                  have A30 := Aside0.mk A300
                  clear A300
                  by_cases c31 : t143 = 0
                  · rw [if_pos c31] at H
                    have c31b0 : (t143 == 0) = true := beq_iff_eq.mpr c31
                    have c31b1 : (t143 != 0) = false := bne_eq_false_iff_eq.mpr c31
                    clear c31
                    have c32b0 := eq_true (of_decide_eq_true (by first | (with_reducible assumption) | assumption) : 0 ≤ x7_2)
                    have c33b0 := eq_true (of_decide_eq_true (by first | (with_reducible assumption) | assumption) : x7_2 ≤ (l0.length : Int))
                    obtain ⟨y144, hy144⟩ : ∃ y_ : List (S48), y_ = (l0.drop (x7_2 : Int).toNat) := ⟨_, rfl⟩
                    replace H : ((find_Find.f y144 a1 false false).bind fun bt148 => (if bt148.2 = 0 then (if (bt148.1.length : Int) = 0 then ((emenderlaw26_awake.f).bind fun t152 => (some t152)) else (none)) else (none))) = some r := by first | (rw [hy144]; with_reducible exact H) | (have H2_ := (Option.bind_some _ _).symm.trans H; rw [hy144]; with_reducible exact H2_) | (have H2_ := (Option.bind_some _ _).symm.trans H; with_reducible exact H2_) | with_reducible exact H | (rw [hy144]; exact H) | exact H
                    have Ny144 := Aside0.mk hy144
                    clear hy144
                    replace H := Option.bind_eq_some_iff.mp H
                    obtain ⟨⟨t148, t149⟩, A340, H⟩ := H
                    replace H : (if t149 = 0 then (if (t148.length : Int) = 0 then ((emenderlaw26_awake.f).bind fun t152 => (some t152)) else (none)) else (none)) = some r := H
                    have A34 := Aside0.mk A340
                    clear A340
                    by_cases c35 : t149 = 0
                    · rw [if_pos c35] at H
                      have c35b0 : (t149 == 0) = true := beq_iff_eq.mpr c35
                      have c35b1 : (t149 != 0) = false := bne_eq_false_iff_eq.mpr c35
                      clear c35
                      by_cases c36 : (t148.length : Int) = 0
                      · rw [if_pos c36] at H
                        have c36b0 : ((t148.length : Int) == 0) = true := beq_iff_eq.mpr c36
                        have c36b1 : ((t148.length : Int) != 0) = false := bne_eq_false_iff_eq.mpr c36
                        clear c36
                        replace H := Option.bind_eq_some_iff.mp H
                        obtain ⟨t152, A370, H⟩ := H
                        replace H : (some t152) = some r := H
                        have A37 := Aside0.mk A370
                        clear A370
                        obtain rfl := Option.some.inj H
                        obtain ⟨Ao38, co38, eo38⟩ := Kd.R_slice HO_5.out
                        subst eo38
                        have q39 : (x7_2 : Int) ≤ ((l0.length : Int) : Int) := of_decide_eq_true (by first | (with_reducible assumption) | assumption)
                        obtain ⟨i039, hi039, _, hsz39, _⟩ := info_parts info48
                        have hroom39 : l0.length ≤ c0 := HC0.out
                        have hC39 : Kd.C k48 _ A0 l0.length l0 := HR0.out
                        have q039 : (0 : Int) ≤ (x7_2 : Int) := of_decide_eq_true (by first | (with_reducible assumption) | assumption)
                        have hcut39 := cut_from (P := Tryd.prog) 22 48 .i64 Tryd.underlying22 hi039 4 hsz39 A0 l0.length c0 x7_2 q039 q39
                        have hr39 := Kd.C_drop (m := (x7_2 : Int).toNat) (c := c0) hC39 (by omega) hroom39
                        obtain ⟨A39, hA39⟩ : ∃ A1, A1 = (if c0 = (x7_2 : Int).toNat then A0 else (A0 : Option Addr).map (·.add ((x7_2 : Int).toNat * 4))) := ⟨_, rfl⟩
                        obtain ⟨c39, hc39⟩ : ∃ c1, c1 = c0 - (x7_2 : Int).toNat := ⟨_, rfl⟩
                        have hy39 : y138.length = l0.length - (x7_2 : Int).toNat := (by rw [Ny138.out, List.length_drop] <;> omega)
                        rw [show (l0).drop (x7_2 : Int).toNat = y138 from Ny138.out.symm] at hr39
                        replace hr39 : Kd.C k48 _ A39 y138.length y138 := (by rw [hA39]; exact hr39)
                        rw [← hy39, ← hA39, ← hc39] at hcut39
                        have HR141 := Aside0.mk hr39
                        have HC141 := Aside0.mk (show y138.length ≤ c39 from by rw [hy39, hc39]; exact Nat.sub_le_sub_right hroom39 _)
                        clear hr39 hC39 hroom39 hi039 hsz39 hc39
                        have KY39 := Aside0.mk hy39
                        have KA39 := Aside0.mk hA39
                        clear hy39 hA39
                        replace q39 := eq_true q39
                        go_wp2_with (first | ((with_reducible refine gate_callee (f := 10) rfl ?_); refine goesL_ (some 82) rfl rfl Tryd.func10 (by kernel_rfl) rfl #[.slice A39 y138.length c39] rfl (by (try simp only [List.map_toArray, List.map_cons, List.map_nil]); first | done | rfl | (simp only [List.length_drop, List.length_take]; rfl)) ?_; (with_reducible refine (flat_Check.calls _ _ y138 t142 t143 _ ?side1 ?side2 A30.out).mono ?_); (case side1 => repeat (first | exact (Kd.C_below HR141.out HB.out) | (with_reducible refine Kd.C_alloc ?_ _) | (with_reducible refine Kd.C_drewN ?_ _) | (with_reducible refine Kd.C_drew ?_))); (case side2 => exact HC141.out); rintro e w40 ⟨rfl, hb⟩; refine ⟨_, rfl, ?_⟩; have n0_ := Aside0.mk (Kd.R_below (by (with_reducible repeat (first | apply Kd.R_alloc | apply Kd.R_drewN | apply Kd.R_drew)); exact HO_5.out) hb); have n1_ := Aside0.mk (below_step (by repeat (first | (with_reducible first | exact HB.out | apply below_alloc | apply pw_below_drewN | apply below_drew1) | exact HB.out)) hb); clear HO_5; clear HB; have HO_5 := n0_; have HB := n1_; clear n0_ n1_; (try clear hb); (try clear hb2); (try clear hk); (try clear hi); have q41 : (x7_2 : Int) ≤ ((l0.length : Int) : Int) := of_decide_eq_true (by first | (with_reducible assumption) | assumption); obtain ⟨i041, hi041, _, hsz41, _⟩ := info_parts info48; have hroom41 : l0.length ≤ c0 := HC0.out; have hC41 : Kd.C k48 _ A0 l0.length l0 := HR0.out; have q041 : (0 : Int) ≤ (x7_2 : Int) := of_decide_eq_true (by first | (with_reducible assumption) | assumption); have hcut41 := cut_from (P := Tryd.prog) 22 48 .i64 Tryd.underlying22 hi041 4 hsz41 A0 l0.length c0 x7_2 q041 q41; have hr41 := Kd.C_drop (m := (x7_2 : Int).toNat) (c := c0) hC41 (by omega) hroom41; obtain ⟨A41, hA41⟩ : ∃ A1, A1 = (if c0 = (x7_2 : Int).toNat then A0 else (A0 : Option Addr).map (·.add ((x7_2 : Int).toNat * 4))) := ⟨_, rfl⟩; obtain ⟨c41, hc41⟩ : ∃ c1, c1 = c0 - (x7_2 : Int).toNat := ⟨_, rfl⟩; have hy41 : y144.length = l0.length - (x7_2 : Int).toNat := (by rw [Ny144.out, List.length_drop] <;> omega); rw [show (l0).drop (x7_2 : Int).toNat = y144 from Ny144.out.symm] at hr41; replace hr41 : Kd.C k48 _ A41 y144.length y144 := (by rw [hA41]; exact hr41); rw [← hy41, ← hA41, ← hc41] at hcut41; have HR147 := Aside0.mk hr41; have HC147 := Aside0.mk (show y144.length ≤ c41 from by rw [hy41, hc41]; exact Nat.sub_le_sub_right hroom41 _); clear hr41 hC41 hroom41 hi041 hsz41 hc41; have KY41 := Aside0.mk hy41; have KA41 := Aside0.mk hA41; clear hy41 hA41; replace q41 := eq_true q41) | ((with_reducible refine gate_callee (f := 8) rfl ?_); refine goesL_ (some 93) rfl rfl Tryd.func8 (by kernel_rfl) rfl #[.slice A39 y138.length c39, .string a1, .bool false, .bool false] rfl (by (try simp only [List.map_toArray, List.map_cons, List.map_nil]); first | done | rfl | (simp only [List.length_drop, List.length_take]; rfl)) ?_; (with_reducible refine (find_Find.calls _ _ y138 a1 false false t148 t149 _ ?side1 ?side2 (by rw [Ny138.out, ← Ny144.out]; exact A34.out)).mono ?_); (case side1 => repeat (first | exact (Kd.C_below HR141.out HB.out) | (with_reducible refine Kd.C_alloc ?_ _) | (with_reducible refine Kd.C_drewN ?_ _) | (with_reducible refine Kd.C_drew ?_))); (case side2 => exact HC141.out); rintro e w42 ⟨v150, rfl, ho0, hb⟩; refine ⟨_, rfl, ?_⟩; have n0_ := Aside0.mk (Kd.R_elder' (by (with_reducible repeat (first | apply Kd.R_alloc | apply Kd.R_drewN | apply Kd.R_drew)); exact HO_5.out) (Kd.R_base ho0) hb); have n1_ := Aside0.mk (Kd.R_lower (Kd.R_new' ho0 (Kd.R_lt (by (with_reducible repeat (first | apply Kd.R_alloc | apply Kd.R_drewN | apply Kd.R_drew)); exact HO_5.out))) (below_size (by repeat (first | (with_reducible first | exact HB.out | apply below_alloc | apply pw_below_drewN | apply below_drew1) | exact HB.out)))); have n2_ := Aside0.mk (below_step (by repeat (first | (with_reducible first | exact HB.out | apply below_alloc | apply pw_below_drewN | apply below_drew1) | exact HB.out)) hb); clear HO_5; clear HB; have HO_5 := n0_; have HO151 := n1_; have HB := n2_; clear n0_ n1_ n2_; (try clear hb); (try clear hb2); (try clear hk); (try clear hi); (try clear ho0); obtain ⟨Ao43, co43, eo43⟩ := Kd.R_slice HO151.out; subst eo43) | (go_at_call 7; (with_reducible refine (emenderlaw26_awake.calls  t152 _ A37.out).mono ?_); rintro e w44 ⟨rfl, hb⟩; have n0_ := Aside0.mk (Kd.R_below (by (with_reducible repeat (first | apply Kd.R_alloc | apply Kd.R_drewN | apply Kd.R_drew)); exact HO_5.out) hb); have n1_ := Aside0.mk (Kd.R_below (by (with_reducible repeat (first | apply Kd.R_alloc | apply Kd.R_drewN | apply Kd.R_drew)); exact HO151.out) hb); have n2_ := Aside0.mk (below_step (by repeat (first | (with_reducible first | exact HB.out | apply below_alloc | apply pw_below_drewN | apply below_drew1) | exact HB.out)) hb); clear HO_5; clear HO151; clear HB; have HO_5 := n0_; have HO151 := n1_; have HB := n2_; clear n0_ n1_ n2_; (try clear hb); (try clear hb2); (try clear hk); (try clear hi)))
                        go_ret
                        exact ⟨by first | rfl | (simp [errW_none, errW_some] <;> rfl) | (simp [*, errW_none, errW_some] <;> rfl), by repeat (first | (with_reducible first | exact HB.out | apply below_alloc | apply pw_below_drewN | apply below_drew1) | exact HB.out)⟩
                      · rw [if_neg c36] at H
                        exact absurd H (by simp)
                    · rw [if_neg c35] at H
                      exact absurd H (by simp)
                  · rw [if_neg c31] at H
                    have c31b0 : (t143 == 0) = false := beq_eq_false_iff_ne.mpr c31
                    have c31b1 : (t143 != 0) = true := bne_iff_ne.mpr c31
                    replace H := Option.bind_eq_some_iff.mp H
                    obtain ⟨t153, A450, H⟩ := H
                    replace H : (some t153) = some r := H
                    have A45 := Aside0.mk A450
                    clear A450
                    obtain rfl := Option.some.inj H
                    obtain ⟨Ao46, co46, eo46⟩ := Kd.R_slice HO_5.out
                    subst eo46
                    have q47 : (x7_2 : Int) ≤ ((l0.length : Int) : Int) := of_decide_eq_true (by first | (with_reducible assumption) | assumption)
                    obtain ⟨i047, hi047, _, hsz47, _⟩ := info_parts info48
                    have hroom47 : l0.length ≤ c0 := HC0.out
                    have hC47 : Kd.C k48 _ A0 l0.length l0 := HR0.out
                    have q047 : (0 : Int) ≤ (x7_2 : Int) := of_decide_eq_true (by first | (with_reducible assumption) | assumption)
                    have hcut47 := cut_from (P := Tryd.prog) 22 48 .i64 Tryd.underlying22 hi047 4 hsz47 A0 l0.length c0 x7_2 q047 q47
                    have hr47 := Kd.C_drop (m := (x7_2 : Int).toNat) (c := c0) hC47 (by omega) hroom47
                    obtain ⟨A47, hA47⟩ : ∃ A1, A1 = (if c0 = (x7_2 : Int).toNat then A0 else (A0 : Option Addr).map (·.add ((x7_2 : Int).toNat * 4))) := ⟨_, rfl⟩
                    obtain ⟨c47, hc47⟩ : ∃ c1, c1 = c0 - (x7_2 : Int).toNat := ⟨_, rfl⟩
                    have hy47 : y138.length = l0.length - (x7_2 : Int).toNat := (by rw [Ny138.out, List.length_drop] <;> omega)
                    rw [show (l0).drop (x7_2 : Int).toNat = y138 from Ny138.out.symm] at hr47
                    replace hr47 : Kd.C k48 _ A47 y138.length y138 := (by rw [hA47]; exact hr47)
                    rw [← hy47, ← hA47, ← hc47] at hcut47
                    have HR141 := Aside0.mk hr47
                    have HC141 := Aside0.mk (show y138.length ≤ c47 from by rw [hy47, hc47]; exact Nat.sub_le_sub_right hroom47 _)
                    clear hr47 hC47 hroom47 hi047 hsz47 hc47
                    have KY47 := Aside0.mk hy47
                    have KA47 := Aside0.mk hA47
                    clear hy47 hA47
                    replace q47 := eq_true q47
                    go_wp2_with (first | ((with_reducible refine gate_callee (f := 10) rfl ?_); refine goesL_ (some 82) rfl rfl Tryd.func10 (by kernel_rfl) rfl #[.slice A47 y138.length c47] rfl (by (try simp only [List.map_toArray, List.map_cons, List.map_nil]); first | done | rfl | (simp only [List.length_drop, List.length_take]; rfl)) ?_; (with_reducible refine (flat_Check.calls _ _ y138 t142 t143 _ ?side1 ?side2 A30.out).mono ?_); (case side1 => repeat (first | exact (Kd.C_below HR141.out HB.out) | (with_reducible refine Kd.C_alloc ?_ _) | (with_reducible refine Kd.C_drewN ?_ _) | (with_reducible refine Kd.C_drew ?_))); (case side2 => exact HC141.out); rintro e w48 ⟨rfl, hb⟩; refine ⟨_, rfl, ?_⟩; have n0_ := Aside0.mk (Kd.R_below (by (with_reducible repeat (first | apply Kd.R_alloc | apply Kd.R_drewN | apply Kd.R_drew)); exact HO_5.out) hb); have n1_ := Aside0.mk (below_step (by repeat (first | (with_reducible first | exact HB.out | apply below_alloc | apply pw_below_drewN | apply below_drew1) | exact HB.out)) hb); clear HO_5; clear HB; have HO_5 := n0_; have HB := n1_; clear n0_ n1_; (try clear hb); (try clear hb2); (try clear hk); (try clear hi)) | ((with_reducible refine gate_callee (f := 7) rfl ?_); refine goesL_ (some 87) rfl rfl Tryd.func7 (by kernel_rfl) rfl #[] rfl (by (try simp only [List.map_toArray, List.map_cons, List.map_nil]); first | done | rfl | (simp only [List.length_drop, List.length_take]; rfl)) ?_; (with_reducible refine (emenderlaw26_awake.calls  t153 _ A45.out).mono ?_); rintro e w49 ⟨rfl, hb⟩; refine ⟨_, rfl, ?_⟩; have n0_ := Aside0.mk (Kd.R_below (by (with_reducible repeat (first | apply Kd.R_alloc | apply Kd.R_drewN | apply Kd.R_drew)); exact HO_5.out) hb); have n1_ := Aside0.mk (below_step (by repeat (first | (with_reducible first | exact HB.out | apply below_alloc | apply pw_below_drewN | apply below_drew1) | exact HB.out)) hb); clear HO_5; clear HB; have HO_5 := n0_; have HB := n1_; clear n0_ n1_; (try clear hb); (try clear hb2); (try clear hk); (try clear hi)))
                    go_ret
                    exact ⟨by first | rfl | (simp [errW_none, errW_some] <;> rfl) | (simp [*, errW_none, errW_some] <;> rfl), by repeat (first | (with_reducible first | exact HB.out | apply below_alloc | apply pw_below_drewN | apply below_drew1) | exact HB.out)⟩
                · rw [if_neg c29] at H
                  exact absurd H (by simp)
              · rw [if_neg c28] at H
                exact absurd H (by simp)

end Go.Proofs.YtfcfomconcoimaaDoor.PFa
