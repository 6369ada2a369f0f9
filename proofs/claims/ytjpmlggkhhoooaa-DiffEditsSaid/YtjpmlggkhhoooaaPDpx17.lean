-- Written for this claim by a program (the kit's print, with hand-made contracts for what it does not take).
import Derived.Test.YtjpmlggkhhoooaaPDpx0
import Derived.Test.YtjpmlggkhhoooaaPDpx6
import Derived.Test.YtjpmlggkhhoooaaPDpx8
import Derived.Test.YtjpmlggkhhoooaaPDpx12
import Derived.Test.YtjpmlggkhhoooaaPDpx16
namespace Go.Proofs.Ytjpmlggkhhoooaa.PDp
open Go.RowKit Go.Proofs.YtjpmlggkhhoooaaW.PrintWords Go.Proofs.YtjpmlggkhhoooaaW.PrintLast Go.Proofs.YtjpmlggkhhoooaaW.PrintMore
attribute [local go_sem] max2_int min2_int max_two min_two max_three min_three max_four min_four   -- for this text's walks alone
set_option linter.unusedVariables false
set_option linter.unusedSimpArgs false

/-! ### emenderlaw23_DiffEdits: function 4 -/
mutual
def emenderlaw23_DiffEdits.j0 : Nat → List (S64) → List (S64) → Bool → Option (Bool)
  | 0, _, _, _ => none
  | k + 1, x0, x1, x22 => if x22 = true then ((emenderlaw23_awake.f k).bind fun t250 => (some t250)) else ((diff_Edits.f x0 x1).bind fun bt251 => ((diff_Pairs.f x0 x1).bind fun bt255 => (if bt251.2 = 0 then (emenderlaw23_DiffEdits.j1 k x0 x1 bt251.1 bt255.1 (bt255.2 != 0)) else (emenderlaw23_DiffEdits.j1 k x0 x1 bt251.1 bt255.1 true))))
def emenderlaw23_DiffEdits.j1 : Nat → List (S64) → List (S64) → List (S41) → List (S76) → Bool → Option (Bool)
  | 0, _, _, _, _, _ => none
  | k + 1, x0, x1, x5, x7, x41 => if x41 = true then (none) else (emenderlaw23_DiffEdits.l0 k x0 x1 x5 x7 ([] : List (S64)) 0 0 0 0)
def emenderlaw23_DiffEdits.l0 : Nat → List (S64) → List (S64) → List (S41) → List (S76) → List (S64) → Int → Int → Int → Int → Option (Bool)
  | 0, _, _, _, _, _, _, _, _, _ => none
  | k + 1, x0, x1, x5, x7, x9, x10, x11, x12, x13 => if x13 < (x5.length : Int) then (if 0 ≤ x13 then (if ((rd_T41 x5 x13).f0) < x10 then (none) else (if (wrap64 (((rd_T41 x5 x13).f0) + ((rd_T41 x5 x13).f1))) > (x0.length : Int) then (none) else (if (wrap64 (((rd_T41 x5 x13).f0) + x11)) < 0 then (none) else (if (wrap64 ((wrap64 (((rd_T41 x5 x13).f0) + x11)) + ((rd_T41 x5 x13).f2))) > (x1.length : Int) then (none) else (if (wrap64 (((rd_T41 x5 x13).f1) + ((rd_T41 x5 x13).f2))) = 0 then (none) else (if 0 ≤ x10 then (if x10 ≤ ((rd_T41 x5 x13).f0) then (if ((rd_T41 x5 x13).f0) ≤ (x0.length : Int) then ((some ((x0.take (((rd_T41 x5 x13).f0) : Int).toNat).drop (x10 : Int).toNat : List (S64))).bind fun y261 => (if x9.length + y261.length < 4398046511104 then ((some (x9 ++ y261 : List (S64))).bind fun y265 => (if 0 ≤ (wrap64 (((rd_T41 x5 x13).f0) + x11)) then (if (wrap64 (((rd_T41 x5 x13).f0) + x11)) ≤ (wrap64 ((wrap64 (((rd_T41 x5 x13).f0) + x11)) + ((rd_T41 x5 x13).f2))) then (if (wrap64 ((wrap64 (((rd_T41 x5 x13).f0) + x11)) + ((rd_T41 x5 x13).f2))) ≤ (x1.length : Int) then ((some ((x1.take ((wrap64 ((wrap64 (((rd_T41 x5 x13).f0) + x11)) + ((rd_T41 x5 x13).f2))) : Int).toNat).drop ((wrap64 (((rd_T41 x5 x13).f0) + x11)) : Int).toNat : List (S64))).bind fun y268 => (if y265.length + y268.length < 4398046511104 then (emenderlaw23_DiffEdits.l0 k x0 x1 x5 x7 (y265 ++ y268) (wrap64 (((rd_T41 x5 x13).f0) + ((rd_T41 x5 x13).f1))) (wrap64 ((wrap64 (x11 + ((rd_T41 x5 x13).f2))) - ((rd_T41 x5 x13).f1))) (wrap64 ((wrap64 (x12 + ((rd_T41 x5 x13).f0))) - x10)) (wrap64 (x13 + 1))) else (none))) else (none)) else (none)) else (none))) else (none))) else (none)) else (none)) else (none))))))) else (none)) else (if 0 ≤ x10 then (if x10 ≤ (x0.length : Int) then ((some (x0.drop (x10 : Int).toNat : List (S64))).bind fun y275 => (if x9.length + y275.length < 4398046511104 then ((emenderlaw23_alike.f k (x9 ++ y275) x1).bind fun t282 => (if t282 = true then (if (wrap64 ((wrap64 (x12 + (x0.length : Int))) - x10)) = (x7.length : Int) then ((emenderlaw23_awake.f k).bind fun t283 => (some t283)) else (none)) else (none))) else (none))) else (none)) else (none))
end
def emenderlaw23_DiffEdits.f (k : Nat) (l0 : List (S64)) (l1 : List (S64)) : Option (Bool) := if (l0.length : Int) > 60 then (emenderlaw23_DiffEdits.j0 k l0 l1 true) else (emenderlaw23_DiffEdits.j0 k l0 l1 (decide ((l1.length : Int) > 60)))
theorem emenderlaw23_DiffEdits.mono_l : ∀ k, (∀ y0 y1 y2, LeO (emenderlaw23_DiffEdits.j0 k y0 y1 y2) (emenderlaw23_DiffEdits.j0 (k + 1) y0 y1 y2)) ∧ (∀ y0 y1 y2 y3 y4, LeO (emenderlaw23_DiffEdits.j1 k y0 y1 y2 y3 y4) (emenderlaw23_DiffEdits.j1 (k + 1) y0 y1 y2 y3 y4)) ∧ (∀ y0 y1 y2 y3 y4 y5 y6 y7 y8, LeO (emenderlaw23_DiffEdits.l0 k y0 y1 y2 y3 y4 y5 y6 y7 y8) (emenderlaw23_DiffEdits.l0 (k + 1) y0 y1 y2 y3 y4 y5 y6 y7 y8))
  | 0 => ⟨fun _ _ _ r h => by simp [emenderlaw23_DiffEdits.j0] at h, fun _ _ _ _ _ r h => by simp [emenderlaw23_DiffEdits.j1] at h, fun _ _ _ _ _ _ _ _ _ r h => by simp [emenderlaw23_DiffEdits.l0] at h⟩
  | k + 1 => by
    obtain ⟨ih0, ih1, ih2⟩ := emenderlaw23_DiffEdits.mono_l k
    refine ⟨?_, ?_, ?_⟩
    · intro y0 y1 y2
      unfold emenderlaw23_DiffEdits.j0
      repeat' first
      | (with_reducible exact ih0 _ _ _)
      | (with_reducible exact ih1 _ _ _ _ _)
      | (with_reducible exact ih2 _ _ _ _ _ _ _ _ _)
      | (with_reducible exact emenderlaw23_alike.mono _ _ _)
      | (with_reducible exact emenderlaw23_awake.mono _)
      | (with_reducible exact LeO.refl _)
      | (with_reducible exact LeO.none _)
      | (with_reducible refine LeO.ite ?_ ?_)
      | (with_reducible refine LeO.bind ?_ (fun _ => ?_))
      | exact ih0 _ _ _
      | exact ih1 _ _ _ _ _
      | exact ih2 _ _ _ _ _ _ _ _ _
      | exact emenderlaw23_alike.mono _ _ _
      | exact emenderlaw23_awake.mono _
      | exact LeO.none _
      | refine LeO.ite ?_ ?_
      | refine LeO.bind ?_ (fun _ => ?_)
    · intro y0 y1 y2 y3 y4
      unfold emenderlaw23_DiffEdits.j1
      repeat' first
      | (with_reducible exact ih0 _ _ _)
      | (with_reducible exact ih1 _ _ _ _ _)
      | (with_reducible exact ih2 _ _ _ _ _ _ _ _ _)
      | (with_reducible exact emenderlaw23_alike.mono _ _ _)
      | (with_reducible exact emenderlaw23_awake.mono _)
      | (with_reducible exact LeO.refl _)
      | (with_reducible exact LeO.none _)
      | (with_reducible refine LeO.ite ?_ ?_)
      | (with_reducible refine LeO.bind ?_ (fun _ => ?_))
      | exact ih0 _ _ _
      | exact ih1 _ _ _ _ _
      | exact ih2 _ _ _ _ _ _ _ _ _
      | exact emenderlaw23_alike.mono _ _ _
      | exact emenderlaw23_awake.mono _
      | exact LeO.none _
      | refine LeO.ite ?_ ?_
      | refine LeO.bind ?_ (fun _ => ?_)
    · intro y0 y1 y2 y3 y4 y5 y6 y7 y8
      unfold emenderlaw23_DiffEdits.l0
      repeat' first
      | (with_reducible exact ih0 _ _ _)
      | (with_reducible exact ih1 _ _ _ _ _)
      | (with_reducible exact ih2 _ _ _ _ _ _ _ _ _)
      | (with_reducible exact emenderlaw23_alike.mono _ _ _)
      | (with_reducible exact emenderlaw23_awake.mono _)
      | (with_reducible exact LeO.refl _)
      | (with_reducible exact LeO.none _)
      | (with_reducible refine LeO.ite ?_ ?_)
      | (with_reducible refine LeO.bind ?_ (fun _ => ?_))
      | exact ih0 _ _ _
      | exact ih1 _ _ _ _ _
      | exact ih2 _ _ _ _ _ _ _ _ _
      | exact emenderlaw23_alike.mono _ _ _
      | exact emenderlaw23_awake.mono _
      | exact LeO.none _
      | refine LeO.ite ?_ ?_
      | refine LeO.bind ?_ (fun _ => ?_)
theorem emenderlaw23_DiffEdits.mono : ∀ a0 a1 k, LeO (emenderlaw23_DiffEdits.f k a0 a1) (emenderlaw23_DiffEdits.f (k + 1) a0 a1) := by
  intro a0 a1 k
  obtain ⟨ih0, ih1, ih2⟩ := emenderlaw23_DiffEdits.mono_l k
  unfold emenderlaw23_DiffEdits.f
  repeat' first
      | (with_reducible exact ih0 _ _ _)
      | (with_reducible exact ih1 _ _ _ _ _)
      | (with_reducible exact ih2 _ _ _ _ _ _ _ _ _)
      | (with_reducible exact emenderlaw23_alike.mono _ _ _)
      | (with_reducible exact emenderlaw23_awake.mono _)
      | (with_reducible exact LeO.refl _)
      | (with_reducible exact LeO.none _)
      | (with_reducible refine LeO.ite ?_ ?_)
      | (with_reducible refine LeO.bind ?_ (fun _ => ?_))
      | exact ih0 _ _ _
      | exact ih1 _ _ _ _ _
      | exact ih2 _ _ _ _ _ _ _ _ _
      | exact emenderlaw23_alike.mono _ _ _
      | exact emenderlaw23_awake.mono _
      | exact LeO.none _
      | refine LeO.ite ?_ ?_
      | refine LeO.bind ?_ (fun _ => ?_)
set_option maxHeartbeats 8000000 in
set_option maxRecDepth 100000 in
theorem emenderlaw23_DiffEdits.calls (k : Nat) (A0 : Option Addr) (c0 : Nat) (l0 : List (S64)) (A1 : Option Addr) (c1 : Nat) (l1 : List (S64)) (r : Bool) (w : World) (hr0 : Kd.C k64 w A0 l0.length l0) (hc0 : l0.length ≤ c0) (hr1 : Kd.C k64 w A1 l1.length l1) (hc1 : l1.length ≤ c1) (h : emenderlaw23_DiffEdits.f k l0 l1 = some r) :
    Calls Try.prog 4 #[.slice A0 l0.length c0, .slice A1 l1.length c1] w fun e w' => e = .returned (.bool r) ∧ Below w.heap.size w w' := by
  have hu41 := Try.underlying41
  have HR0 := Aside0.mk hr0
  have HC0 := Aside0.mk hc0
  clear hr0 hc0
  have HR1 := Aside0.mk hr1
  have HC1 := Aside0.mk hc1
  clear hr1 hc1
  have HB := Aside0.mk (Below.refl w.heap.size w)
  have H : (if (l0.length : Int) > 60 then (emenderlaw23_DiffEdits.j0 k l0 l1 true) else (emenderlaw23_DiffEdits.j0 k l0 l1 (decide ((l1.length : Int) > 60)))) = some r := h
  clear h
  have HC3 := Aside0.mk H
  clear H
  go_enter Try.func4, Try.ntmps4
  go_upto_region 1 with (fail)
  go_cut [22] (fun v22 wc => ∃ (kq : Nat) (x22_2 : Bool), v22 = .bool x22_2 ∧ Aside0 (emenderlaw23_DiffEdits.j0 kq l0 l1 x22_2 = some r) ∧ Aside0 (kq ≤ k) ∧ Aside0 (Below w.heap.size w wc))
  case first =>
    have H := HC3.out
    clear HC3
    by_cases c4 : (l0.length : Int) > 60
    · rw [if_pos c4] at H
      have c4b0 : decide (60 < (l0.length : Int)) = true := decide_eq_true c4
      have c4b1 : decide (60 < l0.length) = true := decide_eq_true (by omega)
      clear c4
      (first | rw [c4b0] | (simp only [i64_w, i32_w]; rw [c4b0]) | skip)
      have H' := Aside0.mk H
      clear H
      go_wp2
      go_meet
      case rel => exact ⟨_, (true), (by first | rfl | (simp; done) | (simp [*]; done)), H', ⟨by first | omega | exact Nat.le_refl _⟩, ⟨by repeat (first | (with_reducible first | exact HB.out | apply below_alloc | apply pw_below_drewN | apply below_drew1) | exact HB.out)⟩⟩
    · rw [if_neg c4] at H
      have c4b0 : decide (60 < (l0.length : Int)) = false := decide_eq_false c4
      have c4b1 : decide (60 < l0.length) = false := decide_eq_false (by omega)
      clear c4
      (first | rw [c4b0] | (simp only [i64_w, i32_w]; rw [c4b0]) | skip)
      have H' := Aside0.mk H
      clear H
      go_wp2
      go_meet
      case rel => exact ⟨_, (decide ((l1.length : Int) > 60)), (by first | rfl | (simp; done) | (simp [*]; done)), H', ⟨by first | omega | exact Nat.le_refl _⟩, ⟨by repeat (first | (with_reducible first | exact HB.out | apply below_alloc | apply pw_below_drewN | apply below_drew1) | exact HB.out)⟩⟩
  case rest =>
    clear HC3
    try clear c1
    try clear p2
    try clear c4
    try clear c4b0
    try clear c4b1
    obtain ⟨kq, x22_2, rfl, HA, HJ2, HB⟩ := hcut
    cases kq with
    | zero => exact absurd HA.out (by simp [emenderlaw23_DiffEdits.j0])
    | succ kj2 =>
      have H := HA.out
      clear HA
      simp only [emenderlaw23_DiffEdits.j0] at H
      by_cases c5 : x22_2 = true
      · subst c5
        have H1 : ((emenderlaw23_awake.f kj2).bind fun t250 => (some t250)) = some r := by rw [if_pos rfl] at H; exact H
        clear H
        have H := H1
        clear H1
        replace H := Option.bind_eq_some_iff.mp H
        obtain ⟨t250, A60, H⟩ := H
        replace H : (some t250) = some r := H
        have A6 := Aside0.mk A60
        clear A60
        obtain rfl := Option.some.inj H
        go_wp2_with (first | ((with_reducible refine gate_callee (f := 8) rfl ?_); refine goesL_ (some 23) rfl rfl Try.func8 (by kernel_rfl) rfl #[] rfl (by (try simp only [List.map_toArray, List.map_cons, List.map_nil]); first | done | rfl | (simp only [List.length_drop, List.length_take]; rfl)) ?_; (with_reducible refine (emenderlaw23_awake.calls kj2  t250 _ A6.out).mono ?_); rintro e w7 ⟨rfl, hb⟩; refine ⟨_, rfl, ?_⟩; have n0_ := Aside0.mk (below_step (by repeat (first | (with_reducible first | exact HB.out | apply below_alloc | apply pw_below_drewN | apply below_drew1) | exact HB.out)) hb); clear HB; have HB := n0_; clear n0_; (try clear hb); (try clear hb2); (try clear hk); (try clear hi)))
        go_ret
        exact ⟨by first | rfl | (simp [errW_none, errW_some] <;> rfl) | (simp [*, errW_none, errW_some] <;> rfl), by repeat (first | (with_reducible first | exact HB.out | apply below_alloc | apply pw_below_drewN | apply below_drew1) | exact HB.out)⟩
      · replace c5 := Bool.eq_false_iff.mpr c5
        subst c5
        have H1 : ((diff_Edits.f l0 l1).bind fun bt251 => ((diff_Pairs.f l0 l1).bind fun bt255 => (if bt251.2 = 0 then (emenderlaw23_DiffEdits.j1 kj2 l0 l1 bt251.1 bt255.1 (bt255.2 != 0)) else (emenderlaw23_DiffEdits.j1 kj2 l0 l1 bt251.1 bt255.1 true)))) = some r := by rw [if_neg (show ¬ (false = true) by decide)] at H; exact H
        clear H
        have H := H1
        clear H1
        replace H := Option.bind_eq_some_iff.mp H
        obtain ⟨⟨t251, t252⟩, A80, H⟩ := H
        replace H : ((diff_Pairs.f l0 l1).bind fun bt255 => (if t252 = 0 then (emenderlaw23_DiffEdits.j1 kj2 l0 l1 t251 bt255.1 (bt255.2 != 0)) else (emenderlaw23_DiffEdits.j1 kj2 l0 l1 t251 bt255.1 true))) = some r := H
        have A8 := Aside0.mk A80
        clear A80
        replace H := Option.bind_eq_some_iff.mp H
        obtain ⟨⟨t255, t256⟩, A90, H⟩ := H
        replace H : (if t252 = 0 then (emenderlaw23_DiffEdits.j1 kj2 l0 l1 t251 t255 (t256 != 0)) else (emenderlaw23_DiffEdits.j1 kj2 l0 l1 t251 t255 true)) = some r := H
        have A9 := Aside0.mk A90
        clear A90
        have HC10 := Aside0.mk H
        clear H
        go_upto_region 5 with (first | ((with_reducible refine gate_callee (f := 13) rfl ?_); refine goesL_ (some 27) rfl rfl Try.func13 (by kernel_rfl) rfl #[.slice A0 l0.length c0, .slice A1 l1.length c1] rfl (by (try simp only [List.map_toArray, List.map_cons, List.map_nil]); first | done | rfl | (simp only [List.length_drop, List.length_take]; rfl)) ?_; (with_reducible refine (diff_Edits.calls _ _ l0 _ _ l1 t251 t252 _ ?side1 ?side2 ?side3 ?side4 A8.out).mono ?_); (case side1 => repeat (first | exact (Kd.C_below HR0.out HB.out) | (with_reducible refine Kd.C_alloc ?_ _) | (with_reducible refine Kd.C_drewN ?_ _) | (with_reducible refine Kd.C_drew ?_))); (case side2 => exact HC0.out); (case side3 => repeat (first | exact (Kd.C_below HR1.out HB.out) | (with_reducible refine Kd.C_alloc ?_ _) | (with_reducible refine Kd.C_drewN ?_ _) | (with_reducible refine Kd.C_drew ?_))); (case side4 => exact HC1.out); rintro e w11 ⟨v253, rfl, ho0, hb⟩; refine ⟨_, rfl, ?_⟩; have n0_ := Aside0.mk (Kd.R_lower ho0 (below_size (by repeat (first | (with_reducible first | exact HB.out | apply below_alloc | apply pw_below_drewN | apply below_drew1) | exact HB.out)))); have n1_ := Aside0.mk (below_step (by repeat (first | (with_reducible first | exact HB.out | apply below_alloc | apply pw_below_drewN | apply below_drew1) | exact HB.out)) hb); clear HB; have HO254 := n0_; have HB := n1_; clear n0_ n1_; (try clear hb); (try clear hb2); (try clear hk); (try clear hi); (try clear ho0)) | ((with_reducible refine gate_callee (f := 11) rfl ?_); refine goesL_ (some 33) rfl rfl Try.func11 (by kernel_rfl) rfl #[.slice A0 l0.length c0, .slice A1 l1.length c1] rfl (by (try simp only [List.map_toArray, List.map_cons, List.map_nil]); first | done | rfl | (simp only [List.length_drop, List.length_take]; rfl)) ?_; (with_reducible refine (diff_Pairs.calls _ _ l0 _ _ l1 t255 t256 _ ?side1 ?side2 ?side3 ?side4 A9.out).mono ?_); (case side1 => repeat (first | exact (Kd.C_below HR0.out HB.out) | (with_reducible refine Kd.C_alloc ?_ _) | (with_reducible refine Kd.C_drewN ?_ _) | (with_reducible refine Kd.C_drew ?_))); (case side2 => exact HC0.out); (case side3 => repeat (first | exact (Kd.C_below HR1.out HB.out) | (with_reducible refine Kd.C_alloc ?_ _) | (with_reducible refine Kd.C_drewN ?_ _) | (with_reducible refine Kd.C_drew ?_))); (case side4 => exact HC1.out); rintro e w12 ⟨v257, rfl, ho0, hb⟩; refine ⟨_, rfl, ?_⟩; have n0_ := Aside0.mk (Kd.R_below (by (with_reducible repeat (first | apply Kd.R_alloc | apply Kd.R_drewN | apply Kd.R_drew)); exact HO254.out) hb); have n1_ := Aside0.mk (Kd.R_lower ho0 (below_size (by repeat (first | (with_reducible first | exact HB.out | apply below_alloc | apply pw_below_drewN | apply below_drew1) | exact HB.out)))); have n2_ := Aside0.mk (below_step (by repeat (first | (with_reducible first | exact HB.out | apply below_alloc | apply pw_below_drewN | apply below_drew1) | exact HB.out)) hb); clear HO254; clear HB; have HO254 := n0_; have HO258 := n1_; have HB := n2_; clear n0_ n1_ n2_; (try clear hb); (try clear hb2); (try clear hk); (try clear hi); (try clear ho0)))
        (try simp only [Act.put, List.setIfInBounds_toArray, List.set_cons_zero, List.set_cons_succ])
        go_cut [41] (fun v41 wc => ∃ (kq : Nat) (x41_9 : Bool), v41 = .bool x41_9 ∧ Aside0 (emenderlaw23_DiffEdits.j1 kq l0 l1 t251 t255 x41_9 = some r) ∧ Aside0 (kq ≤ kj2) ∧ Aside0 (Kd.R k41 41 wc w.heap.size (fun _ => True) v253 t251) ∧ Aside0 (Kd.R k76 76 wc w.heap.size (fun _ => True) v257 t255) ∧ Aside0 (Below w.heap.size w wc))
        case first =>
          have H := HC10.out
          clear HC10
          by_cases c13 : t252 = 0
          · rw [if_pos c13] at H
            have c13b0 : (t252 == 0) = true := beq_iff_eq.mpr c13
            have c13b1 : (t252 != 0) = false := bne_eq_false_iff_eq.mpr c13
            clear c13
            (first | rw [c13b0] | (simp only [i64_w, i32_w]; rw [c13b0]) | skip)
            have H' := Aside0.mk H
            clear H
            go_wp2
            go_meet
            case rel => exact ⟨_, ((t256 != 0)), (by first | rfl | (simp; done) | (simp [*]; done)), H', ⟨by have := HJ2.out; first | omega | exact Nat.le_refl _⟩, ⟨by (with_reducible repeat (first | apply Kd.R_alloc | apply Kd.R_drewN | apply Kd.R_drew)); exact HO254.out⟩, ⟨by (with_reducible repeat (first | apply Kd.R_alloc | apply Kd.R_drewN | apply Kd.R_drew)); exact HO258.out⟩, ⟨by repeat (first | (with_reducible first | exact HB.out | apply below_alloc | apply pw_below_drewN | apply below_drew1) | exact HB.out)⟩⟩
          · rw [if_neg c13] at H
            have c13b0 : (t252 == 0) = false := beq_eq_false_iff_ne.mpr c13
            have c13b1 : (t252 != 0) = true := bne_iff_ne.mpr c13
            (first | rw [c13b0] | (simp only [i64_w, i32_w]; rw [c13b0]) | skip)
            have H' := Aside0.mk H
            clear H
            go_wp2
            go_meet
            case rel => exact ⟨_, (true), (by first | rfl | (simp; done) | (simp [*]; done)), H', ⟨by have := HJ2.out; first | omega | exact Nat.le_refl _⟩, ⟨by (with_reducible repeat (first | apply Kd.R_alloc | apply Kd.R_drewN | apply Kd.R_drew)); exact HO254.out⟩, ⟨by (with_reducible repeat (first | apply Kd.R_alloc | apply Kd.R_drewN | apply Kd.R_drew)); exact HO258.out⟩, ⟨by repeat (first | (with_reducible first | exact HB.out | apply below_alloc | apply pw_below_drewN | apply below_drew1) | exact HB.out)⟩⟩
        case rest =>
          clear HC10
          try clear c1
          try clear p2
          try clear c4
          try clear c4b0
          try clear c4b1
          try clear c5
          try clear c8
          try clear c11
          try clear c13
          try clear c13b0
          try clear c13b1
          try clear p2
          obtain ⟨kq, x41_9, rfl, HA, HJ9, HO_5, HO_7, HB⟩ := hcut
          cases kq with
          | zero => exact absurd HA.out (by simp [emenderlaw23_DiffEdits.j1])
          | succ kj9 =>
            have H := HA.out
            clear HA
            simp only [emenderlaw23_DiffEdits.j1] at H
            by_cases c14 : x41_9 = true
            · subst c14
              have H1 : (none) = some r := by rw [if_pos rfl] at H; exact H
              clear H
              have H := H1
              clear H1
              exact absurd H (by simp)
            · replace c14 := Bool.eq_false_iff.mpr c14
              subst c14
              have H1 : (emenderlaw23_DiffEdits.l0 kj9 l0 l1 t251 t255 ([] : List (S64)) 0 0 0 0) = some r := by rw [if_neg (show ¬ (false = true) by decide)] at H; exact H
              clear H
              have H := H1
              clear H1
              have H' := Aside0.mk H
              clear H
              go_wp2
              go_loopg [9, 10, 11, 12, 13] kj9 (fun kq v9 v10 v11 v12 v13 w' => ∃ (x9_3 : List (S64)) (x10_3 : Int) (x11_3 : Int) (x12_3 : Int) (x13_3 : Int), v10 = .int .i64 x10_3 ∧ v11 = .int .i64 x11_3 ∧ v12 = .int .i64 x12_3 ∧ v13 = .int .i64 x13_3 ∧ Aside0 (emenderlaw23_DiffEdits.l0 kq l0 l1 t251 t255 x9_3 x10_3 x11_3 x12_3 x13_3 = some r) ∧ Aside0 (kq ≤ kj9) ∧ Aside0 (Kd.R k41 41 w' w.heap.size (fun _ => True) v253 t251) ∧ Aside0 (Kd.R k76 76 w' w.heap.size (fun _ => True) v257 t255) ∧ Aside0 (Kd.R k64 64 w' w.heap.size (fun _ => True) v9 x9_3) ∧ Aside0 (Below w.heap.size w w'))
              case atStart => exact ⟨(([] : List (S64))), (0), (0), (0), (0), (by first | rfl | (simp; done) | (simp [*]; done)), (by first | rfl | (simp; done) | (simp [*]; done)), (by first | rfl | (simp; done) | (simp [*]; done)), (by first | rfl | (simp; done) | (simp [*]; done)), H', ⟨Nat.le_refl _⟩, ⟨by (with_reducible repeat (first | apply Kd.R_alloc | apply Kd.R_drewN | apply Kd.R_drew)); exact HO_5.out⟩, ⟨by (with_reducible repeat (first | apply Kd.R_alloc | apply Kd.R_drewN | apply Kd.R_drew)); exact HO_7.out⟩, ⟨by first | exact Kd.R_nil _ _ _ _ _ | exact Kd.N_nil _ _ _ _ _ | exact Kd.V_nil _ _ _ _ _ | exact Kd.Q_nil _ _ _ _ _ | exact Kd.S_nil _ _ _ _ _⟩, ⟨by repeat (first | (with_reducible first | exact HB.out | apply below_alloc | apply pw_below_drewN | apply below_drew1) | exact HB.out)⟩⟩
              case round =>
                clear H'
                try clear c1
                try clear p2
                try clear c4
                try clear c4b0
                try clear c4b1
                try clear c5
                try clear c8
                try clear c11
                try clear c13
                try clear c13b0
                try clear c13b1
                try clear c14
                try clear p2
                obtain ⟨x9_3, x10_3, x11_3, x12_3, x13_3, rfl, rfl, rfl, rfl, HA, HK3, HO_5, HO_7, HO_9, HB⟩ := hrel
                cases gk with
                | zero => exact absurd HA.out (by simp [emenderlaw23_DiffEdits.l0])
                | succ k3 =>
                  have H := HA.out
                  clear HA
                  simp only [emenderlaw23_DiffEdits.l0] at H
                  by_cases c15 : x13_3 < (t251.length : Int)
                  · rw [if_pos c15] at H
                    have c15b0 : decide (x13_3 < (t251.length : Int)) = true := decide_eq_true c15
                    clear c15
                    by_cases c16 : 0 ≤ x13_3
                    · rw [if_pos c16] at H
                      have c16b0 : decide (0 ≤ x13_3) = true := decide_eq_true c16
                      clear c16
                      by_cases c17 : ((rd_T41 t251 x13_3).f0) < x10_3
                      · rw [if_pos c17] at H
                        exact absurd H (by simp)
                      · rw [if_neg c17] at H
                        have c17b0 : decide (((rd_T41 t251 x13_3).f0) < x10_3) = false := decide_eq_false c17
                        clear c17
                        by_cases c18 : (wrap64 (((rd_T41 t251 x13_3).f0) + ((rd_T41 t251 x13_3).f1))) > (l0.length : Int)
                        · rw [if_pos c18] at H
                          exact absurd H (by simp)
                        · rw [if_neg c18] at H
                          have c18b0 : decide ((l0.length : Int) < (wrap64 (((rd_T41 t251 x13_3).f0) + ((rd_T41 t251 x13_3).f1)))) = false := decide_eq_false c18
                          clear c18
                          by_cases c19 : (wrap64 (((rd_T41 t251 x13_3).f0) + x11_3)) < 0
                          · rw [if_pos c19] at H
                            exact absurd H (by simp)
                          · rw [if_neg c19] at H
                            have c19b0 : decide ((wrap64 (((rd_T41 t251 x13_3).f0) + x11_3)) < 0) = false := decide_eq_false c19
                            clear c19
                            by_cases c20 : (wrap64 ((wrap64 (((rd_T41 t251 x13_3).f0) + x11_3)) + ((rd_T41 t251 x13_3).f2))) > (l1.length : Int)
                            · rw [if_pos c20] at H
                              exact absurd H (by simp)
                            · rw [if_neg c20] at H
                              have c20b0 : decide ((l1.length : Int) < (wrap64 ((wrap64 (((rd_T41 t251 x13_3).f0) + x11_3)) + ((rd_T41 t251 x13_3).f2)))) = false := decide_eq_false c20
                              clear c20
                              by_cases c21 : (wrap64 (((rd_T41 t251 x13_3).f1) + ((rd_T41 t251 x13_3).f2))) = 0
                              · rw [if_pos c21] at H
                                exact absurd H (by simp)
                              · rw [if_neg c21] at H
                                have c21b0 : ((wrap64 (((rd_T41 t251 x13_3).f1) + ((rd_T41 t251 x13_3).f2))) == 0) = false := beq_eq_false_iff_ne.mpr c21
                                have c21b1 : ((wrap64 (((rd_T41 t251 x13_3).f1) + ((rd_T41 t251 x13_3).f2))) != 0) = true := bne_iff_ne.mpr c21
                                by_cases c22 : 0 ≤ x10_3
                                · rw [if_pos c22] at H
                                  have c22b0 := eq_true c22
                                  have c22b1 : decide (0 ≤ x10_3) = true := decide_eq_true c22
                                  clear c22
                                  by_cases c23 : x10_3 ≤ ((rd_T41 t251 x13_3).f0)
                                  · rw [if_pos c23] at H
                                    have c23b0 := eq_true c23
                                    have c23b1 : decide (x10_3 ≤ ((rd_T41 t251 x13_3).f0)) = true := decide_eq_true c23
                                    clear c23
                                    by_cases c24 : ((rd_T41 t251 x13_3).f0) ≤ (l0.length : Int)
                                    · rw [if_pos c24] at H
                                      have c24b0 := eq_true c24
                                      have c24b1 : decide (((rd_T41 t251 x13_3).f0) ≤ (l0.length : Int)) = true := decide_eq_true c24
                                      clear c24
                                      obtain ⟨y261, hy261⟩ : ∃ y_ : List (S64), y_ = ((l0.take (((rd_T41 t251 x13_3).f0) : Int).toNat).drop (x10_3 : Int).toNat) := ⟨_, rfl⟩
                                      replace H : (if x9_3.length + y261.length < 4398046511104 then ((some (x9_3 ++ y261 : List (S64))).bind fun y265 => (if 0 ≤ (wrap64 (((rd_T41 t251 x13_3).f0) + x11_3)) then (if (wrap64 (((rd_T41 t251 x13_3).f0) + x11_3)) ≤ (wrap64 ((wrap64 (((rd_T41 t251 x13_3).f0) + x11_3)) + ((rd_T41 t251 x13_3).f2))) then (if (wrap64 ((wrap64 (((rd_T41 t251 x13_3).f0) + x11_3)) + ((rd_T41 t251 x13_3).f2))) ≤ (l1.length : Int) then ((some ((l1.take ((wrap64 ((wrap64 (((rd_T41 t251 x13_3).f0) + x11_3)) + ((rd_T41 t251 x13_3).f2))) : Int).toNat).drop ((wrap64 (((rd_T41 t251 x13_3).f0) + x11_3)) : Int).toNat : List (S64))).bind fun y268 => (if y265.length + y268.length < 4398046511104 then (emenderlaw23_DiffEdits.l0 k3 l0 l1 t251 t255 (y265 ++ y268) (wrap64 (((rd_T41 t251 x13_3).f0) + ((rd_T41 t251 x13_3).f1))) (wrap64 ((wrap64 (x11_3 + ((rd_T41 t251 x13_3).f2))) - ((rd_T41 t251 x13_3).f1))) (wrap64 ((wrap64 (x12_3 + ((rd_T41 t251 x13_3).f0))) - x10_3)) (wrap64 (x13_3 + 1))) else (none))) else (none)) else (none)) else (none))) else (none)) = some r := by first | (rw [hy261]; with_reducible exact H) | (have H2_ := (Option.bind_some _ _).symm.trans H; rw [hy261]; with_reducible exact H2_) | (have H2_ := (Option.bind_some _ _).symm.trans H; with_reducible exact H2_) | with_reducible exact H | (rw [hy261]; exact H) | exact H
                                      have Ny261 := Aside0.mk hy261
                                      clear hy261
                                      by_cases c25 : x9_3.length + y261.length < 4398046511104
                                      · rw [if_pos c25] at H
                                        have LMc25 := Aside0.mk c25
                                        clear c25
                                        obtain ⟨y265, hy265⟩ : ∃ y_ : List (S64), y_ = (x9_3 ++ y261) := ⟨_, rfl⟩
                                        replace H : (if 0 ≤ (wrap64 (((rd_T41 t251 x13_3).f0) + x11_3)) then (if (wrap64 (((rd_T41 t251 x13_3).f0) + x11_3)) ≤ (wrap64 ((wrap64 (((rd_T41 t251 x13_3).f0) + x11_3)) + ((rd_T41 t251 x13_3).f2))) then (if (wrap64 ((wrap64 (((rd_T41 t251 x13_3).f0) + x11_3)) + ((rd_T41 t251 x13_3).f2))) ≤ (l1.length : Int) then ((some ((l1.take ((wrap64 ((wrap64 (((rd_T41 t251 x13_3).f0) + x11_3)) + ((rd_T41 t251 x13_3).f2))) : Int).toNat).drop ((wrap64 (((rd_T41 t251 x13_3).f0) + x11_3)) : Int).toNat : List (S64))).bind fun y268 => (if y265.length + y268.length < 4398046511104 then (emenderlaw23_DiffEdits.l0 k3 l0 l1 t251 t255 (y265 ++ y268) (wrap64 (((rd_T41 t251 x13_3).f0) + ((rd_T41 t251 x13_3).f1))) (wrap64 ((wrap64 (x11_3 + ((rd_T41 t251 x13_3).f2))) - ((rd_T41 t251 x13_3).f1))) (wrap64 ((wrap64 (x12_3 + ((rd_T41 t251 x13_3).f0))) - x10_3)) (wrap64 (x13_3 + 1))) else (none))) else (none)) else (none)) else (none)) = some r := by first | (rw [hy265]; with_reducible exact H) | (have H2_ := (Option.bind_some _ _).symm.trans H; rw [hy265]; with_reducible exact H2_) | (have H2_ := (Option.bind_some _ _).symm.trans H; with_reducible exact H2_) | with_reducible exact H | (rw [hy265]; exact H) | exact H
                                        have Ny265 := Aside0.mk hy265
                                        clear hy265
                                        obtain ⟨ji26, hji26⟩ : ∃ j_ : Int, (wrap64 (((rd_T41 t251 x13_3).f0) + x11_3)) = j_ := ⟨_, rfl⟩
                                        replace H : (if 0 ≤ (ji26) then (if (ji26) ≤ (wrap64 ((ji26) + ((rd_T41 t251 x13_3).f2))) then (if (wrap64 ((ji26) + ((rd_T41 t251 x13_3).f2))) ≤ (l1.length : Int) then ((some ((l1.take ((wrap64 ((ji26) + ((rd_T41 t251 x13_3).f2))) : Int).toNat).drop ((ji26) : Int).toNat : List (S64))).bind fun y268 => (if y265.length + y268.length < 4398046511104 then (emenderlaw23_DiffEdits.l0 k3 l0 l1 t251 t255 (y265 ++ y268) (wrap64 (((rd_T41 t251 x13_3).f0) + ((rd_T41 t251 x13_3).f1))) (wrap64 ((wrap64 (x11_3 + ((rd_T41 t251 x13_3).f2))) - ((rd_T41 t251 x13_3).f1))) (wrap64 ((wrap64 (x12_3 + ((rd_T41 t251 x13_3).f0))) - x10_3)) (wrap64 (x13_3 + 1))) else (none))) else (none)) else (none)) else (none)) = some r := by first | (rw [hji26] at H; exact H) | (simp only [hji26] at H ⊢; exact H)
                                        (try rw [hji26] at c19b0)
                                        (try rw [hji26] at c20b0)
                                        have hji26w : (IntKind.i64.wrap (((rd_T41 t251 x13_3).f0) + x11_3)) = ji26 := (i64_w _).trans hji26
                                        by_cases c27 : 0 ≤ (ji26)
                                        · rw [if_pos c27] at H
                                          have c27b0 := eq_true c27
                                          have c27b1 : decide (0 ≤ (ji26)) = true := decide_eq_true c27
                                          clear c27
                                          by_cases c28 : (ji26) ≤ (wrap64 ((ji26) + ((rd_T41 t251 x13_3).f2)))
                                          · rw [if_pos c28] at H
                                            have c28b0 := eq_true c28
                                            have c28b1 : decide ((ji26) ≤ (wrap64 ((ji26) + ((rd_T41 t251 x13_3).f2)))) = true := decide_eq_true c28
                                            by_cases c29 : (wrap64 ((ji26) + ((rd_T41 t251 x13_3).f2))) ≤ (l1.length : Int)
                                            · rw [if_pos c29] at H
                                              have c29b0 := eq_true c29
                                              have c29b1 : decide ((wrap64 ((ji26) + ((rd_T41 t251 x13_3).f2))) ≤ (l1.length : Int)) = true := decide_eq_true c29
                                              obtain ⟨y268, hy268⟩ : ∃ y_ : List (S64), y_ = ((l1.take ((wrap64 ((ji26) + ((rd_T41 t251 x13_3).f2))) : Int).toNat).drop ((ji26) : Int).toNat) := ⟨_, rfl⟩
                                              replace H : (if y265.length + y268.length < 4398046511104 then (emenderlaw23_DiffEdits.l0 k3 l0 l1 t251 t255 (y265 ++ y268) (wrap64 (((rd_T41 t251 x13_3).f0) + ((rd_T41 t251 x13_3).f1))) (wrap64 ((wrap64 (x11_3 + ((rd_T41 t251 x13_3).f2))) - ((rd_T41 t251 x13_3).f1))) (wrap64 ((wrap64 (x12_3 + ((rd_T41 t251 x13_3).f0))) - x10_3)) (wrap64 (x13_3 + 1))) else (none)) = some r := by first | (rw [hy268]; with_reducible exact H) | (have H2_ := (Option.bind_some _ _).symm.trans H; rw [hy268]; with_reducible exact H2_) | (have H2_ := (Option.bind_some _ _).symm.trans H; with_reducible exact H2_) | with_reducible exact H | (rw [hy268]; exact H) | exact H
                                              have Ny268 := Aside0.mk hy268
                                              clear hy268
                                              by_cases c30 : y265.length + y268.length < 4398046511104
                                              · rw [if_pos c30] at H
                                                have LMc30 := Aside0.mk c30
                                                clear c30
                                                obtain ⟨y272, hy272⟩ : ∃ y_ : List (S64), y_ = (y265 ++ y268) := ⟨_, rfl⟩
                                                replace H : (emenderlaw23_DiffEdits.l0 k3 l0 l1 t251 t255 y272 (wrap64 (((rd_T41 t251 x13_3).f0) + ((rd_T41 t251 x13_3).f1))) (wrap64 ((wrap64 (x11_3 + ((rd_T41 t251 x13_3).f2))) - ((rd_T41 t251 x13_3).f1))) (wrap64 ((wrap64 (x12_3 + ((rd_T41 t251 x13_3).f0))) - x10_3)) (wrap64 (x13_3 + 1))) = some r := by first | (rw [hy272]; with_reducible exact H) | (have H2_ := (Option.bind_some _ _).symm.trans H; rw [hy272]; with_reducible exact H2_) | (have H2_ := (Option.bind_some _ _).symm.trans H; with_reducible exact H2_) | with_reducible exact H | (rw [hy272]; exact H) | exact H
                                                have Ny272 := Aside0.mk hy272
                                                clear hy272
                                                have H' := Aside0.mk H
                                                clear H
                                                obtain ⟨Ao31, co31, eo31⟩ := Kd.R_slice HO_5.out
                                                subst eo31
                                                have p259 : 0 ≤ (x13_3 : Int) := of_decide_eq_true (by first | (with_reducible assumption) | assumption)
                                                have q259 : x13_3 < (t251.length : Int) := of_decide_eq_true (by first | (with_reducible assumption) | assumption)
                                                obtain ⟨ad259, e259, hx259_0, hx259_1, hx259_2⟩ := at_T41 (Kd.R_reads' HO_5.out).2.2 x13_3 p259 q259
                                                cases e259
                                                replace p259 := eq_true p259
                                                replace q259 := eq_true q259
                                                go_wp2_with (first | ((with_reducible refine gate_dst (N := 14) rfl ?_); (try (refine gate_guard (by rfl) ?_; dsimp only)); refine box_event ?hg (N := 14) ?hd (cs := #[.int .i64 0, .int .i64 0, .int .i64 0]) (t := 41) ?hr ?_; (case hd => rfl); (case hg => rfl); (case hr => first | (go_simp; done) | (go_simp; rfl)); intro gb260 hg w32 hbox hb; have n0_ := Aside0.mk (Kd.R_below (Kd.R_elderB (by (with_reducible repeat (first | apply Kd.R_alloc | apply Kd.R_drewN | apply Kd.R_drew)); exact HO_5.out) gb260 (Nat.le_of_eq hg.symm)) hb); have n1_ := Aside0.mk (Kd.R_below (by (with_reducible repeat (first | apply Kd.R_alloc | apply Kd.R_drewN | apply Kd.R_drew)); exact HO_7.out) hb); have n2_ := Aside0.mk (Kd.R_below (by (with_reducible repeat (first | apply Kd.R_alloc | apply Kd.R_drewN | apply Kd.R_drew)); exact HO_9.out) hb); have n3_ := Aside0.mk (below_step (by repeat (first | (with_reducible first | exact HB.out | apply below_alloc | apply pw_below_drewN | apply below_drew1) | exact HB.out)) hb); have n4_ := Aside0.mk (hbox); have n5_ := Aside0.mk ((by rw [hg]; exact (below_size (by repeat (first | (with_reducible first | exact HB.out | apply below_alloc | apply pw_below_drewN | apply below_drew1) | exact HB.out))) : w.heap.size ≤ gb260)); have n6_ := Aside0.mk ((by rw [hg]; exact (below_size (by repeat (first | (with_reducible first | exact HB.out | apply below_alloc | apply pw_below_drewN | apply below_drew1) | exact HB.out))) : w.heap.size ≤ gb260)); clear HO_5; clear HO_7; clear HO_9; clear HB; have HO_5 := n0_; have HO_7 := n1_; have HO_9 := n2_; have HB := n3_; have BK260 := n4_; have GW260 := n5_; have GE260 := n6_; clear n0_ n1_ n2_ n3_ n4_ n5_ n6_; clear hb hbox hg; have hcz33_0 : w32.cell? ⟨gb260, 0, none⟩ = some (.int .i64 0) := (blk_cell BK260.out 0).trans rfl; have hcz33_1 : w32.cell? ⟨gb260, 1, none⟩ = some (.int .i64 0) := (blk_cell BK260.out 1).trans rfl; have hcz33_2 : w32.cell? ⟨gb260, 2, none⟩ = some (.int .i64 0) := (blk_cell BK260.out 2).trans rfl; have hfz33_0 := blk_frozen BK260.out 0; have hfz33_1 := blk_frozen BK260.out 1; have hfz33_2 := blk_frozen BK260.out 2) | ((with_reducible refine gate_store (t := 41) (p := 14) rfl ?_); refine store_event (t := 41) (p := 14) (v := ?vo_w34) (w1 := (((w32.setCell ⟨gb260, 0, none⟩ (.int .i64 ((rd_T41 t251 x13_3).f0))).setCell ⟨gb260, 1, none⟩ (.int .i64 ((rd_T41 t251 x13_3).f1))).setCell ⟨gb260, 2, none⟩ (.int .i64 ((rd_T41 t251 x13_3).f2)))) ?hg ?ho ?hn ?hr ?_; (case ho => rfl); (case hg => rfl); (case hn => rfl); (case hr => first | (go_simp; done) | (go_simp; rfl)); intro w34 hw; have n0_ : Aside0 (Kd.R k41 41 w34 w.heap.size (fun k_ => k_ ≠ gb260) (.slice (some ad259) t251.length co31) t251) := ⟨(by rw [hw]; exact (by (with_reducible repeat (first | apply Kd.R_alloc | apply Kd.R_drewN | apply Kd.R_drew)); exact Kd.R_mono (Kd.R_far (p := ⟨gb260, 2, none⟩) (Kd.R_far (p := ⟨gb260, 1, none⟩) (Kd.R_far (p := ⟨gb260, 0, none⟩) (Kd.R_mono HO_5.out (fun k_ hk => (⟨hk, hk.2⟩ : _ ∧ k_ ≠ gb260))) (fun _ hk => hk.2) (.int .i64 ((rd_T41 t251 x13_3).f0))) (fun _ hk => hk.2) (.int .i64 ((rd_T41 t251 x13_3).f1))) (fun _ hk => hk.2) (.int .i64 ((rd_T41 t251 x13_3).f2))) (fun _ hk => hk.1.2)))⟩; have n1_ : Aside0 (Kd.R k76 76 w34 w.heap.size (fun _ => True) v257 t255) := ⟨(by rw [hw]; exact (by (with_reducible repeat (first | apply Kd.R_alloc | apply Kd.R_drewN | apply Kd.R_drew)); exact Kd.R_mono (Kd.R_far (p := ⟨gb260, 2, none⟩) (Kd.R_far (p := ⟨gb260, 1, none⟩) (Kd.R_far (p := ⟨gb260, 0, none⟩) (Kd.R_types HO_7.out BK260.out (by decide)) (fun _ hk => hk.2) (.int .i64 ((rd_T41 t251 x13_3).f0))) (fun _ hk => hk.2) (.int .i64 ((rd_T41 t251 x13_3).f1))) (fun _ hk => hk.2) (.int .i64 ((rd_T41 t251 x13_3).f2))) (fun _ hk => trivial)))⟩; have n2_ : Aside0 (Kd.R k64 64 w34 w.heap.size (fun _ => True) u9 x9_3) := ⟨(by rw [hw]; exact (by (with_reducible repeat (first | apply Kd.R_alloc | apply Kd.R_drewN | apply Kd.R_drew)); exact Kd.R_mono (Kd.R_far (p := ⟨gb260, 2, none⟩) (Kd.R_far (p := ⟨gb260, 1, none⟩) (Kd.R_far (p := ⟨gb260, 0, none⟩) (Kd.R_types HO_9.out BK260.out (by decide)) (fun _ hk => hk.2) (.int .i64 ((rd_T41 t251 x13_3).f0))) (fun _ hk => hk.2) (.int .i64 ((rd_T41 t251 x13_3).f1))) (fun _ hk => hk.2) (.int .i64 ((rd_T41 t251 x13_3).f2))) (fun _ hk => trivial)))⟩; have n3_ : Aside0 (w34.heap[gb260]? = some (.cells #[.int .i64 ((rd_T41 t251 x13_3).f0), .int .i64 ((rd_T41 t251 x13_3).f1), .int .i64 ((rd_T41 t251 x13_3).f2)] 41 (0, 0))) := ⟨(by rw [hw]; exact (by (with_reducible repeat (first | refine blk_drewN ?_ _ | refine blk_drew ?_ | refine blk_alloc ?_ _)); refine blk_put (cs := #[.int .i64 ((rd_T41 t251 x13_3).f0), .int .i64 ((rd_T41 t251 x13_3).f1), .int .i64 0]) ?_ 2 _ rfl; (with_reducible repeat (first | refine blk_drewN ?_ _ | refine blk_drew ?_ | refine blk_alloc ?_ _)); refine blk_put (cs := #[.int .i64 ((rd_T41 t251 x13_3).f0), .int .i64 0, .int .i64 0]) ?_ 1 _ rfl; (with_reducible repeat (first | refine blk_drewN ?_ _ | refine blk_drew ?_ | refine blk_alloc ?_ _)); refine blk_put (cs := #[.int .i64 0, .int .i64 0, .int .i64 0]) ?_ 0 _ rfl; (with_reducible repeat (first | refine blk_drewN ?_ _ | refine blk_drew ?_ | refine blk_alloc ?_ _)); exact BK260.out))⟩; have n4_ : Aside0 (Below w.heap.size w w34) := ⟨(by rw [hw]; exact (by repeat (first | (with_reducible first | exact HB.out | apply below_alloc | apply pw_below_drewN | apply below_drew1 | refine below_set ?_ GE260.out) | exact HB.out)))⟩; clear hw; clear HO_5; clear HO_7; clear HO_9; clear BK260; clear HB; have HO_5 := n0_; have HO_7 := n1_; have HO_9 := n2_; have BK260 := n3_; have HB := n4_; clear n0_ n1_ n2_ n3_ n4_; have hcz35_0 : w34.cell? ⟨gb260, 0, none⟩ = some (.int .i64 ((rd_T41 t251 x13_3).f0)) := (blk_cell BK260.out 0).trans rfl; have hcz35_1 : w34.cell? ⟨gb260, 1, none⟩ = some (.int .i64 ((rd_T41 t251 x13_3).f1)) := (blk_cell BK260.out 1).trans rfl; have hcz35_2 : w34.cell? ⟨gb260, 2, none⟩ = some (.int .i64 ((rd_T41 t251 x13_3).f2)) := (blk_cell BK260.out 2).trans rfl; have hfz35_0 := blk_frozen BK260.out 0; have hfz35_1 := blk_frozen BK260.out 1; have hfz35_2 := blk_frozen BK260.out 2; have q36 : (((rd_T41 t251 x13_3).f0) : Int) ≤ ((l0.length : Int) : Int) := of_decide_eq_true (by first | (with_reducible assumption) | assumption); obtain ⟨i036, hi036, _, hsz36, _⟩ := info_parts info64; have hroom36 : l0.length ≤ c0 := HC0.out; have hC36 : Kd.C k64 _ A0 l0.length l0 := HR0.out; have ql36 : (x10_3 : Int) ≤ (((rd_T41 t251 x13_3).f0) : Int) := of_decide_eq_true (by first | (with_reducible assumption) | assumption); have q036 : (0 : Int) ≤ (x10_3 : Int) := of_decide_eq_true (by first | (with_reducible assumption) | assumption); have hcut36 := cut_mid (P := Try.prog) 22 64 .i64 .i64 Try.underlying22 hi036 4 hsz36 A0 l0.length c0 x10_3 ((rd_T41 t251 x13_3).f0) q036 ql36 q36 hroom36; have hr36 := Kd.C_mid (lo := (x10_3 : Int).toNat) (hi := (((rd_T41 t251 x13_3).f0) : Int).toNat) (c := c0) hC36 (by omega) (by omega) hroom36; obtain ⟨A36, hA36⟩ : ∃ Az_, Az_ = (if c0 = (x10_3 : Int).toNat then A0 else (A0 : Option Addr).map (·.add ((x10_3 : Int).toNat * 4))) := ⟨_, rfl⟩; obtain ⟨c36, hc36⟩ : ∃ c1, c1 = c0 - (x10_3 : Int).toNat := ⟨_, rfl⟩; have hy36 : y261.length = (((rd_T41 t251 x13_3).f0) : Int).toNat - (x10_3 : Int).toNat := (by rw [Ny261.out, List.length_drop, List.length_take] <;> omega); rw [show ((l0).take (((rd_T41 t251 x13_3).f0) : Int).toNat).drop (x10_3 : Int).toNat = y261 from Ny261.out.symm] at hr36; replace hr36 : Kd.C k64 _ A36 y261.length y261 := (by rw [hA36]; exact hr36); rw [← hy36, ← hA36, ← hc36] at hcut36; have HR264 := Aside0.mk hr36; have HC264 := Aside0.mk (show y261.length ≤ c36 from by rw [hy36, hc36]; exact Nat.sub_le_sub_right (Nat.le_trans (by omega) hroom36) _); clear hr36 hC36 hroom36 hi036 hsz36 hc36; have KY36 := Aside0.mk hy36; have KA36 := Aside0.mk hA36; clear hy36 hA36; replace q36 := eq_true q36) | ((with_reducible refine gate_builtin (b := .append) (xs := #[.tmp 93, .tmp 98]) rfl ?_); (try (refine gate_guard (by rfl) ?_; dsimp only)); at_builtin; refine Kd.R_append_rows k64 (w0 := w) w.heap.size rfl (.tmp 93) (.tmp 98) 22 64 (.agg #[(.int .i64 0), (.int .i64 0), (.int .i64 0), (.int .i64 0)]) 32 rfl Try.underlying22 info64 rfl (by decide) (by omega) u9 x9_3 y261 _ _ _ (fun _ => True) (fun _ => False) rfl rfl ?aO ?aR (fun _ _ h => h) (fun _ h => h.elim) ?aF ?aB ?aS ?aL ?_; (case aR => repeat (first | exact (Kd.C_below HR264.out HB.out) | (with_reducible refine Kd.C_alloc ?_ _) | (with_reducible refine Kd.C_drewN ?_ _) | (with_reducible refine Kd.C_drew ?_))); (case aB => exact (by repeat (first | (with_reducible first | exact HB.out | apply below_alloc | apply pw_below_drewN | apply below_drew1 | refine below_set ?_ GE260.out) | exact HB.out))); (case aF => exact (fun _ _ => trivial)); (case aO => exact (by (with_reducible repeat (first | apply Kd.R_alloc | apply Kd.R_drewN | apply Kd.R_drew)); exact HO_9.out)); (case aS => exact (below_size (by repeat (first | (with_reducible first | exact HB.out | apply below_alloc | apply pw_below_drewN | apply below_drew1 | refine below_set ?_ GE260.out) | exact HB.out)))); (case aL => have := LMc25.out; omega); intro v266 w37 ho hb hg hat; rw [← Ny265.out] at ho; have n0_ := Aside0.mk (Kd.R_over' (by (with_reducible repeat (first | apply Kd.R_alloc | apply Kd.R_drewN | apply Kd.R_drew)); exact HO_5.out) (Kd.R_typed (by (with_reducible repeat (first | apply Kd.R_alloc | apply Kd.R_drewN | apply Kd.R_drew)); exact HO_9.out)) (by decide) hg); have n1_ := Aside0.mk (Kd.R_over' (by (with_reducible repeat (first | apply Kd.R_alloc | apply Kd.R_drewN | apply Kd.R_drew)); exact HO_7.out) (Kd.R_typed (by (with_reducible repeat (first | apply Kd.R_alloc | apply Kd.R_drewN | apply Kd.R_drew)); exact HO_9.out)) (by decide) hg); have n2_ := Aside0.mk (blk_grown (g := gb260) (o := .cells #[.int .i64 ((rd_T41 t251 x13_3).f0), .int .i64 ((rd_T41 t251 x13_3).f1), .int .i64 ((rd_T41 t251 x13_3).f2)] 41 (0, 0)) (by (with_reducible repeat (first | refine blk_drewN ?_ _ | refine blk_drew ?_ | refine blk_alloc ?_ _)); exact BK260.out) hg (Kd.R_ne HO_9.out BK260.out (by decide))); have n3_ := Aside0.mk (hb); have n4_ := Aside0.mk (ho); clear HO_5; clear HO_7; clear BK260; clear HB; clear HO_9; have HO_5 := n0_; have HO_7 := n1_; have BK260 := n2_; have HB := n3_; have HO267 := n4_; clear n0_ n1_ n2_ n3_ n4_; clear ho hb hg hat; have hcz38_0 : w37.cell? ⟨gb260, 0, none⟩ = some (.int .i64 ((rd_T41 t251 x13_3).f0)) := (blk_cell BK260.out 0).trans rfl; have hcz38_1 : w37.cell? ⟨gb260, 1, none⟩ = some (.int .i64 ((rd_T41 t251 x13_3).f1)) := (blk_cell BK260.out 1).trans rfl; have hcz38_2 : w37.cell? ⟨gb260, 2, none⟩ = some (.int .i64 ((rd_T41 t251 x13_3).f2)) := (blk_cell BK260.out 2).trans rfl; have hfz38_0 := blk_frozen BK260.out 0; have hfz38_1 := blk_frozen BK260.out 1; have hfz38_2 := blk_frozen BK260.out 2; have q39 : ((wrap64 ((ji26) + ((rd_T41 t251 x13_3).f2))) : Int) ≤ ((l1.length : Int) : Int) := of_decide_eq_true (by first | (with_reducible assumption) | assumption); obtain ⟨i039, hi039, _, hsz39, _⟩ := info_parts info64; have hroom39 : l1.length ≤ c1 := HC1.out; have hC39 : Kd.C k64 _ A1 l1.length l1 := HR1.out; have ql39 : ((ji26) : Int) ≤ ((wrap64 ((ji26) + ((rd_T41 t251 x13_3).f2))) : Int) := of_decide_eq_true (by first | (with_reducible assumption) | assumption); have q039 : (0 : Int) ≤ ((ji26) : Int) := of_decide_eq_true (by first | (with_reducible assumption) | assumption); have hcut39 := cut_mid (P := Try.prog) 22 64 .i64 .i64 Try.underlying22 hi039 4 hsz39 A1 l1.length c1 (ji26) (wrap64 ((ji26) + ((rd_T41 t251 x13_3).f2))) q039 ql39 q39 hroom39; have hr39 := Kd.C_mid (lo := ((ji26) : Int).toNat) (hi := ((wrap64 ((ji26) + ((rd_T41 t251 x13_3).f2))) : Int).toNat) (c := c1) hC39 (by omega) (by omega) hroom39; obtain ⟨A39, hA39⟩ : ∃ Az_, Az_ = (if c1 = ((ji26) : Int).toNat then A1 else (A1 : Option Addr).map (·.add (((ji26) : Int).toNat * 4))) := ⟨_, rfl⟩; obtain ⟨c39, hc39⟩ : ∃ cz_, cz_ = c1 - ((ji26) : Int).toNat := ⟨_, rfl⟩; have hy39 : y268.length = ((wrap64 ((ji26) + ((rd_T41 t251 x13_3).f2))) : Int).toNat - ((ji26) : Int).toNat := (by rw [Ny268.out, List.length_drop, List.length_take] <;> omega); rw [show ((l1).take ((wrap64 ((ji26) + ((rd_T41 t251 x13_3).f2))) : Int).toNat).drop ((ji26) : Int).toNat = y268 from Ny268.out.symm] at hr39; replace hr39 : Kd.C k64 _ A39 y268.length y268 := (by rw [hA39]; exact hr39); rw [← hy39, ← hA39, ← hc39] at hcut39; have HR271 := Aside0.mk hr39; have HC271 := Aside0.mk (show y268.length ≤ c39 from by rw [hy39, hc39]; exact Nat.sub_le_sub_right (Nat.le_trans (by omega) hroom39) _); clear hr39 hC39 hroom39 hi039 hsz39 hc39; have KY39 := Aside0.mk hy39; have KA39 := Aside0.mk hA39; clear hy39 hA39; replace q39 := eq_true q39) | ((with_reducible refine gate_builtin (b := .append) (xs := #[.tmp 106, .tmp 119]) rfl ?_); (try (refine gate_guard (by rfl) ?_; dsimp only)); at_builtin; refine Kd.R_append_rows k64 (w0 := w) w.heap.size rfl (.tmp 106) (.tmp 119) 22 64 (.agg #[(.int .i64 0), (.int .i64 0), (.int .i64 0), (.int .i64 0)]) 32 rfl Try.underlying22 info64 rfl (by decide) (by omega) v266 y265 y268 _ _ _ (fun _ => True) (fun _ => False) rfl rfl ?aO ?aR (fun _ _ h => h) (fun _ h => h.elim) ?aF ?aB ?aS ?aL ?_; (case aR => repeat (first | exact (Kd.C_below HR271.out HB.out) | (with_reducible refine Kd.C_alloc ?_ _) | (with_reducible refine Kd.C_drewN ?_ _) | (with_reducible refine Kd.C_drew ?_))); (case aB => exact (by repeat (first | (with_reducible first | exact HB.out | apply below_alloc | apply pw_below_drewN | apply below_drew1 | refine below_set ?_ GE260.out) | exact HB.out))); (case aF => exact (fun _ _ => trivial)); (case aO => exact (by (with_reducible repeat (first | apply Kd.R_alloc | apply Kd.R_drewN | apply Kd.R_drew)); exact HO267.out)); (case aS => exact (below_size (by repeat (first | (with_reducible first | exact HB.out | apply below_alloc | apply pw_below_drewN | apply below_drew1 | refine below_set ?_ GE260.out) | exact HB.out)))); (case aL => have := LMc30.out; omega); intro v273 w40 ho hb hg hat; rw [← Ny272.out] at ho; have n0_ := Aside0.mk (Kd.R_over' (by (with_reducible repeat (first | apply Kd.R_alloc | apply Kd.R_drewN | apply Kd.R_drew)); exact HO_5.out) (Kd.R_typed (by (with_reducible repeat (first | apply Kd.R_alloc | apply Kd.R_drewN | apply Kd.R_drew)); exact HO267.out)) (by decide) hg); have n1_ := Aside0.mk (Kd.R_over' (by (with_reducible repeat (first | apply Kd.R_alloc | apply Kd.R_drewN | apply Kd.R_drew)); exact HO_7.out) (Kd.R_typed (by (with_reducible repeat (first | apply Kd.R_alloc | apply Kd.R_drewN | apply Kd.R_drew)); exact HO267.out)) (by decide) hg); have n2_ := Aside0.mk (blk_grown (g := gb260) (o := .cells #[.int .i64 ((rd_T41 t251 x13_3).f0), .int .i64 ((rd_T41 t251 x13_3).f1), .int .i64 ((rd_T41 t251 x13_3).f2)] 41 (0, 0)) (by (with_reducible repeat (first | refine blk_drewN ?_ _ | refine blk_drew ?_ | refine blk_alloc ?_ _)); exact BK260.out) hg (Kd.R_ne HO267.out BK260.out (by decide))); have n3_ := Aside0.mk (hb); have n4_ := Aside0.mk (ho); clear HO_5; clear HO_7; clear BK260; clear HB; clear HO267; have HO_5 := n0_; have HO_7 := n1_; have BK260 := n2_; have HB := n3_; have HO274 := n4_; clear n0_ n1_ n2_ n3_ n4_; clear ho hb hg hat; have hcz41_0 : w40.cell? ⟨gb260, 0, none⟩ = some (.int .i64 ((rd_T41 t251 x13_3).f0)) := (blk_cell BK260.out 0).trans rfl; have hcz41_1 : w40.cell? ⟨gb260, 1, none⟩ = some (.int .i64 ((rd_T41 t251 x13_3).f1)) := (blk_cell BK260.out 1).trans rfl; have hcz41_2 : w40.cell? ⟨gb260, 2, none⟩ = some (.int .i64 ((rd_T41 t251 x13_3).f2)) := (blk_cell BK260.out 2).trans rfl; have hfz41_0 := blk_frozen BK260.out 0; have hfz41_1 := blk_frozen BK260.out 1; have hfz41_2 := blk_frozen BK260.out 2))
                                                go_roundg k3
                                                case measure => have := HJ2.out; have := HJ9.out; have := HK3.out; omega
                                                case rel => exact ⟨(y272), (wrap64 (((rd_T41 t251 x13_3).f0) + ((rd_T41 t251 x13_3).f1))), (wrap64 ((wrap64 (x11_3 + ((rd_T41 t251 x13_3).f2))) - ((rd_T41 t251 x13_3).f1))), (wrap64 ((wrap64 (x12_3 + ((rd_T41 t251 x13_3).f0))) - x10_3)), (wrap64 (x13_3 + 1)), (by first | rfl | (simp; done) | (simp [*]; done)), (by first | rfl | (simp; done) | (simp [*]; done)), (by first | rfl | (simp; done) | (simp [*]; done)), (by first | rfl | (simp; done) | (simp [*]; done)), H', ⟨by have := HJ2.out; have := HJ9.out; have := HK3.out; omega⟩, ⟨by (with_reducible repeat (first | apply Kd.R_alloc | apply Kd.R_drewN | apply Kd.R_drew)); exact Kd.R_mono HO_5.out (fun _ hk => trivial)⟩, ⟨by (with_reducible repeat (first | apply Kd.R_alloc | apply Kd.R_drewN | apply Kd.R_drew)); exact HO_7.out⟩, ⟨by (with_reducible repeat (first | apply Kd.R_alloc | apply Kd.R_drewN | apply Kd.R_drew)); exact HO274.out⟩, ⟨by repeat (first | (with_reducible first | exact HB.out | apply below_alloc | apply pw_below_drewN | apply below_drew1 | refine below_set ?_ GE260.out) | exact HB.out)⟩⟩
                                              · rw [if_neg c30] at H
                                                exact absurd H (by simp)
                                            · rw [if_neg c29] at H
                                              exact absurd H (by simp)
                                          · rw [if_neg c28] at H
                                            exact absurd H (by simp)
                                        · rw [if_neg c27] at H
                                          exact absurd H (by simp)
                                      · rw [if_neg c25] at H
                                        exact absurd H (by simp)
                                    · rw [if_neg c24] at H
                                      exact absurd H (by simp)
                                  · rw [if_neg c23] at H
                                    exact absurd H (by simp)
                                · rw [if_neg c22] at H
                                  exact absurd H (by simp)
                    · rw [if_neg c16] at H
                      exact absurd H (by simp)
                  · rw [if_neg c15] at H
                    have c15b0 : decide (x13_3 < (t251.length : Int)) = false := decide_eq_false c15
                    clear c15
                    by_cases c42 : 0 ≤ x10_3
                    · rw [if_pos c42] at H
                      have c42b0 := eq_true c42
                      have c42b1 : decide (0 ≤ x10_3) = true := decide_eq_true c42
                      clear c42
                      by_cases c43 : x10_3 ≤ (l0.length : Int)
                      · rw [if_pos c43] at H
                        have c43b0 := eq_true c43
                        have c43b1 : decide (x10_3 ≤ (l0.length : Int)) = true := decide_eq_true c43
                        clear c43
                        obtain ⟨y275, hy275⟩ : ∃ y_ : List (S64), y_ = (l0.drop (x10_3 : Int).toNat) := ⟨_, rfl⟩
                        replace H : (if x9_3.length + y275.length < 4398046511104 then ((emenderlaw23_alike.f k3 (x9_3 ++ y275) l1).bind fun t282 => (if t282 = true then (if (wrap64 ((wrap64 (x12_3 + (l0.length : Int))) - x10_3)) = (t255.length : Int) then ((emenderlaw23_awake.f k3).bind fun t283 => (some t283)) else (none)) else (none))) else (none)) = some r := by first | (rw [hy275]; with_reducible exact H) | (have H2_ := (Option.bind_some _ _).symm.trans H; rw [hy275]; with_reducible exact H2_) | (have H2_ := (Option.bind_some _ _).symm.trans H; with_reducible exact H2_) | with_reducible exact H | (rw [hy275]; exact H) | exact H
                        have Ny275 := Aside0.mk hy275
                        clear hy275
                        by_cases c44 : x9_3.length + y275.length < 4398046511104
                        · rw [if_pos c44] at H
                          have LMc44 := Aside0.mk c44
                          clear c44
                          obtain ⟨y279, hy279⟩ : ∃ y_ : List (S64), y_ = (x9_3 ++ y275) := ⟨_, rfl⟩
                          replace H : ((emenderlaw23_alike.f k3 y279 l1).bind fun t282 => (if t282 = true then (if (wrap64 ((wrap64 (x12_3 + (l0.length : Int))) - x10_3)) = (t255.length : Int) then ((emenderlaw23_awake.f k3).bind fun t283 => (some t283)) else (none)) else (none))) = some r := by first | (rw [hy279]; with_reducible exact H) | (have H2_ := (Option.bind_some _ _).symm.trans H; rw [hy279]; with_reducible exact H2_) | (have H2_ := (Option.bind_some _ _).symm.trans H; with_reducible exact H2_) | with_reducible exact H | (rw [hy279]; exact H) | exact H
                          have Ny279 := Aside0.mk hy279
                          clear hy279
                          replace H := Option.bind_eq_some_iff.mp H
                          obtain ⟨t282, A450, H⟩ := H
                          replace H : (if t282 = true then (if (wrap64 ((wrap64 (x12_3 + (l0.length : Int))) - x10_3)) = (t255.length : Int) then ((emenderlaw23_awake.f k3).bind fun t283 => (some t283)) else (none)) else (none)) = some r := H
                          have A45 := Aside0.mk A450
                          clear A450
                          by_cases c46 : t282 = true
                          · subst c46
                            have H1 : (if (wrap64 ((wrap64 (x12_3 + (l0.length : Int))) - x10_3)) = (t255.length : Int) then ((emenderlaw23_awake.f k3).bind fun t283 => (some t283)) else (none)) = some r := by rw [if_pos rfl] at H; exact H
                            clear H
                            have H := H1
                            clear H1
                            by_cases c47 : (wrap64 ((wrap64 (x12_3 + (l0.length : Int))) - x10_3)) = (t255.length : Int)
                            · rw [if_pos c47] at H
                              have c47b0 : ((wrap64 ((wrap64 (x12_3 + (l0.length : Int))) - x10_3)) == (t255.length : Int)) = true := beq_iff_eq.mpr c47
                              have c47b1 : ((wrap64 ((wrap64 (x12_3 + (l0.length : Int))) - x10_3)) != (t255.length : Int)) = false := bne_eq_false_iff_eq.mpr c47
                              clear c47
                              replace H := Option.bind_eq_some_iff.mp H
                              obtain ⟨t283, A480, H⟩ := H
                              replace H : (some t283) = some r := H
                              have A48 := Aside0.mk A480
                              clear A480
                              obtain rfl := Option.some.inj H
                              obtain ⟨Ao49, co49, eo49⟩ := Kd.R_slice HO_5.out
                              subst eo49
                              have q50 : (x10_3 : Int) ≤ ((l0.length : Int) : Int) := of_decide_eq_true (by first | (with_reducible assumption) | assumption)
                              obtain ⟨i050, hi050, _, hsz50, _⟩ := info_parts info64
                              have hroom50 : l0.length ≤ c0 := HC0.out
                              have hC50 : Kd.C k64 _ A0 l0.length l0 := HR0.out
                              have q050 : (0 : Int) ≤ (x10_3 : Int) := of_decide_eq_true (by first | (with_reducible assumption) | assumption)
                              have hcut50 := cut_from (P := Try.prog) 22 64 .i64 Try.underlying22 hi050 4 hsz50 A0 l0.length c0 x10_3 q050 q50
                              have hr50 := Kd.C_drop (m := (x10_3 : Int).toNat) (c := c0) hC50 (by omega) hroom50
                              obtain ⟨A50, hA50⟩ : ∃ A1, A1 = (if c0 = (x10_3 : Int).toNat then A0 else (A0 : Option Addr).map (·.add ((x10_3 : Int).toNat * 4))) := ⟨_, rfl⟩
                              obtain ⟨c50, hc50⟩ : ∃ c1, c1 = c0 - (x10_3 : Int).toNat := ⟨_, rfl⟩
                              have hy50 : y275.length = l0.length - (x10_3 : Int).toNat := (by rw [Ny275.out, List.length_drop] <;> omega)
                              rw [show (l0).drop (x10_3 : Int).toNat = y275 from Ny275.out.symm] at hr50
                              replace hr50 : Kd.C k64 _ A50 y275.length y275 := (by rw [hA50]; exact hr50)
                              rw [← hy50, ← hA50, ← hc50] at hcut50
                              have HR278 := Aside0.mk hr50
                              have HC278 := Aside0.mk (show y275.length ≤ c50 from by rw [hy50, hc50]; exact Nat.sub_le_sub_right hroom50 _)
                              clear hr50 hC50 hroom50 hi050 hsz50 hc50
                              have KY50 := Aside0.mk hy50
                              have KA50 := Aside0.mk hA50
                              clear hy50 hA50
                              replace q50 := eq_true q50
                              go_wp2_with (first | ((with_reducible refine gate_builtin (b := .append) (xs := #[.tmp 133, .tmp 136]) rfl ?_); (try (refine gate_guard (by rfl) ?_; dsimp only)); at_builtin; refine Kd.R_append_rows k64 (w0 := w) w.heap.size rfl (.tmp 133) (.tmp 136) 22 64 (.agg #[(.int .i64 0), (.int .i64 0), (.int .i64 0), (.int .i64 0)]) 32 rfl Try.underlying22 info64 rfl (by decide) (by omega) u9 x9_3 y275 _ _ _ (fun _ => True) (fun _ => False) rfl rfl ?aO ?aR (fun _ _ h => h) (fun _ h => h.elim) ?aF ?aB ?aS ?aL ?_; (case aR => repeat (first | exact (Kd.C_below HR278.out HB.out) | (with_reducible refine Kd.C_alloc ?_ _) | (with_reducible refine Kd.C_drewN ?_ _) | (with_reducible refine Kd.C_drew ?_))); (case aB => exact (by repeat (first | (with_reducible first | exact HB.out | apply below_alloc | apply pw_below_drewN | apply below_drew1) | exact HB.out))); (case aF => exact (fun _ _ => trivial)); (case aO => exact (by (with_reducible repeat (first | apply Kd.R_alloc | apply Kd.R_drewN | apply Kd.R_drew)); exact HO_9.out)); (case aS => exact (below_size (by repeat (first | (with_reducible first | exact HB.out | apply below_alloc | apply pw_below_drewN | apply below_drew1) | exact HB.out)))); (case aL => have := LMc44.out; omega); intro v280 w51 ho hb hg hat; rw [← Ny279.out] at ho; have n0_ := Aside0.mk (Kd.R_over' (by (with_reducible repeat (first | apply Kd.R_alloc | apply Kd.R_drewN | apply Kd.R_drew)); exact HO_5.out) (Kd.R_typed (by (with_reducible repeat (first | apply Kd.R_alloc | apply Kd.R_drewN | apply Kd.R_drew)); exact HO_9.out)) (by decide) hg); have n1_ := Aside0.mk (Kd.R_over' (by (with_reducible repeat (first | apply Kd.R_alloc | apply Kd.R_drewN | apply Kd.R_drew)); exact HO_7.out) (Kd.R_typed (by (with_reducible repeat (first | apply Kd.R_alloc | apply Kd.R_drewN | apply Kd.R_drew)); exact HO_9.out)) (by decide) hg); have n2_ := Aside0.mk (hb); have n3_ := Aside0.mk (ho); clear HO_5; clear HO_7; clear HB; clear HO_9; have HO_5 := n0_; have HO_7 := n1_; have HB := n2_; have HO281 := n3_; clear n0_ n1_ n2_ n3_; clear ho hb hg hat; obtain ⟨Ao52, co52, eo52⟩ := Kd.R_slice HO281.out; subst eo52) | ((with_reducible refine gate_callee (f := 17) rfl ?_); refine goesL_ (some 146) rfl rfl Try.func17 (by kernel_rfl) rfl #[.slice Ao52 y279.length co52, .slice A1 l1.length c1] rfl (by (try simp only [List.map_toArray, List.map_cons, List.map_nil]); first | done | rfl | (simp only [List.length_drop, List.length_take]; rfl)) ?_; (with_reducible refine (emenderlaw23_alike.calls k3 _ _ y279 _ _ l1 true _ ?side1 ?side2 ?side3 ?side4 A45.out).mono ?_); (case side1 => repeat (first | exact (Kd.R_reads' HO281.out).2.2 | (with_reducible refine Kd.C_alloc ?_ _) | (with_reducible refine Kd.C_drewN ?_ _) | (with_reducible refine Kd.C_drew ?_))); (case side2 => exact (Kd.R_reads' HO281.out).2.1); (case side3 => repeat (first | exact (Kd.C_below HR1.out HB.out) | (with_reducible refine Kd.C_alloc ?_ _) | (with_reducible refine Kd.C_drewN ?_ _) | (with_reducible refine Kd.C_drew ?_))); (case side4 => exact HC1.out); rintro e w' ⟨rfl, ⟨nd, rfl⟩⟩; refine ⟨_, rfl, ?_⟩; obtain ⟨Ao53, co53, eo53⟩ := Kd.R_slice HO_7.out; subst eo53) | (go_at_call 8; (with_reducible refine (emenderlaw23_awake.calls k3  t283 _ A48.out).mono ?_); rintro e w54 ⟨rfl, hb⟩; have n0_ := Aside0.mk (Kd.R_below (by (with_reducible repeat (first | apply Kd.R_alloc | apply Kd.R_drewN | apply Kd.R_drew)); exact HO_5.out) hb); have n1_ := Aside0.mk (Kd.R_below (by (with_reducible repeat (first | apply Kd.R_alloc | apply Kd.R_drewN | apply Kd.R_drew)); exact HO_7.out) hb); have n2_ := Aside0.mk (Kd.R_below (by (with_reducible repeat (first | apply Kd.R_alloc | apply Kd.R_drewN | apply Kd.R_drew)); exact HO281.out) hb); have n3_ := Aside0.mk (below_step (by repeat (first | (with_reducible first | exact HB.out | apply below_alloc | apply pw_below_drewN | apply below_drew1) | exact HB.out)) hb); clear HO_5; clear HO_7; clear HO281; clear HB; have HO_5 := n0_; have HO_7 := n1_; have HO281 := n2_; have HB := n3_; clear n0_ n1_ n2_ n3_; (try clear hb); (try clear hb2); (try clear hk); (try clear hi)))
                              go_ret
                              exact ⟨by first | rfl | (simp [errW_none, errW_some] <;> rfl) | (simp [*, errW_none, errW_some] <;> rfl), by repeat (first | (with_reducible first | exact HB.out | apply below_alloc | apply pw_below_drewN | apply below_drew1) | exact HB.out)⟩
                            · rw [if_neg c47] at H
                              exact absurd H (by simp)
                          · replace c46 := Bool.eq_false_iff.mpr c46
                            subst c46
                            have H1 : (none) = some r := by rw [if_neg (show ¬ (false = true) by decide)] at H; exact H
                            clear H
                            have H := H1
                            clear H1
                            exact absurd H (by simp)
                        · rw [if_neg c44] at H
                          exact absurd H (by simp)
                      · rw [if_neg c43] at H
                        exact absurd H (by simp)
                    · rw [if_neg c42] at H
                      exact absurd H (by simp)

end Go.Proofs.Ytjpmlggkhhoooaa.PDp
