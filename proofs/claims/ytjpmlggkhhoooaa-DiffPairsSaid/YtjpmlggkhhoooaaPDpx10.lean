-- Written for this claim by a program (the kit's print, with hand-made contracts for what it does not take).
import Derived.Test.YtjpmlggkhhoooaaPDpx0
import Derived.Test.YtjpmlggkhhoooaaPDpx9
namespace Go.Proofs.Ytjpmlggkhhoooaa.PDp
open Go.RowKit Go.Proofs.YtjpmlggkhhoooaaW.PrintWords Go.Proofs.YtjpmlggkhhoooaaW.PrintLast Go.Proofs.YtjpmlggkhhoooaaW.PrintMore
attribute [local go_sem] max2_int min2_int max_two min_two max_three min_three max_four min_four   -- for this text's walks alone
set_option linter.unusedVariables false
set_option linter.unusedSimpArgs false

/-! ### emenderref23_pairs: function 32 -/
mutual
def emenderref23_pairs.l0 : Nat → List (List Bool) → Int → Int → List (List Int) → List (S76) → Int → Int → Option ((List (S76)))
  | 0, _, _, _, _, _, _, _ => none
  | k + 1, x0, x1, x2, x7, x8, x9, x10 => if 0 ≤ x9 then (if x9 < (x7.length : Int) then (if 0 ≤ x10 then (if x10 < ((rd_L5 x7 x9).length : Int) then (if (rd (rd_L5 x7 x9) x10) > 0 then (emenderref23_pairs.l1 k x0 x1 x2 x7 x8 x9 x10 x9 x10 false) else (some x8)) else (none)) else (none)) else (none)) else (none)
def emenderref23_pairs.l1 : Nat → List (List Bool) → Int → Int → List (List Int) → List (S76) → Int → Int → Int → Int → Bool → Option ((List (S76)))
  | 0, _, _, _, _, _, _, _, _, _, _ => none
  | k + 1, x0, x1, x2, x7, x8, x9, x10, x11, x12, x13 => if x11 < x1 then (emenderref23_pairs.j2 k x0 x1 x2 x7 x8 x9 x10 x11 x12 x13 (!x13)) else (emenderref23_pairs.j2 k x0 x1 x2 x7 x8 x9 x10 x11 x12 x13 false)
def emenderref23_pairs.j2 : Nat → List (List Bool) → Int → Int → List (List Int) → List (S76) → Int → Int → Int → Int → Bool → Bool → Option ((List (S76)))
  | 0, _, _, _, _, _, _, _, _, _, _, _ => none
  | k + 1, x0, x1, x2, x7, x8, x9, x10, x11, x12, x13, x35 => if x35 = true then (emenderref23_pairs.l2 k x0 x1 x2 x7 x8 x9 x10 x11 x10 x13) else (if x8.length < 8796093022208 then (emenderref23_pairs.l0 k x0 x1 x2 x7 (x8 ++ [(⟨wrap64 (x11 - 1), wrap64 (x12 - 1)⟩ : S76)]) x11 x12) else (none))
def emenderref23_pairs.l2 : Nat → List (List Bool) → Int → Int → List (List Int) → List (S76) → Int → Int → Int → Int → Bool → Option ((List (S76)))
  | 0, _, _, _, _, _, _, _, _, _, _ => none
  | k + 1, x0, x1, x2, x7, x8, x9, x10, x11, x12, x13 => if x12 < x2 then (if x13 = true then (emenderref23_pairs.l1 k x0 x1 x2 x7 x8 x9 x10 (wrap64 (x11 + 1)) x12 x13) else (if 0 ≤ x11 then (if x11 < (x0.length : Int) then (if 0 ≤ x12 then (if x12 < ((rd_L7 x0 x11).length : Int) then (if rdOf false (rd_L7 x0 x11) x12 = true then (if 0 ≤ (wrap64 (x11 + 1)) then (if (wrap64 (x11 + 1)) < (x7.length : Int) then (if 0 ≤ (wrap64 (x12 + 1)) then (if (wrap64 (x12 + 1)) < ((rd_L5 x7 (wrap64 (x11 + 1))).length : Int) then (if 0 ≤ x9 then (if x9 < (x7.length : Int) then (if 0 ≤ x10 then (if x10 < ((rd_L5 x7 x9).length : Int) then (emenderref23_pairs.l2 k x0 x1 x2 x7 x8 x9 x10 x11 (wrap64 (x12 + 1)) ((wrap64 (1 + (rd (rd_L5 x7 (wrap64 (x11 + 1))) (wrap64 (x12 + 1))))) == (rd (rd_L5 x7 x9) x10))) else (none)) else (none)) else (none)) else (none)) else (none)) else (none)) else (none)) else (none)) else (emenderref23_pairs.l2 k x0 x1 x2 x7 x8 x9 x10 x11 (wrap64 (x12 + 1)) false)) else (none)) else (none)) else (none)) else (none))) else (emenderref23_pairs.l1 k x0 x1 x2 x7 x8 x9 x10 (wrap64 (x11 + 1)) x12 x13)
end
def emenderref23_pairs.f (k : Nat) (l0 : List (List Bool)) (a1 : Int) (a2 : Int) : Option ((List (S76))) := (emenderref23_table.f k l0 a1 a2).bind fun t168 => (emenderref23_pairs.l0 k l0 a1 a2 t168 ([] : List (S76)) 0 0)
theorem emenderref23_pairs.mono_l : ∀ k, (∀ y0 y1 y2 y3 y4 y5 y6, LeO (emenderref23_pairs.l0 k y0 y1 y2 y3 y4 y5 y6) (emenderref23_pairs.l0 (k + 1) y0 y1 y2 y3 y4 y5 y6)) ∧ (∀ y0 y1 y2 y3 y4 y5 y6 y7 y8 y9, LeO (emenderref23_pairs.l1 k y0 y1 y2 y3 y4 y5 y6 y7 y8 y9) (emenderref23_pairs.l1 (k + 1) y0 y1 y2 y3 y4 y5 y6 y7 y8 y9)) ∧ (∀ y0 y1 y2 y3 y4 y5 y6 y7 y8 y9 y10, LeO (emenderref23_pairs.j2 k y0 y1 y2 y3 y4 y5 y6 y7 y8 y9 y10) (emenderref23_pairs.j2 (k + 1) y0 y1 y2 y3 y4 y5 y6 y7 y8 y9 y10)) ∧ (∀ y0 y1 y2 y3 y4 y5 y6 y7 y8 y9, LeO (emenderref23_pairs.l2 k y0 y1 y2 y3 y4 y5 y6 y7 y8 y9) (emenderref23_pairs.l2 (k + 1) y0 y1 y2 y3 y4 y5 y6 y7 y8 y9))
  | 0 => ⟨fun _ _ _ _ _ _ _ r h => by simp [emenderref23_pairs.l0] at h, fun _ _ _ _ _ _ _ _ _ _ r h => by simp [emenderref23_pairs.l1] at h, fun _ _ _ _ _ _ _ _ _ _ _ r h => by simp [emenderref23_pairs.j2] at h, fun _ _ _ _ _ _ _ _ _ _ r h => by simp [emenderref23_pairs.l2] at h⟩
  | k + 1 => by
    obtain ⟨ih0, ih1, ih2, ih3⟩ := emenderref23_pairs.mono_l k
    refine ⟨?_, ?_, ?_, ?_⟩
    · intro y0 y1 y2 y3 y4 y5 y6
      unfold emenderref23_pairs.l0
      repeat' first
      | (with_reducible exact ih0 _ _ _ _ _ _ _)
      | (with_reducible exact ih1 _ _ _ _ _ _ _ _ _ _)
      | (with_reducible exact ih2 _ _ _ _ _ _ _ _ _ _ _)
      | (with_reducible exact ih3 _ _ _ _ _ _ _ _ _ _)
      | (with_reducible exact emenderref23_table.mono _ _ _ _)
      | (with_reducible exact LeO.refl _)
      | (with_reducible exact LeO.none _)
      | (with_reducible refine LeO.ite ?_ ?_)
      | (with_reducible refine LeO.bind ?_ (fun _ => ?_))
      | exact ih0 _ _ _ _ _ _ _
      | exact ih1 _ _ _ _ _ _ _ _ _ _
      | exact ih2 _ _ _ _ _ _ _ _ _ _ _
      | exact ih3 _ _ _ _ _ _ _ _ _ _
      | exact emenderref23_table.mono _ _ _ _
      | exact LeO.none _
      | refine LeO.ite ?_ ?_
      | refine LeO.bind ?_ (fun _ => ?_)
    · intro y0 y1 y2 y3 y4 y5 y6 y7 y8 y9
      unfold emenderref23_pairs.l1
      repeat' first
      | (with_reducible exact ih0 _ _ _ _ _ _ _)
      | (with_reducible exact ih1 _ _ _ _ _ _ _ _ _ _)
      | (with_reducible exact ih2 _ _ _ _ _ _ _ _ _ _ _)
      | (with_reducible exact ih3 _ _ _ _ _ _ _ _ _ _)
      | (with_reducible exact emenderref23_table.mono _ _ _ _)
      | (with_reducible exact LeO.refl _)
      | (with_reducible exact LeO.none _)
      | (with_reducible refine LeO.ite ?_ ?_)
      | (with_reducible refine LeO.bind ?_ (fun _ => ?_))
      | exact ih0 _ _ _ _ _ _ _
      | exact ih1 _ _ _ _ _ _ _ _ _ _
      | exact ih2 _ _ _ _ _ _ _ _ _ _ _
      | exact ih3 _ _ _ _ _ _ _ _ _ _
      | exact emenderref23_table.mono _ _ _ _
      | exact LeO.none _
      | refine LeO.ite ?_ ?_
      | refine LeO.bind ?_ (fun _ => ?_)
    · intro y0 y1 y2 y3 y4 y5 y6 y7 y8 y9 y10
      unfold emenderref23_pairs.j2
      repeat' first
      | (with_reducible exact ih0 _ _ _ _ _ _ _)
      | (with_reducible exact ih1 _ _ _ _ _ _ _ _ _ _)
      | (with_reducible exact ih2 _ _ _ _ _ _ _ _ _ _ _)
      | (with_reducible exact ih3 _ _ _ _ _ _ _ _ _ _)
      | (with_reducible exact emenderref23_table.mono _ _ _ _)
      | (with_reducible exact LeO.refl _)
      | (with_reducible exact LeO.none _)
      | (with_reducible refine LeO.ite ?_ ?_)
      | (with_reducible refine LeO.bind ?_ (fun _ => ?_))
      | exact ih0 _ _ _ _ _ _ _
      | exact ih1 _ _ _ _ _ _ _ _ _ _
      | exact ih2 _ _ _ _ _ _ _ _ _ _ _
      | exact ih3 _ _ _ _ _ _ _ _ _ _
      | exact emenderref23_table.mono _ _ _ _
      | exact LeO.none _
      | refine LeO.ite ?_ ?_
      | refine LeO.bind ?_ (fun _ => ?_)
    · intro y0 y1 y2 y3 y4 y5 y6 y7 y8 y9
      unfold emenderref23_pairs.l2
      repeat' first
      | (with_reducible exact ih0 _ _ _ _ _ _ _)
      | (with_reducible exact ih1 _ _ _ _ _ _ _ _ _ _)
      | (with_reducible exact ih2 _ _ _ _ _ _ _ _ _ _ _)
      | (with_reducible exact ih3 _ _ _ _ _ _ _ _ _ _)
      | (with_reducible exact emenderref23_table.mono _ _ _ _)
      | (with_reducible exact LeO.refl _)
      | (with_reducible exact LeO.none _)
      | (with_reducible refine LeO.ite ?_ ?_)
      | (with_reducible refine LeO.bind ?_ (fun _ => ?_))
      | exact ih0 _ _ _ _ _ _ _
      | exact ih1 _ _ _ _ _ _ _ _ _ _
      | exact ih2 _ _ _ _ _ _ _ _ _ _ _
      | exact ih3 _ _ _ _ _ _ _ _ _ _
      | exact emenderref23_table.mono _ _ _ _
      | exact LeO.none _
      | refine LeO.ite ?_ ?_
      | refine LeO.bind ?_ (fun _ => ?_)
theorem emenderref23_pairs.mono : ∀ a0 a1 a2 k, LeO (emenderref23_pairs.f k a0 a1 a2) (emenderref23_pairs.f (k + 1) a0 a1 a2) := by
  intro a0 a1 a2 k
  obtain ⟨ih0, ih1, ih2, ih3⟩ := emenderref23_pairs.mono_l k
  unfold emenderref23_pairs.f
  repeat' first
      | (with_reducible exact ih0 _ _ _ _ _ _ _)
      | (with_reducible exact ih1 _ _ _ _ _ _ _ _ _ _)
      | (with_reducible exact ih2 _ _ _ _ _ _ _ _ _ _ _)
      | (with_reducible exact ih3 _ _ _ _ _ _ _ _ _ _)
      | (with_reducible exact emenderref23_table.mono _ _ _ _)
      | (with_reducible exact LeO.refl _)
      | (with_reducible exact LeO.none _)
      | (with_reducible refine LeO.ite ?_ ?_)
      | (with_reducible refine LeO.bind ?_ (fun _ => ?_))
      | exact ih0 _ _ _ _ _ _ _
      | exact ih1 _ _ _ _ _ _ _ _ _ _
      | exact ih2 _ _ _ _ _ _ _ _ _ _ _
      | exact ih3 _ _ _ _ _ _ _ _ _ _
      | exact emenderref23_table.mono _ _ _ _
      | exact LeO.none _
      | refine LeO.ite ?_ ?_
      | refine LeO.bind ?_ (fun _ => ?_)
set_option maxHeartbeats 8000000 in
set_option maxRecDepth 100000 in
theorem emenderref23_pairs.calls (k : Nat) (A0 : Option Addr) (c0 : Nat) (l0 : List (List Bool)) (a1 : Int) (a2 : Int) (r : List (S76)) (w : World) (hr0 : Kd.C (Kd.slice 4 Kd.bool) w A0 l0.length l0) (hc0 : l0.length ≤ c0) (h : emenderref23_pairs.f k l0 a1 a2 = some r) :
    Calls Try.prog 32 #[.slice A0 l0.length c0, .int .i64 a1, .int .i64 a2] w fun e w' => ∃ v0_ : Value, e = .returned (v0_) ∧ Kd.R k76 76 w' w.heap.size (fun _ => True) v0_ r ∧ Below w.heap.size w w' := by
  have hu76 := Try.underlying76
  have HR0 := Aside0.mk hr0
  have HC0 := Aside0.mk hc0
  clear hr0 hc0
  have HB := Aside0.mk (Below.refl w.heap.size w)
  have H : ((emenderref23_table.f k l0 a1 a2).bind fun t168 => (emenderref23_pairs.l0 k l0 a1 a2 t168 ([] : List (S76)) 0 0)) = some r := h
  clear h
  replace H := Option.bind_eq_some_iff.mp H
  obtain ⟨t168, A40, H⟩ := H
  replace H : (emenderref23_pairs.l0 k l0 a1 a2 t168 ([] : List (S76)) 0 0) = some r := H
  have A4 := Aside0.mk A40
  clear A40
  have H' := Aside0.mk H
  clear H
  go_enter Try.func32, Try.ntmps32
  go_wp2_with (first | (go_at_call 49; (with_reducible refine (emenderref23_table.calls k _ _ l0 a1 a2 t168 _ ?side1 ?side2 A4.out).mono ?_); (case side1 => repeat (first | exact HR0.out | (with_reducible refine Kd.C_alloc ?_ _) | (with_reducible refine Kd.C_drewN ?_ _) | (with_reducible refine Kd.C_drew ?_))); (case side2 => exact HC0.out); rintro e w5 ⟨v169, rfl, ho0, hb⟩; have n0_ := Aside0.mk (Kd.S_lower ho0 (below_size (by repeat (first | (with_reducible first | exact HB.out | apply below_alloc | apply pw_below_drewN | apply below_drew1) | exact HB.out)))); have n1_ := Aside0.mk (below_step (by repeat (first | (with_reducible first | exact HB.out | apply below_alloc | apply pw_below_drewN | apply below_drew1) | exact HB.out)) hb); clear HB; have HO170 := n0_; have HB := n1_; clear n0_ n1_; (try clear hb); (try clear hb2); (try clear hk); (try clear hi); (try clear ho0)))
  repeat (go_quiet (first | (go_at_call 49; (with_reducible refine (emenderref23_table.calls k _ _ l0 a1 a2 t168 _ ?side1 ?side2 A4.out).mono ?_); (case side1 => repeat (first | exact HR0.out | (with_reducible refine Kd.C_alloc ?_ _) | (with_reducible refine Kd.C_drewN ?_ _) | (with_reducible refine Kd.C_drew ?_))); (case side2 => exact HC0.out); rintro e w5 ⟨v169, rfl, ho0, hb⟩; have n0_ := Aside0.mk (Kd.S_lower ho0 (below_size (by repeat (first | (with_reducible first | exact HB.out | apply below_alloc | apply pw_below_drewN | apply below_drew1) | exact HB.out)))); have n1_ := Aside0.mk (below_step (by repeat (first | (with_reducible first | exact HB.out | apply below_alloc | apply pw_below_drewN | apply below_drew1) | exact HB.out)) hb); clear HB; have HO170 := n0_; have HB := n1_; clear n0_ n1_; (try clear hb); (try clear hb2); (try clear hk); (try clear hi); (try clear ho0))); try go_wp2_with (first | (go_at_call 49; (with_reducible refine (emenderref23_table.calls k _ _ l0 a1 a2 t168 _ ?side1 ?side2 A4.out).mono ?_); (case side1 => repeat (first | exact HR0.out | (with_reducible refine Kd.C_alloc ?_ _) | (with_reducible refine Kd.C_drewN ?_ _) | (with_reducible refine Kd.C_drew ?_))); (case side2 => exact HC0.out); rintro e w5 ⟨v169, rfl, ho0, hb⟩; have n0_ := Aside0.mk (Kd.S_lower ho0 (below_size (by repeat (first | (with_reducible first | exact HB.out | apply below_alloc | apply pw_below_drewN | apply below_drew1) | exact HB.out)))); have n1_ := Aside0.mk (below_step (by repeat (first | (with_reducible first | exact HB.out | apply below_alloc | apply pw_below_drewN | apply below_drew1) | exact HB.out)) hb); clear HB; have HO170 := n0_; have HB := n1_; clear n0_ n1_; (try clear hb); (try clear hb2); (try clear hk); (try clear hi); (try clear ho0))))
  go_loopg [8, 9, 10] k (fun kq v8 v9 v10 w' => ∃ (x8_1 : List (S76)) (x9_1 : Int) (x10_1 : Int), v9 = .int .i64 x9_1 ∧ v10 = .int .i64 x10_1 ∧ Aside0 (emenderref23_pairs.l0 kq l0 a1 a2 t168 x8_1 x9_1 x10_1 = some r) ∧ Aside0 (kq ≤ k) ∧ Aside0 (Kd.S (Kd.slice 3 (Kd.int .i64)) 52 w' w.heap.size (fun _ => True) v169 t168) ∧ Aside0 (Kd.R k76 76 w' w.heap.size (fun _ => True) v8 x8_1) ∧ Aside0 (Below w.heap.size w w'))
  case atStart => exact ⟨(([] : List (S76))), (0), (0), (by first | rfl | (simp; done) | (simp [*]; done)), (by first | rfl | (simp; done) | (simp [*]; done)), H', ⟨Nat.le_refl _⟩, ⟨by (with_reducible repeat (first | apply Kd.S_alloc | apply Kd.S_drewN | apply Kd.S_drew)); exact HO170.out⟩, ⟨by first | exact Kd.R_nil _ _ _ _ _ | exact Kd.N_nil _ _ _ _ _ | exact Kd.V_nil _ _ _ _ _ | exact Kd.Q_nil _ _ _ _ _ | exact Kd.S_nil _ _ _ _ _⟩, ⟨by repeat (first | (with_reducible first | exact HB.out | apply below_alloc | apply pw_below_drewN | apply below_drew1) | exact HB.out)⟩⟩
  case round =>
    clear H'
    try clear p2
    try clear c3
    obtain ⟨x8_1, x9_1, x10_1, rfl, rfl, HA, HK1, HO_7, HO_8, HB⟩ := hrel
    cases gk with
    | zero => exact absurd HA.out (by simp [emenderref23_pairs.l0])
    | succ k1 =>
      have H := HA.out
      clear HA
      simp only [emenderref23_pairs.l0] at H
      by_cases c6 : 0 ≤ x9_1
      · rw [if_pos c6] at H
        have c6b0 : decide (0 ≤ x9_1) = true := decide_eq_true c6
        clear c6
        by_cases c7 : x9_1 < (t168.length : Int)
        · rw [if_pos c7] at H
          have c7b0 : decide (x9_1 < (t168.length : Int)) = true := decide_eq_true c7
          clear c7
          by_cases c8 : 0 ≤ x10_1
          · rw [if_pos c8] at H
            have c8b0 : decide (0 ≤ x10_1) = true := decide_eq_true c8
            clear c8
            by_cases c9 : x10_1 < ((rd_L5 t168 x9_1).length : Int)
            · rw [if_pos c9] at H
              have c9b0 : decide (x10_1 < ((rd_L5 t168 x9_1).length : Int)) = true := decide_eq_true c9
              clear c9
              by_cases c10 : (rd (rd_L5 t168 x9_1) x10_1) > 0
              · rw [if_pos c10] at H
                have c10b0 : decide (0 < (rd (rd_L5 t168 x9_1) x10_1)) = true := decide_eq_true c10
                clear c10
                have H' := Aside0.mk H
                clear H
                obtain ⟨Ao11, co11, eo11⟩ := Kd.S_slice HO_7.out
                subst eo11
                have p171 : 0 ≤ (x9_1 : Int) := of_decide_eq_true (by first | (with_reducible assumption) | assumption)
                have q171 : x9_1 < (t168.length : Int) := of_decide_eq_true (by first | (with_reducible assumption) | assumption)
                obtain ⟨ad171, A171_0, c171_0, e171, hx171_0, hl171_0, hi171_0⟩ := at_L5 (Kd.S_reads' HO_7.out).2.2 x9_1 p171 q171
                cases e171
                obtain ⟨ce171, hce171, hMe171, hcc171⟩ := Kd.S_get HO_7.out [] x9_1 p171 (by first | exact q171 | exact of_decide_eq_true (by first | (with_reducible assumption) | assumption) | (have e_ := (Kd.S_reads' HO_7.out).1; omega))
                obtain ⟨ve171_0, rfl, ge171_0⟩ := hMe171
                have hv171_0 := hcc171 0 _ rfl
                rw [Nat.add_zero, show ((Kd.slice 3 (Kd.int .i64))).sz = 1 from rfl, Nat.mul_one] at hv171_0
                replace hv171_0 := Option.some.inj (hv171_0.symm.trans hx171_0)
                rw [hv171_0] at ge171_0
                have HL171_0 := Aside0.mk (show Kd.R (Kd.int .i64) 3 _ _ _ _ (rd_L5 t168 x9_1) from ge171_0)
                clear hv171_0 ge171_0
                clear hcc171 hce171
                have HR171_0 := Aside0.mk hi171_0
                have HC171_0 := Aside0.mk hl171_0
                clear hi171_0 hl171_0
                replace p171 := eq_true p171
                replace q171 := eq_true q171
                have p172 : 0 ≤ (x10_1 : Int) := of_decide_eq_true (by first | (with_reducible assumption) | assumption)
                have q172 : x10_1 < ((rd_L5 t168 x9_1).length : Int) := of_decide_eq_true (by first | (with_reducible assumption) | assumption)
                obtain ⟨ad172, e172, hx172_0⟩ := Kd.at_int (by repeat (first | (with_reducible exact HR171_0.out) | (with_reducible refine Kd.C_alloc ?_ _) | (with_reducible refine Kd.C_drewN ?_ _) | (with_reducible refine Kd.C_drew ?_) | exact HR171_0.out)) x10_1 p172 q172
                cases e172
                replace p172 := eq_true p172
                replace q172 := eq_true q172
                go_wp2
                repeat (go_quiet (fail); try go_wp2)
                go_loopg [11, 12, 13] k1 (fun kq v11 v12 v13 w' => ∃ (x11_2 : Int) (x12_2 : Int) (x13_2 : Bool), v11 = .int .i64 x11_2 ∧ v12 = .int .i64 x12_2 ∧ v13 = .bool x13_2 ∧ Aside0 (emenderref23_pairs.l1 kq l0 a1 a2 t168 x8_1 x9_1 x10_1 x11_2 x12_2 x13_2 = some r) ∧ Aside0 (kq ≤ k1) ∧ Aside0 (Kd.S (Kd.slice 3 (Kd.int .i64)) 52 w' w.heap.size (fun _ => True) (.slice (some ad171) t168.length co11) t168) ∧ Aside0 (Kd.R k76 76 w' w.heap.size (fun _ => True) u8 x8_1) ∧ Aside0 (Kd.C (Kd.int .i64) w' (some ad172) (rd_L5 t168 x9_1).length (rd_L5 t168 x9_1)) ∧ Aside0 (Below w.heap.size w w'))
                case atStart => exact ⟨(x9_1), (x10_1), (false), (by first | rfl | (simp; done) | (simp [*]; done)), (by first | rfl | (simp; done) | (simp [*]; done)), (by first | rfl | (simp; done) | (simp [*]; done)), H', ⟨Nat.le_refl _⟩, ⟨by (with_reducible repeat (first | apply Kd.S_alloc | apply Kd.S_drewN | apply Kd.S_drew)); exact HO_7.out⟩, ⟨by (with_reducible repeat (first | apply Kd.R_alloc | apply Kd.R_drewN | apply Kd.R_drew)); exact HO_8.out⟩, ⟨by repeat (first | (with_reducible exact HR171_0.out) | (with_reducible refine Kd.C_alloc ?_ _) | (with_reducible refine Kd.C_drewN ?_ _) | (with_reducible refine Kd.C_drew ?_) | exact HR171_0.out)⟩, ⟨by repeat (first | (with_reducible first | exact HB.out | apply below_alloc | apply pw_below_drewN | apply below_drew1) | exact HB.out)⟩⟩
                case round =>
                  clear H'
                  try clear c1
                  try clear p1
                  try clear q1
                  try clear hx1
                  try clear p2
                  try clear c3
                  try clear c6
                  try clear c6b0
                  try clear c7
                  try clear c7b0
                  try clear c8
                  try clear c8b0
                  try clear c9
                  try clear c9b0
                  try clear c10
                  try clear c10b0
                  try clear hx171_0
                  try clear hx172_0
                  try clear p171
                  try clear p172
                  try clear p2
                  try clear q171
                  try clear q172
                  obtain ⟨x11_2, x12_2, x13_2, rfl, rfl, rfl, HA, HK2, HO_7, HO_8, HR171_0, HB⟩ := hrel
                  cases gk with
                  | zero => exact absurd HA.out (by simp [emenderref23_pairs.l1])
                  | succ k2 =>
                    have H := HA.out
                    clear HA
                    simp only [emenderref23_pairs.l1] at H
                    have HC12 := Aside0.mk H
                    clear H
                    go_upto_region 10 with (fail)
                    repeat (go_quiet (fail); go_upto_region 10 with (fail))
                    go_cut [35] (fun v35 wc => ∃ (kq : Nat) (x35_11 : Bool), v35 = .bool x35_11 ∧ Aside0 (emenderref23_pairs.j2 kq l0 a1 a2 t168 x8_1 x9_1 x10_1 x11_2 x12_2 x13_2 x35_11 = some r) ∧ Aside0 (kq ≤ k2) ∧ Aside0 (Kd.S (Kd.slice 3 (Kd.int .i64)) 52 wc w.heap.size (fun _ => True) (.slice (some ad171) t168.length co11) t168) ∧ Aside0 (Kd.R k76 76 wc w.heap.size (fun _ => True) u8 x8_1) ∧ Aside0 (Kd.C (Kd.int .i64) wc (some ad172) (rd_L5 t168 x9_1).length (rd_L5 t168 x9_1)) ∧ Aside0 (Below w.heap.size w wc))
                    case first =>
                      have H := HC12.out
                      clear HC12
                      by_cases c13 : x11_2 < a1
                      · rw [if_pos c13] at H
                        have c13b0 : decide (x11_2 < a1) = true := decide_eq_true c13
                        clear c13
                        (first | rw [c13b0] | (simp only [i64_w, i32_w]; rw [c13b0]) | skip)
                        have H' := Aside0.mk H
                        clear H
                        go_wp2
                        repeat (go_quiet (fail); try go_wp2)
                        go_meet
                        case rel => exact ⟨_, (!x13_2), (by first | rfl | (simp; done) | (simp [*]; done)), H', ⟨by have := HK1.out; have := HK2.out; first | omega | exact Nat.le_refl _⟩, ⟨by (with_reducible repeat (first | apply Kd.S_alloc | apply Kd.S_drewN | apply Kd.S_drew)); exact HO_7.out⟩, ⟨by (with_reducible repeat (first | apply Kd.R_alloc | apply Kd.R_drewN | apply Kd.R_drew)); exact HO_8.out⟩, ⟨by repeat (first | (with_reducible exact HR171_0.out) | (with_reducible refine Kd.C_alloc ?_ _) | (with_reducible refine Kd.C_drewN ?_ _) | (with_reducible refine Kd.C_drew ?_) | exact HR171_0.out)⟩, ⟨by repeat (first | (with_reducible first | exact HB.out | apply below_alloc | apply pw_below_drewN | apply below_drew1) | exact HB.out)⟩⟩
                      · rw [if_neg c13] at H
                        have c13b0 : decide (x11_2 < a1) = false := decide_eq_false c13
                        clear c13
                        (first | rw [c13b0] | (simp only [i64_w, i32_w]; rw [c13b0]) | skip)
                        have H' := Aside0.mk H
                        clear H
                        go_wp2
                        repeat (go_quiet (fail); try go_wp2)
                        go_meet
                        case rel => exact ⟨_, (false), (by first | rfl | (simp; done) | (simp [*]; done)), H', ⟨by have := HK1.out; have := HK2.out; first | omega | exact Nat.le_refl _⟩, ⟨by (with_reducible repeat (first | apply Kd.S_alloc | apply Kd.S_drewN | apply Kd.S_drew)); exact HO_7.out⟩, ⟨by (with_reducible repeat (first | apply Kd.R_alloc | apply Kd.R_drewN | apply Kd.R_drew)); exact HO_8.out⟩, ⟨by repeat (first | (with_reducible exact HR171_0.out) | (with_reducible refine Kd.C_alloc ?_ _) | (with_reducible refine Kd.C_drewN ?_ _) | (with_reducible refine Kd.C_drew ?_) | exact HR171_0.out)⟩, ⟨by repeat (first | (with_reducible first | exact HB.out | apply below_alloc | apply pw_below_drewN | apply below_drew1) | exact HB.out)⟩⟩
                    case rest =>
                      clear HC12
                      try clear c1
                      try clear p1
                      try clear q1
                      try clear hx1
                      try clear p2
                      try clear c3
                      try clear c6
                      try clear c6b0
                      try clear c7
                      try clear c7b0
                      try clear c8
                      try clear c8b0
                      try clear c9
                      try clear c9b0
                      try clear c10
                      try clear c10b0
                      try clear c13
                      try clear c13b0
                      try clear hx171_0
                      try clear hx172_0
                      try clear p1
                      try clear p171
                      try clear p172
                      try clear p2
                      try clear q1
                      try clear q171
                      try clear q172
                      obtain ⟨kq, x35_11, rfl, HA, HJ11, HO_7, HO_8, HR171_0, HB⟩ := hcut
                      cases kq with
                      | zero => exact absurd HA.out (by simp [emenderref23_pairs.j2])
                      | succ kj11 =>
                        have H := HA.out
                        clear HA
                        simp only [emenderref23_pairs.j2] at H
                        by_cases c14 : x35_11 = true
                        · subst c14
                          have H1 : (emenderref23_pairs.l2 kj11 l0 a1 a2 t168 x8_1 x9_1 x10_1 x11_2 x10_1 x13_2) = some r := by rw [if_pos rfl] at H; exact H
                          clear H
                          have H := H1
                          clear H1
                          have H' := Aside0.mk H
                          clear H
                          go_wp2
                          repeat (go_quiet (fail); try go_wp2)
                          go_loopg [12, 13] kj11 (fun kq v12 v13 w' => ∃ (x12_4 : Int) (x13_4 : Bool), v12 = .int .i64 x12_4 ∧ v13 = .bool x13_4 ∧ Aside0 (emenderref23_pairs.l2 kq l0 a1 a2 t168 x8_1 x9_1 x10_1 x11_2 x12_4 x13_4 = some r) ∧ Aside0 (kq ≤ kj11) ∧ Aside0 (Kd.S (Kd.slice 3 (Kd.int .i64)) 52 w' w.heap.size (fun _ => True) (.slice (some ad171) t168.length co11) t168) ∧ Aside0 (Kd.R k76 76 w' w.heap.size (fun _ => True) u8 x8_1) ∧ Aside0 (Kd.C (Kd.int .i64) w' (some ad172) (rd_L5 t168 x9_1).length (rd_L5 t168 x9_1)) ∧ Aside0 (Below w.heap.size w w'))
                          case atStart => exact ⟨(x10_1), (x13_2), (by first | rfl | (simp; done) | (simp [*]; done)), (by first | rfl | (simp; done) | (simp [*]; done)), H', ⟨Nat.le_refl _⟩, ⟨by (with_reducible repeat (first | apply Kd.S_alloc | apply Kd.S_drewN | apply Kd.S_drew)); exact HO_7.out⟩, ⟨by (with_reducible repeat (first | apply Kd.R_alloc | apply Kd.R_drewN | apply Kd.R_drew)); exact HO_8.out⟩, ⟨by repeat (first | (with_reducible exact HR171_0.out) | (with_reducible refine Kd.C_alloc ?_ _) | (with_reducible refine Kd.C_drewN ?_ _) | (with_reducible refine Kd.C_drew ?_) | exact HR171_0.out)⟩, ⟨by repeat (first | (with_reducible first | exact HB.out | apply below_alloc | apply pw_below_drewN | apply below_drew1) | exact HB.out)⟩⟩
                          case round =>
                            clear H'
                            try clear c1
                            try clear p1
                            try clear q1
                            try clear hx1
                            try clear p2
                            try clear c3
                            try clear c6
                            try clear c6b0
                            try clear c7
                            try clear c7b0
                            try clear c8
                            try clear c8b0
                            try clear c9
                            try clear c9b0
                            try clear c10
                            try clear c10b0
                            try clear c13
                            try clear c13b0
                            try clear c14
                            try clear hx171_0
                            try clear hx172_0
                            try clear p1
                            try clear p171
                            try clear p172
                            try clear p2
                            try clear q1
                            try clear q171
                            try clear q172
                            obtain ⟨x12_4, x13_4, rfl, rfl, HA, HK4, HO_7, HO_8, HR171_0, HB⟩ := hrel
                            cases gk with
                            | zero => exact absurd HA.out (by simp [emenderref23_pairs.l2])
                            | succ k4 =>
                              have H := HA.out
                              clear HA
                              simp only [emenderref23_pairs.l2] at H
                              by_cases c15 : x12_4 < a2
                              · rw [if_pos c15] at H
                                have c15b0 : decide (x12_4 < a2) = true := decide_eq_true c15
                                clear c15
                                by_cases c16 : x13_4 = true
                                · subst c16
                                  have H1 : (emenderref23_pairs.l1 k4 l0 a1 a2 t168 x8_1 x9_1 x10_1 (wrap64 (x11_2 + 1)) x12_4 true) = some r := by rw [if_pos rfl] at H; exact H
                                  clear H
                                  have H := H1
                                  clear H1
                                  have H' := Aside0.mk H
                                  clear H
                                  go_wp2
                                  repeat (go_quiet (fail); try go_wp2)
                                  go_roundg k4
                                  case measure => have := HK1.out; have := HK2.out; have := HJ11.out; have := HK4.out; omega
                                  case rel => exact ⟨(wrap64 (x11_2 + 1)), (x12_4), (true), (by first | rfl | (simp; done) | (simp [*]; done)), (by first | rfl | (simp; done) | (simp [*]; done)), (by first | rfl | (simp; done) | (simp [*]; done)), H', ⟨by have := HK1.out; have := HK2.out; have := HJ11.out; have := HK4.out; omega⟩, ⟨by (with_reducible repeat (first | apply Kd.S_alloc | apply Kd.S_drewN | apply Kd.S_drew)); exact HO_7.out⟩, ⟨by (with_reducible repeat (first | apply Kd.R_alloc | apply Kd.R_drewN | apply Kd.R_drew)); exact HO_8.out⟩, ⟨by repeat (first | (with_reducible exact HR171_0.out) | (with_reducible refine Kd.C_alloc ?_ _) | (with_reducible refine Kd.C_drewN ?_ _) | (with_reducible refine Kd.C_drew ?_) | exact HR171_0.out)⟩, ⟨by repeat (first | (with_reducible first | exact HB.out | apply below_alloc | apply pw_below_drewN | apply below_drew1) | exact HB.out)⟩⟩
                                · replace c16 := Bool.eq_false_iff.mpr c16
                                  subst c16
                                  have H1 : (if 0 ≤ x11_2 then (if x11_2 < (l0.length : Int) then (if 0 ≤ x12_4 then (if x12_4 < ((rd_L7 l0 x11_2).length : Int) then (if rdOf false (rd_L7 l0 x11_2) x12_4 = true then (if 0 ≤ (wrap64 (x11_2 + 1)) then (if (wrap64 (x11_2 + 1)) < (t168.length : Int) then (if 0 ≤ (wrap64 (x12_4 + 1)) then (if (wrap64 (x12_4 + 1)) < ((rd_L5 t168 (wrap64 (x11_2 + 1))).length : Int) then (if 0 ≤ x9_1 then (if x9_1 < (t168.length : Int) then (if 0 ≤ x10_1 then (if x10_1 < ((rd_L5 t168 x9_1).length : Int) then (emenderref23_pairs.l2 k4 l0 a1 a2 t168 x8_1 x9_1 x10_1 x11_2 (wrap64 (x12_4 + 1)) ((wrap64 (1 + (rd (rd_L5 t168 (wrap64 (x11_2 + 1))) (wrap64 (x12_4 + 1))))) == (rd (rd_L5 t168 x9_1) x10_1))) else (none)) else (none)) else (none)) else (none)) else (none)) else (none)) else (none)) else (none)) else (emenderref23_pairs.l2 k4 l0 a1 a2 t168 x8_1 x9_1 x10_1 x11_2 (wrap64 (x12_4 + 1)) false)) else (none)) else (none)) else (none)) else (none)) = some r := by rw [if_neg (show ¬ (false = true) by decide)] at H; exact H
                                  clear H
                                  have H := H1
                                  clear H1
                                  by_cases c17 : 0 ≤ x11_2
                                  · rw [if_pos c17] at H
                                    have c17b0 : decide (0 ≤ x11_2) = true := decide_eq_true c17
                                    clear c17
                                    by_cases c18 : x11_2 < (l0.length : Int)
                                    · rw [if_pos c18] at H
                                      have c18b0 : decide (x11_2 < (l0.length : Int)) = true := decide_eq_true c18
                                      clear c18
                                      by_cases c19 : 0 ≤ x12_4
                                      · rw [if_pos c19] at H
                                        have c19b0 : decide (0 ≤ x12_4) = true := decide_eq_true c19
                                        clear c19
                                        by_cases c20 : x12_4 < ((rd_L7 l0 x11_2).length : Int)
                                        · rw [if_pos c20] at H
                                          have c20b0 : decide (x12_4 < ((rd_L7 l0 x11_2).length : Int)) = true := decide_eq_true c20
                                          clear c20
                                          obtain ⟨bq21, hbq21⟩ : ∃ b_ : Bool, b_ = (rdOf false (rd_L7 l0 x11_2) x12_4) := ⟨_, rfl⟩
                                          replace H : (if bq21 = true then (if 0 ≤ (wrap64 (x11_2 + 1)) then (if (wrap64 (x11_2 + 1)) < (t168.length : Int) then (if 0 ≤ (wrap64 (x12_4 + 1)) then (if (wrap64 (x12_4 + 1)) < ((rd_L5 t168 (wrap64 (x11_2 + 1))).length : Int) then (if 0 ≤ x9_1 then (if x9_1 < (t168.length : Int) then (if 0 ≤ x10_1 then (if x10_1 < ((rd_L5 t168 x9_1).length : Int) then (emenderref23_pairs.l2 k4 l0 a1 a2 t168 x8_1 x9_1 x10_1 x11_2 (wrap64 (x12_4 + 1)) ((wrap64 (1 + (rd (rd_L5 t168 (wrap64 (x11_2 + 1))) (wrap64 (x12_4 + 1))))) == (rd (rd_L5 t168 x9_1) x10_1))) else (none)) else (none)) else (none)) else (none)) else (none)) else (none)) else (none)) else (none)) else (emenderref23_pairs.l2 k4 l0 a1 a2 t168 x8_1 x9_1 x10_1 x11_2 (wrap64 (x12_4 + 1)) false)) = some r := by rw [← hbq21] at H; exact H
                                          have Nbq21 := Aside0.mk hbq21
                                          clear hbq21
                                          by_cases c22 : bq21 = true
                                          · subst c22
                                            have H1 : (if 0 ≤ (wrap64 (x11_2 + 1)) then (if (wrap64 (x11_2 + 1)) < (t168.length : Int) then (if 0 ≤ (wrap64 (x12_4 + 1)) then (if (wrap64 (x12_4 + 1)) < ((rd_L5 t168 (wrap64 (x11_2 + 1))).length : Int) then (if 0 ≤ x9_1 then (if x9_1 < (t168.length : Int) then (if 0 ≤ x10_1 then (if x10_1 < ((rd_L5 t168 x9_1).length : Int) then (emenderref23_pairs.l2 k4 l0 a1 a2 t168 x8_1 x9_1 x10_1 x11_2 (wrap64 (x12_4 + 1)) ((wrap64 (1 + (rd (rd_L5 t168 (wrap64 (x11_2 + 1))) (wrap64 (x12_4 + 1))))) == (rd (rd_L5 t168 x9_1) x10_1))) else (none)) else (none)) else (none)) else (none)) else (none)) else (none)) else (none)) else (none)) = some r := by rw [if_pos rfl] at H; exact H
                                            clear H
                                            have H := H1
                                            clear H1
                                            obtain ⟨ji23, hji23⟩ : ∃ j_ : Int, (wrap64 (x11_2 + 1)) = j_ := ⟨_, rfl⟩
                                            replace H : (if 0 ≤ (ji23) then (if (ji23) < (t168.length : Int) then (if 0 ≤ (wrap64 (x12_4 + 1)) then (if (wrap64 (x12_4 + 1)) < ((rd_L5 t168 (ji23)).length : Int) then (if 0 ≤ x9_1 then (if x9_1 < (t168.length : Int) then (if 0 ≤ x10_1 then (if x10_1 < ((rd_L5 t168 x9_1).length : Int) then (emenderref23_pairs.l2 k4 l0 a1 a2 t168 x8_1 x9_1 x10_1 x11_2 (wrap64 (x12_4 + 1)) ((wrap64 (1 + (rd (rd_L5 t168 (ji23)) (wrap64 (x12_4 + 1))))) == (rd (rd_L5 t168 x9_1) x10_1))) else (none)) else (none)) else (none)) else (none)) else (none)) else (none)) else (none)) else (none)) = some r := by first | (rw [hji23] at H; exact H) | (simp only [hji23] at H ⊢; exact H)
                                            have hji23w : (IntKind.i64.wrap (x11_2 + 1)) = ji23 := (i64_w _).trans hji23
                                            by_cases c24 : 0 ≤ (ji23)
                                            · rw [if_pos c24] at H
                                              have c24b0 : decide (0 ≤ (ji23)) = true := decide_eq_true c24
                                              clear c24
                                              by_cases c25 : (ji23) < (t168.length : Int)
                                              · rw [if_pos c25] at H
                                                have c25b0 : decide ((ji23) < (t168.length : Int)) = true := decide_eq_true c25
                                                clear c25
                                                obtain ⟨ji26, hji26⟩ : ∃ j_ : Int, (wrap64 (x12_4 + 1)) = j_ := ⟨_, rfl⟩
                                                replace H : (if 0 ≤ (ji26) then (if (ji26) < ((rd_L5 t168 (ji23)).length : Int) then (if 0 ≤ x9_1 then (if x9_1 < (t168.length : Int) then (if 0 ≤ x10_1 then (if x10_1 < ((rd_L5 t168 x9_1).length : Int) then (emenderref23_pairs.l2 k4 l0 a1 a2 t168 x8_1 x9_1 x10_1 x11_2 ji26 ((wrap64 (1 + (rd (rd_L5 t168 (ji23)) (ji26)))) == (rd (rd_L5 t168 x9_1) x10_1))) else (none)) else (none)) else (none)) else (none)) else (none)) else (none)) = some r := by first | (rw [hji26] at H; exact H) | (simp only [hji26] at H ⊢; exact H)
                                                have hji26w : (IntKind.i64.wrap (x12_4 + 1)) = ji26 := (i64_w _).trans hji26
                                                by_cases c27 : 0 ≤ (ji26)
                                                · rw [if_pos c27] at H
                                                  have c27b0 : decide (0 ≤ (ji26)) = true := decide_eq_true c27
                                                  clear c27
                                                  by_cases c28 : (ji26) < ((rd_L5 t168 (ji23)).length : Int)
                                                  · rw [if_pos c28] at H
                                                    have c28b0 : decide ((ji26) < ((rd_L5 t168 (ji23)).length : Int)) = true := decide_eq_true c28
                                                    clear c28
                                                    by_cases c29 : 0 ≤ x9_1
                                                    · rw [if_pos c29] at H
                                                      have c29b0 : decide (0 ≤ x9_1) = true := decide_eq_true c29
                                                      clear c29
                                                      by_cases c30 : x9_1 < (t168.length : Int)
                                                      · rw [if_pos c30] at H
                                                        have c30b0 : decide (x9_1 < (t168.length : Int)) = true := decide_eq_true c30
                                                        clear c30
                                                        by_cases c31 : 0 ≤ x10_1
                                                        · rw [if_pos c31] at H
                                                          have c31b0 : decide (0 ≤ x10_1) = true := decide_eq_true c31
                                                          clear c31
                                                          by_cases c32 : x10_1 < ((rd_L5 t168 x9_1).length : Int)
                                                          · rw [if_pos c32] at H
                                                            have c32b0 : decide (x10_1 < ((rd_L5 t168 x9_1).length : Int)) = true := decide_eq_true c32
                                                            clear c32
                                                            have H' := Aside0.mk H
                                                            clear H
                                                            have p176 : 0 ≤ (x11_2 : Int) := of_decide_eq_true (by first | (with_reducible assumption) | assumption)
                                                            have q176 : x11_2 < (l0.length : Int) := of_decide_eq_true (by first | (with_reducible assumption) | assumption)
                                                            obtain ⟨ad176, A176_0, c176_0, e176, hx176_0, hl176_0, hi176_0⟩ := at_L7 HR0.out x11_2 p176 q176
                                                            cases e176
                                                            replace hx176_0 := (HB.out.cell (World.block_lt_of_cell? w _ hx176_0)).trans hx176_0
                                                            have HR176_0 := Aside0.mk hi176_0
                                                            have HC176_0 := Aside0.mk hl176_0
                                                            clear hi176_0 hl176_0
                                                            replace p176 := eq_true p176
                                                            replace q176 := eq_true q176
                                                            have p177 : 0 ≤ (x12_4 : Int) := of_decide_eq_true (by first | (with_reducible assumption) | assumption)
                                                            have q177 : x12_4 < ((rd_L7 l0 x11_2).length : Int) := of_decide_eq_true (by first | (with_reducible assumption) | assumption)
                                                            obtain ⟨ad177, e177, hx177_0⟩ := Kd.at_bool HR176_0.out x12_4 p177 q177
                                                            (try rw [← Nbq21.out] at hx177_0)
                                                            cases e177
                                                            replace hx177_0 := (HB.out.cell (World.block_lt_of_cell? w _ hx177_0)).trans hx177_0
                                                            replace p177 := eq_true p177
                                                            replace q177 := eq_true q177
                                                            have p178 : 0 ≤ ((ji23) : Int) := of_decide_eq_true (by first | (with_reducible assumption) | assumption)
                                                            have q178 : (ji23) < (t168.length : Int) := of_decide_eq_true (by first | (with_reducible assumption) | assumption)
                                                            obtain ⟨ad178, A178_0, c178_0, e178, hx178_0, hl178_0, hi178_0⟩ := at_L5 (Kd.S_reads' HO_7.out).2.2 (ji23) p178 q178
                                                            obtain rfl : ad171 = ad178 := (by injection e178)
                                                            obtain ⟨ce178, hce178, hMe178, hcc178⟩ := Kd.S_get HO_7.out [] (ji23) p178 (by first | exact q178 | exact of_decide_eq_true (by first | (with_reducible assumption) | assumption) | (have e_ := (Kd.S_reads' HO_7.out).1; omega))
                                                            obtain ⟨ve178_0, rfl, ge178_0⟩ := hMe178
                                                            have hv178_0 := hcc178 0 _ rfl
                                                            rw [Nat.add_zero, show ((Kd.slice 3 (Kd.int .i64))).sz = 1 from rfl, Nat.mul_one] at hv178_0
                                                            replace hv178_0 := Option.some.inj (hv178_0.symm.trans hx178_0)
                                                            rw [hv178_0] at ge178_0
                                                            have HL178_0 := Aside0.mk (show Kd.R (Kd.int .i64) 3 _ _ _ _ (rd_L5 t168 (ji23)) from ge178_0)
                                                            clear hv178_0 ge178_0
                                                            clear hcc178 hce178
                                                            have HR178_0 := Aside0.mk hi178_0
                                                            have HC178_0 := Aside0.mk hl178_0
                                                            clear hi178_0 hl178_0
                                                            replace p178 := eq_true p178
                                                            replace q178 := eq_true q178
                                                            have p179 : 0 ≤ ((ji26) : Int) := of_decide_eq_true (by first | (with_reducible assumption) | assumption)
                                                            have q179 : (ji26) < ((rd_L5 t168 (ji23)).length : Int) := of_decide_eq_true (by first | (with_reducible assumption) | assumption)
                                                            obtain ⟨ad179, e179, hx179_0⟩ := Kd.at_int (by repeat (first | (with_reducible exact HR178_0.out) | (with_reducible refine Kd.C_alloc ?_ _) | (with_reducible refine Kd.C_drewN ?_ _) | (with_reducible refine Kd.C_drew ?_) | exact HR178_0.out)) (ji26) p179 q179
                                                            cases e179
                                                            replace p179 := eq_true p179
                                                            replace q179 := eq_true q179
                                                            have p180 : 0 ≤ (x9_1 : Int) := of_decide_eq_true (by first | (with_reducible assumption) | assumption)
                                                            have q180 : x9_1 < (t168.length : Int) := of_decide_eq_true (by first | (with_reducible assumption) | assumption)
                                                            obtain ⟨ad180, A180_0, c180_0, e180, hx180_0, hl180_0, hi180_0⟩ := at_L5 (Kd.S_reads' HO_7.out).2.2 x9_1 p180 q180
                                                            obtain rfl : ad171 = ad180 := (by injection e180)
                                                            obtain ⟨ce180, hce180, hMe180, hcc180⟩ := Kd.S_get HO_7.out [] x9_1 p180 (by first | exact q180 | exact of_decide_eq_true (by first | (with_reducible assumption) | assumption) | (have e_ := (Kd.S_reads' HO_7.out).1; omega))
                                                            obtain ⟨ve180_0, rfl, ge180_0⟩ := hMe180
                                                            have hv180_0 := hcc180 0 _ rfl
                                                            rw [Nat.add_zero, show ((Kd.slice 3 (Kd.int .i64))).sz = 1 from rfl, Nat.mul_one] at hv180_0
                                                            replace hv180_0 := Option.some.inj (hv180_0.symm.trans hx180_0)
                                                            rw [hv180_0] at ge180_0
                                                            have HL180_0 := Aside0.mk (show Kd.R (Kd.int .i64) 3 _ _ _ _ (rd_L5 t168 x9_1) from ge180_0)
                                                            clear hv180_0 ge180_0
                                                            clear hcc180 hce180
                                                            have HR180_0 := Aside0.mk hi180_0
                                                            have HC180_0 := Aside0.mk hl180_0
                                                            clear hi180_0 hl180_0
                                                            replace p180 := eq_true p180
                                                            replace q180 := eq_true q180
                                                            have p181 : 0 ≤ (x10_1 : Int) := of_decide_eq_true (by first | (with_reducible assumption) | assumption)
                                                            have q181 : x10_1 < ((rd_L5 t168 x9_1).length : Int) := of_decide_eq_true (by first | (with_reducible assumption) | assumption)
                                                            obtain ⟨ad181, e181, hx181_0⟩ := Kd.at_int (by repeat (first | (with_reducible exact HR180_0.out) | (with_reducible refine Kd.C_alloc ?_ _) | (with_reducible refine Kd.C_drewN ?_ _) | (with_reducible refine Kd.C_drew ?_) | exact HR180_0.out)) x10_1 p181 q181
                                                            cases e181
                                                            replace p181 := eq_true p181
                                                            replace q181 := eq_true q181
                                                            go_wp2
                                                            repeat (go_quiet (fail); try go_wp2)
                                                            go_roundg k4
                                                            case measure => have := HK1.out; have := HK2.out; have := HJ11.out; have := HK4.out; omega
                                                            case rel => exact ⟨(ji26), (((wrap64 (1 + (rd (rd_L5 t168 (ji23)) (ji26)))) == (rd (rd_L5 t168 x9_1) x10_1))), (by first | rfl | (simp; done) | (simp only [← hji26] <;> (first | rfl | simp)) | (simp [*]; done)), (by first | rfl | (simp; done) | (simp only [← hji23, ← hji26] <;> (first | rfl | simp)) | (simp [*]; done)), H', ⟨by have := HK1.out; have := HK2.out; have := HJ11.out; have := HK4.out; omega⟩, ⟨by (with_reducible repeat (first | apply Kd.S_alloc | apply Kd.S_drewN | apply Kd.S_drew)); exact HO_7.out⟩, ⟨by (with_reducible repeat (first | apply Kd.R_alloc | apply Kd.R_drewN | apply Kd.R_drew)); exact HO_8.out⟩, ⟨by repeat (first | (with_reducible exact HR171_0.out) | (with_reducible refine Kd.C_alloc ?_ _) | (with_reducible refine Kd.C_drewN ?_ _) | (with_reducible refine Kd.C_drew ?_) | exact HR171_0.out)⟩, ⟨by repeat (first | (with_reducible first | exact HB.out | apply below_alloc | apply pw_below_drewN | apply below_drew1) | exact HB.out)⟩⟩
                                                          · rw [if_neg c32] at H
                                                            exact absurd H (by simp)
                                                        · rw [if_neg c31] at H
                                                          exact absurd H (by simp)
                                                      · rw [if_neg c30] at H
                                                        exact absurd H (by simp)
                                                    · rw [if_neg c29] at H
                                                      exact absurd H (by simp)
                                                  · rw [if_neg c28] at H
                                                    exact absurd H (by simp)
                                                · rw [if_neg c27] at H
                                                  exact absurd H (by simp)
                                              · rw [if_neg c25] at H
                                                exact absurd H (by simp)
                                            · rw [if_neg c24] at H
                                              exact absurd H (by simp)
                                          · replace c22 := Bool.eq_false_iff.mpr c22
                                            subst c22
                                            have H1 : (emenderref23_pairs.l2 k4 l0 a1 a2 t168 x8_1 x9_1 x10_1 x11_2 (wrap64 (x12_4 + 1)) false) = some r := by rw [if_neg (show ¬ (false = true) by decide)] at H; exact H
                                            clear H
                                            have H := H1
                                            clear H1
                                            have H' := Aside0.mk H
                                            clear H
                                            have p176 : 0 ≤ (x11_2 : Int) := of_decide_eq_true (by first | (with_reducible assumption) | assumption)
                                            have q176 : x11_2 < (l0.length : Int) := of_decide_eq_true (by first | (with_reducible assumption) | assumption)
                                            obtain ⟨ad176, A176_0, c176_0, e176, hx176_0, hl176_0, hi176_0⟩ := at_L7 HR0.out x11_2 p176 q176
                                            cases e176
                                            replace hx176_0 := (HB.out.cell (World.block_lt_of_cell? w _ hx176_0)).trans hx176_0
                                            have HR176_0 := Aside0.mk hi176_0
                                            have HC176_0 := Aside0.mk hl176_0
                                            clear hi176_0 hl176_0
                                            replace p176 := eq_true p176
                                            replace q176 := eq_true q176
                                            have p177 : 0 ≤ (x12_4 : Int) := of_decide_eq_true (by first | (with_reducible assumption) | assumption)
                                            have q177 : x12_4 < ((rd_L7 l0 x11_2).length : Int) := of_decide_eq_true (by first | (with_reducible assumption) | assumption)
                                            obtain ⟨ad177, e177, hx177_0⟩ := Kd.at_bool HR176_0.out x12_4 p177 q177
                                            (try rw [← Nbq21.out] at hx177_0)
                                            cases e177
                                            replace hx177_0 := (HB.out.cell (World.block_lt_of_cell? w _ hx177_0)).trans hx177_0
                                            replace p177 := eq_true p177
                                            replace q177 := eq_true q177
                                            go_wp2
                                            repeat (go_quiet (fail); try go_wp2)
                                            go_roundg k4
                                            case measure => have := HK1.out; have := HK2.out; have := HJ11.out; have := HK4.out; omega
                                            case rel => exact ⟨(wrap64 (x12_4 + 1)), (false), (by first | rfl | (simp; done) | (simp [*]; done)), (by first | rfl | (simp; done) | (simp [*]; done)), H', ⟨by have := HK1.out; have := HK2.out; have := HJ11.out; have := HK4.out; omega⟩, ⟨by (with_reducible repeat (first | apply Kd.S_alloc | apply Kd.S_drewN | apply Kd.S_drew)); exact HO_7.out⟩, ⟨by (with_reducible repeat (first | apply Kd.R_alloc | apply Kd.R_drewN | apply Kd.R_drew)); exact HO_8.out⟩, ⟨by repeat (first | (with_reducible exact HR171_0.out) | (with_reducible refine Kd.C_alloc ?_ _) | (with_reducible refine Kd.C_drewN ?_ _) | (with_reducible refine Kd.C_drew ?_) | exact HR171_0.out)⟩, ⟨by repeat (first | (with_reducible first | exact HB.out | apply below_alloc | apply pw_below_drewN | apply below_drew1) | exact HB.out)⟩⟩
                                        · rw [if_neg c20] at H
                                          exact absurd H (by simp)
                                      · rw [if_neg c19] at H
                                        exact absurd H (by simp)
                                    · rw [if_neg c18] at H
                                      exact absurd H (by simp)
                                  · rw [if_neg c17] at H
                                    exact absurd H (by simp)
                              · rw [if_neg c15] at H
                                have c15b0 : decide (x12_4 < a2) = false := decide_eq_false c15
                                clear c15
                                have H' := Aside0.mk H
                                clear H
                                go_wp2
                                repeat (go_quiet (fail); try go_wp2)
                                go_roundg k4
                                case measure => have := HK1.out; have := HK2.out; have := HJ11.out; have := HK4.out; omega
                                case rel => exact ⟨(wrap64 (x11_2 + 1)), (x12_4), (x13_4), (by first | rfl | (simp; done) | (simp [*]; done)), (by first | rfl | (simp; done) | (simp [*]; done)), (by first | rfl | (simp; done) | (simp [*]; done)), H', ⟨by have := HK1.out; have := HK2.out; have := HJ11.out; have := HK4.out; omega⟩, ⟨by (with_reducible repeat (first | apply Kd.S_alloc | apply Kd.S_drewN | apply Kd.S_drew)); exact HO_7.out⟩, ⟨by (with_reducible repeat (first | apply Kd.R_alloc | apply Kd.R_drewN | apply Kd.R_drew)); exact HO_8.out⟩, ⟨by repeat (first | (with_reducible exact HR171_0.out) | (with_reducible refine Kd.C_alloc ?_ _) | (with_reducible refine Kd.C_drewN ?_ _) | (with_reducible refine Kd.C_drew ?_) | exact HR171_0.out)⟩, ⟨by repeat (first | (with_reducible first | exact HB.out | apply below_alloc | apply pw_below_drewN | apply below_drew1) | exact HB.out)⟩⟩
                        · replace c14 := Bool.eq_false_iff.mpr c14
                          subst c14
                          have H1 : (if x8_1.length < 8796093022208 then (emenderref23_pairs.l0 kj11 l0 a1 a2 t168 (x8_1 ++ [(⟨wrap64 (x11_2 - 1), wrap64 (x12_2 - 1)⟩ : S76)]) x11_2 x12_2) else (none)) = some r := by rw [if_neg (show ¬ (false = true) by decide)] at H; exact H
                          clear H
                          have H := H1
                          clear H1
                          by_cases c33 : x8_1.length < 8796093022208
                          · rw [if_pos c33] at H
                            have LMc33 := Aside0.mk c33
                            clear c33
                            obtain ⟨y173, hy173⟩ : ∃ y_ : List (S76), y_ = (x8_1 ++ [(⟨wrap64 (x11_2 - 1), wrap64 (x12_2 - 1)⟩ : S76)]) := ⟨_, rfl⟩
                            replace H : (emenderref23_pairs.l0 kj11 l0 a1 a2 t168 y173 x11_2 x12_2) = some r := by first | (rw [hy173]; with_reducible exact H) | (have H2_ := (Option.bind_some _ _).symm.trans H; rw [hy173]; with_reducible exact H2_) | (have H2_ := (Option.bind_some _ _).symm.trans H; with_reducible exact H2_) | with_reducible exact H | (rw [hy173]; exact H) | exact H
                            have Ny173 := Aside0.mk hy173
                            clear hy173
                            have H' := Aside0.mk H
                            clear H
                            go_wp2_with (first | ((with_reducible refine gate_builtin (b := .append) (xs := #[.tmp 75, .tmp 81]) rfl ?_); at_builtin; refine Kd.R_append k76 (w0 := w) w.heap.size rfl (.tmp 75) (.tmp 81) 26 76 (.agg #[(.int .i64 0), (.int .i64 0)]) 16 rfl Try.underlying26 info76 rfl (by decide) (by omega) u8 x8_1 (⟨wrap64 (x11_2 - 1), wrap64 (x12_2 - 1)⟩ : S76) [.int .i64 (wrap64 (x11_2 - 1)), .int .i64 (wrap64 (x12_2 - 1))] (fun _ => True) (fun _ => False) rfl rfl ?aP (fun _ hk => hk.elim) ?aF ?aO ?aB ?aS ?aL ?_; (case aP => exact k76_mkM _ _ _ (⟨wrap64 (x11_2 - 1), wrap64 (x12_2 - 1)⟩ : S76)); (case aB => exact (by repeat (first | (with_reducible first | exact HB.out | apply below_alloc | apply pw_below_drewN | apply below_drew1) | exact HB.out))); (case aF => exact (fun _ _ => trivial)); (case aO => exact (by (with_reducible repeat (first | apply Kd.R_alloc | apply Kd.R_drewN | apply Kd.R_drew)); exact HO_8.out)); (case aS => exact (below_size (by repeat (first | (with_reducible first | exact HB.out | apply below_alloc | apply pw_below_drewN | apply below_drew1) | exact HB.out)))); (case aL => have := LMc33.out; omega); intro v174 w34 ho hb hg hat; rw [← Ny173.out] at ho; have n0_ := Aside0.mk (Kd.S_over' (by (with_reducible repeat (first | apply Kd.S_alloc | apply Kd.S_drewN | apply Kd.S_drew)); exact HO_7.out) (Kd.R_typed (by (with_reducible repeat (first | apply Kd.R_alloc | apply Kd.R_drewN | apply Kd.R_drew)); exact HO_8.out)) (by decide) hg); have n1_ := Aside0.mk (hb); have n2_ := Aside0.mk (ho); clear HO_7; clear HB; clear HO_8; have HO_7 := n0_; have HB := n1_; have HO175 := n2_; clear n0_ n1_ n2_; clear ho hb hg hat))
                            repeat (go_quiet (first | ((with_reducible refine gate_builtin (b := .append) (xs := #[.tmp 75, .tmp 81]) rfl ?_); at_builtin; refine Kd.R_append k76 (w0 := w) w.heap.size rfl (.tmp 75) (.tmp 81) 26 76 (.agg #[(.int .i64 0), (.int .i64 0)]) 16 rfl Try.underlying26 info76 rfl (by decide) (by omega) u8 x8_1 (⟨wrap64 (x11_2 - 1), wrap64 (x12_2 - 1)⟩ : S76) [.int .i64 (wrap64 (x11_2 - 1)), .int .i64 (wrap64 (x12_2 - 1))] (fun _ => True) (fun _ => False) rfl rfl ?aP (fun _ hk => hk.elim) ?aF ?aO ?aB ?aS ?aL ?_; (case aP => exact k76_mkM _ _ _ (⟨wrap64 (x11_2 - 1), wrap64 (x12_2 - 1)⟩ : S76)); (case aB => exact (by repeat (first | (with_reducible first | exact HB.out | apply below_alloc | apply pw_below_drewN | apply below_drew1) | exact HB.out))); (case aF => exact (fun _ _ => trivial)); (case aO => exact (by (with_reducible repeat (first | apply Kd.R_alloc | apply Kd.R_drewN | apply Kd.R_drew)); exact HO_8.out)); (case aS => exact (below_size (by repeat (first | (with_reducible first | exact HB.out | apply below_alloc | apply pw_below_drewN | apply below_drew1) | exact HB.out)))); (case aL => have := LMc33.out; omega); intro v174 w34 ho hb hg hat; rw [← Ny173.out] at ho; have n0_ := Aside0.mk (Kd.S_over' (by (with_reducible repeat (first | apply Kd.S_alloc | apply Kd.S_drewN | apply Kd.S_drew)); exact HO_7.out) (Kd.R_typed (by (with_reducible repeat (first | apply Kd.R_alloc | apply Kd.R_drewN | apply Kd.R_drew)); exact HO_8.out)) (by decide) hg); have n1_ := Aside0.mk (hb); have n2_ := Aside0.mk (ho); clear HO_7; clear HB; clear HO_8; have HO_7 := n0_; have HB := n1_; have HO175 := n2_; clear n0_ n1_ n2_; clear ho hb hg hat)); try go_wp2_with (first | ((with_reducible refine gate_builtin (b := .append) (xs := #[.tmp 75, .tmp 81]) rfl ?_); at_builtin; refine Kd.R_append k76 (w0 := w) w.heap.size rfl (.tmp 75) (.tmp 81) 26 76 (.agg #[(.int .i64 0), (.int .i64 0)]) 16 rfl Try.underlying26 info76 rfl (by decide) (by omega) u8 x8_1 (⟨wrap64 (x11_2 - 1), wrap64 (x12_2 - 1)⟩ : S76) [.int .i64 (wrap64 (x11_2 - 1)), .int .i64 (wrap64 (x12_2 - 1))] (fun _ => True) (fun _ => False) rfl rfl ?aP (fun _ hk => hk.elim) ?aF ?aO ?aB ?aS ?aL ?_; (case aP => exact k76_mkM _ _ _ (⟨wrap64 (x11_2 - 1), wrap64 (x12_2 - 1)⟩ : S76)); (case aB => exact (by repeat (first | (with_reducible first | exact HB.out | apply below_alloc | apply pw_below_drewN | apply below_drew1) | exact HB.out))); (case aF => exact (fun _ _ => trivial)); (case aO => exact (by (with_reducible repeat (first | apply Kd.R_alloc | apply Kd.R_drewN | apply Kd.R_drew)); exact HO_8.out)); (case aS => exact (below_size (by repeat (first | (with_reducible first | exact HB.out | apply below_alloc | apply pw_below_drewN | apply below_drew1) | exact HB.out)))); (case aL => have := LMc33.out; omega); intro v174 w34 ho hb hg hat; rw [← Ny173.out] at ho; have n0_ := Aside0.mk (Kd.S_over' (by (with_reducible repeat (first | apply Kd.S_alloc | apply Kd.S_drewN | apply Kd.S_drew)); exact HO_7.out) (Kd.R_typed (by (with_reducible repeat (first | apply Kd.R_alloc | apply Kd.R_drewN | apply Kd.R_drew)); exact HO_8.out)) (by decide) hg); have n1_ := Aside0.mk (hb); have n2_ := Aside0.mk (ho); clear HO_7; clear HB; clear HO_8; have HO_7 := n0_; have HB := n1_; have HO175 := n2_; clear n0_ n1_ n2_; clear ho hb hg hat)))
                            go_roundg kj11
                            case measure => have := HK1.out; have := HK2.out; have := HJ11.out; omega
                            case rel => exact ⟨(y173), (x11_2), (x12_2), (by first | rfl | (simp; done) | (simp [*]; done)), (by first | rfl | (simp; done) | (simp [*]; done)), H', ⟨by have := HK1.out; have := HK2.out; have := HJ11.out; omega⟩, ⟨by (with_reducible repeat (first | apply Kd.S_alloc | apply Kd.S_drewN | apply Kd.S_drew)); exact HO_7.out⟩, ⟨by (with_reducible repeat (first | apply Kd.R_alloc | apply Kd.R_drewN | apply Kd.R_drew)); exact HO175.out⟩, ⟨by repeat (first | (with_reducible first | exact HB.out | apply below_alloc | apply pw_below_drewN | apply below_drew1) | exact HB.out)⟩⟩
                          · rw [if_neg c33] at H
                            exact absurd H (by simp)
              · rw [if_neg c10] at H
                have c10b0 : decide (0 < (rd (rd_L5 t168 x9_1) x10_1)) = false := decide_eq_false c10
                clear c10
                obtain rfl := Option.some.inj H
                obtain ⟨Ao35, co35, eo35⟩ := Kd.S_slice HO_7.out
                subst eo35
                have p171 : 0 ≤ (x9_1 : Int) := of_decide_eq_true (by first | (with_reducible assumption) | assumption)
                have q171 : x9_1 < (t168.length : Int) := of_decide_eq_true (by first | (with_reducible assumption) | assumption)
                obtain ⟨ad171, A171_0, c171_0, e171, hx171_0, hl171_0, hi171_0⟩ := at_L5 (Kd.S_reads' HO_7.out).2.2 x9_1 p171 q171
                cases e171
                obtain ⟨ce171, hce171, hMe171, hcc171⟩ := Kd.S_get HO_7.out [] x9_1 p171 (by first | exact q171 | exact of_decide_eq_true (by first | (with_reducible assumption) | assumption) | (have e_ := (Kd.S_reads' HO_7.out).1; omega))
                obtain ⟨ve171_0, rfl, ge171_0⟩ := hMe171
                have hv171_0 := hcc171 0 _ rfl
                rw [Nat.add_zero, show ((Kd.slice 3 (Kd.int .i64))).sz = 1 from rfl, Nat.mul_one] at hv171_0
                replace hv171_0 := Option.some.inj (hv171_0.symm.trans hx171_0)
                rw [hv171_0] at ge171_0
                have HL171_0 := Aside0.mk (show Kd.R (Kd.int .i64) 3 _ _ _ _ (rd_L5 t168 x9_1) from ge171_0)
                clear hv171_0 ge171_0
                clear hcc171 hce171
                have HR171_0 := Aside0.mk hi171_0
                have HC171_0 := Aside0.mk hl171_0
                clear hi171_0 hl171_0
                replace p171 := eq_true p171
                replace q171 := eq_true q171
                have p172 : 0 ≤ (x10_1 : Int) := of_decide_eq_true (by first | (with_reducible assumption) | assumption)
                have q172 : x10_1 < ((rd_L5 t168 x9_1).length : Int) := of_decide_eq_true (by first | (with_reducible assumption) | assumption)
                obtain ⟨ad172, e172, hx172_0⟩ := Kd.at_int (by repeat (first | (with_reducible exact HR171_0.out) | (with_reducible refine Kd.C_alloc ?_ _) | (with_reducible refine Kd.C_drewN ?_ _) | (with_reducible refine Kd.C_drew ?_) | exact HR171_0.out)) x10_1 p172 q172
                cases e172
                replace p172 := eq_true p172
                replace q172 := eq_true q172
                go_wp2
                repeat (go_quiet (fail); try go_wp2)
                go_ret
                exact ⟨_, by first | rfl | (simp [errW_none, errW_some] <;> rfl) | (simp [*, errW_none, errW_some] <;> rfl), by (with_reducible repeat (first | apply Kd.R_alloc | apply Kd.R_drewN | apply Kd.R_drew)); exact HO_8.out, by repeat (first | (with_reducible first | exact HB.out | apply below_alloc | apply pw_below_drewN | apply below_drew1) | exact HB.out)⟩
            · rw [if_neg c9] at H
              exact absurd H (by simp)
          · rw [if_neg c8] at H
            exact absurd H (by simp)
        · rw [if_neg c7] at H
          exact absurd H (by simp)
      · rw [if_neg c6] at H
        exact absurd H (by simp)

end Go.Proofs.Ytjpmlggkhhoooaa.PDp
