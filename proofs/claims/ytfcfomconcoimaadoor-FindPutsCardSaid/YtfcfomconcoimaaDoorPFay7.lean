-- Written for this claim by a program (printed texts under one roof).
import Derived.Test.YtfcfomconcoimaaDoorPFax0
import Derived.Test.YtfcfomconcoimaaDoorPFay4
import Derived.Test.YtfcfomconcoimaaDoorPFay6
namespace Go.Proofs.YtfcfomconcoimaaDoor.PFa
open Go.RowKit Go.Proofs.YtfcfomconcoimaaDoorW.PrintWords Go.Proofs.YtfcfomconcoimaaDoorW.PrintLast Go.Proofs.YtfcfomconcoimaaDoorW.PrintMore
attribute [local go_sem] max2_int min2_int max_two min_two max_three min_three max_four min_four
set_option linter.unusedVariables false
set_option linter.unusedSimpArgs false
def emenderref09_join.l0 : Nat → List (List (S48)) → List (S48) → Int → Option ((List (S48)))
|0, _, _, _ => none
|k + 1, x0, x3, x4 => if x4 < (x0.length : Int) then (if 0 ≤ x4 then (if x3.length + (rd_L2 x0 x4).length < 4398046511104 then (emenderref09_join.l0 k x0 (x3 ++ (rd_L2 x0 x4)) (wrap64 (x4 + 1))) else (none)) else (none)) else (some x3)
def emenderref09_join.f (k : Nat) (l0 : List (List (S48))) : Option ((List (S48))) := emenderref09_join.l0 k l0 ([] : List (S48)) 0
set_option maxHeartbeats 8000000 in
set_option maxRecDepth 100000 in
theorem emenderref09_join.calls (k : Nat) (A0 : Option Addr) (c0 : Nat) (l0 : List (List (S48))) (r : List (S48)) (w : World) (hr0 : Kd.C (Kd.slice 48 k48) w A0 l0.length l0) (hc0 : l0.length ≤ c0) (h : emenderref09_join.f k l0 = some r) :
  Calls Tryd.prog 55 #[.slice A0 l0.length c0] w fun e w' => ∃ v0_ : Value, e = .returned (v0_) ∧ Kd.R k48 48 w' w.heap.size (fun _ => True) v0_ r ∧ Below w.heap.size w w' := by
 have HR0 := aM hr0
 have HC0 := aM hc0
 clear hr0 hc0
 have HB := aM (Below.refl w.heap.size w)
 have H : (emenderref09_join.l0 k l0 ([] : List (S48)) 0) = some r := h
 clear h
 have H' := aM H
 clear H
 go_enter Tryd.func55, Tryd.ntmps55
 go_wp2
 go_loopg [3, 4] k (fun kq v3 v4 w' => ∃ (x3_1 : List (S48)) (x4_1 : Int), v4 = .int .i64 x4_1 ∧ Aside0 (emenderref09_join.l0 kq l0 x3_1 x4_1 = some r) ∧ Aside0 (kq ≤ k) ∧ Aside0 (Kd.R k48 48 w' w.heap.size (fun _ => True) v3 x3_1) ∧ Aside0 (Below w.heap.size w w'))
 case atStart => exact ⟨(([] : List (S48))), (0), (by first|rfl|(simp; done)|(simp [*]; done)), H', ⟨Nat.le_refl _⟩, ⟨by first|exact Kd.R_nil _ _ _ _ _|exact Kd.N_nil _ _ _ _ _|exact Kd.V_nil _ _ _ _ _|exact Kd.Q_nil _ _ _ _ _|exact Kd.S_nil _ _ _ _ _⟩, ⟨by repeat (first|(with_reducible first|exact HB.out|apply lA|apply lN|apply lD)|exact HB.out)⟩⟩
 case round =>
  clear H'
  obtain ⟨x3_1, x4_1, rfl, HA, HK1, HO_3, HB⟩ := hrel
  cases gk with
 |zero => exact absurd HA.out (by simp [emenderref09_join.l0])
 |succ k1 =>
   have H := HA.out
   clear HA
   simp only [emenderref09_join.l0] at H
   by_cases c2 : x4_1 < (l0.length : Int)
   ·rw [if_pos c2] at H
    have c2b0 : decide (x4_1 < (l0.length : Int)) = true := decide_eq_true c2
    clear c2
    replace H := ifS H; obtain ⟨c3, H⟩ := H
    have c3b0 : decide (0 ≤ x4_1) = true := decide_eq_true c3
    clear c3
    replace H := ifS H; obtain ⟨c4, H⟩ := H
    have LMc4 := aM c4
    clear c4
    obtain ⟨y361, hy361⟩ : ∃ y_ : List (S48), y_ = (x3_1 ++ (rd_L2 l0 x4_1)) := ⟨_, rfl⟩
    replace H : (emenderref09_join.l0 k1 l0 y361 (wrap64 (x4_1 + 1))) = some r := by first|(rw [hy361]; with_reducible exact H)|(have H2_ := (Option.bind_some _ _).symm.trans H; rw [hy361]; with_reducible exact H2_)|(have H2_ := (Option.bind_some _ _).symm.trans H; with_reducible exact H2_)|with_reducible exact H|(rw [hy361]; exact H)|exact H
    have Ny361 := aM hy361
    clear hy361
    have H' := aM H
    clear H
    have p360 : 0 ≤ (x4_1 : Int) := of_decide_eq_true (by assumption)
    have q360 : x4_1 < (l0.length : Int) := of_decide_eq_true (by assumption)
    obtain ⟨ad360, A360_0, c360_0, e360, hx360_0, hl360_0, hi360_0⟩ := at_L2 HR0.out x4_1 p360 q360
    cases e360
    replace hx360_0 := cB HB.out hx360_0
    have HR360_0 := aM hi360_0
    have HC360_0 := aM hl360_0
    clear hi360_0 hl360_0
    replace p360 := eq_true p360
    replace q360 := eq_true q360
    go_wp2_with (first|((with_reducible refine gate_builtin (b := .append) (xs := #[.tmp 11, .tmp 15]) rfl ?_); at_builtin; refine Kd.R_append_rows k48 (w0 := w) w.heap.size rfl (.tmp 11) (.tmp 15) 22 48 (.agg #[(.int .i64 0), (.int .i64 0), (.int .i64 0), (.int .i64 0)]) 32 rfl Tryd.underlying22 info48 rfl (by decide) (by omega) u3 x3_1 (rd_L2 l0 x4_1) _ _ _ (fun _ => True) (fun _ => False) rfl rfl ?aO ?aR (fun _ _ h => h) (fun _ h => h.elim) ?aF ?aB ?aS ?aL ?_; (case aR => repeat (first|exact (Kd.C_below HR360_0.out HB.out)|(with_reducible refine Kd.C_alloc ?_ _)|(with_reducible refine Kd.C_drewN ?_ _)|(with_reducible refine Kd.C_drew ?_))); (case aB => exact (by repeat (first|(with_reducible first|exact HB.out|apply lA|apply lN|apply lD)|exact HB.out))); (case aF => exact (fun _ _ => trivial)); (case aO => exact (by (with_reducible repeat (first|apply Kd.R_alloc|apply Kd.R_drewN|apply Kd.R_drew)); exact HO_3.out)); (case aS => exact (below_size (by repeat (first|(with_reducible first|exact HB.out|apply lA|apply lN|apply lD)|exact HB.out)))); (case aL => have := LMc4.out; omega); intro v362 w5 ho hb hg hat; rw [← Ny361.out] at ho; have n0_ := aM (hb); have n1_ := aM (ho); clear HB; clear HO_3; have HB := n0_; have HO363 := n1_; clear n0_ n1_; clear ho hb hg hat))
    go_roundg k1
    case measure => have := HK1.out; omega
    case rel => exact ⟨(y361), (wrap64 (x4_1 + 1)), (by first|rfl|(simp; done)|(simp [*]; done)), H', ⟨by have := HK1.out; omega⟩, ⟨by (with_reducible repeat (first|apply Kd.R_alloc|apply Kd.R_drewN|apply Kd.R_drew)); exact HO363.out⟩, ⟨by repeat (first|(with_reducible first|exact HB.out|apply lA|apply lN|apply lD)|exact HB.out)⟩⟩
   ·rw [if_neg c2] at H
    have c2b0 : decide (x4_1 < (l0.length : Int)) = false := decide_eq_false c2
    clear c2
    obtain rfl := Option.some.inj H
    go_wp2
    go_ret
    exact ⟨_, by first|rfl|(simp [errW_none, errW_some] <;> rfl)|(simp [*, errW_none, errW_some] <;> rfl), by (with_reducible repeat (first|apply Kd.R_alloc|apply Kd.R_drewN|apply Kd.R_drew)); exact HO_3.out, by repeat (first|(with_reducible first|exact HB.out|apply lA|apply lN|apply lD)|exact HB.out)⟩
def emenderref03_is.f (a0 : Int) : Option (Bool) := if a0 = 1 then (some true) else (if a0 = 2 then (some true) else (some (a0 == 4)))
set_option maxHeartbeats 8000000 in
set_option maxRecDepth 100000 in
theorem emenderref03_is.calls (a0 : Int) (r : Bool) (w : World) (h : emenderref03_is.f a0 = some r) :
  Calls Tryd.prog 62 #[.int .i64 a0] w fun e w' => e = .returned (.bool r) ∧ Drawn0 w w' := by
 have H : (if a0 = 1 then (some true) else (if a0 = 2 then (some true) else (some (a0 == 4)))) = some r := h
 clear h
 by_cases c2 : a0 = 1
 ·rw [if_pos c2] at H
  have c2b0 : (a0 == 1) = true := beq_iff_eq.mpr c2
  have c2b1 : (a0 != 1) = false := bne_eq_false_iff_eq.mpr c2
  clear c2
  obtain rfl := Option.some.inj H
  go_enter Tryd.func62, Tryd.ntmps62
  go_wp2
  go_ret
  exact ⟨by first|rfl|(simp; done)|(simp [*]; done), by repeat (first|exact Drawn0.refl _|apply Drawn0.step)⟩
 ·rw [if_neg c2] at H
  have c2b0 : (a0 == 1) = false := beq_eq_false_iff_ne.mpr c2
  have c2b1 : (a0 != 1) = true := bne_iff_ne.mpr c2
  by_cases c3 : a0 = 2
  ·rw [if_pos c3] at H
   have c3b0 : (a0 == 2) = true := beq_iff_eq.mpr c3
   have c3b1 : (a0 != 2) = false := bne_eq_false_iff_eq.mpr c3
   clear c3
   obtain rfl := Option.some.inj H
   go_enter Tryd.func62, Tryd.ntmps62
   go_wp2
   go_ret
   exact ⟨by first|rfl|(simp; done)|(simp [*]; done), by repeat (first|exact Drawn0.refl _|apply Drawn0.step)⟩
  ·rw [if_neg c3] at H
   have c3b0 : (a0 == 2) = false := beq_eq_false_iff_ne.mpr c3
   have c3b1 : (a0 != 2) = true := bne_iff_ne.mpr c3
   obtain rfl := Option.some.inj H
   go_enter Tryd.func62, Tryd.ntmps62
   go_wp2
   go_ret
   exact ⟨by first|rfl|(simp; done)|(simp [*]; done), by repeat (first|exact Drawn0.refl _|apply Drawn0.step)⟩
def emenderref03_Add.j0 : Nat → Int → Int → Bool → Option (Int × Int)
|0, _, _, _ => none
|k + 1, x0, x1, x17 => if x17 = true then (some (4, 0)) else (some (Go.bits .or .i64 x0 x1, 0))
def emenderref03_Add.f (k : Nat) (a0 : Int) (a1 : Int) : Option (Int × Int) := (emenderref03_is.f a1).bind fun t364 => (if t364 = true then ((emenderref03_Right.f a0).bind fun t365 => (if t365 = true then (if a0 = 4 then (emenderref03_Add.j0 k a0 a1 true) else (emenderref03_Add.j0 k a0 a1 (a1 == 4))) else (some (0, 4)))) else (some (0, 1)))
set_option maxHeartbeats 8000000 in
set_option maxRecDepth 100000 in
theorem emenderref03_Add.calls (k : Nat) (a0 : Int) (a1 : Int) (r1 : Int) (r2 : Int) (w : World) (h : emenderref03_Add.f k a0 a1 = some (r1, r2)) :
  Calls Tryd.prog 59 #[.int .i64 a0, .int .i64 a1] w fun e w' => e = .returned (.tuple #[.int .i64 r1, .int .i64 r2]) ∧ Drawn0 w w' := by
 have H : ((emenderref03_is.f a1).bind fun t364 => (if t364 = true then ((emenderref03_Right.f a0).bind fun t365 => (if t365 = true then (if a0 = 4 then (emenderref03_Add.j0 k a0 a1 true) else (emenderref03_Add.j0 k a0 a1 (a1 == 4))) else (some (0, 4)))) else (some (0, 1)))) = some (r1, r2) := h
 clear h
 replace H := Option.bind_eq_some_iff.mp H
 obtain ⟨t364, A30, H⟩ := H
 replace H : (if t364 = true then ((emenderref03_Right.f a0).bind fun t365 => (if t365 = true then (if a0 = 4 then (emenderref03_Add.j0 k a0 a1 true) else (emenderref03_Add.j0 k a0 a1 (a1 == 4))) else (some (0, 4)))) else (some (0, 1))) = some (r1, r2) := H
 have A3 := aM A30
 clear A30
 by_cases c4 : t364 = true
 ·subst c4
  have H1 : ((emenderref03_Right.f a0).bind fun t365 => (if t365 = true then (if a0 = 4 then (emenderref03_Add.j0 k a0 a1 true) else (emenderref03_Add.j0 k a0 a1 (a1 == 4))) else (some (0, 4)))) = some (r1, r2) := by rw [if_pos rfl] at H; exact H
  clear H
  have H := H1
  clear H1
  replace H := Option.bind_eq_some_iff.mp H
  obtain ⟨t365, A50, H⟩ := H
  replace H : (if t365 = true then (if a0 = 4 then (emenderref03_Add.j0 k a0 a1 true) else (emenderref03_Add.j0 k a0 a1 (a1 == 4))) else (some (0, 4))) = some (r1, r2) := H
  have A5 := aM A50
  clear A50
  by_cases c6 : t365 = true
  ·subst c6
   have H1 : (if a0 = 4 then (emenderref03_Add.j0 k a0 a1 true) else (emenderref03_Add.j0 k a0 a1 (a1 == 4))) = some (r1, r2) := by rw [if_pos rfl] at H; exact H
   clear H
   have H := H1
   clear H1
   have HC7 := aM H
   clear H
   go_enter Tryd.func59, Tryd.ntmps59
   go_upto_region 5 with (first|((with_reducible refine gate_callee (f := 62) rfl ?_); refine goesL_ (some 7) rfl rfl Tryd.func62 (by kernel_rfl) rfl #[.int .i64 a1] rfl (by (try simp only [List.map_toArray, List.map_cons, List.map_nil]); first|done|rfl|(simp only [List.length_drop, List.length_take]; rfl)) ?_; (with_reducible refine (emenderref03_is.calls a1 true _ A3.out).mono ?_); rintro e w' ⟨rfl, ⟨nd, rfl⟩⟩; refine ⟨_, rfl, ?_⟩)|((with_reducible refine gate_callee (f := 50) rfl ?_); refine goesL_ (some 10) rfl rfl Tryd.func50 (by kernel_rfl) rfl #[.int .i64 a0] rfl (by (try simp only [List.map_toArray, List.map_cons, List.map_nil]); first|done|rfl|(simp only [List.length_drop, List.length_take]; rfl)) ?_; (with_reducible refine (emenderref03_Right.calls a0 true _ A5.out).mono ?_); rintro e w' ⟨rfl, ⟨nd, rfl⟩⟩; refine ⟨_, rfl, ?_⟩))
   (try simp only [Act.put, List.setIfInBounds_toArray, List.set_cons_zero, List.set_cons_succ])
   go_cut [17] (fun v17 wc => ∃ (kq : Nat) (x17_6 : Bool), v17 = .bool x17_6 ∧ Aside0 (emenderref03_Add.j0 kq a0 a1 x17_6 = some (r1, r2)) ∧ Aside0 (kq ≤ k) ∧ Drawn0 w wc)
   case first =>
    have H := HC7.out
    clear HC7
    by_cases c8 : a0 = 4
    ·rw [if_pos c8] at H
     have c8b0 : (a0 == 4) = true := beq_iff_eq.mpr c8
     have c8b1 : (a0 != 4) = false := bne_eq_false_iff_eq.mpr c8
     clear c8
     (first|rw [c8b0]|(simp only [i64_w, i32_w]; rw [c8b0])|skip)
     have H' := aM H
     clear H
     go_wp2
     go_meet
     case rel => exact ⟨_, (true), (by first|rfl|(simp; done)|(simp [*]; done)), H', ⟨by first|omega|exact Nat.le_refl _⟩, by repeat (first|exact Drawn0.refl _|apply Drawn0.step)⟩
    ·rw [if_neg c8] at H
     have c8b0 : (a0 == 4) = false := beq_eq_false_iff_ne.mpr c8
     have c8b1 : (a0 != 4) = true := bne_iff_ne.mpr c8
     (first|rw [c8b0]|(simp only [i64_w, i32_w]; rw [c8b0])|skip)
     have H' := aM H
     clear H
     go_wp2
     go_meet
     case rel => exact ⟨_, ((a1 == 4)), (by first|rfl|(simp; done)|(simp [*]; done)), H', ⟨by first|omega|exact Nat.le_refl _⟩, by repeat (first|exact Drawn0.refl _|apply Drawn0.step)⟩
   case rest =>
    clear HC7
    obtain ⟨kq, x17_6, rfl, HA, HJ6, ⟨mc6, rfl⟩⟩ := hcut
    cases kq with
   |zero => exact absurd HA.out (by simp [emenderref03_Add.j0])
   |succ kj6 =>
     have H := HA.out
     clear HA
     simp only [emenderref03_Add.j0] at H
     by_cases c9 : x17_6 = true
     ·subst c9
      have H1 : (some (4, 0)) = some (r1, r2) := by rw [if_pos rfl] at H; exact H
      clear H
      have H := H1
      clear H1
      simp only [Option.some.injEq, Prod.mk.injEq] at H
      obtain ⟨rfl, rfl⟩ := H
      go_wp2
      go_ret2
      exact ⟨by first|rfl|(simp; done)|(simp [*]; done), by repeat (first|exact Drawn0.refl _|apply Drawn0.step)⟩
     ·replace c9 := Bool.eq_false_iff.mpr c9
      subst c9
      have H1 : (some (Go.bits .or .i64 a0 a1, 0)) = some (r1, r2) := by rw [if_neg (show ¬ (false = true) by decide)] at H; exact H
      clear H
      have H := H1
      clear H1
      simp only [Option.some.injEq, Prod.mk.injEq] at H
      obtain ⟨rfl, rfl⟩ := H
      go_wp2
      go_ret2
      exact ⟨by first|rfl|(simp; done)|(simp [*]; done), by repeat (first|exact Drawn0.refl _|apply Drawn0.step)⟩
  ·replace c6 := Bool.eq_false_iff.mpr c6
   subst c6
   have H1 : (some (0, 4)) = some (r1, r2) := by rw [if_neg (show ¬ (false = true) by decide)] at H; exact H
   clear H
   have H := H1
   clear H1
   simp only [Option.some.injEq, Prod.mk.injEq] at H
   obtain ⟨rfl, rfl⟩ := H
   go_enter Tryd.func59, Tryd.ntmps59
   go_wp2_with (first|((with_reducible refine gate_callee (f := 62) rfl ?_); refine goesL_ (some 7) rfl rfl Tryd.func62 (by kernel_rfl) rfl #[.int .i64 a1] rfl (by (try simp only [List.map_toArray, List.map_cons, List.map_nil]); first|done|rfl|(simp only [List.length_drop, List.length_take]; rfl)) ?_; (with_reducible refine (emenderref03_is.calls a1 true _ A3.out).mono ?_); rintro e w' ⟨rfl, ⟨nd, rfl⟩⟩; refine ⟨_, rfl, ?_⟩)|((with_reducible refine gate_callee (f := 50) rfl ?_); refine goesL_ (some 10) rfl rfl Tryd.func50 (by kernel_rfl) rfl #[.int .i64 a0] rfl (by (try simp only [List.map_toArray, List.map_cons, List.map_nil]); first|done|rfl|(simp only [List.length_drop, List.length_take]; rfl)) ?_; (with_reducible refine (emenderref03_Right.calls a0 false _ A5.out).mono ?_); rintro e w' ⟨rfl, ⟨nd, rfl⟩⟩; refine ⟨_, rfl, ?_⟩))
   go_ret2
   exact ⟨by first|rfl|(simp; done)|(simp [*]; done), by repeat (first|exact Drawn0.refl _|apply Drawn0.step)⟩
 ·replace c4 := Bool.eq_false_iff.mpr c4
  subst c4
  have H1 : (some (0, 1)) = some (r1, r2) := by rw [if_neg (show ¬ (false = true) by decide)] at H; exact H
  clear H
  have H := H1
  clear H1
  simp only [Option.some.injEq, Prod.mk.injEq] at H
  obtain ⟨rfl, rfl⟩ := H
  go_enter Tryd.func59, Tryd.ntmps59
  go_wp2_with (first|((with_reducible refine gate_callee (f := 62) rfl ?_); refine goesL_ (some 7) rfl rfl Tryd.func62 (by kernel_rfl) rfl #[.int .i64 a1] rfl (by (try simp only [List.map_toArray, List.map_cons, List.map_nil]); first|done|rfl|(simp only [List.length_drop, List.length_take]; rfl)) ?_; (with_reducible refine (emenderref03_is.calls a1 false _ A3.out).mono ?_); rintro e w' ⟨rfl, ⟨nd, rfl⟩⟩; refine ⟨_, rfl, ?_⟩))
  go_ret2
  exact ⟨by first|rfl|(simp; done)|(simp [*]; done), by repeat (first|exact Drawn0.refl _|apply Drawn0.step)⟩
def emenderref03_Take.f (a0 : Int) (a1 : Int) : Option (Int × Int) := (emenderref03_is.f a1).bind fun t366 => (if t366 = true then ((emenderref03_Right.f a0).bind fun t367 => (if t367 = true then (if (Go.bits .and .i64 a0 a1) = 0 then (some (a0, 0)) else (some (wrap64 (a0 - a1), 0))) else (some (0, 4)))) else (some (0, 1)))
set_option maxHeartbeats 8000000 in
set_option maxRecDepth 100000 in
theorem emenderref03_Take.calls (a0 : Int) (a1 : Int) (r1 : Int) (r2 : Int) (w : World) (h : emenderref03_Take.f a0 a1 = some (r1, r2)) :
  Calls Tryd.prog 60 #[.int .i64 a0, .int .i64 a1] w fun e w' => e = .returned (.tuple #[.int .i64 r1, .int .i64 r2]) ∧ Drawn0 w w' := by
 have H : ((emenderref03_is.f a1).bind fun t366 => (if t366 = true then ((emenderref03_Right.f a0).bind fun t367 => (if t367 = true then (if (Go.bits .and .i64 a0 a1) = 0 then (some (a0, 0)) else (some (wrap64 (a0 - a1), 0))) else (some (0, 4)))) else (some (0, 1)))) = some (r1, r2) := h
 clear h
 replace H := Option.bind_eq_some_iff.mp H
 obtain ⟨t366, A30, H⟩ := H
 replace H : (if t366 = true then ((emenderref03_Right.f a0).bind fun t367 => (if t367 = true then (if (Go.bits .and .i64 a0 a1) = 0 then (some (a0, 0)) else (some (wrap64 (a0 - a1), 0))) else (some (0, 4)))) else (some (0, 1))) = some (r1, r2) := H
 have A3 := aM A30
 clear A30
 by_cases c4 : t366 = true
 ·subst c4
  have H1 : ((emenderref03_Right.f a0).bind fun t367 => (if t367 = true then (if (Go.bits .and .i64 a0 a1) = 0 then (some (a0, 0)) else (some (wrap64 (a0 - a1), 0))) else (some (0, 4)))) = some (r1, r2) := by rw [if_pos rfl] at H; exact H
  clear H
  have H := H1
  clear H1
  replace H := Option.bind_eq_some_iff.mp H
  obtain ⟨t367, A50, H⟩ := H
  replace H : (if t367 = true then (if (Go.bits .and .i64 a0 a1) = 0 then (some (a0, 0)) else (some (wrap64 (a0 - a1), 0))) else (some (0, 4))) = some (r1, r2) := H
  have A5 := aM A50
  clear A50
  by_cases c6 : t367 = true
  ·subst c6
   have H1 : (if (Go.bits .and .i64 a0 a1) = 0 then (some (a0, 0)) else (some (wrap64 (a0 - a1), 0))) = some (r1, r2) := by rw [if_pos rfl] at H; exact H
   clear H
   have H := H1
   clear H1
   by_cases c7 : (Go.bits .and .i64 a0 a1) = 0
   ·rw [if_pos c7] at H
    have c7b0 : ((Go.bits .and .i64 a0 a1) == 0) = true := beq_iff_eq.mpr c7
    have c7b1 : ((Go.bits .and .i64 a0 a1) != 0) = false := bne_eq_false_iff_eq.mpr c7
    clear c7
    simp only [Option.some.injEq, Prod.mk.injEq] at H
    obtain ⟨rfl, rfl⟩ := H
    go_enter Tryd.func60, Tryd.ntmps60
    go_wp2_with (first|((with_reducible refine gate_callee (f := 62) rfl ?_); refine goesL_ (some 7) rfl rfl Tryd.func62 (by kernel_rfl) rfl #[.int .i64 a1] rfl (by (try simp only [List.map_toArray, List.map_cons, List.map_nil]); first|done|rfl|(simp only [List.length_drop, List.length_take]; rfl)) ?_; (with_reducible refine (emenderref03_is.calls a1 true _ A3.out).mono ?_); rintro e w' ⟨rfl, ⟨nd, rfl⟩⟩; refine ⟨_, rfl, ?_⟩)|((with_reducible refine gate_callee (f := 50) rfl ?_); refine goesL_ (some 10) rfl rfl Tryd.func50 (by kernel_rfl) rfl #[.int .i64 a0] rfl (by (try simp only [List.map_toArray, List.map_cons, List.map_nil]); first|done|rfl|(simp only [List.length_drop, List.length_take]; rfl)) ?_; (with_reducible refine (emenderref03_Right.calls a0 true _ A5.out).mono ?_); rintro e w' ⟨rfl, ⟨nd, rfl⟩⟩; refine ⟨_, rfl, ?_⟩))
    go_ret2
    exact ⟨by first|rfl|(simp; done)|(simp [*]; done), by repeat (first|exact Drawn0.refl _|apply Drawn0.step)⟩
   ·rw [if_neg c7] at H
    have c7b0 : ((Go.bits .and .i64 a0 a1) == 0) = false := beq_eq_false_iff_ne.mpr c7
    have c7b1 : ((Go.bits .and .i64 a0 a1) != 0) = true := bne_iff_ne.mpr c7
    simp only [Option.some.injEq, Prod.mk.injEq] at H
    obtain ⟨rfl, rfl⟩ := H
    go_enter Tryd.func60, Tryd.ntmps60
    go_wp2_with (first|((with_reducible refine gate_callee (f := 62) rfl ?_); refine goesL_ (some 7) rfl rfl Tryd.func62 (by kernel_rfl) rfl #[.int .i64 a1] rfl (by (try simp only [List.map_toArray, List.map_cons, List.map_nil]); first|done|rfl|(simp only [List.length_drop, List.length_take]; rfl)) ?_; (with_reducible refine (emenderref03_is.calls a1 true _ A3.out).mono ?_); rintro e w' ⟨rfl, ⟨nd, rfl⟩⟩; refine ⟨_, rfl, ?_⟩)|((with_reducible refine gate_callee (f := 50) rfl ?_); refine goesL_ (some 10) rfl rfl Tryd.func50 (by kernel_rfl) rfl #[.int .i64 a0] rfl (by (try simp only [List.map_toArray, List.map_cons, List.map_nil]); first|done|rfl|(simp only [List.length_drop, List.length_take]; rfl)) ?_; (with_reducible refine (emenderref03_Right.calls a0 true _ A5.out).mono ?_); rintro e w' ⟨rfl, ⟨nd, rfl⟩⟩; refine ⟨_, rfl, ?_⟩))
    go_ret2
    exact ⟨by first|rfl|(simp; done)|(simp [*]; done), by repeat (first|exact Drawn0.refl _|apply Drawn0.step)⟩
  ·replace c6 := Bool.eq_false_iff.mpr c6
   subst c6
   have H1 : (some (0, 4)) = some (r1, r2) := by rw [if_neg (show ¬ (false = true) by decide)] at H; exact H
   clear H
   have H := H1
   clear H1
   simp only [Option.some.injEq, Prod.mk.injEq] at H
   obtain ⟨rfl, rfl⟩ := H
   go_enter Tryd.func60, Tryd.ntmps60
   go_wp2_with (first|((with_reducible refine gate_callee (f := 62) rfl ?_); refine goesL_ (some 7) rfl rfl Tryd.func62 (by kernel_rfl) rfl #[.int .i64 a1] rfl (by (try simp only [List.map_toArray, List.map_cons, List.map_nil]); first|done|rfl|(simp only [List.length_drop, List.length_take]; rfl)) ?_; (with_reducible refine (emenderref03_is.calls a1 true _ A3.out).mono ?_); rintro e w' ⟨rfl, ⟨nd, rfl⟩⟩; refine ⟨_, rfl, ?_⟩)|((with_reducible refine gate_callee (f := 50) rfl ?_); refine goesL_ (some 10) rfl rfl Tryd.func50 (by kernel_rfl) rfl #[.int .i64 a0] rfl (by (try simp only [List.map_toArray, List.map_cons, List.map_nil]); first|done|rfl|(simp only [List.length_drop, List.length_take]; rfl)) ?_; (with_reducible refine (emenderref03_Right.calls a0 false _ A5.out).mono ?_); rintro e w' ⟨rfl, ⟨nd, rfl⟩⟩; refine ⟨_, rfl, ?_⟩))
   go_ret2
   exact ⟨by first|rfl|(simp; done)|(simp [*]; done), by repeat (first|exact Drawn0.refl _|apply Drawn0.step)⟩
 ·replace c4 := Bool.eq_false_iff.mpr c4
  subst c4
  have H1 : (some (0, 1)) = some (r1, r2) := by rw [if_neg (show ¬ (false = true) by decide)] at H; exact H
  clear H
  have H := H1
  clear H1
  simp only [Option.some.injEq, Prod.mk.injEq] at H
  obtain ⟨rfl, rfl⟩ := H
  go_enter Tryd.func60, Tryd.ntmps60
  go_wp2_with (first|((with_reducible refine gate_callee (f := 62) rfl ?_); refine goesL_ (some 7) rfl rfl Tryd.func62 (by kernel_rfl) rfl #[.int .i64 a1] rfl (by (try simp only [List.map_toArray, List.map_cons, List.map_nil]); first|done|rfl|(simp only [List.length_drop, List.length_take]; rfl)) ?_; (with_reducible refine (emenderref03_is.calls a1 false _ A3.out).mono ?_); rintro e w' ⟨rfl, ⟨nd, rfl⟩⟩; refine ⟨_, rfl, ?_⟩))
  go_ret2
  exact ⟨by first|rfl|(simp; done)|(simp [*]; done), by repeat (first|exact Drawn0.refl _|apply Drawn0.step)⟩
mutual
def emenderref09_marked.l0 : Nat → List (S48) → List (S48) → Int → Int → Int → Int → Int → Int → Int → List (S48) → Int → Option ((List (S48)))
|0, _, _, _, _, _, _, _, _, _, _, _ => none
|k + 1, x0, x5, x6, x369000, x369001, x369002, x369003, x369004, x369005, x369006, x369007 => if x6 < (x0.length : Int) then (if 0 ≤ x6 then (if ((rd_T48 x0 x6).f0) = 0 then (if x6 ≥ x369001 then (emenderref09_marked.j1 k x0 x5 x6 (decide (x6 < x369002)) x369000 x369001 x369002 x369003 x369004 x369005 x369006 x369007 ((rd_T48 x0 x6).f0) ((rd_T48 x0 x6).f1) ((rd_T48 x0 x6).f2) ((rd_T48 x0 x6).f3)) else (emenderref09_marked.j1 k x0 x5 x6 false x369000 x369001 x369002 x369003 x369004 x369005 x369006 x369007 ((rd_T48 x0 x6).f0) ((rd_T48 x0 x6).f1) ((rd_T48 x0 x6).f2) ((rd_T48 x0 x6).f3))) else (emenderref09_marked.j1 k x0 x5 x6 false x369000 x369001 x369002 x369003 x369004 x369005 x369006 x369007 ((rd_T48 x0 x6).f0) ((rd_T48 x0 x6).f1) ((rd_T48 x0 x6).f2) ((rd_T48 x0 x6).f3))) else (none)) else (some x5)
def emenderref09_marked.j1 : Nat → List (S48) → List (S48) → Int → Bool → Int → Int → Int → Int → Int → Int → List (S48) → Int → Int → Int → Int → Int → Option ((List (S48)))
|0, _, _, _, _, _, _, _, _, _, _, _, _, _, _, _, _ => none
|k + 1, x0, x5, x6, x36, x369000, x369001, x369002, x369003, x369004, x369005, x369006, x369007, x371000, x371001, x371002, x371003 => if x36 = true then (if x369000 = 2 then ((emenderref03_Add.f k x371003 x369007).bind fun bt371 => (if x5.length < 4398046511104 then (emenderref09_marked.l0 k x0 (x5 ++ [(⟨x371000, x371001, x371002, bt371.1⟩ : S48)]) (wrap64 (x6 + 1)) x369000 x369001 x369002 x369003 x369004 x369005 x369006 x369007) else (none))) else ((emenderref03_Take.f x371003 x369007).bind fun bt376 => (if x5.length < 4398046511104 then (emenderref09_marked.l0 k x0 (x5 ++ [(⟨x371000, x371001, x371002, bt376.1⟩ : S48)]) (wrap64 (x6 + 1)) x369000 x369001 x369002 x369003 x369004 x369005 x369006 x369007) else (none)))) else (if x5.length < 4398046511104 then (emenderref09_marked.l0 k x0 (x5 ++ [(⟨x371000, x371001, x371002, x371003⟩ : S48)]) (wrap64 (x6 + 1)) x369000 x369001 x369002 x369003 x369004 x369005 x369006 x369007) else (none))
end
def emenderref09_marked.f (k : Nat) (l0 : List (S48)) (a1_0 : Int) (a1_1 : Int) (a1_2 : Int) (a1_3 : Int) (a1_4 : Int) (a1_5 : Int) (l1_6 : List (S48)) (a1_7 : Int) : Option ((List (S48))) := emenderref09_marked.l0 k l0 ([] : List (S48)) 0 a1_0 a1_1 a1_2 a1_3 a1_4 a1_5 l1_6 a1_7
set_option maxHeartbeats 8000000 in
set_option maxRecDepth 100000 in
theorem emenderref09_marked.calls (k : Nat) (A0 : Option Addr) (c0 : Nat) (l0 : List (S48)) (a1_0 : Int) (a1_1 : Int) (a1_2 : Int) (a1_3 : Int) (a1_4 : Int) (a1_5 : Int) (A1_6 : Option Addr) (c1_6 : Nat) (l1_6 : List (S48)) (a1_7 : Int) (r : List (S48)) (w : World) (hr0 : Kd.C k48 w A0 l0.length l0) (hc0 : l0.length ≤ c0) (hr1_6 : Kd.C k48 w A1_6 l1_6.length l1_6) (hc1_6 : l1_6.length ≤ c1_6) (h : emenderref09_marked.f k l0 a1_0 a1_1 a1_2 a1_3 a1_4 a1_5 l1_6 a1_7 = some r) :
  Calls Tryd.prog 56 #[.slice A0 l0.length c0, .agg #[.int .i64 a1_0, .int .i64 a1_1, .int .i64 a1_2, .int .i64 a1_3, .int .i64 a1_4, .int .i64 a1_5, .slice A1_6 l1_6.length c1_6, .int .i64 a1_7]] w fun e w' => ∃ v0_ : Value, e = .returned (v0_) ∧ Kd.R k48 48 w' w.heap.size (fun _ => True) v0_ r ∧ Below w.heap.size w w' := by
 have hu45 := Tryd.underlying45
 have hu48 := Tryd.underlying48
 have HR0 := aM hr0
 have HC0 := aM hc0
 clear hr0 hc0
 have HR1_6 := aM hr1_6
 have HC1_6 := aM hc1_6
 clear hr1_6 hc1_6
 have HB := aM (Below.refl w.heap.size w)
 have H : (emenderref09_marked.l0 k l0 ([] : List (S48)) 0 a1_0 a1_1 a1_2 a1_3 a1_4 a1_5 l1_6 a1_7) = some r := h
 clear h
 have H' := aM H
 clear H
 go_enter Tryd.func56, Tryd.ntmps56
 go_wp2_with (first|((with_reducible refine gate_dst (N := 3) rfl ?_); refine box_event ?hg (N := 3) ?hd (cs := #[.int .i64 a1_0, .int .i64 a1_1, .int .i64 a1_2, .int .i64 a1_3, .int .i64 a1_4, .int .i64 a1_5, .slice A1_6 l1_6.length c1_6, .int .i64 a1_7]) (t := 45) ?hr ?_; (case hd => rfl); (case hg => rfl); (case hr => first|(go_simp; done)|(go_simp; rfl)); intro gb368 hg w3 hbox hb; have hB_ := (by repeat (first|(with_reducible first|exact HB.out|apply lA|apply lN|apply lD)|exact HB.out) : Below w.heap.size w _); replace HB := aM (below_step hB_ hb); replace BK368 := aM (hbox); replace GW368 := aM ((bsz hg hB_)); replace GE368 := aM ((bsz hg hB_)); clear hb hbox hg hB_))
 go_loopg [5, 6] k (fun kq v5 v6 w' => ∃ (x5_1 : List (S48)) (x6_1 : Int), v6 = .int .i64 x6_1 ∧ Aside0 (emenderref09_marked.l0 kq l0 x5_1 x6_1 a1_0 a1_1 a1_2 a1_3 a1_4 a1_5 l1_6 a1_7 = some r) ∧ Aside0 (kq ≤ k) ∧ Aside0 (Kd.R k48 48 w' w.heap.size (fun _ => True) v5 x5_1) ∧ Aside0 (w'.heap[gb368]? = some (.cells #[.int .i64 a1_0, .int .i64 a1_1, .int .i64 a1_2, .int .i64 a1_3, .int .i64 a1_4, .int .i64 a1_5, (.slice A1_6 l1_6.length c1_6), .int .i64 a1_7] 45 (0, 0))) ∧ Aside0 (Below w.heap.size w w'))
 case atStart => exact ⟨(([] : List (S48))), (0), (by first|rfl|(simp; done)|(simp [*]; done)), H', ⟨Nat.le_refl _⟩, ⟨by first|exact Kd.R_nil _ _ _ _ _|exact Kd.N_nil _ _ _ _ _|exact Kd.V_nil _ _ _ _ _|exact Kd.Q_nil _ _ _ _ _|exact Kd.S_nil _ _ _ _ _⟩, ⟨by (with_reducible repeat (first|refine bN ?_ _|refine bD ?_|refine bA ?_ _)); exact BK368.out⟩, ⟨by repeat (first|(with_reducible first|exact HB.out|apply lA|apply lN|apply lD|refine lS ?_ GE368.out)|exact HB.out)⟩⟩
 case round =>
  clear H'
  obtain ⟨x5_1, x6_1, rfl, HA, HK1, HO_5, BK368, HB⟩ := hrel
  cases gk with
 |zero => exact absurd HA.out (by simp [emenderref09_marked.l0])
 |succ k1 =>
   have H := HA.out
   clear HA
   simp only [emenderref09_marked.l0] at H
   by_cases c4 : x6_1 < (l0.length : Int)
   ·rw [if_pos c4] at H
    have c4b0 : decide (x6_1 < (l0.length : Int)) = true := decide_eq_true c4
    clear c4
    replace H := ifS H; obtain ⟨c5, H⟩ := H
    have c5b0 : decide (0 ≤ x6_1) = true := decide_eq_true c5
    clear c5
    have HC6 := aM H
    clear H
    have p369 : 0 ≤ (x6_1 : Int) := of_decide_eq_true (by assumption)
    have q369 : x6_1 < (l0.length : Int) := of_decide_eq_true (by assumption)
    obtain ⟨ad369, e369, hx369_0, hx369_1, hx369_2, hx369_3⟩ := at_T48 HR0.out x6_1 p369 q369
    cases e369
    replace hx369_0 := cB HB.out hx369_0
    replace hx369_1 := cB HB.out hx369_1
    replace hx369_2 := cB HB.out hx369_2
    replace hx369_3 := cB HB.out hx369_3
    replace p369 := eq_true p369
    replace q369 := eq_true q369
    go_upto_region 6 with (first|((with_reducible refine gate_dst (N := 7) rfl ?_); refine box_event ?hg (N := 7) ?hd (cs := #[.int .i64 0, .int .i64 0, .int .i64 0, .int .i64 0]) (t := 48) ?hr ?_; (case hd => rfl); (case hg => rfl); (case hr => first|(go_simp; done)|(go_simp; rfl)); intro gb370 hg w7 hbox hb; replace HO_5 := aM (Kd.R_below (Kd.R_elderB (by (with_reducible repeat (first|apply Kd.R_alloc|apply Kd.R_drewN|apply Kd.R_drew)); exact HO_5.out) gb370 (Nat.le_of_eq hg.symm)) hb); replace BK370 := aM (hbox); replace GW370 := aM ((by rw [hg]; exact (below_size (by repeat (first|(with_reducible first|exact HB.out|apply lA|apply lN|apply lD|refine lS ?_ GE368.out)|exact HB.out))) : w.heap.size ≤ gb370)); replace GE370 := aM ((by rw [hg]; exact (below_size (by repeat (first|(with_reducible first|exact HB.out|apply lA|apply lN|apply lD|refine lS ?_ GE368.out)|exact HB.out))) : w.heap.size ≤ gb370)); replace HB := aM (below_step (by repeat (first|(with_reducible first|exact HB.out|apply lA|apply lN|apply lD|refine lS ?_ GE368.out)|exact HB.out)) hb); replace NB368_370 := aM ((by rw [hg]; exact Nat.ne_of_lt (blk_lt (g := gb368) (o := .cells #[.int .i64 a1_0, .int .i64 a1_1, .int .i64 a1_2, .int .i64 a1_3, .int .i64 a1_4, .int .i64 a1_5, .slice A1_6 l1_6.length c1_6, .int .i64 a1_7] 45 (0, 0)) (by (with_reducible repeat (first|refine bN ?_ _|refine bD ?_|refine bA ?_ _)); exact BK368.out)) : gb368 ≠ gb370)); replace NB370_368 := aM ((by rw [hg]; exact Nat.ne_of_gt (blk_lt (g := gb368) (o := .cells #[.int .i64 a1_0, .int .i64 a1_1, .int .i64 a1_2, .int .i64 a1_3, .int .i64 a1_4, .int .i64 a1_5, .slice A1_6 l1_6.length c1_6, .int .i64 a1_7] 45 (0, 0)) (by (with_reducible repeat (first|refine bN ?_ _|refine bD ?_|refine bA ?_ _)); exact BK368.out)) : gb370 ≠ gb368)); replace BK368 := aM (blk_below (by (with_reducible repeat (first|refine bN ?_ _|refine bD ?_|refine bA ?_ _)); exact BK368.out) hb); clear hb hbox hg; have hnb8 := NB370_368.out; have hnc8 := NB368_370.out; obtain ⟨hcz9_0, hcz9_1, hcz9_2, hcz9_3, hfz9_0, hfz9_1, hfz9_2, hfz9_3⟩ := bx4z BK370.out))
    (try simp only [Act.put, List.setIfInBounds_toArray, List.set_cons_zero, List.set_cons_succ])
    go_cut [36] (fun v36 wc => ∃ (kq : Nat) (x36_5 : Bool), v36 = .bool x36_5 ∧ Aside0 (emenderref09_marked.j1 kq l0 x5_1 x6_1 x36_5 a1_0 a1_1 a1_2 a1_3 a1_4 a1_5 l1_6 a1_7 ((rd_T48 l0 x6_1).f0) ((rd_T48 l0 x6_1).f1) ((rd_T48 l0 x6_1).f2) ((rd_T48 l0 x6_1).f3) = some r) ∧ Aside0 (kq ≤ k1) ∧ Aside0 (Kd.R k48 48 wc w.heap.size (fun k_ => k_ ≠ gb370) u5 x5_1) ∧ Aside0 (wc.heap[gb368]? = some (.cells #[.int .i64 a1_0, .int .i64 a1_1, .int .i64 a1_2, .int .i64 a1_3, .int .i64 a1_4, .int .i64 a1_5, (.slice A1_6 l1_6.length c1_6), .int .i64 a1_7] 45 (0, 0))) ∧ Aside0 (wc.heap[gb370]? = some (.cells #[.int .i64 ((rd_T48 l0 x6_1).f0), .int .i64 ((rd_T48 l0 x6_1).f1), .int .i64 ((rd_T48 l0 x6_1).f2), .int .i64 ((rd_T48 l0 x6_1).f3)] 48 (0, 0))) ∧ Aside0 (Below w.heap.size w wc))
    case first =>
     have H := HC6.out
     clear HC6
     by_cases c10 : ((rd_T48 l0 x6_1).f0) = 0
     ·rw [if_pos c10] at H
      have c10b0 : (((rd_T48 l0 x6_1).f0) == 0) = true := beq_iff_eq.mpr c10
      have c10b1 : (((rd_T48 l0 x6_1).f0) != 0) = false := bne_eq_false_iff_eq.mpr c10
      clear c10
      (first|rw [c10b0]|(simp only [i64_w, i32_w]; rw [c10b0])|skip)
      by_cases c11 : x6_1 ≥ a1_1
      ·rw [if_pos c11] at H
       have c11b0 : decide (a1_1 ≤ x6_1) = true := decide_eq_true c11
       clear c11
       have H' := aM H
       clear H
       have hnb12 := NB370_368.out
       have hnc12 := NB368_370.out
       obtain ⟨hcz13_0, hcz13_1, hcz13_2, hcz13_3, hfz13_0, hfz13_1, hfz13_2, hfz13_3⟩ := bx4z BK370.out
       obtain ⟨hcz14_0, hcz14_1, hcz14_2, hcz14_3, hcz14_4, hcz14_5, hcz14_6, hcz14_7, hfz14_0, hfz14_1, hfz14_2, hfz14_3, hfz14_4, hfz14_5, hfz14_6, hfz14_7⟩ := bx8z BK368.out
       go_wp2
       go_meet
       case rel => exact ⟨_, (decide (x6_1 < a1_2)), (by first|rfl|(simp; done)|(simp [*]; done)), H', ⟨by have := HK1.out; first|omega|exact Nat.le_refl _⟩, ⟨by (with_reducible repeat (first|apply Kd.R_alloc|apply Kd.R_drewN|apply Kd.R_drew)); exact Kd.R_mono (Kd.Rf4 (Kd.R_mono HO_5.out (fun k_ hk => (⟨hk, hk.2⟩ : _ ∧ k_ ≠ gb370))) (fun _ hk => hk.2)) (fun _ hk => hk.1.2)⟩, ⟨by (with_reducible repeat (first|refine bN ?_ _|refine bD ?_|refine bA ?_ _)); refine far4 ?_ NB368_370.out; (with_reducible repeat (first|refine bN ?_ _|refine bD ?_|refine bA ?_ _)); exact BK368.out⟩, ⟨by (with_reducible repeat (first|refine bN ?_ _|refine bD ?_|refine bA ?_ _)); apply put4; (with_reducible repeat (first|refine bN ?_ _|refine bD ?_|refine bA ?_ _)); exact BK370.out⟩, ⟨by repeat (first|(with_reducible first|exact HB.out|apply lA|apply lN|apply lD|refine lS ?_ GE368.out|refine lS ?_ GE370.out)|exact HB.out)⟩⟩
      ·rw [if_neg c11] at H
       have c11b0 : decide (a1_1 ≤ x6_1) = false := decide_eq_false c11
       clear c11
       have H' := aM H
       clear H
       have hnb15 := NB370_368.out
       have hnc15 := NB368_370.out
       obtain ⟨hcz16_0, hcz16_1, hcz16_2, hcz16_3, hfz16_0, hfz16_1, hfz16_2, hfz16_3⟩ := bx4z BK370.out
       obtain ⟨hcz17_0, hcz17_1, hcz17_2, hcz17_3, hcz17_4, hcz17_5, hcz17_6, hcz17_7, hfz17_0, hfz17_1, hfz17_2, hfz17_3, hfz17_4, hfz17_5, hfz17_6, hfz17_7⟩ := bx8z BK368.out
       go_wp2
       go_meet
       case rel => exact ⟨_, (false), (by first|rfl|(simp; done)|(simp [*]; done)), H', ⟨by have := HK1.out; first|omega|exact Nat.le_refl _⟩, ⟨by (with_reducible repeat (first|apply Kd.R_alloc|apply Kd.R_drewN|apply Kd.R_drew)); exact Kd.R_mono (Kd.Rf4 (Kd.R_mono HO_5.out (fun k_ hk => (⟨hk, hk.2⟩ : _ ∧ k_ ≠ gb370))) (fun _ hk => hk.2)) (fun _ hk => hk.1.2)⟩, ⟨by (with_reducible repeat (first|refine bN ?_ _|refine bD ?_|refine bA ?_ _)); refine far4 ?_ NB368_370.out; (with_reducible repeat (first|refine bN ?_ _|refine bD ?_|refine bA ?_ _)); exact BK368.out⟩, ⟨by (with_reducible repeat (first|refine bN ?_ _|refine bD ?_|refine bA ?_ _)); apply put4; (with_reducible repeat (first|refine bN ?_ _|refine bD ?_|refine bA ?_ _)); exact BK370.out⟩, ⟨by repeat (first|(with_reducible first|exact HB.out|apply lA|apply lN|apply lD|refine lS ?_ GE368.out|refine lS ?_ GE370.out)|exact HB.out)⟩⟩
     ·rw [if_neg c10] at H
      have c10b0 : (((rd_T48 l0 x6_1).f0) == 0) = false := beq_eq_false_iff_ne.mpr c10
      have c10b1 : (((rd_T48 l0 x6_1).f0) != 0) = true := bne_iff_ne.mpr c10
      (first|rw [c10b0]|(simp only [i64_w, i32_w]; rw [c10b0])|skip)
      have H' := aM H
      clear H
      have hnb18 := NB370_368.out
      have hnc18 := NB368_370.out
      obtain ⟨hcz19_0, hcz19_1, hcz19_2, hcz19_3, hfz19_0, hfz19_1, hfz19_2, hfz19_3⟩ := bx4z BK370.out
      go_wp2
      go_meet
      case rel => exact ⟨_, (false), (by first|rfl|(simp; done)|(simp [*]; done)), H', ⟨by have := HK1.out; first|omega|exact Nat.le_refl _⟩, ⟨by (with_reducible repeat (first|apply Kd.R_alloc|apply Kd.R_drewN|apply Kd.R_drew)); exact Kd.R_mono (Kd.Rf4 (Kd.R_mono HO_5.out (fun k_ hk => (⟨hk, hk.2⟩ : _ ∧ k_ ≠ gb370))) (fun _ hk => hk.2)) (fun _ hk => hk.1.2)⟩, ⟨by (with_reducible repeat (first|refine bN ?_ _|refine bD ?_|refine bA ?_ _)); refine far4 ?_ NB368_370.out; (with_reducible repeat (first|refine bN ?_ _|refine bD ?_|refine bA ?_ _)); exact BK368.out⟩, ⟨by (with_reducible repeat (first|refine bN ?_ _|refine bD ?_|refine bA ?_ _)); apply put4; (with_reducible repeat (first|refine bN ?_ _|refine bD ?_|refine bA ?_ _)); exact BK370.out⟩, ⟨by repeat (first|(with_reducible first|exact HB.out|apply lA|apply lN|apply lD|refine lS ?_ GE368.out|refine lS ?_ GE370.out)|exact HB.out)⟩⟩
    case rest =>
     clear HC6
     obtain ⟨kq, x36_5, rfl, HA, HJ5, HO_5, BK368, BK370, HB⟩ := hcut
     cases kq with
    |zero => exact absurd HA.out (by simp [emenderref09_marked.j1])
    |succ kj5 =>
      have H := HA.out
      clear HA
      simp only [emenderref09_marked.j1] at H
      by_cases c20 : x36_5 = true
      ·subst c20
       have H1 : (if a1_0 = 2 then ((emenderref03_Add.f kj5 ((rd_T48 l0 x6_1).f3) a1_7).bind fun bt371 => (if x5_1.length < 4398046511104 then (emenderref09_marked.l0 kj5 l0 (x5_1 ++ [(⟨((rd_T48 l0 x6_1).f0), ((rd_T48 l0 x6_1).f1), ((rd_T48 l0 x6_1).f2), bt371.1⟩ : S48)]) (wrap64 (x6_1 + 1)) a1_0 a1_1 a1_2 a1_3 a1_4 a1_5 l1_6 a1_7) else (none))) else ((emenderref03_Take.f ((rd_T48 l0 x6_1).f3) a1_7).bind fun bt376 => (if x5_1.length < 4398046511104 then (emenderref09_marked.l0 kj5 l0 (x5_1 ++ [(⟨((rd_T48 l0 x6_1).f0), ((rd_T48 l0 x6_1).f1), ((rd_T48 l0 x6_1).f2), bt376.1⟩ : S48)]) (wrap64 (x6_1 + 1)) a1_0 a1_1 a1_2 a1_3 a1_4 a1_5 l1_6 a1_7) else (none)))) = some r := by rw [if_pos rfl] at H; exact H
       clear H
       have H := H1
       clear H1
       by_cases c21 : a1_0 = 2
       ·rw [if_pos c21] at H
        have c21b0 : (a1_0 == 2) = true := beq_iff_eq.mpr c21
        have c21b1 : (a1_0 != 2) = false := bne_eq_false_iff_eq.mpr c21
        clear c21
        replace H := Option.bind_eq_some_iff.mp H
        obtain ⟨⟨t371, t372⟩, A220, H⟩ := H
        replace H : (if x5_1.length < 4398046511104 then (emenderref09_marked.l0 kj5 l0 (x5_1 ++ [(⟨((rd_T48 l0 x6_1).f0), ((rd_T48 l0 x6_1).f1), ((rd_T48 l0 x6_1).f2), t371⟩ : S48)]) (wrap64 (x6_1 + 1)) a1_0 a1_1 a1_2 a1_3 a1_4 a1_5 l1_6 a1_7) else (none)) = some r := H
        have A22 := aM A220
        clear A220
        replace H := ifS H; obtain ⟨c23, H⟩ := H
        have LMc23 := aM c23
        clear c23
        obtain ⟨y373, hy373⟩ : ∃ y_ : List (S48), y_ = (x5_1 ++ [(⟨((rd_T48 l0 x6_1).f0), ((rd_T48 l0 x6_1).f1), ((rd_T48 l0 x6_1).f2), t371⟩ : S48)]) := ⟨_, rfl⟩
        replace H : (emenderref09_marked.l0 kj5 l0 y373 (wrap64 (x6_1 + 1)) a1_0 a1_1 a1_2 a1_3 a1_4 a1_5 l1_6 a1_7) = some r := by first|(rw [hy373]; with_reducible exact H)|(have H2_ := (Option.bind_some _ _).symm.trans H; rw [hy373]; with_reducible exact H2_)|(have H2_ := (Option.bind_some _ _).symm.trans H; with_reducible exact H2_)|with_reducible exact H|(rw [hy373]; exact H)|exact H
        have Ny373 := aM hy373
        clear hy373
        have H' := aM H
        clear H
        have hnb24 := NB368_370.out
        have hnc24 := NB370_368.out
        obtain ⟨hcz25_0, hcz25_1, hcz25_2, hcz25_3, hcz25_4, hcz25_5, hcz25_6, hcz25_7, hfz25_0, hfz25_1, hfz25_2, hfz25_3, hfz25_4, hfz25_5, hfz25_6, hfz25_7⟩ := bx8z BK368.out
        obtain ⟨hcz26_0, hcz26_1, hcz26_2, hcz26_3, hfz26_0, hfz26_1, hfz26_2, hfz26_3⟩ := bx4z BK370.out
        go_wp2_with (first|((with_reducible refine gate_callee (f := 59) rfl ?_); refine goesL_ (some 45) rfl rfl Tryd.func59 (by kernel_rfl) rfl #[.int .i64 ((rd_T48 l0 x6_1).f3), .int .i64 a1_7] rfl (by (try simp only [List.map_toArray, List.map_cons, List.map_nil]); first|done|rfl|(simp only [List.length_drop, List.length_take]; rfl)) ?_; (with_reducible refine (emenderref03_Add.calls kj5 ((rd_T48 l0 x6_1).f3) a1_7 t371 t372 _ A22.out).mono ?_); rintro e w' ⟨rfl, ⟨nd, rfl⟩⟩; refine ⟨_, rfl, ?_⟩; (try (rw [drewN_self wc]; generalize hq_ : World.drewN wc _ = wc; have n0_ : Aside0 (Kd.R k48 48 wc w.heap.size (fun k_ => k_ ≠ gb370) u5 x5_1) := ⟨by rw [← hq_]; exact (by (with_reducible repeat (first|apply Kd.R_alloc|apply Kd.R_drewN|apply Kd.R_drew)); exact HO_5.out)⟩; have n1_ : Aside0 (wc.heap[gb368]? = some (.cells #[.int .i64 a1_0, .int .i64 a1_1, .int .i64 a1_2, .int .i64 a1_3, .int .i64 a1_4, .int .i64 a1_5, .slice A1_6 l1_6.length c1_6, .int .i64 a1_7] 45 (0, 0))) := ⟨by rw [← hq_]; exact (by (with_reducible repeat (first|refine bN ?_ _|refine bD ?_|refine bA ?_ _)); exact BK368.out)⟩; have n2_ : Aside0 (wc.heap[gb370]? = some (.cells #[.int .i64 ((rd_T48 l0 x6_1).f0), .int .i64 ((rd_T48 l0 x6_1).f1), .int .i64 ((rd_T48 l0 x6_1).f2), .int .i64 ((rd_T48 l0 x6_1).f3)] 48 (0, 0))) := ⟨by rw [← hq_]; exact (by (with_reducible repeat (first|refine bN ?_ _|refine bD ?_|refine bA ?_ _)); exact BK370.out)⟩; have n3_ : Aside0 (Below w.heap.size w wc) := ⟨by rw [← hq_]; exact (by repeat (first|(with_reducible first|exact HB.out|apply lA|apply lN|apply lD|refine lS ?_ GE368.out|refine lS ?_ GE370.out)|exact HB.out))⟩; clear HO_5 BK368 BK370 HB hq_; have HO_5 := n0_; have BK368 := n1_; have BK370 := n2_; have HB := n3_; clear n0_ n1_ n2_ n3_; obtain ⟨hcz25_0, hcz25_1, hcz25_2, hcz25_3, hcz25_4, hcz25_5, hcz25_6, hcz25_7, hfz25_0, hfz25_1, hfz25_2, hfz25_3, hfz25_4, hfz25_5, hfz25_6, hfz25_7⟩ := bx8z BK368.out; obtain ⟨hcz26_0, hcz26_1, hcz26_2, hcz26_3, hfz26_0, hfz26_1, hfz26_2, hfz26_3⟩ := bx4z BK370.out)))|((with_reducible refine gate_builtin (b := .append) (xs := #[.tmp 60, .tmp 62]) rfl ?_); at_builtin; refine Kd.R_append k48 (w0 := w) w.heap.size rfl (.tmp 60) (.tmp 62) 22 48 (.agg #[(.int .i64 0), (.int .i64 0), (.int .i64 0), (.int .i64 0)]) 32 rfl Tryd.underlying22 info48 rfl (by decide) (by omega) u5 x5_1 (⟨((rd_T48 l0 x6_1).f0), ((rd_T48 l0 x6_1).f1), ((rd_T48 l0 x6_1).f2), t371⟩ : S48) [.int .i64 ((rd_T48 l0 x6_1).f0), .int .i64 ((rd_T48 l0 x6_1).f1), .int .i64 ((rd_T48 l0 x6_1).f2), .int .i64 t371] (fun k_ => k_ ≠ gb370) (fun _ => False) rfl (by first|(go_simp; done)|(go_simp; rfl)) ?aP (fun _ hk => hk.elim) ?aF ?aO ?aB ?aS ?aL ?_; (case aP => exact k48_mkM _ _ _ (⟨((rd_T48 l0 x6_1).f0), ((rd_T48 l0 x6_1).f1), ((rd_T48 l0 x6_1).f2), t371⟩ : S48)); (case aB => exact (by repeat (first|(with_reducible first|exact HB.out|apply lA|apply lN|apply lD|refine lS ?_ GE368.out|refine lS ?_ GE370.out)|exact HB.out))); (case aF => exact (fun k_ hk => Kd.freshB (g := gb370) (o := .cells #[.int .i64 ((rd_T48 l0 x6_1).f0), .int .i64 ((rd_T48 l0 x6_1).f1), .int .i64 ((rd_T48 l0 x6_1).f2), .int .i64 t371] 48 (0, 0)) (by (with_reducible repeat (first|refine bN ?_ _|refine bD ?_|refine bA ?_ _)); refine blk_put (cs := #[.int .i64 ((rd_T48 l0 x6_1).f0), .int .i64 ((rd_T48 l0 x6_1).f1), .int .i64 ((rd_T48 l0 x6_1).f2), .int .i64 ((rd_T48 l0 x6_1).f3)]) ?_ 3 _ rfl; (with_reducible repeat (first|refine bN ?_ _|refine bD ?_|refine bA ?_ _)); exact BK370.out) k_ hk)); (case aO => exact (by (with_reducible repeat (first|apply Kd.R_alloc|apply Kd.R_drewN|apply Kd.R_drew)); exact Kd.R_mono (Kd.R_far (p := ⟨gb370, 3, none⟩) (Kd.R_mono HO_5.out (fun k_ hk => (⟨hk, hk⟩ : _ ∧ k_ ≠ gb370))) (fun _ hk => hk.2) (.int .i64 t371)) (fun _ hk => hk.1))); (case aS => exact (below_size (by repeat (first|(with_reducible first|exact HB.out|apply lA|apply lN|apply lD|refine lS ?_ GE368.out|refine lS ?_ GE370.out)|exact HB.out)))); (case aL => have := LMc23.out; omega); intro v374 w27 ho hb hg hat; rw [← Ny373.out] at ho; have n0_ := aM (blk_grown (g := gb368) (o := .cells #[.int .i64 a1_0, .int .i64 a1_1, .int .i64 a1_2, .int .i64 a1_3, .int .i64 a1_4, .int .i64 a1_5, .slice A1_6 l1_6.length c1_6, .int .i64 a1_7] 45 (0, 0)) (by (with_reducible repeat (first|refine bN ?_ _|refine bD ?_|refine bA ?_ _)); refine bF ?_ NB368_370.out _; (with_reducible repeat (first|refine bN ?_ _|refine bD ?_|refine bA ?_ _)); exact BK368.out) hg (Kd.R_ne HO_5.out BK368.out (by decide))); have n1_ := aM (blk_grown (g := gb370) (o := .cells #[.int .i64 ((rd_T48 l0 x6_1).f0), .int .i64 ((rd_T48 l0 x6_1).f1), .int .i64 ((rd_T48 l0 x6_1).f2), .int .i64 t371] 48 (0, 0)) (by (with_reducible repeat (first|refine bN ?_ _|refine bD ?_|refine bA ?_ _)); refine blk_put (cs := #[.int .i64 ((rd_T48 l0 x6_1).f0), .int .i64 ((rd_T48 l0 x6_1).f1), .int .i64 ((rd_T48 l0 x6_1).f2), .int .i64 ((rd_T48 l0 x6_1).f3)]) ?_ 3 _ rfl; (with_reducible repeat (first|refine bN ?_ _|refine bD ?_|refine bA ?_ _)); exact BK370.out) hg (Kd.R_away HO_5.out (fun _ hk => hk))); have n2_ := aM (hb); have n3_ := aM (ho); clear BK368; clear BK370; clear HB; clear HO_5; have BK368 := n0_; have BK370 := n1_; have HB := n2_; have HO375 := n3_; clear n0_ n1_ n2_ n3_; clear ho hb hg hat))
        go_roundg kj5
        case measure => have := HK1.out; have := HJ5.out; omega
        case rel => exact ⟨(y373), (wrap64 (x6_1 + 1)), (by first|rfl|(simp; done)|(simp [*]; done)), H', ⟨by have := HK1.out; have := HJ5.out; omega⟩, ⟨by (with_reducible repeat (first|apply Kd.R_alloc|apply Kd.R_drewN|apply Kd.R_drew)); exact Kd.R_mono HO375.out (fun _ hk => trivial)⟩, ⟨by (with_reducible repeat (first|refine bN ?_ _|refine bD ?_|refine bA ?_ _)); exact BK368.out⟩, ⟨by repeat (first|(with_reducible first|exact HB.out|apply lA|apply lN|apply lD|refine lS ?_ GE368.out|refine lS ?_ GE370.out)|exact HB.out)⟩⟩
       ·rw [if_neg c21] at H
        have c21b0 : (a1_0 == 2) = false := beq_eq_false_iff_ne.mpr c21
        have c21b1 : (a1_0 != 2) = true := bne_iff_ne.mpr c21
        replace H := Option.bind_eq_some_iff.mp H
        obtain ⟨⟨t376, t377⟩, A280, H⟩ := H
        replace H : (if x5_1.length < 4398046511104 then (emenderref09_marked.l0 kj5 l0 (x5_1 ++ [(⟨((rd_T48 l0 x6_1).f0), ((rd_T48 l0 x6_1).f1), ((rd_T48 l0 x6_1).f2), t376⟩ : S48)]) (wrap64 (x6_1 + 1)) a1_0 a1_1 a1_2 a1_3 a1_4 a1_5 l1_6 a1_7) else (none)) = some r := H
        have A28 := aM A280
        clear A280
        replace H := ifS H; obtain ⟨c29, H⟩ := H
        have LMc29 := aM c29
        clear c29
        obtain ⟨y378, hy378⟩ : ∃ y_ : List (S48), y_ = (x5_1 ++ [(⟨((rd_T48 l0 x6_1).f0), ((rd_T48 l0 x6_1).f1), ((rd_T48 l0 x6_1).f2), t376⟩ : S48)]) := ⟨_, rfl⟩
        replace H : (emenderref09_marked.l0 kj5 l0 y378 (wrap64 (x6_1 + 1)) a1_0 a1_1 a1_2 a1_3 a1_4 a1_5 l1_6 a1_7) = some r := by first|(rw [hy378]; with_reducible exact H)|(have H2_ := (Option.bind_some _ _).symm.trans H; rw [hy378]; with_reducible exact H2_)|(have H2_ := (Option.bind_some _ _).symm.trans H; with_reducible exact H2_)|with_reducible exact H|(rw [hy378]; exact H)|exact H
        have Ny378 := aM hy378
        clear hy378
        have H' := aM H
        clear H
        have hnb30 := NB368_370.out
        have hnc30 := NB370_368.out
        obtain ⟨hcz31_0, hcz31_1, hcz31_2, hcz31_3, hcz31_4, hcz31_5, hcz31_6, hcz31_7, hfz31_0, hfz31_1, hfz31_2, hfz31_3, hfz31_4, hfz31_5, hfz31_6, hfz31_7⟩ := bx8z BK368.out
        obtain ⟨hcz32_0, hcz32_1, hcz32_2, hcz32_3, hfz32_0, hfz32_1, hfz32_2, hfz32_3⟩ := bx4z BK370.out
        go_wp2_with (first|((with_reducible refine gate_callee (f := 60) rfl ?_); refine goesL_ (some 55) rfl rfl Tryd.func60 (by kernel_rfl) rfl #[.int .i64 ((rd_T48 l0 x6_1).f3), .int .i64 a1_7] rfl (by (try simp only [List.map_toArray, List.map_cons, List.map_nil]); first|done|rfl|(simp only [List.length_drop, List.length_take]; rfl)) ?_; (with_reducible refine (emenderref03_Take.calls ((rd_T48 l0 x6_1).f3) a1_7 t376 t377 _ A28.out).mono ?_); rintro e w' ⟨rfl, ⟨nd, rfl⟩⟩; refine ⟨_, rfl, ?_⟩; (try (rw [drewN_self wc]; generalize hq_ : World.drewN wc _ = wc; have n0_ : Aside0 (Kd.R k48 48 wc w.heap.size (fun k_ => k_ ≠ gb370) u5 x5_1) := ⟨by rw [← hq_]; exact (by (with_reducible repeat (first|apply Kd.R_alloc|apply Kd.R_drewN|apply Kd.R_drew)); exact HO_5.out)⟩; have n1_ : Aside0 (wc.heap[gb368]? = some (.cells #[.int .i64 a1_0, .int .i64 a1_1, .int .i64 a1_2, .int .i64 a1_3, .int .i64 a1_4, .int .i64 a1_5, .slice A1_6 l1_6.length c1_6, .int .i64 a1_7] 45 (0, 0))) := ⟨by rw [← hq_]; exact (by (with_reducible repeat (first|refine bN ?_ _|refine bD ?_|refine bA ?_ _)); exact BK368.out)⟩; have n2_ : Aside0 (wc.heap[gb370]? = some (.cells #[.int .i64 ((rd_T48 l0 x6_1).f0), .int .i64 ((rd_T48 l0 x6_1).f1), .int .i64 ((rd_T48 l0 x6_1).f2), .int .i64 ((rd_T48 l0 x6_1).f3)] 48 (0, 0))) := ⟨by rw [← hq_]; exact (by (with_reducible repeat (first|refine bN ?_ _|refine bD ?_|refine bA ?_ _)); exact BK370.out)⟩; have n3_ : Aside0 (Below w.heap.size w wc) := ⟨by rw [← hq_]; exact (by repeat (first|(with_reducible first|exact HB.out|apply lA|apply lN|apply lD|refine lS ?_ GE368.out|refine lS ?_ GE370.out)|exact HB.out))⟩; clear HO_5 BK368 BK370 HB hq_; have HO_5 := n0_; have BK368 := n1_; have BK370 := n2_; have HB := n3_; clear n0_ n1_ n2_ n3_; obtain ⟨hcz31_0, hcz31_1, hcz31_2, hcz31_3, hcz31_4, hcz31_5, hcz31_6, hcz31_7, hfz31_0, hfz31_1, hfz31_2, hfz31_3, hfz31_4, hfz31_5, hfz31_6, hfz31_7⟩ := bx8z BK368.out; obtain ⟨hcz32_0, hcz32_1, hcz32_2, hcz32_3, hfz32_0, hfz32_1, hfz32_2, hfz32_3⟩ := bx4z BK370.out)))|((with_reducible refine gate_builtin (b := .append) (xs := #[.tmp 60, .tmp 62]) rfl ?_); at_builtin; refine Kd.R_append k48 (w0 := w) w.heap.size rfl (.tmp 60) (.tmp 62) 22 48 (.agg #[(.int .i64 0), (.int .i64 0), (.int .i64 0), (.int .i64 0)]) 32 rfl Tryd.underlying22 info48 rfl (by decide) (by omega) u5 x5_1 (⟨((rd_T48 l0 x6_1).f0), ((rd_T48 l0 x6_1).f1), ((rd_T48 l0 x6_1).f2), t376⟩ : S48) [.int .i64 ((rd_T48 l0 x6_1).f0), .int .i64 ((rd_T48 l0 x6_1).f1), .int .i64 ((rd_T48 l0 x6_1).f2), .int .i64 t376] (fun k_ => k_ ≠ gb370) (fun _ => False) rfl (by first|(go_simp; done)|(go_simp; rfl)) ?aP (fun _ hk => hk.elim) ?aF ?aO ?aB ?aS ?aL ?_; (case aP => exact k48_mkM _ _ _ (⟨((rd_T48 l0 x6_1).f0), ((rd_T48 l0 x6_1).f1), ((rd_T48 l0 x6_1).f2), t376⟩ : S48)); (case aB => exact (by repeat (first|(with_reducible first|exact HB.out|apply lA|apply lN|apply lD|refine lS ?_ GE368.out|refine lS ?_ GE370.out)|exact HB.out))); (case aF => exact (fun k_ hk => Kd.freshB (g := gb370) (o := .cells #[.int .i64 ((rd_T48 l0 x6_1).f0), .int .i64 ((rd_T48 l0 x6_1).f1), .int .i64 ((rd_T48 l0 x6_1).f2), .int .i64 t376] 48 (0, 0)) (by (with_reducible repeat (first|refine bN ?_ _|refine bD ?_|refine bA ?_ _)); refine blk_put (cs := #[.int .i64 ((rd_T48 l0 x6_1).f0), .int .i64 ((rd_T48 l0 x6_1).f1), .int .i64 ((rd_T48 l0 x6_1).f2), .int .i64 ((rd_T48 l0 x6_1).f3)]) ?_ 3 _ rfl; (with_reducible repeat (first|refine bN ?_ _|refine bD ?_|refine bA ?_ _)); exact BK370.out) k_ hk)); (case aO => exact (by (with_reducible repeat (first|apply Kd.R_alloc|apply Kd.R_drewN|apply Kd.R_drew)); exact Kd.R_mono (Kd.R_far (p := ⟨gb370, 3, none⟩) (Kd.R_mono HO_5.out (fun k_ hk => (⟨hk, hk⟩ : _ ∧ k_ ≠ gb370))) (fun _ hk => hk.2) (.int .i64 t376)) (fun _ hk => hk.1))); (case aS => exact (below_size (by repeat (first|(with_reducible first|exact HB.out|apply lA|apply lN|apply lD|refine lS ?_ GE368.out|refine lS ?_ GE370.out)|exact HB.out)))); (case aL => have := LMc29.out; omega); intro v379 w33 ho hb hg hat; rw [← Ny378.out] at ho; have n0_ := aM (blk_grown (g := gb368) (o := .cells #[.int .i64 a1_0, .int .i64 a1_1, .int .i64 a1_2, .int .i64 a1_3, .int .i64 a1_4, .int .i64 a1_5, .slice A1_6 l1_6.length c1_6, .int .i64 a1_7] 45 (0, 0)) (by (with_reducible repeat (first|refine bN ?_ _|refine bD ?_|refine bA ?_ _)); refine bF ?_ NB368_370.out _; (with_reducible repeat (first|refine bN ?_ _|refine bD ?_|refine bA ?_ _)); exact BK368.out) hg (Kd.R_ne HO_5.out BK368.out (by decide))); have n1_ := aM (blk_grown (g := gb370) (o := .cells #[.int .i64 ((rd_T48 l0 x6_1).f0), .int .i64 ((rd_T48 l0 x6_1).f1), .int .i64 ((rd_T48 l0 x6_1).f2), .int .i64 t376] 48 (0, 0)) (by (with_reducible repeat (first|refine bN ?_ _|refine bD ?_|refine bA ?_ _)); refine blk_put (cs := #[.int .i64 ((rd_T48 l0 x6_1).f0), .int .i64 ((rd_T48 l0 x6_1).f1), .int .i64 ((rd_T48 l0 x6_1).f2), .int .i64 ((rd_T48 l0 x6_1).f3)]) ?_ 3 _ rfl; (with_reducible repeat (first|refine bN ?_ _|refine bD ?_|refine bA ?_ _)); exact BK370.out) hg (Kd.R_away HO_5.out (fun _ hk => hk))); have n2_ := aM (hb); have n3_ := aM (ho); clear BK368; clear BK370; clear HB; clear HO_5; have BK368 := n0_; have BK370 := n1_; have HB := n2_; have HO380 := n3_; clear n0_ n1_ n2_ n3_; clear ho hb hg hat))
        go_roundg kj5
        case measure => have := HK1.out; have := HJ5.out; omega
        case rel => exact ⟨(y378), (wrap64 (x6_1 + 1)), (by first|rfl|(simp; done)|(simp [*]; done)), H', ⟨by have := HK1.out; have := HJ5.out; omega⟩, ⟨by (with_reducible repeat (first|apply Kd.R_alloc|apply Kd.R_drewN|apply Kd.R_drew)); exact Kd.R_mono HO380.out (fun _ hk => trivial)⟩, ⟨by (with_reducible repeat (first|refine bN ?_ _|refine bD ?_|refine bA ?_ _)); exact BK368.out⟩, ⟨by repeat (first|(with_reducible first|exact HB.out|apply lA|apply lN|apply lD|refine lS ?_ GE368.out|refine lS ?_ GE370.out)|exact HB.out)⟩⟩
      ·replace c20 := Bool.eq_false_iff.mpr c20
       subst c20
       have H1 : (if x5_1.length < 4398046511104 then (emenderref09_marked.l0 kj5 l0 (x5_1 ++ [(⟨((rd_T48 l0 x6_1).f0), ((rd_T48 l0 x6_1).f1), ((rd_T48 l0 x6_1).f2), ((rd_T48 l0 x6_1).f3)⟩ : S48)]) (wrap64 (x6_1 + 1)) a1_0 a1_1 a1_2 a1_3 a1_4 a1_5 l1_6 a1_7) else (none)) = some r := by rw [if_neg (show ¬ (false = true) by decide)] at H; exact H
       clear H
       have H := H1
       clear H1
       replace H := ifS H; obtain ⟨c34, H⟩ := H
       have LMc34 := aM c34
       clear c34
       obtain ⟨y381, hy381⟩ : ∃ y_ : List (S48), y_ = (x5_1 ++ [(⟨((rd_T48 l0 x6_1).f0), ((rd_T48 l0 x6_1).f1), ((rd_T48 l0 x6_1).f2), ((rd_T48 l0 x6_1).f3)⟩ : S48)]) := ⟨_, rfl⟩
       replace H : (emenderref09_marked.l0 kj5 l0 y381 (wrap64 (x6_1 + 1)) a1_0 a1_1 a1_2 a1_3 a1_4 a1_5 l1_6 a1_7) = some r := by first|(rw [hy381]; with_reducible exact H)|(have H2_ := (Option.bind_some _ _).symm.trans H; rw [hy381]; with_reducible exact H2_)|(have H2_ := (Option.bind_some _ _).symm.trans H; with_reducible exact H2_)|with_reducible exact H|(rw [hy381]; exact H)|exact H
       have Ny381 := aM hy381
       clear hy381
       have H' := aM H
       clear H
       have hnb35 := NB370_368.out
       have hnc35 := NB368_370.out
       obtain ⟨hcz36_0, hcz36_1, hcz36_2, hcz36_3, hfz36_0, hfz36_1, hfz36_2, hfz36_3⟩ := bx4z BK370.out
       go_wp2_with (first|((with_reducible refine gate_builtin (b := .append) (xs := #[.tmp 60, .tmp 62]) rfl ?_); at_builtin; refine Kd.R_append k48 (w0 := w) w.heap.size rfl (.tmp 60) (.tmp 62) 22 48 (.agg #[(.int .i64 0), (.int .i64 0), (.int .i64 0), (.int .i64 0)]) 32 rfl Tryd.underlying22 info48 rfl (by decide) (by omega) u5 x5_1 (⟨((rd_T48 l0 x6_1).f0), ((rd_T48 l0 x6_1).f1), ((rd_T48 l0 x6_1).f2), ((rd_T48 l0 x6_1).f3)⟩ : S48) [.int .i64 ((rd_T48 l0 x6_1).f0), .int .i64 ((rd_T48 l0 x6_1).f1), .int .i64 ((rd_T48 l0 x6_1).f2), .int .i64 ((rd_T48 l0 x6_1).f3)] (fun k_ => k_ ≠ gb370) (fun _ => False) rfl rfl ?aP (fun _ hk => hk.elim) ?aF ?aO ?aB ?aS ?aL ?_; (case aP => exact k48_mkM _ _ _ (⟨((rd_T48 l0 x6_1).f0), ((rd_T48 l0 x6_1).f1), ((rd_T48 l0 x6_1).f2), ((rd_T48 l0 x6_1).f3)⟩ : S48)); (case aB => exact (by repeat (first|(with_reducible first|exact HB.out|apply lA|apply lN|apply lD|refine lS ?_ GE368.out|refine lS ?_ GE370.out)|exact HB.out))); (case aF => exact (fun k_ hk => Kd.freshB (g := gb370) (o := .cells #[.int .i64 ((rd_T48 l0 x6_1).f0), .int .i64 ((rd_T48 l0 x6_1).f1), .int .i64 ((rd_T48 l0 x6_1).f2), .int .i64 ((rd_T48 l0 x6_1).f3)] 48 (0, 0)) (by (with_reducible repeat (first|refine bN ?_ _|refine bD ?_|refine bA ?_ _)); exact BK370.out) k_ hk)); (case aO => exact (by (with_reducible repeat (first|apply Kd.R_alloc|apply Kd.R_drewN|apply Kd.R_drew)); exact HO_5.out)); (case aS => exact (below_size (by repeat (first|(with_reducible first|exact HB.out|apply lA|apply lN|apply lD|refine lS ?_ GE368.out|refine lS ?_ GE370.out)|exact HB.out)))); (case aL => have := LMc34.out; omega); intro v382 w37 ho hb hg hat; rw [← Ny381.out] at ho; have n0_ := aM (blk_grown (g := gb368) (o := .cells #[.int .i64 a1_0, .int .i64 a1_1, .int .i64 a1_2, .int .i64 a1_3, .int .i64 a1_4, .int .i64 a1_5, .slice A1_6 l1_6.length c1_6, .int .i64 a1_7] 45 (0, 0)) (by (with_reducible repeat (first|refine bN ?_ _|refine bD ?_|refine bA ?_ _)); exact BK368.out) hg (Kd.R_ne HO_5.out BK368.out (by decide))); have n1_ := aM (blk_grown (g := gb370) (o := .cells #[.int .i64 ((rd_T48 l0 x6_1).f0), .int .i64 ((rd_T48 l0 x6_1).f1), .int .i64 ((rd_T48 l0 x6_1).f2), .int .i64 ((rd_T48 l0 x6_1).f3)] 48 (0, 0)) (by (with_reducible repeat (first|refine bN ?_ _|refine bD ?_|refine bA ?_ _)); exact BK370.out) hg (Kd.R_away HO_5.out (fun _ hk => hk))); have n2_ := aM (hb); have n3_ := aM (ho); clear BK368; clear BK370; clear HB; clear HO_5; have BK368 := n0_; have BK370 := n1_; have HB := n2_; have HO383 := n3_; clear n0_ n1_ n2_ n3_; clear ho hb hg hat))
       go_roundg kj5
       case measure => have := HK1.out; have := HJ5.out; omega
       case rel => exact ⟨(y381), (wrap64 (x6_1 + 1)), (by first|rfl|(simp; done)|(simp [*]; done)), H', ⟨by have := HK1.out; have := HJ5.out; omega⟩, ⟨by (with_reducible repeat (first|apply Kd.R_alloc|apply Kd.R_drewN|apply Kd.R_drew)); exact Kd.R_mono HO383.out (fun _ hk => trivial)⟩, ⟨by (with_reducible repeat (first|refine bN ?_ _|refine bD ?_|refine bA ?_ _)); exact BK368.out⟩, ⟨by repeat (first|(with_reducible first|exact HB.out|apply lA|apply lN|apply lD|refine lS ?_ GE368.out|refine lS ?_ GE370.out)|exact HB.out)⟩⟩
   ·rw [if_neg c4] at H
    have c4b0 : decide (x6_1 < (l0.length : Int)) = false := decide_eq_false c4
    clear c4
    obtain rfl := Option.some.inj H
    go_wp2
    go_ret
    exact ⟨_, by first|rfl|(simp [errW_none, errW_some] <;> rfl)|(simp [*, errW_none, errW_some] <;> rfl), by (with_reducible repeat (first|apply Kd.R_alloc|apply Kd.R_drewN|apply Kd.R_drew)); exact HO_5.out, by repeat (first|(with_reducible first|exact HB.out|apply lA|apply lN|apply lD|refine lS ?_ GE368.out)|exact HB.out)⟩
def emenderref09_done.f (k : Nat) (l0 : List (S48)) (a1_0 : Int) (a1_1 : Int) (a1_2 : Int) (a1_3 : Int) (a1_4 : Int) (a1_5 : Int) (l1_6 : List (S48)) (a1_7 : Int) : Option ((List (S48))) := if a1_0 = 0 then (if 0 ≤ a1_1 then (if a1_1 ≤ (l0.length : Int) then (if 0 ≤ a1_2 then (if a1_2 ≤ (l0.length : Int) then ((emenderref09_join.f k (([(l0.take (a1_1 : Int).toNat), l1_6, (l0.drop (a1_2 : Int).toNat)] : List (List (S48))))).bind fun t398 => (some t398)) else (none)) else (none)) else (none)) else (none)) else (if a1_0 = 1 then (if 0 ≤ a1_1 then (if a1_1 ≤ (l0.length : Int) then (if 0 ≤ a1_5 then (if a1_5 ≤ (l1_6.length : Int) then (if 0 ≤ a1_3 then (if a1_3 ≤ a1_4 then (if a1_4 ≤ (l0.length : Int) then (if 0 ≤ a1_2 then (if a1_2 ≤ (l0.length : Int) then ((emenderref09_join.f k (([(l0.take (a1_1 : Int).toNat), (l1_6.take (a1_5 : Int).toNat), ((l0.take (a1_4 : Int).toNat).drop (a1_3 : Int).toNat), (l1_6.drop (a1_5 : Int).toNat), (l0.drop (a1_2 : Int).toNat)] : List (List (S48))))).bind fun t429 => (some t429)) else (none)) else (none)) else (none)) else (none)) else (none)) else (none)) else (none)) else (none)) else (none)) else ((emenderref09_marked.f k l0 a1_0 a1_1 a1_2 a1_3 a1_4 a1_5 l1_6 a1_7).bind fun t432 => (some t432)))
def emenderref09_done.T3 : Bool × List (List Nat × List Nat) := (true, [([], []), ([], []), ([1], [1]), ([0, 2], [0, 2]), ([], []), ([4], [4]), ([], []), ([], []), ([7], [7]), ([6, 8], [6, 8]), ([3, 5, 9], [3, 5, 9]), ([10], [10]), ([11, 11, 0, 1, 2, 3, 4, 5, 6, 7, 8, 9, 10, 11], [11])])
def emenderref09_done.B3 : List Nat := [0, 0, 2, 7, 0, 16, 0, 0, 128, 448, 1023, 2047, 4095]
theorem emenderref09_done.tab3 : rtab .any (opsOf Tryd.f45 3) = emenderref09_done.T3 := by kernel_rfl
theorem emenderref09_done.bits3 : waitsOk emenderref09_done.T3.2 emenderref09_done.B3 = true := by kernel_rfl
def emenderref09_done.T5 : Bool × List (List Nat × List Nat) := (true, [([], []), ([], []), ([1], [1]), ([0, 2], [0, 2]), ([], []), ([4], [4]), ([], []), ([6], [6]), ([5, 7], [5, 7]), ([], []), ([], []), ([10], [10]), ([], []), ([12], [12]), ([9, 11, 13], [9, 11, 13]), ([], []), ([15], [15]), ([], []), ([17], [17]), ([16, 18], [16, 18]), ([], []), ([], []), ([21], [21]), ([20, 22], [20, 22]), ([3, 8, 14, 19, 23], [3, 8, 14, 19, 23]), ([24], [24]), ([25, 25, 0, 1, 2, 3, 4, 5, 6, 7, 8, 9, 10, 11, 12, 13, 14, 15, 16, 17, 18, 19, 20, 21, 22, 23, 24, 25], [25])])
def emenderref09_done.B5 : List Nat := [0, 0, 2, 7, 0, 16, 0, 64, 240, 0, 0, 1024, 0, 4096, 15872, 0, 32768, 0, 131072, 491520, 0, 0, 2097152, 7340032, 16777215, 33554431, 67108863]
theorem emenderref09_done.tab5 : rtab .any (opsOf Tryd.f45 5) = emenderref09_done.T5 := by kernel_rfl
theorem emenderref09_done.bits5 : waitsOk emenderref09_done.T5.2 emenderref09_done.B5 = true := by kernel_rfl
set_option maxHeartbeats 8000000 in
set_option maxRecDepth 100000 in
theorem emenderref09_done.calls (k : Nat) (P0_ : Nat → Prop) (A0 : Option Addr) (c0 : Nat) (l0 : List (S48)) (a1_0 : Int) (a1_1 : Int) (a1_2 : Int) (a1_3 : Int) (a1_4 : Int) (a1_5 : Int) (P1_6_ : Nat → Prop) (A1_6 : Option Addr) (c1_6 : Nat) (l1_6 : List (S48)) (a1_7 : Int) (r : List (S48)) (w : World) (hs0 : Kd.V k48 48 w w.heap.size (fun k_ => P0_ k_) (.slice A0 l0.length c0) l0) (hs1_6 : Kd.V k48 48 w w.heap.size (fun k_ => P1_6_ k_) (.slice A1_6 l1_6.length c1_6) l1_6) (h : emenderref09_done.f k l0 a1_0 a1_1 a1_2 a1_3 a1_4 a1_5 l1_6 a1_7 = some r) :
  Calls Tryd.prog 45 #[.slice A0 l0.length c0, .agg #[.int .i64 a1_0, .int .i64 a1_1, .int .i64 a1_2, .int .i64 a1_3, .int .i64 a1_4, .int .i64 a1_5, .slice A1_6 l1_6.length c1_6, .int .i64 a1_7]] w fun e w' => ∃ v0_ : Value, e = .returned (v0_) ∧ Kd.R k48 48 w' w.heap.size (fun k_ => (w.heap.size ≤ k_)) v0_ r ∧ Below w.heap.size w w' := by
 have hu45 := Tryd.underlying45
 have HO0 := aM (show Kd.V k48 48 w w.heap.size (fun k_ => ((P0_ k_ ∨ P1_6_ k_) ∨ w.heap.size ≤ k_)) (.slice A0 l0.length c0) l0 from Kd.V_mono hs0 (fun k_ hk => .inl (.inl hk)))
 have HO1_6 := aM (show Kd.V k48 48 w w.heap.size (fun k_ => ((P0_ k_ ∨ P1_6_ k_) ∨ w.heap.size ≤ k_)) (.slice A1_6 l1_6.length c1_6) l1_6 from Kd.V_mono hs1_6 (fun k_ hk => .inl (.inr hk)))
 have HB := aM (Below.refl w.heap.size w)
 have H : (if a1_0 = 0 then (if 0 ≤ a1_1 then (if a1_1 ≤ (l0.length : Int) then (if 0 ≤ a1_2 then (if a1_2 ≤ (l0.length : Int) then ((emenderref09_join.f k (([(l0.take (a1_1 : Int).toNat), l1_6, (l0.drop (a1_2 : Int).toNat)] : List (List (S48))))).bind fun t398 => (some t398)) else (none)) else (none)) else (none)) else (none)) else (if a1_0 = 1 then (if 0 ≤ a1_1 then (if a1_1 ≤ (l0.length : Int) then (if 0 ≤ a1_5 then (if a1_5 ≤ (l1_6.length : Int) then (if 0 ≤ a1_3 then (if a1_3 ≤ a1_4 then (if a1_4 ≤ (l0.length : Int) then (if 0 ≤ a1_2 then (if a1_2 ≤ (l0.length : Int) then ((emenderref09_join.f k (([(l0.take (a1_1 : Int).toNat), (l1_6.take (a1_5 : Int).toNat), ((l0.take (a1_4 : Int).toNat).drop (a1_3 : Int).toNat), (l1_6.drop (a1_5 : Int).toNat), (l0.drop (a1_2 : Int).toNat)] : List (List (S48))))).bind fun t429 => (some t429)) else (none)) else (none)) else (none)) else (none)) else (none)) else (none)) else (none)) else (none)) else (none)) else ((emenderref09_marked.f k l0 a1_0 a1_1 a1_2 a1_3 a1_4 a1_5 l1_6 a1_7).bind fun t432 => (some t432)))) = some r := h
 clear h
 by_cases c3 : a1_0 = 0
 ·rw [if_pos c3] at H
  have c3b0 : (a1_0 == 0) = true := beq_iff_eq.mpr c3
  have c3b1 : (a1_0 != 0) = false := bne_eq_false_iff_eq.mpr c3
  clear c3
  replace H := ifS H; obtain ⟨c4, H⟩ := H
  have c4b0 := eq_true c4
  have c4b1 : decide (0 ≤ a1_1) = true := decide_eq_true c4
  clear c4
  replace H := ifS H; obtain ⟨c5, H⟩ := H
  have c5b0 := eq_true c5
  have c5b1 : decide (a1_1 ≤ (l0.length : Int)) = true := decide_eq_true c5
  clear c5
  obtain ⟨y385, hy385⟩ : ∃ y_ : List (S48), y_ = (l0.take (a1_1 : Int).toNat) := ⟨_, rfl⟩
  replace H : (if 0 ≤ a1_2 then (if a1_2 ≤ (l0.length : Int) then ((emenderref09_join.f k (([y385, l1_6, (l0.drop (a1_2 : Int).toNat)] : List (List (S48))))).bind fun t398 => (some t398)) else (none)) else (none)) = some r := by first|(rw [hy385]; with_reducible exact H)|(have H2_ := (Option.bind_some _ _).symm.trans H; rw [hy385]; with_reducible exact H2_)|(have H2_ := (Option.bind_some _ _).symm.trans H; with_reducible exact H2_)|with_reducible exact H|(rw [hy385]; exact H)|exact H
  have Ny385 := aM hy385
  clear hy385
  replace H := ifS H; obtain ⟨c6, H⟩ := H
  have c6b0 := eq_true c6
  have c6b1 : decide (0 ≤ a1_2) = true := decide_eq_true c6
  clear c6
  replace H := ifS H; obtain ⟨c7, H⟩ := H
  have c7b0 := eq_true c7
  have c7b1 : decide (a1_2 ≤ (l0.length : Int)) = true := decide_eq_true c7
  clear c7
  obtain ⟨y390, hy390⟩ : ∃ y_ : List (S48), y_ = (l0.drop (a1_2 : Int).toNat) := ⟨_, rfl⟩
  replace H : ((emenderref09_join.f k (([y385, l1_6, y390] : List (List (S48))))).bind fun t398 => (some t398)) = some r := by first|(rw [hy390]; with_reducible exact H)|(have H2_ := (Option.bind_some _ _).symm.trans H; rw [hy390]; with_reducible exact H2_)|(have H2_ := (Option.bind_some _ _).symm.trans H; with_reducible exact H2_)|with_reducible exact H|(rw [hy390]; exact H)|exact H
  have Ny390 := aM hy390
  clear hy390
  obtain ⟨y395, hy395⟩ : ∃ y_ : List (List (S48)), y_ = (([y385, l1_6, y390] : List (List (S48)))) := ⟨_, rfl⟩
  replace H : ((emenderref09_join.f k y395).bind fun t398 => (some t398)) = some r := by first|(rw [hy395]; with_reducible exact H)|(have H2_ := (Option.bind_some _ _).symm.trans H; rw [hy395]; with_reducible exact H2_)|(have H2_ := (Option.bind_some _ _).symm.trans H; with_reducible exact H2_)|with_reducible exact H|(rw [hy395]; exact H)|exact H
  have Ny395 := aM hy395
  clear hy395
  replace H := Option.bind_eq_some_iff.mp H
  obtain ⟨t398, A80, H⟩ := H
  replace H : (some t398) = some r := H
  have A8 := aM A80
  clear A80
  obtain rfl := Option.some.inj H
  go_enter Tryd.func45, Tryd.ntmps45
  try go_wp2_with (first|((with_reducible refine gate_dst (N := 3) rfl ?_); refine box_event ?hg (N := 3) ?hd (cs := #[.int .i64 a1_0, .int .i64 a1_1, .int .i64 a1_2, .int .i64 a1_3, .int .i64 a1_4, .int .i64 a1_5, .slice A1_6 l1_6.length c1_6, .int .i64 a1_7]) (t := 45) ?hr ?_; (case hd => rfl); (case hg => rfl); (case hr => first|(go_simp; done)|(go_simp; rfl)); intro gb384 hg w9 hbox hb; replace HO0 := aM (Kd.V_below (Kd.V_elderB (by (with_reducible repeat (first|apply Kd.V_alloc|apply Kd.V_drewN|apply Kd.V_drew)); exact HO0.out) gb384 (Nat.le_of_eq hg.symm)) hb); replace HO1_6 := aM (Kd.V_below (Kd.V_elderB (by (with_reducible repeat (first|apply Kd.V_alloc|apply Kd.V_drewN|apply Kd.V_drew)); exact HO1_6.out) gb384 (Nat.le_of_eq hg.symm)) hb); replace BK384 := aM (hbox); replace GW384 := aM ((by rw [hg]; exact (below_size (by repeat (first|(with_reducible first|exact HB.out|apply lA|apply lN|apply lD)|exact HB.out))) : w.heap.size ≤ gb384)); replace GE384 := aM ((by rw [hg]; exact (below_size (by repeat (first|(with_reducible first|exact HB.out|apply lA|apply lN|apply lD)|exact HB.out))) : w.heap.size ≤ gb384)); replace HB := aM (below_step (by repeat (first|(with_reducible first|exact HB.out|apply lA|apply lN|apply lD)|exact HB.out)) hb); clear hb hbox hg; obtain ⟨hcz10_0, hcz10_1, hcz10_2, hcz10_3, hcz10_4, hcz10_5, hcz10_6, hcz10_7, hfz10_0, hfz10_1, hfz10_2, hfz10_3, hfz10_4, hfz10_5, hfz10_6, hfz10_7⟩ := bx8z BK384.out))
  have n0_ := aM (Kd.V_drew HO0.out)
  have n1_ := aM (Kd.V_drew HO1_6.out)
  have n2_ := aM (bD BK384.out)
  have n3_ := aM (lD HB.out)
  clear HO0
  clear HO1_6
  clear BK384
  clear HB
  have HO0 := n0_
  have HO1_6 := n1_
  have BK384 := n2_
  have HB := n3_
  clear n0_ n1_ n2_ n3_
  have q12 : (a1_1 : Int) ≤ ((l0.length : Int) : Int) := of_decide_eq_true (by assumption)
  obtain ⟨i012, hi012, _, hsz12, _⟩ := info_parts info48
  have hroom12 : l0.length ≤ c0 := (Kd.V_reads' HO0.out).2.1
  have hC12 : Kd.F k48 _ _ A0 l0.length l0 := (Kd.V_at (base := w.heap.size) HO0.out).2.2
  have hcut12 := cut_to (P := Tryd.prog) 22 48 .i64 Tryd.underlying22 hi012 A0 l0.length c0 a1_1 (of_decide_eq_true (by assumption)) q12 hroom12
  have hr12 := Kd.F_take (m := (a1_1 : Int).toNat) hC12 (by omega)
  have hy12 : y385.length = (a1_1 : Int).toNat := (by rw [Ny385.out, List.length_take]; omega)
  rw [← Ny385.out] at hr12
  rw [← hy12] at hcut12
  have HO389 := aM (show Kd.V k48 48 _ w.heap.size _ (.slice A0 y385.length c0) y385 from Kd.V_mk (by omega) hr12)
  have HC389 := aM (show y385.length ≤ c0 from by omega)
  clear hr12 hC12 hroom12 hi012 hsz12
  have KY12 := aM hy12
  clear hy12
  replace q12 := eq_true q12
  have q13 : (a1_2 : Int) ≤ ((l0.length : Int) : Int) := of_decide_eq_true (by assumption)
  obtain ⟨i013, hi013, _, hsz13, _⟩ := info_parts info48
  have hroom13 : l0.length ≤ c0 := (Kd.V_reads' HO0.out).2.1
  have hC13 : Kd.F k48 _ _ A0 l0.length l0 := (Kd.V_at (base := w.heap.size) HO0.out).2.2
  have q013 : (0 : Int) ≤ (a1_2 : Int) := of_decide_eq_true (by assumption)
  have hcut13 := cut_from (P := Tryd.prog) 22 48 .i64 Tryd.underlying22 hi013 4 hsz13 A0 l0.length c0 a1_2 q013 q13
  have hr13 := Kd.F_cut (m := (a1_2 : Int).toNat) (c := c0) hC13 (by omega) hroom13
  obtain ⟨A13, hA13⟩ : ∃ A1, A1 = (if c0 = (a1_2 : Int).toNat then A0 else (A0 : Option Addr).map (·.add ((a1_2 : Int).toNat * 4))) := ⟨_, rfl⟩
  obtain ⟨c13, hc13⟩ : ∃ c1, c1 = c0 - (a1_2 : Int).toNat := ⟨_, rfl⟩
  have hy13 : y390.length = l0.length - (a1_2 : Int).toNat := (by rw [Ny390.out, List.length_drop] <;> omega)
  rw [show (l0).drop (a1_2 : Int).toNat = y390 from Ny390.out.symm] at hr13
  replace hr13 : Kd.F k48 _ _ A13 y390.length y390 := (by rw [hA13]; exact hr13)
  rw [← hy13, ← hA13, ← hc13] at hcut13
  have HO394 := aM (show Kd.V k48 48 _ w.heap.size _ (.slice A13 y390.length c13) y390 from Kd.V_mk (by rw [hy13, hc13]; exact Nat.sub_le_sub_right hroom13 _) hr13)
  have HC394 := aM (show y390.length ≤ c13 from by rw [hy13, hc13]; exact Nat.sub_le_sub_right hroom13 _)
  clear hr13 hC13 hroom13 hi013 hsz13 hc13
  have KY13 := aM hy13
  have KA13 := aM hA13
  clear hy13 hA13
  replace q13 := eq_true q13
  refine start_ (n := 13) (S := fun w' => w'.cell? ⟨gb384, 0, none⟩ = some (.int .i64 a1_0) ∧ w'.cell? ⟨gb384, 1, none⟩ = some (.int .i64 a1_1) ∧ w'.cell? ⟨gb384, 2, none⟩ = some (.int .i64 a1_2) ∧ w'.cell? ⟨gb384, 3, none⟩ = some (.int .i64 a1_3) ∧ w'.cell? ⟨gb384, 4, none⟩ = some (.int .i64 a1_4) ∧ w'.cell? ⟨gb384, 5, none⟩ = some (.int .i64 a1_5) ∧ w'.cell? ⟨gb384, 6, none⟩ = some (.slice A1_6 l1_6.length c1_6) ∧ w'.cell? ⟨gb384, 7, none⟩ = some (.int .i64 a1_7)) (ds := []) #[false, false, false, false, false, false, false, false, false, false, false, false, false] (by kernel_rfl) rfl rfl ⟨(blk_cell BK384.out 0).trans rfl, (blk_cell BK384.out 1).trans rfl, (blk_cell BK384.out 2).trans rfl, (blk_cell BK384.out 3).trans rfl, (blk_cell BK384.out 4).trans rfl, (blk_cell BK384.out 5).trans rfl, (blk_cell BK384.out 6).trans rfl, (blk_cell BK384.out 7).trans rfl⟩ (fun hHeld => ?_); refine with_tabW emenderref09_done.tab3 emenderref09_done.bits3 (fun HT_ HW_ => ?_)
  generalize w9.drew = w11 at HO0 HO1_6 BK384 HB HO389 HO394 hHeld ⊢
  refine pure_ (i := 0) (N := some 9) (v := ?_) (a' := ?_) #[true, false, false, false, false, false, false, false, false, false, false, false, false] rfl rfl (any_of HT_.out (by kernel_rfl)) (fun _ _ _ h => h) (Or.inl ⟨by rfl, ?_⟩) ?_ ?_
  rotate_left
  ·intro w'
   go_simp
   with_reducible rfl
  rotate_left
  ·simp only [Act.put, sA, sZ, sS, i64_w, i32_w]
   rfl
  refine pure_ (i := 1) (N := some 10) (v := ?_) (a' := ?_) #[true, true, false, false, false, false, false, false, false, false, false, false, false] rfl rfl (any_of HT_.out (by kernel_rfl)) (fun _ _ _ h => h) (Or.inl ⟨by rfl, ?_⟩) ?_ ?_
  rotate_left
  ·intro w'
   go_simp
   with_reducible rfl
  rotate_left
  ·simp only [Act.put, sA, sZ, sS, i64_w, i32_w]
   rfl
  refine pure_ (i := 4) (N := some 13) (v := ?_) (a' := ?_) #[true, true, false, false, true, false, false, false, false, false, false, false, false] rfl rfl (any_of HT_.out (by kernel_rfl)) (fun _ _ _ h => h) (Or.inl ⟨by rfl, ?_⟩) ?_ ?_
  rotate_left
  ·intro w'
   go_simp
   with_reducible rfl
  rotate_left
  ·simp only [Act.put, sA, sZ, sS, i64_w, i32_w]
   rfl
  refine pure_ (i := 6) (N := some 15) (v := ?_) (a' := ?_) #[true, true, false, false, true, false, true, false, false, false, false, false, false] rfl rfl (any_of HT_.out (by kernel_rfl)) (fun _ _ _ h => h) (Or.inl ⟨by rfl, ?_⟩) ?_ ?_
  rotate_left
  ·intro w'
   go_simp
   with_reducible rfl
  rotate_left
  ·simp only [Act.put, sA, sZ, sS, i64_w, i32_w]
   rfl
  refine pure_ (i := 7) (N := some 16) (v := ?_) (a' := ?_) #[true, true, false, false, true, false, true, true, false, false, false, false, false] rfl rfl (any_of HT_.out (by kernel_rfl)) (fun _ _ _ h => h) (Or.inl ⟨by rfl, ?_⟩) ?_ ?_
  rotate_left
  ·intro w'
   go_simp
   with_reducible rfl
  rotate_left
  ·simp only [Act.put, sA, sZ, sS, i64_w, i32_w]
   rfl
  refine take_ (i := 2) (N := some 11) (v := ?_) (a' := ?_) #[true, true, true, false, true, false, true, true, false, false, false, false, false] rfl rfl (take_ofW HT_.out HW_.out (by kernel_rfl)) (fun _ _ _ h => h) (Or.inl ⟨by rfl, ?_⟩) hHeld ?_ ?_
  rotate_left
  ·rintro w' ⟨s0, s1, s2, s3, s4, s5, s6, s7⟩
   go_simp
   with_reducible rfl
  rotate_left
  ·simp only [Act.put, sA, sZ, sS, i64_w, i32_w]
   rfl
  refine pure_ (i := 3) (N := some 12) (v := ?_) (a' := ?_) #[true, true, true, true, true, false, true, true, false, false, false, false, false] rfl rfl (any_of HT_.out (by kernel_rfl)) (fun _ _ _ h => h) (Or.inl ⟨by rfl, ?_⟩) ?_ ?_
  rotate_left
  ·intro w'
   go_simp
   with_reducible rfl
  rotate_left
  ·simp only [Act.put, sA, sZ, sS, i64_w, i32_w]
   rfl
  refine take_ (i := 5) (N := some 14) (v := ?_) (a' := ?_) #[true, true, true, true, true, true, true, true, false, false, false, false, false] rfl rfl (take_ofW HT_.out HW_.out (by kernel_rfl)) (fun _ _ _ h => h) (Or.inl ⟨by rfl, ?_⟩) hHeld ?_ ?_
  rotate_left
  ·rintro w' ⟨s0, s1, s2, s3, s4, s5, s6, s7⟩
   go_simp
   with_reducible rfl
  rotate_left
  ·simp only [Act.put, sA, sZ, sS, i64_w, i32_w]
   rfl
  refine take_ (i := 8) (N := some 17) (v := ?_) (a' := ?_) #[true, true, true, true, true, true, true, true, true, false, false, false, false] rfl rfl (take_ofW HT_.out HW_.out (by kernel_rfl)) (fun _ _ _ h => h) (Or.inl ⟨by rfl, ?_⟩) hHeld ?_ ?_
  rotate_left
  ·rintro w' ⟨s0, s1, s2, s3, s4, s5, s6, s7⟩
   go_simp
   with_reducible rfl
  rotate_left
  ·simp only [Act.put, sA, sZ, sS, i64_w, i32_w]
   rfl
  refine pure_ (i := 9) (N := some 18) (v := ?_) (a' := ?_) #[true, true, true, true, true, true, true, true, true, true, false, false, false] rfl rfl (any_of HT_.out (by kernel_rfl)) (fun _ _ _ h => h) (Or.inl ⟨by rfl, ?_⟩) ?_ ?_
  rotate_left
  ·intro w'
   go_simp
   with_reducible rfl
  rotate_left
  ·simp only [Act.put, sA, sZ, sS, i64_w, i32_w]
   rfl
  refine one_ (i := 10) (N := some 19) #[true, true, true, true, true, true, true, true, true, true, true, false, false] rfl rfl (one_of HT_.out (by kernel_rfl)) (by decide) (fun K hK => ?_)
  refine Kd.N_lit_step (Kd.slice 48 k48) _ 22 ?hg (N' := 19) ?hd (xs := ([y385, l1_6, y390] : List (List (S48)))) (inner := [.slice A0 y385.length c0, .slice A1_6 l1_6.length c1_6, .slice A13 y390.length c13]) (ok := (fun k_ => ((P0_ k_ ∨ P1_6_ k_) ∨ w.heap.size ≤ k_) ∧ k_ ≠ gb384)) (okp := (fun k_ => ((P0_ k_ ∨ P1_6_ k_) ∨ w.heap.size ≤ k_) ∧ k_ ≠ gb384)) ?hr ?hp (fun _ hk => hk) ((show ∀ k_, w11.heap.size ≤ k_ → (fun k_ => ((P0_ k_ ∨ P1_6_ k_) ∨ w.heap.size ≤ k_) ∧ k_ ≠ gb384) k_ from fun k_ hk => ⟨(.inr (Nat.le_trans (below_size (by repeat (first|(with_reducible first|exact HB.out|apply lA|apply lN|apply lD|refine lS ?_ GE384.out)|exact HB.out))) hk)), Kd.freshB (g := gb384) (o := .cells #[.int .i64 a1_0, .int .i64 a1_1, .int .i64 a1_2, .int .i64 a1_3, .int .i64 a1_4, .int .i64 a1_5, .slice A1_6 l1_6.length c1_6, .int .i64 a1_7] 45 (0, 0)) (by (with_reducible repeat (first|refine bN ?_ _|refine bD ?_|refine bA ?_ _)); exact BK384.out) k_ hk⟩) _ (Nat.le_refl _)) (Below.refl _ _) (Nat.le_refl _) (by simp) ?_; (case hd => rfl); (case hg => rfl); (case hr => first|(go_simp; done)|(go_simp; rfl)); (case hp => exact (Reps.one (show Kd.FK (Kd.slice 48 k48) _ _ y385 [.slice A0 y385.length c0] from (Kd.FK_slice_mk (Kd.V_reads' (Kd.V_mono (ok' := (fun k_ => ((P0_ k_ ∨ P1_6_ k_) ∨ w.heap.size ≤ k_) ∧ k_ ≠ gb384)) (HO389.out) (fun k_ hk => ⟨hk.1, hk.2⟩))).2.1 (Kd.V_F (Kd.V_mono (ok' := (fun k_ => ((P0_ k_ ∨ P1_6_ k_) ∨ w.heap.size ≤ k_) ∧ k_ ≠ gb384)) (HO389.out) (fun k_ hk => ⟨hk.1, hk.2⟩))))) (Reps.one (show Kd.FK (Kd.slice 48 k48) _ _ l1_6 [.slice A1_6 l1_6.length c1_6] from (Kd.FK_slice_mk (Kd.V_reads' (Kd.V_mono (ok' := (fun k_ => ((P0_ k_ ∨ P1_6_ k_) ∨ w.heap.size ≤ k_) ∧ k_ ≠ gb384)) (HO1_6.out) (fun k_ hk => ⟨hk.1, hk.2⟩))).2.1 (Kd.V_F (Kd.V_mono (ok' := (fun k_ => ((P0_ k_ ∨ P1_6_ k_) ∨ w.heap.size ≤ k_) ∧ k_ ≠ gb384)) (HO1_6.out) (fun k_ hk => ⟨hk.1, hk.2⟩))))) (Reps.one (show Kd.FK (Kd.slice 48 k48) _ _ y390 [.slice A13 y390.length c13] from (Kd.FK_slice_mk (Kd.V_reads' (Kd.V_mono (ok' := (fun k_ => ((P0_ k_ ∨ P1_6_ k_) ∨ w.heap.size ≤ k_) ∧ k_ ≠ gb384)) (HO394.out) (fun k_ hk => ⟨hk.1, hk.2⟩))).2.1 (Kd.V_F (Kd.V_mono (ok' := (fun k_ => ((P0_ k_ ∨ P1_6_ k_) ∨ w.heap.size ≤ k_) ∧ k_ ≠ gb384)) (HO394.out) (fun k_ hk => ⟨hk.1, hk.2⟩))))) (Reps.none _ _)))))
  intro v396 w14 ho15 hb hg_ hnew_
  clear hg_ hnew_
  (first|rw [← Ny395.out] at ho15|(simp only [Int.reduceToNat] at ho15; rw [← Ny395.out] at ho15))
  have n0_ := aM (Kd.V_elder' (by (with_reducible repeat (first|apply Kd.V_alloc|apply Kd.V_drewN|apply Kd.V_drew)); exact HO0.out) (Kd.N_base ho15) hb)
  have n1_ := aM (Kd.V_elder' (by (with_reducible repeat (first|apply Kd.V_alloc|apply Kd.V_drewN|apply Kd.V_drew)); exact HO1_6.out) (Kd.N_base ho15) hb)
  have n2_ := aM (Kd.V_elder' (by (with_reducible repeat (first|apply Kd.V_alloc|apply Kd.V_drewN|apply Kd.V_drew)); exact HO389.out) (Kd.N_base ho15) hb)
  have n3_ := aM (Kd.V_elder' (by (with_reducible repeat (first|apply Kd.V_alloc|apply Kd.V_drewN|apply Kd.V_drew)); exact HO394.out) (Kd.N_base ho15) hb)
  have n4_ := aM (Kd.N_lower ho15 (below_size (by repeat (first|(with_reducible first|exact HB.out|apply lA|apply lN|apply lD|refine lS ?_ GE384.out)|exact HB.out))))
  have n5_ := aM (blk_below (by (with_reducible repeat (first|refine bN ?_ _|refine bD ?_|refine bA ?_ _)); exact BK384.out) hb)
  have n6_ := aM (below_step (by repeat (first|(with_reducible first|exact HB.out|apply lA|apply lN|apply lD|refine lS ?_ GE384.out)|exact HB.out)) hb)
  clear HO0
  clear HO1_6
  clear HO389
  clear HO394
  clear BK384
  clear HB
  have HO0 := n0_
  have HO1_6 := n1_
  have HO389 := n2_
  have HO394 := n3_
  have HO397 := n4_
  have BK384 := n5_
  have HB := n6_
  clear n0_ n1_ n2_ n3_ n4_ n5_ n6_
  clear hb ho15
  obtain ⟨Ao16, co16, eo16⟩ := Kd.N_slice HO397.out
  (first|subst eo16|(injection eo16 with f1_ f2_ f3_; have f4_ := f1_.symm; have f5_ := f3_.symm; clear f1_ f2_ f3_; subst f4_; subst f5_))
  refine hK.out _ _ ⟨(blk_cell BK384.out 0).trans rfl, (blk_cell BK384.out 1).trans rfl, (blk_cell BK384.out 2).trans rfl, (blk_cell BK384.out 3).trans rfl, (blk_cell BK384.out 4).trans rfl, (blk_cell BK384.out 5).trans rfl, (blk_cell BK384.out 6).trans rfl, (blk_cell BK384.out 7).trans rfl⟩ (fun hHeld => ?_)
  clear hK K
  refine norm_ (a' := ?_) ?_ ?_
  rotate_left
  ·show Act.put _ (some 19) _ = _
   simp only [Act.put, sA, sZ, sS, i64_w, i32_w]
   rfl
  refine one_ (i := 11) (N := some 20) #[true, true, true, true, true, true, true, true, true, true, true, true, false] rfl rfl (one_of HT_.out (by kernel_rfl)) (by decide) (fun K hK => ?_)
  refine goes_ Tryd.func55 (by kernel_rfl) rfl #[.slice Ao16 y395.length co16] (by rfl) rfl rfl (by (try simp only [List.map_toArray, List.map_cons, List.map_nil]); first|done|rfl|(simp only [List.length_drop, List.length_take]; rfl)) ?_
  with_reducible refine (emenderref09_join.calls k _ _ y395 t398 _ ?side1 ?side2 A8.out).mono ?_
  (case side1 => repeat (first|exact (Kd.N_reads' HO397.out).2.2|(with_reducible refine Kd.C_alloc ?_ _)|(with_reducible refine Kd.C_drewN ?_ _)|(with_reducible refine Kd.C_drew ?_)))
  (case side2 => exact (Kd.N_reads' HO397.out).2.1)
  rintro e w17 ⟨v399, rfl, ho0, hb⟩
  refine ⟨_, rfl, ?_⟩
  have n0_ := aM (Kd.V_elder' (by (with_reducible repeat (first|apply Kd.V_alloc|apply Kd.V_drewN|apply Kd.V_drew)); exact HO0.out) (Kd.R_base ho0) hb)
  have n1_ := aM (Kd.V_elder' (by (with_reducible repeat (first|apply Kd.V_alloc|apply Kd.V_drewN|apply Kd.V_drew)); exact HO1_6.out) (Kd.R_base ho0) hb)
  have n2_ := aM (Kd.V_elder' (by (with_reducible repeat (first|apply Kd.V_alloc|apply Kd.V_drewN|apply Kd.V_drew)); exact HO389.out) (Kd.R_base ho0) hb)
  have n3_ := aM (Kd.V_elder' (by (with_reducible repeat (first|apply Kd.V_alloc|apply Kd.V_drewN|apply Kd.V_drew)); exact HO394.out) (Kd.R_base ho0) hb)
  have n4_ := aM (Kd.N_elder' (by (with_reducible repeat (first|apply Kd.N_alloc|apply Kd.N_drewN|apply Kd.N_drew)); exact HO397.out) (Kd.R_base ho0) hb)
  have n5_ := aM (Kd.R_lower (Kd.R_newM (M := fun k_ => (w.heap.size ≤ k_)) ho0 (below_size (by repeat (first|(with_reducible first|exact HB.out|apply lA|apply lN|apply lD|refine lS ?_ GE384.out)|exact HB.out))) (fun k_ h_ => h_)) (below_size (by repeat (first|(with_reducible first|exact HB.out|apply lA|apply lN|apply lD|refine lS ?_ GE384.out)|exact HB.out))))
  have n6_ := aM (blk_below (by (with_reducible repeat (first|refine bN ?_ _|refine bD ?_|refine bA ?_ _)); exact BK384.out) hb)
  have n7_ := aM (below_step (by repeat (first|(with_reducible first|exact HB.out|apply lA|apply lN|apply lD|refine lS ?_ GE384.out)|exact HB.out)) hb)
  clear HO0
  clear HO1_6
  clear HO389
  clear HO394
  clear HO397
  clear BK384
  clear HB
  have HO0 := n0_
  have HO1_6 := n1_
  have HO389 := n2_
  have HO394 := n3_
  have HO397 := n4_
  have HO400 := n5_
  have BK384 := n6_
  have HB := n7_
  clear n0_ n1_ n2_ n3_ n4_ n5_ n6_ n7_
  refine hK.out _ _ ⟨(blk_cell BK384.out 0).trans rfl, (blk_cell BK384.out 1).trans rfl, (blk_cell BK384.out 2).trans rfl, (blk_cell BK384.out 3).trans rfl, (blk_cell BK384.out 4).trans rfl, (blk_cell BK384.out 5).trans rfl, (blk_cell BK384.out 6).trans rfl, (blk_cell BK384.out 7).trans rfl⟩ (fun hHeld => ?_)
  clear hK K
  refine norm_ (a' := ?_) ?_ ?_
  rotate_left
  ·show Act.put _ (some 20) _ = _
   simp only [Act.put, sA, sZ, sS, i64_w, i32_w]
   rfl
  refine pure_ (i := 12) (N := some 4) (v := ?_) (a' := ?_) #[true, true, true, true, true, true, true, true, true, true, true, true, true] rfl rfl (any_of HT_.out (by kernel_rfl)) (fun _ _ _ h => h) (Or.inl ⟨by rfl, ?_⟩) ?_ ?_
  rotate_left
  ·intro w'
   go_simp
   with_reducible rfl
  rotate_left
  ·simp only [Act.put, sA, sZ, sS, i64_w, i32_w]
   rfl
  refine done_ (done_of HT_.out (by kernel_rfl)) ?_
  try go_wp2
  go_ret
  exact ⟨_, by first|rfl|(simp [errW_none, errW_some] <;> rfl)|(simp [*, errW_none, errW_some] <;> rfl), by (with_reducible repeat (first|apply Kd.R_alloc|apply Kd.R_drewN|apply Kd.R_drew)); exact Kd.R_mono HO400.out (fun _ hk => hk.1), by repeat (first|(with_reducible first|exact HB.out|apply lA|apply lN|apply lD|refine lS ?_ GE384.out)|exact HB.out)⟩
 ·rw [if_neg c3] at H
  have c3b0 : (a1_0 == 0) = false := beq_eq_false_iff_ne.mpr c3
  have c3b1 : (a1_0 != 0) = true := bne_iff_ne.mpr c3
  by_cases c18 : a1_0 = 1
  ·rw [if_pos c18] at H
   have c18b0 : (a1_0 == 1) = true := beq_iff_eq.mpr c18
   have c18b1 : (a1_0 != 1) = false := bne_eq_false_iff_eq.mpr c18
   clear c18
   replace H := ifS H; obtain ⟨c19, H⟩ := H
   have c19b0 := eq_true c19
   have c19b1 : decide (0 ≤ a1_1) = true := decide_eq_true c19
   clear c19
   replace H := ifS H; obtain ⟨c20, H⟩ := H
   have c20b0 := eq_true c20
   have c20b1 : decide (a1_1 ≤ (l0.length : Int)) = true := decide_eq_true c20
   clear c20
   obtain ⟨y401, hy401⟩ : ∃ y_ : List (S48), y_ = (l0.take (a1_1 : Int).toNat) := ⟨_, rfl⟩
   replace H : (if 0 ≤ a1_5 then (if a1_5 ≤ (l1_6.length : Int) then (if 0 ≤ a1_3 then (if a1_3 ≤ a1_4 then (if a1_4 ≤ (l0.length : Int) then (if 0 ≤ a1_2 then (if a1_2 ≤ (l0.length : Int) then ((emenderref09_join.f k (([y401, (l1_6.take (a1_5 : Int).toNat), ((l0.take (a1_4 : Int).toNat).drop (a1_3 : Int).toNat), (l1_6.drop (a1_5 : Int).toNat), (l0.drop (a1_2 : Int).toNat)] : List (List (S48))))).bind fun t429 => (some t429)) else (none)) else (none)) else (none)) else (none)) else (none)) else (none)) else (none)) = some r := by first|(rw [hy401]; with_reducible exact H)|(have H2_ := (Option.bind_some _ _).symm.trans H; rw [hy401]; with_reducible exact H2_)|(have H2_ := (Option.bind_some _ _).symm.trans H; with_reducible exact H2_)|with_reducible exact H|(rw [hy401]; exact H)|exact H
   have Ny401 := aM hy401
   clear hy401
   replace H := ifS H; obtain ⟨c21, H⟩ := H
   have c21b0 := eq_true c21
   have c21b1 : decide (0 ≤ a1_5) = true := decide_eq_true c21
   clear c21
   replace H := ifS H; obtain ⟨c22, H⟩ := H
   have c22b0 := eq_true c22
   have c22b1 : decide (a1_5 ≤ (l1_6.length : Int)) = true := decide_eq_true c22
   clear c22
   obtain ⟨y406, hy406⟩ : ∃ y_ : List (S48), y_ = (l1_6.take (a1_5 : Int).toNat) := ⟨_, rfl⟩
   replace H : (if 0 ≤ a1_3 then (if a1_3 ≤ a1_4 then (if a1_4 ≤ (l0.length : Int) then (if 0 ≤ a1_2 then (if a1_2 ≤ (l0.length : Int) then ((emenderref09_join.f k (([y401, y406, ((l0.take (a1_4 : Int).toNat).drop (a1_3 : Int).toNat), (l1_6.drop (a1_5 : Int).toNat), (l0.drop (a1_2 : Int).toNat)] : List (List (S48))))).bind fun t429 => (some t429)) else (none)) else (none)) else (none)) else (none)) else (none)) = some r := by first|(rw [hy406]; with_reducible exact H)|(have H2_ := (Option.bind_some _ _).symm.trans H; rw [hy406]; with_reducible exact H2_)|(have H2_ := (Option.bind_some _ _).symm.trans H; with_reducible exact H2_)|with_reducible exact H|(rw [hy406]; exact H)|exact H
   have Ny406 := aM hy406
   clear hy406
   replace H := ifS H; obtain ⟨c23, H⟩ := H
   have c23b0 := eq_true c23
   have c23b1 : decide (0 ≤ a1_3) = true := decide_eq_true c23
   clear c23
   replace H := ifS H; obtain ⟨c24, H⟩ := H
   have c24b0 := eq_true c24
   have c24b1 : decide (a1_3 ≤ a1_4) = true := decide_eq_true c24
   clear c24
   replace H := ifS H; obtain ⟨c25, H⟩ := H
   have c25b0 := eq_true c25
   have c25b1 : decide (a1_4 ≤ (l0.length : Int)) = true := decide_eq_true c25
   clear c25
   obtain ⟨y411, hy411⟩ : ∃ y_ : List (S48), y_ = ((l0.take (a1_4 : Int).toNat).drop (a1_3 : Int).toNat) := ⟨_, rfl⟩
   replace H : (if 0 ≤ a1_2 then (if a1_2 ≤ (l0.length : Int) then ((emenderref09_join.f k (([y401, y406, y411, (l1_6.drop (a1_5 : Int).toNat), (l0.drop (a1_2 : Int).toNat)] : List (List (S48))))).bind fun t429 => (some t429)) else (none)) else (none)) = some r := by first|(rw [hy411]; with_reducible exact H)|(have H2_ := (Option.bind_some _ _).symm.trans H; rw [hy411]; with_reducible exact H2_)|(have H2_ := (Option.bind_some _ _).symm.trans H; with_reducible exact H2_)|with_reducible exact H|(rw [hy411]; exact H)|exact H
   have Ny411 := aM hy411
   clear hy411
   have c26b0 := eq_true (of_decide_eq_true (by assumption) : 0 ≤ a1_5)
   have c27b0 := eq_true (of_decide_eq_true (by assumption) : a1_5 ≤ (l1_6.length : Int))
   obtain ⟨y416, hy416⟩ : ∃ y_ : List (S48), y_ = (l1_6.drop (a1_5 : Int).toNat) := ⟨_, rfl⟩
   replace H : (if 0 ≤ a1_2 then (if a1_2 ≤ (l0.length : Int) then ((emenderref09_join.f k (([y401, y406, y411, y416, (l0.drop (a1_2 : Int).toNat)] : List (List (S48))))).bind fun t429 => (some t429)) else (none)) else (none)) = some r := by first|(rw [hy416]; with_reducible exact H)|(have H2_ := (Option.bind_some _ _).symm.trans H; rw [hy416]; with_reducible exact H2_)|(have H2_ := (Option.bind_some _ _).symm.trans H; with_reducible exact H2_)|with_reducible exact H|(rw [hy416]; exact H)|exact H
   have Ny416 := aM hy416
   clear hy416
   replace H := ifS H; obtain ⟨c28, H⟩ := H
   have c28b0 := eq_true c28
   have c28b1 : decide (0 ≤ a1_2) = true := decide_eq_true c28
   clear c28
   replace H := ifS H; obtain ⟨c29, H⟩ := H
   have c29b0 := eq_true c29
   have c29b1 : decide (a1_2 ≤ (l0.length : Int)) = true := decide_eq_true c29
   clear c29
   obtain ⟨y421, hy421⟩ : ∃ y_ : List (S48), y_ = (l0.drop (a1_2 : Int).toNat) := ⟨_, rfl⟩
   replace H : ((emenderref09_join.f k (([y401, y406, y411, y416, y421] : List (List (S48))))).bind fun t429 => (some t429)) = some r := by first|(rw [hy421]; with_reducible exact H)|(have H2_ := (Option.bind_some _ _).symm.trans H; rw [hy421]; with_reducible exact H2_)|(have H2_ := (Option.bind_some _ _).symm.trans H; with_reducible exact H2_)|with_reducible exact H|(rw [hy421]; exact H)|exact H
   have Ny421 := aM hy421
   clear hy421
   obtain ⟨y426, hy426⟩ : ∃ y_ : List (List (S48)), y_ = (([y401, y406, y411, y416, y421] : List (List (S48)))) := ⟨_, rfl⟩
   replace H : ((emenderref09_join.f k y426).bind fun t429 => (some t429)) = some r := by first|(rw [hy426]; with_reducible exact H)|(have H2_ := (Option.bind_some _ _).symm.trans H; rw [hy426]; with_reducible exact H2_)|(have H2_ := (Option.bind_some _ _).symm.trans H; with_reducible exact H2_)|with_reducible exact H|(rw [hy426]; exact H)|exact H
   have Ny426 := aM hy426
   clear hy426
   replace H := Option.bind_eq_some_iff.mp H
   obtain ⟨t429, A300, H⟩ := H
   replace H : (some t429) = some r := H
   have A30 := aM A300
   clear A300
   obtain rfl := Option.some.inj H
   go_enter Tryd.func45, Tryd.ntmps45
   try go_wp2_with (first|((with_reducible refine gate_dst (N := 3) rfl ?_); refine box_event ?hg (N := 3) ?hd (cs := #[.int .i64 a1_0, .int .i64 a1_1, .int .i64 a1_2, .int .i64 a1_3, .int .i64 a1_4, .int .i64 a1_5, .slice A1_6 l1_6.length c1_6, .int .i64 a1_7]) (t := 45) ?hr ?_; (case hd => rfl); (case hg => rfl); (case hr => first|(go_simp; done)|(go_simp; rfl)); intro gb384 hg w31 hbox hb; replace HO0 := aM (Kd.V_below (Kd.V_elderB (by (with_reducible repeat (first|apply Kd.V_alloc|apply Kd.V_drewN|apply Kd.V_drew)); exact HO0.out) gb384 (Nat.le_of_eq hg.symm)) hb); replace HO1_6 := aM (Kd.V_below (Kd.V_elderB (by (with_reducible repeat (first|apply Kd.V_alloc|apply Kd.V_drewN|apply Kd.V_drew)); exact HO1_6.out) gb384 (Nat.le_of_eq hg.symm)) hb); replace BK384 := aM (hbox); replace GW384 := aM ((by rw [hg]; exact (below_size (by repeat (first|(with_reducible first|exact HB.out|apply lA|apply lN|apply lD)|exact HB.out))) : w.heap.size ≤ gb384)); replace GE384 := aM ((by rw [hg]; exact (below_size (by repeat (first|(with_reducible first|exact HB.out|apply lA|apply lN|apply lD)|exact HB.out))) : w.heap.size ≤ gb384)); replace HB := aM (below_step (by repeat (first|(with_reducible first|exact HB.out|apply lA|apply lN|apply lD)|exact HB.out)) hb); clear hb hbox hg; obtain ⟨hcz32_0, hcz32_1, hcz32_2, hcz32_3, hcz32_4, hcz32_5, hcz32_6, hcz32_7, hfz32_0, hfz32_1, hfz32_2, hfz32_3, hfz32_4, hfz32_5, hfz32_6, hfz32_7⟩ := bx8z BK384.out))
   have n0_ := aM (Kd.V_drew HO0.out)
   have n1_ := aM (Kd.V_drew HO1_6.out)
   have n2_ := aM (bD BK384.out)
   have n3_ := aM (lD HB.out)
   clear HO0
   clear HO1_6
   clear BK384
   clear HB
   have HO0 := n0_
   have HO1_6 := n1_
   have BK384 := n2_
   have HB := n3_
   clear n0_ n1_ n2_ n3_
   have q34 : (a1_1 : Int) ≤ ((l0.length : Int) : Int) := of_decide_eq_true (by assumption)
   obtain ⟨i034, hi034, _, hsz34, _⟩ := info_parts info48
   have hroom34 : l0.length ≤ c0 := (Kd.V_reads' HO0.out).2.1
   have hC34 : Kd.F k48 _ _ A0 l0.length l0 := (Kd.V_at (base := w.heap.size) HO0.out).2.2
   have hcut34 := cut_to (P := Tryd.prog) 22 48 .i64 Tryd.underlying22 hi034 A0 l0.length c0 a1_1 (of_decide_eq_true (by assumption)) q34 hroom34
   have hr34 := Kd.F_take (m := (a1_1 : Int).toNat) hC34 (by omega)
   have hy34 : y401.length = (a1_1 : Int).toNat := (by rw [Ny401.out, List.length_take]; omega)
   rw [← Ny401.out] at hr34
   rw [← hy34] at hcut34
   have HO405 := aM (show Kd.V k48 48 _ w.heap.size _ (.slice A0 y401.length c0) y401 from Kd.V_mk (by omega) hr34)
   have HC405 := aM (show y401.length ≤ c0 from by omega)
   clear hr34 hC34 hroom34 hi034 hsz34
   have KY34 := aM hy34
   clear hy34
   replace q34 := eq_true q34
   have q35 : (a1_5 : Int) ≤ ((l1_6.length : Int) : Int) := of_decide_eq_true (by assumption)
   obtain ⟨i035, hi035, _, hsz35, _⟩ := info_parts info48
   have hroom35 : l1_6.length ≤ c1_6 := (Kd.V_reads' HO1_6.out).2.1
   have hC35 : Kd.F k48 _ _ A1_6 l1_6.length l1_6 := (Kd.V_at (base := w.heap.size) HO1_6.out).2.2
   have hcut35 := cut_to (P := Tryd.prog) 22 48 .i64 Tryd.underlying22 hi035 A1_6 l1_6.length c1_6 a1_5 (of_decide_eq_true (by assumption)) q35 hroom35
   have hr35 := Kd.F_take (m := (a1_5 : Int).toNat) hC35 (by omega)
   have hy35 : y406.length = (a1_5 : Int).toNat := (by rw [Ny406.out, List.length_take]; omega)
   rw [← Ny406.out] at hr35
   rw [← hy35] at hcut35
   have HO410 := aM (show Kd.V k48 48 _ w.heap.size _ (.slice A1_6 y406.length c1_6) y406 from Kd.V_mk (by omega) hr35)
   have HC410 := aM (show y406.length ≤ c1_6 from by omega)
   clear hr35 hC35 hroom35 hi035 hsz35
   have KY35 := aM hy35
   clear hy35
   replace q35 := eq_true q35
   have q36 : (a1_4 : Int) ≤ ((l0.length : Int) : Int) := of_decide_eq_true (by assumption)
   obtain ⟨i036, hi036, _, hsz36, _⟩ := info_parts info48
   have hroom36 : l0.length ≤ c0 := (Kd.V_reads' HO0.out).2.1
   have hC36 : Kd.F k48 _ _ A0 l0.length l0 := (Kd.V_at (base := w.heap.size) HO0.out).2.2
   have ql36 : (a1_3 : Int) ≤ (a1_4 : Int) := of_decide_eq_true (by assumption)
   have q036 : (0 : Int) ≤ (a1_3 : Int) := of_decide_eq_true (by assumption)
   have hcut36 := cut_mid (P := Tryd.prog) 22 48 .i64 .i64 Tryd.underlying22 hi036 4 hsz36 A0 l0.length c0 a1_3 a1_4 q036 ql36 q36 hroom36
   have hr36 := Kd.F_mid (lo := (a1_3 : Int).toNat) (hi := (a1_4 : Int).toNat) (c := c0) hC36 (by omega) (by omega) hroom36
   obtain ⟨A36, hA36⟩ : ∃ A1, A1 = (if c0 = (a1_3 : Int).toNat then A0 else (A0 : Option Addr).map (·.add ((a1_3 : Int).toNat * 4))) := ⟨_, rfl⟩
   obtain ⟨c36, hc36⟩ : ∃ c1, c1 = c0 - (a1_3 : Int).toNat := ⟨_, rfl⟩
   have hy36 : y411.length = (a1_4 : Int).toNat - (a1_3 : Int).toNat := (by rw [Ny411.out, List.length_drop, List.length_take] <;> omega)
   rw [show ((l0).take (a1_4 : Int).toNat).drop (a1_3 : Int).toNat = y411 from Ny411.out.symm] at hr36
   replace hr36 : Kd.F k48 _ _ A36 y411.length y411 := (by rw [hA36]; exact hr36)
   rw [← hy36, ← hA36, ← hc36] at hcut36
   have HO415 := aM (show Kd.V k48 48 _ w.heap.size _ (.slice A36 y411.length c36) y411 from Kd.V_mk (by rw [hy36, hc36]; exact Nat.sub_le_sub_right (Nat.le_trans (by omega) hroom36) _) hr36)
   have HC415 := aM (show y411.length ≤ c36 from by rw [hy36, hc36]; exact Nat.sub_le_sub_right (Nat.le_trans (by omega) hroom36) _)
   clear hr36 hC36 hroom36 hi036 hsz36 hc36
   have KY36 := aM hy36
   have KA36 := aM hA36
   clear hy36 hA36
   replace q36 := eq_true q36
   have q37 : (a1_5 : Int) ≤ ((l1_6.length : Int) : Int) := of_decide_eq_true (by assumption)
   obtain ⟨i037, hi037, _, hsz37, _⟩ := info_parts info48
   have hroom37 : l1_6.length ≤ c1_6 := (Kd.V_reads' HO1_6.out).2.1
   have hC37 : Kd.F k48 _ _ A1_6 l1_6.length l1_6 := (Kd.V_at (base := w.heap.size) HO1_6.out).2.2
   have q037 : (0 : Int) ≤ (a1_5 : Int) := of_decide_eq_true (by assumption)
   have hcut37 := cut_from (P := Tryd.prog) 22 48 .i64 Tryd.underlying22 hi037 4 hsz37 A1_6 l1_6.length c1_6 a1_5 q037 q37
   have hr37 := Kd.F_cut (m := (a1_5 : Int).toNat) (c := c1_6) hC37 (by omega) hroom37
   obtain ⟨A37, hA37⟩ : ∃ A1, A1 = (if c1_6 = (a1_5 : Int).toNat then A1_6 else (A1_6 : Option Addr).map (·.add ((a1_5 : Int).toNat * 4))) := ⟨_, rfl⟩
   obtain ⟨c37, hc37⟩ : ∃ c1, c1 = c1_6 - (a1_5 : Int).toNat := ⟨_, rfl⟩
   have hy37 : y416.length = l1_6.length - (a1_5 : Int).toNat := (by rw [Ny416.out, List.length_drop] <;> omega)
   rw [show (l1_6).drop (a1_5 : Int).toNat = y416 from Ny416.out.symm] at hr37
   replace hr37 : Kd.F k48 _ _ A37 y416.length y416 := (by rw [hA37]; exact hr37)
   rw [← hy37, ← hA37, ← hc37] at hcut37
   have HO420 := aM (show Kd.V k48 48 _ w.heap.size _ (.slice A37 y416.length c37) y416 from Kd.V_mk (by rw [hy37, hc37]; exact Nat.sub_le_sub_right hroom37 _) hr37)
   have HC420 := aM (show y416.length ≤ c37 from by rw [hy37, hc37]; exact Nat.sub_le_sub_right hroom37 _)
   clear hr37 hC37 hroom37 hi037 hsz37 hc37
   have KY37 := aM hy37
   have KA37 := aM hA37
   clear hy37 hA37
   replace q37 := eq_true q37
   have q38 : (a1_2 : Int) ≤ ((l0.length : Int) : Int) := of_decide_eq_true (by assumption)
   obtain ⟨i038, hi038, _, hsz38, _⟩ := info_parts info48
   have hroom38 : l0.length ≤ c0 := (Kd.V_reads' HO0.out).2.1
   have hC38 : Kd.F k48 _ _ A0 l0.length l0 := (Kd.V_at (base := w.heap.size) HO0.out).2.2
   have q038 : (0 : Int) ≤ (a1_2 : Int) := of_decide_eq_true (by assumption)
   have hcut38 := cut_from (P := Tryd.prog) 22 48 .i64 Tryd.underlying22 hi038 4 hsz38 A0 l0.length c0 a1_2 q038 q38
   have hr38 := Kd.F_cut (m := (a1_2 : Int).toNat) (c := c0) hC38 (by omega) hroom38
   obtain ⟨A38, hA38⟩ : ∃ A1, A1 = (if c0 = (a1_2 : Int).toNat then A0 else (A0 : Option Addr).map (·.add ((a1_2 : Int).toNat * 4))) := ⟨_, rfl⟩
   obtain ⟨c38, hc38⟩ : ∃ c1, c1 = c0 - (a1_2 : Int).toNat := ⟨_, rfl⟩
   have hy38 : y421.length = l0.length - (a1_2 : Int).toNat := (by rw [Ny421.out, List.length_drop] <;> omega)
   rw [show (l0).drop (a1_2 : Int).toNat = y421 from Ny421.out.symm] at hr38
   replace hr38 : Kd.F k48 _ _ A38 y421.length y421 := (by rw [hA38]; exact hr38)
   rw [← hy38, ← hA38, ← hc38] at hcut38
   have HO425 := aM (show Kd.V k48 48 _ w.heap.size _ (.slice A38 y421.length c38) y421 from Kd.V_mk (by rw [hy38, hc38]; exact Nat.sub_le_sub_right hroom38 _) hr38)
   have HC425 := aM (show y421.length ≤ c38 from by rw [hy38, hc38]; exact Nat.sub_le_sub_right hroom38 _)
   clear hr38 hC38 hroom38 hi038 hsz38 hc38
   have KY38 := aM hy38
   have KA38 := aM hA38
   clear hy38 hA38
   replace q38 := eq_true q38
   refine start_ (n := 27) (S := fun w' => w'.cell? ⟨gb384, 0, none⟩ = some (.int .i64 a1_0) ∧ w'.cell? ⟨gb384, 1, none⟩ = some (.int .i64 a1_1) ∧ w'.cell? ⟨gb384, 2, none⟩ = some (.int .i64 a1_2) ∧ w'.cell? ⟨gb384, 3, none⟩ = some (.int .i64 a1_3) ∧ w'.cell? ⟨gb384, 4, none⟩ = some (.int .i64 a1_4) ∧ w'.cell? ⟨gb384, 5, none⟩ = some (.int .i64 a1_5) ∧ w'.cell? ⟨gb384, 6, none⟩ = some (.slice A1_6 l1_6.length c1_6) ∧ w'.cell? ⟨gb384, 7, none⟩ = some (.int .i64 a1_7)) (ds := []) #[false, false, false, false, false, false, false, false, false, false, false, false, false, false, false, false, false, false, false, false, false, false, false, false, false, false, false] (by kernel_rfl) rfl rfl ⟨(blk_cell BK384.out 0).trans rfl, (blk_cell BK384.out 1).trans rfl, (blk_cell BK384.out 2).trans rfl, (blk_cell BK384.out 3).trans rfl, (blk_cell BK384.out 4).trans rfl, (blk_cell BK384.out 5).trans rfl, (blk_cell BK384.out 6).trans rfl, (blk_cell BK384.out 7).trans rfl⟩ (fun hHeld => ?_); refine with_tabW emenderref09_done.tab5 emenderref09_done.bits5 (fun HT_ HW_ => ?_)
   generalize w31.drew = w33 at HO0 HO1_6 BK384 HB HO405 HO410 HO415 HO420 HO425 hHeld ⊢
   refine pure_ (i := 0) (N := some 23) (v := ?_) (a' := ?_) #[true, false, false, false, false, false, false, false, false, false, false, false, false, false, false, false, false, false, false, false, false, false, false, false, false, false, false] rfl rfl (any_of HT_.out (by kernel_rfl)) (fun _ _ _ h => h) (Or.inl ⟨by rfl, ?_⟩) ?_ ?_
   rotate_left
   ·intro w'
    go_simp
    with_reducible rfl
   rotate_left
   ·simp only [Act.put, sA, sZ, sS, i64_w, i32_w]
    rfl
   refine pure_ (i := 1) (N := some 24) (v := ?_) (a' := ?_) #[true, true, false, false, false, false, false, false, false, false, false, false, false, false, false, false, false, false, false, false, false, false, false, false, false, false, false] rfl rfl (any_of HT_.out (by kernel_rfl)) (fun _ _ _ h => h) (Or.inl ⟨by rfl, ?_⟩) ?_ ?_
   rotate_left
   ·intro w'
    go_simp
    with_reducible rfl
   rotate_left
   ·simp only [Act.put, sA, sZ, sS, i64_w, i32_w]
    rfl
   refine pure_ (i := 4) (N := some 27) (v := ?_) (a' := ?_) #[true, true, false, false, true, false, false, false, false, false, false, false, false, false, false, false, false, false, false, false, false, false, false, false, false, false, false] rfl rfl (any_of HT_.out (by kernel_rfl)) (fun _ _ _ h => h) (Or.inl ⟨by rfl, ?_⟩) ?_ ?_
   rotate_left
   ·intro w'
    go_simp
    with_reducible rfl
   rotate_left
   ·simp only [Act.put, sA, sZ, sS, i64_w, i32_w]
    rfl
   refine pure_ (i := 6) (N := some 29) (v := ?_) (a' := ?_) #[true, true, false, false, true, false, true, false, false, false, false, false, false, false, false, false, false, false, false, false, false, false, false, false, false, false, false] rfl rfl (any_of HT_.out (by kernel_rfl)) (fun _ _ _ h => h) (Or.inl ⟨by rfl, ?_⟩) ?_ ?_
   rotate_left
   ·intro w'
    go_simp
    with_reducible rfl
   rotate_left
   ·simp only [Act.put, sA, sZ, sS, i64_w, i32_w]
    rfl
   refine pure_ (i := 9) (N := some 32) (v := ?_) (a' := ?_) #[true, true, false, false, true, false, true, false, false, true, false, false, false, false, false, false, false, false, false, false, false, false, false, false, false, false, false] rfl rfl (any_of HT_.out (by kernel_rfl)) (fun _ _ _ h => h) (Or.inl ⟨by rfl, ?_⟩) ?_ ?_
   rotate_left
   ·intro w'
    go_simp
    with_reducible rfl
   rotate_left
   ·simp only [Act.put, sA, sZ, sS, i64_w, i32_w]
    rfl
   refine pure_ (i := 10) (N := some 33) (v := ?_) (a' := ?_) #[true, true, false, false, true, false, true, false, false, true, true, false, false, false, false, false, false, false, false, false, false, false, false, false, false, false, false] rfl rfl (any_of HT_.out (by kernel_rfl)) (fun _ _ _ h => h) (Or.inl ⟨by rfl, ?_⟩) ?_ ?_
   rotate_left
   ·intro w'
    go_simp
    with_reducible rfl
   rotate_left
   ·simp only [Act.put, sA, sZ, sS, i64_w, i32_w]
    rfl
   refine pure_ (i := 12) (N := some 35) (v := ?_) (a' := ?_) #[true, true, false, false, true, false, true, false, false, true, true, false, true, false, false, false, false, false, false, false, false, false, false, false, false, false, false] rfl rfl (any_of HT_.out (by kernel_rfl)) (fun _ _ _ h => h) (Or.inl ⟨by rfl, ?_⟩) ?_ ?_
   rotate_left
   ·intro w'
    go_simp
    with_reducible rfl
   rotate_left
   ·simp only [Act.put, sA, sZ, sS, i64_w, i32_w]
    rfl
   refine pure_ (i := 15) (N := some 38) (v := ?_) (a' := ?_) #[true, true, false, false, true, false, true, false, false, true, true, false, true, false, false, true, false, false, false, false, false, false, false, false, false, false, false] rfl rfl (any_of HT_.out (by kernel_rfl)) (fun _ _ _ h => h) (Or.inl ⟨by rfl, ?_⟩) ?_ ?_
   rotate_left
   ·intro w'
    go_simp
    with_reducible rfl
   rotate_left
   ·simp only [Act.put, sA, sZ, sS, i64_w, i32_w]
    rfl
   refine pure_ (i := 17) (N := some 40) (v := ?_) (a' := ?_) #[true, true, false, false, true, false, true, false, false, true, true, false, true, false, false, true, false, true, false, false, false, false, false, false, false, false, false] rfl rfl (any_of HT_.out (by kernel_rfl)) (fun _ _ _ h => h) (Or.inl ⟨by rfl, ?_⟩) ?_ ?_
   rotate_left
   ·intro w'
    go_simp
    with_reducible rfl
   rotate_left
   ·simp only [Act.put, sA, sZ, sS, i64_w, i32_w]
    rfl
   refine pure_ (i := 20) (N := some 43) (v := ?_) (a' := ?_) #[true, true, false, false, true, false, true, false, false, true, true, false, true, false, false, true, false, true, false, false, true, false, false, false, false, false, false] rfl rfl (any_of HT_.out (by kernel_rfl)) (fun _ _ _ h => h) (Or.inl ⟨by rfl, ?_⟩) ?_ ?_
   rotate_left
   ·intro w'
    go_simp
    with_reducible rfl
   rotate_left
   ·simp only [Act.put, sA, sZ, sS, i64_w, i32_w]
    rfl
   refine pure_ (i := 21) (N := some 44) (v := ?_) (a' := ?_) #[true, true, false, false, true, false, true, false, false, true, true, false, true, false, false, true, false, true, false, false, true, true, false, false, false, false, false] rfl rfl (any_of HT_.out (by kernel_rfl)) (fun _ _ _ h => h) (Or.inl ⟨by rfl, ?_⟩) ?_ ?_
   rotate_left
   ·intro w'
    go_simp
    with_reducible rfl
   rotate_left
   ·simp only [Act.put, sA, sZ, sS, i64_w, i32_w]
    rfl
   refine take_ (i := 2) (N := some 25) (v := ?_) (a' := ?_) #[true, true, true, false, true, false, true, false, false, true, true, false, true, false, false, true, false, true, false, false, true, true, false, false, false, false, false] rfl rfl (take_ofW HT_.out HW_.out (by kernel_rfl)) (fun _ _ _ h => h) (Or.inl ⟨by rfl, ?_⟩) hHeld ?_ ?_
   rotate_left
   ·rintro w' ⟨s0, s1, s2, s3, s4, s5, s6, s7⟩
    go_simp
    with_reducible rfl
   rotate_left
   ·simp only [Act.put, sA, sZ, sS, i64_w, i32_w]
    rfl
   refine pure_ (i := 3) (N := some 26) (v := ?_) (a' := ?_) #[true, true, true, true, true, false, true, false, false, true, true, false, true, false, false, true, false, true, false, false, true, true, false, false, false, false, false] rfl rfl (any_of HT_.out (by kernel_rfl)) (fun _ _ _ h => h) (Or.inl ⟨by rfl, ?_⟩) ?_ ?_
   rotate_left
   ·intro w'
    go_simp
    with_reducible rfl
   rotate_left
   ·simp only [Act.put, sA, sZ, sS, i64_w, i32_w]
    rfl
   refine take_ (i := 5) (N := some 28) (v := ?_) (a' := ?_) #[true, true, true, true, true, true, true, false, false, true, true, false, true, false, false, true, false, true, false, false, true, true, false, false, false, false, false] rfl rfl (take_ofW HT_.out HW_.out (by kernel_rfl)) (fun _ _ _ h => h) (Or.inl ⟨by rfl, ?_⟩) hHeld ?_ ?_
   rotate_left
   ·rintro w' ⟨s0, s1, s2, s3, s4, s5, s6, s7⟩
    go_simp
    with_reducible rfl
   rotate_left
   ·simp only [Act.put, sA, sZ, sS, i64_w, i32_w]
    rfl
   refine take_ (i := 7) (N := some 30) (v := ?_) (a' := ?_) #[true, true, true, true, true, true, true, true, false, true, true, false, true, false, false, true, false, true, false, false, true, true, false, false, false, false, false] rfl rfl (take_ofW HT_.out HW_.out (by kernel_rfl)) (fun _ _ _ h => h) (Or.inl ⟨by rfl, ?_⟩) hHeld ?_ ?_
   rotate_left
   ·rintro w' ⟨s0, s1, s2, s3, s4, s5, s6, s7⟩
    go_simp
    with_reducible rfl
   rotate_left
   ·simp only [Act.put, sA, sZ, sS, i64_w, i32_w]
    rfl
   refine pure_ (i := 8) (N := some 31) (v := ?_) (a' := ?_) #[true, true, true, true, true, true, true, true, true, true, true, false, true, false, false, true, false, true, false, false, true, true, false, false, false, false, false] rfl rfl (any_of HT_.out (by kernel_rfl)) (fun _ _ _ h => h) (Or.inl ⟨by rfl, ?_⟩) ?_ ?_
   rotate_left
   ·intro w'
    go_simp
    with_reducible rfl
   rotate_left
   ·simp only [Act.put, sA, sZ, sS, i64_w, i32_w]
    rfl
   refine take_ (i := 11) (N := some 34) (v := ?_) (a' := ?_) #[true, true, true, true, true, true, true, true, true, true, true, true, true, false, false, true, false, true, false, false, true, true, false, false, false, false, false] rfl rfl (take_ofW HT_.out HW_.out (by kernel_rfl)) (fun _ _ _ h => h) (Or.inl ⟨by rfl, ?_⟩) hHeld ?_ ?_
   rotate_left
   ·rintro w' ⟨s0, s1, s2, s3, s4, s5, s6, s7⟩
    go_simp
    with_reducible rfl
   rotate_left
   ·simp only [Act.put, sA, sZ, sS, i64_w, i32_w]
    rfl
   refine take_ (i := 13) (N := some 36) (v := ?_) (a' := ?_) #[true, true, true, true, true, true, true, true, true, true, true, true, true, true, false, true, false, true, false, false, true, true, false, false, false, false, false] rfl rfl (take_ofW HT_.out HW_.out (by kernel_rfl)) (fun _ _ _ h => h) (Or.inl ⟨by rfl, ?_⟩) hHeld ?_ ?_
   rotate_left
   ·rintro w' ⟨s0, s1, s2, s3, s4, s5, s6, s7⟩
    go_simp
    with_reducible rfl
   rotate_left
   ·simp only [Act.put, sA, sZ, sS, i64_w, i32_w]
    rfl
   refine pure_ (i := 14) (N := some 37) (v := ?_) (a' := ?_) #[true, true, true, true, true, true, true, true, true, true, true, true, true, true, true, true, false, true, false, false, true, true, false, false, false, false, false] rfl rfl (any_of HT_.out (by kernel_rfl)) (fun _ _ _ h => h) (Or.inl ⟨by rfl, ?_⟩) ?_ ?_
   rotate_left
   ·intro w'
    go_simp
    with_reducible rfl
   rotate_left
   ·simp only [Act.put, sA, sZ, sS, i64_w, i32_w]
    rfl
   refine take_ (i := 16) (N := some 39) (v := ?_) (a' := ?_) #[true, true, true, true, true, true, true, true, true, true, true, true, true, true, true, true, true, true, false, false, true, true, false, false, false, false, false] rfl rfl (take_ofW HT_.out HW_.out (by kernel_rfl)) (fun _ _ _ h => h) (Or.inl ⟨by rfl, ?_⟩) hHeld ?_ ?_
   rotate_left
   ·rintro w' ⟨s0, s1, s2, s3, s4, s5, s6, s7⟩
    go_simp
    with_reducible rfl
   rotate_left
   ·simp only [Act.put, sA, sZ, sS, i64_w, i32_w]
    rfl
   refine take_ (i := 18) (N := some 41) (v := ?_) (a' := ?_) #[true, true, true, true, true, true, true, true, true, true, true, true, true, true, true, true, true, true, true, false, true, true, false, false, false, false, false] rfl rfl (take_ofW HT_.out HW_.out (by kernel_rfl)) (fun _ _ _ h => h) (Or.inl ⟨by rfl, ?_⟩) hHeld ?_ ?_
   rotate_left
   ·rintro w' ⟨s0, s1, s2, s3, s4, s5, s6, s7⟩
    go_simp
    with_reducible rfl
   rotate_left
   ·simp only [Act.put, sA, sZ, sS, i64_w, i32_w]
    rfl
   refine pure_ (i := 19) (N := some 42) (v := ?_) (a' := ?_) #[true, true, true, true, true, true, true, true, true, true, true, true, true, true, true, true, true, true, true, true, true, true, false, false, false, false, false] rfl rfl (any_of HT_.out (by kernel_rfl)) (fun _ _ _ h => h) (Or.inl ⟨by rfl, ?_⟩) ?_ ?_
   rotate_left
   ·intro w'
    go_simp
    with_reducible rfl
   rotate_left
   ·simp only [Act.put, sA, sZ, sS, i64_w, i32_w]
    rfl
   refine take_ (i := 22) (N := some 45) (v := ?_) (a' := ?_) #[true, true, true, true, true, true, true, true, true, true, true, true, true, true, true, true, true, true, true, true, true, true, true, false, false, false, false] rfl rfl (take_ofW HT_.out HW_.out (by kernel_rfl)) (fun _ _ _ h => h) (Or.inl ⟨by rfl, ?_⟩) hHeld ?_ ?_
   rotate_left
   ·rintro w' ⟨s0, s1, s2, s3, s4, s5, s6, s7⟩
    go_simp
    with_reducible rfl
   rotate_left
   ·simp only [Act.put, sA, sZ, sS, i64_w, i32_w]
    rfl
   refine pure_ (i := 23) (N := some 46) (v := ?_) (a' := ?_) #[true, true, true, true, true, true, true, true, true, true, true, true, true, true, true, true, true, true, true, true, true, true, true, true, false, false, false] rfl rfl (any_of HT_.out (by kernel_rfl)) (fun _ _ _ h => h) (Or.inl ⟨by rfl, ?_⟩) ?_ ?_
   rotate_left
   ·intro w'
    go_simp
    with_reducible rfl
   rotate_left
   ·simp only [Act.put, sA, sZ, sS, i64_w, i32_w]
    rfl
   refine one_ (i := 24) (N := some 47) #[true, true, true, true, true, true, true, true, true, true, true, true, true, true, true, true, true, true, true, true, true, true, true, true, true, false, false] rfl rfl (one_of HT_.out (by kernel_rfl)) (by decide) (fun K hK => ?_)
   refine Kd.N_lit_step (Kd.slice 48 k48) _ 22 ?hg (N' := 47) ?hd (xs := ([y401, y406, y411, y416, y421] : List (List (S48)))) (inner := [.slice A0 y401.length c0, .slice A1_6 y406.length c1_6, .slice A36 y411.length c36, .slice A37 y416.length c37, .slice A38 y421.length c38]) (ok := (fun k_ => ((P0_ k_ ∨ P1_6_ k_) ∨ w.heap.size ≤ k_) ∧ k_ ≠ gb384)) (okp := (fun k_ => ((P0_ k_ ∨ P1_6_ k_) ∨ w.heap.size ≤ k_) ∧ k_ ≠ gb384)) ?hr ?hp (fun _ hk => hk) ((show ∀ k_, w33.heap.size ≤ k_ → (fun k_ => ((P0_ k_ ∨ P1_6_ k_) ∨ w.heap.size ≤ k_) ∧ k_ ≠ gb384) k_ from fun k_ hk => ⟨(.inr (Nat.le_trans (below_size (by repeat (first|(with_reducible first|exact HB.out|apply lA|apply lN|apply lD|refine lS ?_ GE384.out)|exact HB.out))) hk)), Kd.freshB (g := gb384) (o := .cells #[.int .i64 a1_0, .int .i64 a1_1, .int .i64 a1_2, .int .i64 a1_3, .int .i64 a1_4, .int .i64 a1_5, .slice A1_6 l1_6.length c1_6, .int .i64 a1_7] 45 (0, 0)) (by (with_reducible repeat (first|refine bN ?_ _|refine bD ?_|refine bA ?_ _)); exact BK384.out) k_ hk⟩) _ (Nat.le_refl _)) (Below.refl _ _) (Nat.le_refl _) (by simp) ?_; (case hd => rfl); (case hg => rfl); (case hr => first|(go_simp; done)|(go_simp; rfl)); (case hp => exact (Reps.one (show Kd.FK (Kd.slice 48 k48) _ _ y401 [.slice A0 y401.length c0] from (Kd.FK_slice_mk (Kd.V_reads' (Kd.V_mono (ok' := (fun k_ => ((P0_ k_ ∨ P1_6_ k_) ∨ w.heap.size ≤ k_) ∧ k_ ≠ gb384)) (HO405.out) (fun k_ hk => ⟨hk.1, hk.2⟩))).2.1 (Kd.V_F (Kd.V_mono (ok' := (fun k_ => ((P0_ k_ ∨ P1_6_ k_) ∨ w.heap.size ≤ k_) ∧ k_ ≠ gb384)) (HO405.out) (fun k_ hk => ⟨hk.1, hk.2⟩))))) (Reps.one (show Kd.FK (Kd.slice 48 k48) _ _ y406 [.slice A1_6 y406.length c1_6] from (Kd.FK_slice_mk (Kd.V_reads' (Kd.V_mono (ok' := (fun k_ => ((P0_ k_ ∨ P1_6_ k_) ∨ w.heap.size ≤ k_) ∧ k_ ≠ gb384)) (HO410.out) (fun k_ hk => ⟨hk.1, hk.2⟩))).2.1 (Kd.V_F (Kd.V_mono (ok' := (fun k_ => ((P0_ k_ ∨ P1_6_ k_) ∨ w.heap.size ≤ k_) ∧ k_ ≠ gb384)) (HO410.out) (fun k_ hk => ⟨hk.1, hk.2⟩))))) (Reps.one (show Kd.FK (Kd.slice 48 k48) _ _ y411 [.slice A36 y411.length c36] from (Kd.FK_slice_mk (Kd.V_reads' (Kd.V_mono (ok' := (fun k_ => ((P0_ k_ ∨ P1_6_ k_) ∨ w.heap.size ≤ k_) ∧ k_ ≠ gb384)) (HO415.out) (fun k_ hk => ⟨hk.1, hk.2⟩))).2.1 (Kd.V_F (Kd.V_mono (ok' := (fun k_ => ((P0_ k_ ∨ P1_6_ k_) ∨ w.heap.size ≤ k_) ∧ k_ ≠ gb384)) (HO415.out) (fun k_ hk => ⟨hk.1, hk.2⟩))))) (Reps.one (show Kd.FK (Kd.slice 48 k48) _ _ y416 [.slice A37 y416.length c37] from (Kd.FK_slice_mk (Kd.V_reads' (Kd.V_mono (ok' := (fun k_ => ((P0_ k_ ∨ P1_6_ k_) ∨ w.heap.size ≤ k_) ∧ k_ ≠ gb384)) (HO420.out) (fun k_ hk => ⟨hk.1, hk.2⟩))).2.1 (Kd.V_F (Kd.V_mono (ok' := (fun k_ => ((P0_ k_ ∨ P1_6_ k_) ∨ w.heap.size ≤ k_) ∧ k_ ≠ gb384)) (HO420.out) (fun k_ hk => ⟨hk.1, hk.2⟩))))) (Reps.one (show Kd.FK (Kd.slice 48 k48) _ _ y421 [.slice A38 y421.length c38] from (Kd.FK_slice_mk (Kd.V_reads' (Kd.V_mono (ok' := (fun k_ => ((P0_ k_ ∨ P1_6_ k_) ∨ w.heap.size ≤ k_) ∧ k_ ≠ gb384)) (HO425.out) (fun k_ hk => ⟨hk.1, hk.2⟩))).2.1 (Kd.V_F (Kd.V_mono (ok' := (fun k_ => ((P0_ k_ ∨ P1_6_ k_) ∨ w.heap.size ≤ k_) ∧ k_ ≠ gb384)) (HO425.out) (fun k_ hk => ⟨hk.1, hk.2⟩))))) (Reps.none _ _)))))))
   intro v427 w39 ho40 hb hg_ hnew_
   clear hg_ hnew_
   (first|rw [← Ny426.out] at ho40|(simp only [Int.reduceToNat] at ho40; rw [← Ny426.out] at ho40))
   have n0_ := aM (Kd.V_elder' (by (with_reducible repeat (first|apply Kd.V_alloc|apply Kd.V_drewN|apply Kd.V_drew)); exact HO0.out) (Kd.N_base ho40) hb)
   have n1_ := aM (Kd.V_elder' (by (with_reducible repeat (first|apply Kd.V_alloc|apply Kd.V_drewN|apply Kd.V_drew)); exact HO1_6.out) (Kd.N_base ho40) hb)
   have n2_ := aM (Kd.V_elder' (by (with_reducible repeat (first|apply Kd.V_alloc|apply Kd.V_drewN|apply Kd.V_drew)); exact HO405.out) (Kd.N_base ho40) hb)
   have n3_ := aM (Kd.V_elder' (by (with_reducible repeat (first|apply Kd.V_alloc|apply Kd.V_drewN|apply Kd.V_drew)); exact HO410.out) (Kd.N_base ho40) hb)
   have n4_ := aM (Kd.V_elder' (by (with_reducible repeat (first|apply Kd.V_alloc|apply Kd.V_drewN|apply Kd.V_drew)); exact HO415.out) (Kd.N_base ho40) hb)
   have n5_ := aM (Kd.V_elder' (by (with_reducible repeat (first|apply Kd.V_alloc|apply Kd.V_drewN|apply Kd.V_drew)); exact HO420.out) (Kd.N_base ho40) hb)
   have n6_ := aM (Kd.V_elder' (by (with_reducible repeat (first|apply Kd.V_alloc|apply Kd.V_drewN|apply Kd.V_drew)); exact HO425.out) (Kd.N_base ho40) hb)
   have n7_ := aM (Kd.N_lower ho40 (below_size (by repeat (first|(with_reducible first|exact HB.out|apply lA|apply lN|apply lD|refine lS ?_ GE384.out)|exact HB.out))))
   have n8_ := aM (blk_below (by (with_reducible repeat (first|refine bN ?_ _|refine bD ?_|refine bA ?_ _)); exact BK384.out) hb)
   have n9_ := aM (below_step (by repeat (first|(with_reducible first|exact HB.out|apply lA|apply lN|apply lD|refine lS ?_ GE384.out)|exact HB.out)) hb)
   clear HO0
   clear HO1_6
   clear HO405
   clear HO410
   clear HO415
   clear HO420
   clear HO425
   clear BK384
   clear HB
   have HO0 := n0_
   have HO1_6 := n1_
   have HO405 := n2_
   have HO410 := n3_
   have HO415 := n4_
   have HO420 := n5_
   have HO425 := n6_
   have HO428 := n7_
   have BK384 := n8_
   have HB := n9_
   clear n0_ n1_ n2_ n3_ n4_ n5_ n6_ n7_ n8_ n9_
   clear hb ho40
   obtain ⟨Ao41, co41, eo41⟩ := Kd.N_slice HO428.out
   (first|subst eo41|(injection eo41 with f1_ f2_ f3_; have f4_ := f1_.symm; have f5_ := f3_.symm; clear f1_ f2_ f3_; subst f4_; subst f5_))
   refine hK.out _ _ ⟨(blk_cell BK384.out 0).trans rfl, (blk_cell BK384.out 1).trans rfl, (blk_cell BK384.out 2).trans rfl, (blk_cell BK384.out 3).trans rfl, (blk_cell BK384.out 4).trans rfl, (blk_cell BK384.out 5).trans rfl, (blk_cell BK384.out 6).trans rfl, (blk_cell BK384.out 7).trans rfl⟩ (fun hHeld => ?_)
   clear hK K
   refine norm_ (a' := ?_) ?_ ?_
   rotate_left
   ·show Act.put _ (some 47) _ = _
    simp only [Act.put, sA, sZ, sS, i64_w, i32_w]
    rfl
   refine one_ (i := 25) (N := some 48) #[true, true, true, true, true, true, true, true, true, true, true, true, true, true, true, true, true, true, true, true, true, true, true, true, true, true, false] rfl rfl (one_of HT_.out (by kernel_rfl)) (by decide) (fun K hK => ?_)
   refine goes_ Tryd.func55 (by kernel_rfl) rfl #[.slice Ao41 y426.length co41] (by rfl) rfl rfl (by (try simp only [List.map_toArray, List.map_cons, List.map_nil]); first|done|rfl|(simp only [List.length_drop, List.length_take]; rfl)) ?_
   with_reducible refine (emenderref09_join.calls k _ _ y426 t429 _ ?side1 ?side2 A30.out).mono ?_
   (case side1 => repeat (first|exact (Kd.N_reads' HO428.out).2.2|(with_reducible refine Kd.C_alloc ?_ _)|(with_reducible refine Kd.C_drewN ?_ _)|(with_reducible refine Kd.C_drew ?_)))
   (case side2 => exact (Kd.N_reads' HO428.out).2.1)
   rintro e w42 ⟨v430, rfl, ho0, hb⟩
   refine ⟨_, rfl, ?_⟩
   have n0_ := aM (Kd.V_elder' (by (with_reducible repeat (first|apply Kd.V_alloc|apply Kd.V_drewN|apply Kd.V_drew)); exact HO0.out) (Kd.R_base ho0) hb)
   have n1_ := aM (Kd.V_elder' (by (with_reducible repeat (first|apply Kd.V_alloc|apply Kd.V_drewN|apply Kd.V_drew)); exact HO1_6.out) (Kd.R_base ho0) hb)
   have n2_ := aM (Kd.V_elder' (by (with_reducible repeat (first|apply Kd.V_alloc|apply Kd.V_drewN|apply Kd.V_drew)); exact HO405.out) (Kd.R_base ho0) hb)
   have n3_ := aM (Kd.V_elder' (by (with_reducible repeat (first|apply Kd.V_alloc|apply Kd.V_drewN|apply Kd.V_drew)); exact HO410.out) (Kd.R_base ho0) hb)
   have n4_ := aM (Kd.V_elder' (by (with_reducible repeat (first|apply Kd.V_alloc|apply Kd.V_drewN|apply Kd.V_drew)); exact HO415.out) (Kd.R_base ho0) hb)
   have n5_ := aM (Kd.V_elder' (by (with_reducible repeat (first|apply Kd.V_alloc|apply Kd.V_drewN|apply Kd.V_drew)); exact HO420.out) (Kd.R_base ho0) hb)
   have n6_ := aM (Kd.V_elder' (by (with_reducible repeat (first|apply Kd.V_alloc|apply Kd.V_drewN|apply Kd.V_drew)); exact HO425.out) (Kd.R_base ho0) hb)
   have n7_ := aM (Kd.N_elder' (by (with_reducible repeat (first|apply Kd.N_alloc|apply Kd.N_drewN|apply Kd.N_drew)); exact HO428.out) (Kd.R_base ho0) hb)
   have n8_ := aM (Kd.R_lower (Kd.R_newM (M := fun k_ => (w.heap.size ≤ k_)) ho0 (below_size (by repeat (first|(with_reducible first|exact HB.out|apply lA|apply lN|apply lD|refine lS ?_ GE384.out)|exact HB.out))) (fun k_ h_ => h_)) (below_size (by repeat (first|(with_reducible first|exact HB.out|apply lA|apply lN|apply lD|refine lS ?_ GE384.out)|exact HB.out))))
   have n9_ := aM (blk_below (by (with_reducible repeat (first|refine bN ?_ _|refine bD ?_|refine bA ?_ _)); exact BK384.out) hb)
   have n10_ := aM (below_step (by repeat (first|(with_reducible first|exact HB.out|apply lA|apply lN|apply lD|refine lS ?_ GE384.out)|exact HB.out)) hb)
   clear HO0
   clear HO1_6
   clear HO405
   clear HO410
   clear HO415
   clear HO420
   clear HO425
   clear HO428
   clear BK384
   clear HB
   have HO0 := n0_
   have HO1_6 := n1_
   have HO405 := n2_
   have HO410 := n3_
   have HO415 := n4_
   have HO420 := n5_
   have HO425 := n6_
   have HO428 := n7_
   have HO431 := n8_
   have BK384 := n9_
   have HB := n10_
   clear n0_ n1_ n2_ n3_ n4_ n5_ n6_ n7_ n8_ n9_ n10_
   refine hK.out _ _ ⟨(blk_cell BK384.out 0).trans rfl, (blk_cell BK384.out 1).trans rfl, (blk_cell BK384.out 2).trans rfl, (blk_cell BK384.out 3).trans rfl, (blk_cell BK384.out 4).trans rfl, (blk_cell BK384.out 5).trans rfl, (blk_cell BK384.out 6).trans rfl, (blk_cell BK384.out 7).trans rfl⟩ (fun hHeld => ?_)
   clear hK K
   refine norm_ (a' := ?_) ?_ ?_
   rotate_left
   ·show Act.put _ (some 48) _ = _
    simp only [Act.put, sA, sZ, sS, i64_w, i32_w]
    rfl
   refine pure_ (i := 26) (N := some 4) (v := ?_) (a' := ?_) #[true, true, true, true, true, true, true, true, true, true, true, true, true, true, true, true, true, true, true, true, true, true, true, true, true, true, true] rfl rfl (any_of HT_.out (by kernel_rfl)) (fun _ _ _ h => h) (Or.inl ⟨by rfl, ?_⟩) ?_ ?_
   rotate_left
   ·intro w'
    go_simp
    with_reducible rfl
   rotate_left
   ·simp only [Act.put, sA, sZ, sS, i64_w, i32_w]
    rfl
   refine done_ (done_of HT_.out (by kernel_rfl)) ?_
   try go_wp2
   go_ret
   exact ⟨_, by first|rfl|(simp [errW_none, errW_some] <;> rfl)|(simp [*, errW_none, errW_some] <;> rfl), by (with_reducible repeat (first|apply Kd.R_alloc|apply Kd.R_drewN|apply Kd.R_drew)); exact Kd.R_mono HO431.out (fun _ hk => hk.1), by repeat (first|(with_reducible first|exact HB.out|apply lA|apply lN|apply lD|refine lS ?_ GE384.out)|exact HB.out)⟩
  ·rw [if_neg c18] at H
   have c18b0 : (a1_0 == 1) = false := beq_eq_false_iff_ne.mpr c18
   have c18b1 : (a1_0 != 1) = true := bne_iff_ne.mpr c18
   replace H := Option.bind_eq_some_iff.mp H
   obtain ⟨t432, A430, H⟩ := H
   replace H : (some t432) = some r := H
   have A43 := aM A430
   clear A430
   obtain rfl := Option.some.inj H
   go_enter Tryd.func45, Tryd.ntmps45
   go_wp2_with (first|((with_reducible refine gate_dst (N := 3) rfl ?_); refine box_event ?hg (N := 3) ?hd (cs := #[.int .i64 a1_0, .int .i64 a1_1, .int .i64 a1_2, .int .i64 a1_3, .int .i64 a1_4, .int .i64 a1_5, .slice A1_6 l1_6.length c1_6, .int .i64 a1_7]) (t := 45) ?hr ?_; (case hd => rfl); (case hg => rfl); (case hr => first|(go_simp; done)|(go_simp; rfl)); intro gb384 hg w44 hbox hb; replace HO0 := aM (Kd.V_below (Kd.V_elderB (by (with_reducible repeat (first|apply Kd.V_alloc|apply Kd.V_drewN|apply Kd.V_drew)); exact HO0.out) gb384 (Nat.le_of_eq hg.symm)) hb); replace HO1_6 := aM (Kd.V_below (Kd.V_elderB (by (with_reducible repeat (first|apply Kd.V_alloc|apply Kd.V_drewN|apply Kd.V_drew)); exact HO1_6.out) gb384 (Nat.le_of_eq hg.symm)) hb); replace BK384 := aM (hbox); replace GW384 := aM ((by rw [hg]; exact (below_size (by repeat (first|(with_reducible first|exact HB.out|apply lA|apply lN|apply lD)|exact HB.out))) : w.heap.size ≤ gb384)); replace GE384 := aM ((by rw [hg]; exact (below_size (by repeat (first|(with_reducible first|exact HB.out|apply lA|apply lN|apply lD)|exact HB.out))) : w.heap.size ≤ gb384)); replace HB := aM (below_step (by repeat (first|(with_reducible first|exact HB.out|apply lA|apply lN|apply lD)|exact HB.out)) hb); clear hb hbox hg; obtain ⟨hcz45_0, hcz45_1, hcz45_2, hcz45_3, hcz45_4, hcz45_5, hcz45_6, hcz45_7, hfz45_0, hfz45_1, hfz45_2, hfz45_3, hfz45_4, hfz45_5, hfz45_6, hfz45_7⟩ := bx8z BK384.out)|((with_reducible refine gate_callee (f := 56) rfl ?_); refine goesL_ (some 51) rfl rfl Tryd.func56 (by kernel_rfl) rfl #[.slice A0 l0.length c0, .agg #[.int .i64 a1_0, .int .i64 a1_1, .int .i64 a1_2, .int .i64 a1_3, .int .i64 a1_4, .int .i64 a1_5, .slice A1_6 l1_6.length c1_6, .int .i64 a1_7]] rfl (by (try simp only [List.map_toArray, List.map_cons, List.map_nil]); first|done|rfl|(simp only [List.length_drop, List.length_take]; rfl)) ?_; (with_reducible refine (emenderref09_marked.calls k _ _ l0 a1_0 a1_1 a1_2 a1_3 a1_4 a1_5 _ _ l1_6 a1_7 t432 _ ?side1 ?side2 ?side3 ?side4 A43.out).mono ?_); (case side1 => repeat (first|exact (Kd.V_reads' HO0.out).2.2|(with_reducible refine Kd.C_alloc ?_ _)|(with_reducible refine Kd.C_drewN ?_ _)|(with_reducible refine Kd.C_drew ?_))); (case side2 => exact (Kd.V_reads' HO0.out).2.1); (case side3 => repeat (first|exact (Kd.V_reads' HO1_6.out).2.2|(with_reducible refine Kd.C_alloc ?_ _)|(with_reducible refine Kd.C_drewN ?_ _)|(with_reducible refine Kd.C_drew ?_))); (case side4 => exact (Kd.V_reads' HO1_6.out).2.1); rintro e w46 ⟨v433, rfl, ho0, hb⟩; refine ⟨_, rfl, ?_⟩; replace HO0 := aM (Kd.V_elder' (by (with_reducible repeat (first|apply Kd.V_alloc|apply Kd.V_drewN|apply Kd.V_drew)); exact HO0.out) (Kd.R_base ho0) hb); replace HO1_6 := aM (Kd.V_elder' (by (with_reducible repeat (first|apply Kd.V_alloc|apply Kd.V_drewN|apply Kd.V_drew)); exact HO1_6.out) (Kd.R_base ho0) hb); replace HO434 := aM (Kd.R_lower (Kd.R_newM (M := fun k_ => (w.heap.size ≤ k_)) ho0 (below_size (by repeat (first|(with_reducible first|exact HB.out|apply lA|apply lN|apply lD|refine lS ?_ GE384.out)|exact HB.out))) (fun k_ h_ => h_)) (below_size (by repeat (first|(with_reducible first|exact HB.out|apply lA|apply lN|apply lD|refine lS ?_ GE384.out)|exact HB.out)))); replace BK384 := aM (blk_below (by (with_reducible repeat (first|refine bN ?_ _|refine bD ?_|refine bA ?_ _)); exact BK384.out) hb); replace HB := aM (below_step (by repeat (first|(with_reducible first|exact HB.out|apply lA|apply lN|apply lD|refine lS ?_ GE384.out)|exact HB.out)) hb); (try clear hb); (try clear hb2); (try clear hk); (try clear hi); (try clear ho0)))
   go_ret
   exact ⟨_, by first|rfl|(simp [errW_none, errW_some] <;> rfl)|(simp [*, errW_none, errW_some] <;> rfl), by (with_reducible repeat (first|apply Kd.R_alloc|apply Kd.R_drewN|apply Kd.R_drew)); exact Kd.R_mono HO434.out (fun _ hk => hk.1), by repeat (first|(with_reducible first|exact HB.out|apply lA|apply lN|apply lD|refine lS ?_ GE384.out)|exact HB.out)⟩
mutual
def emenderref09_Apply.j0 : Nat → List (S48) → Int → Int → Int → Int → Int → Int → Int → List (S48) → Int → Option ((List (S48)) × Int)
|0, _, _, _, _, _, _, _, _, _, _ => none
|k + 1, x0, x7, x436000, x436001, x436002, x436003, x436004, x436005, x436006, x436007 => if x7 = 0 then (if x436002 > (x0.length : Int) then (some (([] : List (S48)), 1)) else ((emenderref09_done.f k x0 x436000 x436001 x436002 x436003 x436004 x436005 x436006 x436007).bind fun t439 => ((emenderref04_Check.f k t439).bind fun bt442 => (if bt442.2 = 3 then (emenderref09_Apply.j1 k 4 t439) else (emenderref09_Apply.j1 k bt442.2 t439))))) else (some (([] : List (S48)), x7))
def emenderref09_Apply.j1 : Nat → Int → List (S48) → Option ((List (S48)) × Int)
|0, _, _ => none
|k + 1, x7, x8 => if x7 = 0 then (some (x8, 0)) else (some (([] : List (S48)), x7))
end
def emenderref09_Apply.f (k : Nat) (l0 : List (S48)) (a1_0 : Int) (a1_1 : Int) (a1_2 : Int) (a1_3 : Int) (a1_4 : Int) (a1_5 : Int) (l1_6 : List (S48)) (a1_7 : Int) : Option ((List (S48)) × Int) := (emenderref04_Check.f k l0).bind fun bt436 => (if bt436.2 = 0 then ((emenderref09_Check.f k a1_0 a1_1 a1_2 a1_3 a1_4 a1_5 l1_6 a1_7).bind fun t438 => (emenderref09_Apply.j0 k l0 t438 a1_0 a1_1 a1_2 a1_3 a1_4 a1_5 l1_6 a1_7)) else (emenderref09_Apply.j0 k l0 bt436.2 a1_0 a1_1 a1_2 a1_3 a1_4 a1_5 l1_6 a1_7))
set_option maxHeartbeats 8000000 in
set_option maxRecDepth 100000 in
theorem emenderref09_Apply.calls (k : Nat) (A0 : Option Addr) (c0 : Nat) (l0 : List (S48)) (a1_0 : Int) (a1_1 : Int) (a1_2 : Int) (a1_3 : Int) (a1_4 : Int) (a1_5 : Int) (A1_6 : Option Addr) (c1_6 : Nat) (l1_6 : List (S48)) (a1_7 : Int) (r1 : List (S48)) (r2 : Int) (w : World) (hr0 : Kd.C k48 w A0 l0.length l0) (hc0 : l0.length ≤ c0) (hr1_6 : Kd.C k48 w A1_6 l1_6.length l1_6) (hc1_6 : l1_6.length ≤ c1_6) (h : emenderref09_Apply.f k l0 a1_0 a1_1 a1_2 a1_3 a1_4 a1_5 l1_6 a1_7 = some (r1, r2)) :
  Calls Tryd.prog 29 #[.slice A0 l0.length c0, .agg #[.int .i64 a1_0, .int .i64 a1_1, .int .i64 a1_2, .int .i64 a1_3, .int .i64 a1_4, .int .i64 a1_5, .slice A1_6 l1_6.length c1_6, .int .i64 a1_7]] w fun e w' => ∃ v0_ : Value, e = .returned (.tuple #[v0_, .int .i64 r2]) ∧ Kd.R k48 48 w' w.heap.size (fun _ => True) v0_ r1 ∧ Below w.heap.size w w' := by
 have hu45 := Tryd.underlying45
 have HR0 := aM hr0
 have HC0 := aM hc0
 clear hr0 hc0
 have HR1_6 := aM hr1_6
 have HC1_6 := aM hc1_6
 clear hr1_6 hc1_6
 have HB := aM (Below.refl w.heap.size w)
 have H : ((emenderref04_Check.f k l0).bind fun bt436 => (if bt436.2 = 0 then ((emenderref09_Check.f k a1_0 a1_1 a1_2 a1_3 a1_4 a1_5 l1_6 a1_7).bind fun t438 => (emenderref09_Apply.j0 k l0 t438 a1_0 a1_1 a1_2 a1_3 a1_4 a1_5 l1_6 a1_7)) else (emenderref09_Apply.j0 k l0 bt436.2 a1_0 a1_1 a1_2 a1_3 a1_4 a1_5 l1_6 a1_7))) = some (r1, r2) := h
 clear h
 replace H := Option.bind_eq_some_iff.mp H
 obtain ⟨⟨t436, t437⟩, A30, H⟩ := H
 replace H : (if t437 = 0 then ((emenderref09_Check.f k a1_0 a1_1 a1_2 a1_3 a1_4 a1_5 l1_6 a1_7).bind fun t438 => (emenderref09_Apply.j0 k l0 t438 a1_0 a1_1 a1_2 a1_3 a1_4 a1_5 l1_6 a1_7)) else (emenderref09_Apply.j0 k l0 t437 a1_0 a1_1 a1_2 a1_3 a1_4 a1_5 l1_6 a1_7)) = some (r1, r2) := H
 have A3 := aM A30
 clear A30
 have HC4 := aM H
 clear H
 go_enter Tryd.func29, Tryd.ntmps29
 go_upto_if 15 with (first|((with_reducible refine gate_dst (N := 3) rfl ?_); refine box_event ?hg (N := 3) ?hd (cs := #[.int .i64 a1_0, .int .i64 a1_1, .int .i64 a1_2, .int .i64 a1_3, .int .i64 a1_4, .int .i64 a1_5, .slice A1_6 l1_6.length c1_6, .int .i64 a1_7]) (t := 45) ?hr ?_; (case hd => rfl); (case hg => rfl); (case hr => first|(go_simp; done)|(go_simp; rfl)); intro gb435 hg w5 hbox hb; have hB_ := (by repeat (first|(with_reducible first|exact HB.out|apply lA|apply lN|apply lD)|exact HB.out) : Below w.heap.size w _); replace HB := aM (below_step hB_ hb); replace BK435 := aM (hbox); replace GW435 := aM ((bsz hg hB_)); replace GE435 := aM ((bsz hg hB_)); clear hb hbox hg hB_)|((with_reducible refine gate_callee (f := 25) rfl ?_); refine goesL_ (some 11) rfl rfl Tryd.func25 (by kernel_rfl) rfl #[.slice A0 l0.length c0] rfl (by (try simp only [List.map_toArray, List.map_cons, List.map_nil]); first|done|rfl|(simp only [List.length_drop, List.length_take]; rfl)) ?_; (with_reducible refine (emenderref04_Check.calls k _ _ l0 t436 t437 _ ?side1 ?side2 A3.out).mono ?_); (case side1 => repeat (first|exact (Kd.C_below HR0.out HB.out)|(with_reducible refine Kd.C_alloc ?_ _)|(with_reducible refine Kd.C_drewN ?_ _)|(with_reducible refine Kd.C_drew ?_))); (case side2 => exact HC0.out); rintro e w6 ⟨rfl, hb⟩; refine ⟨_, rfl, ?_⟩; replace BK435 := aM (blk_below (by (with_reducible repeat (first|refine bN ?_ _|refine bD ?_|refine bA ?_ _)); exact BK435.out) hb); replace HB := aM (below_step (by repeat (first|(with_reducible first|exact HB.out|apply lA|apply lN|apply lD|refine lS ?_ GE435.out)|exact HB.out)) hb); (try clear hb); (try clear hb2); (try clear hk); (try clear hi)))
 (try simp only [Act.put, List.setIfInBounds_toArray, List.set_cons_zero, List.set_cons_succ])
 go_cut [7] (fun v7 wc => ∃ (kq : Nat) (x7_3 : Int), v7 = .int .i64 x7_3 ∧ Aside0 (emenderref09_Apply.j0 kq l0 x7_3 a1_0 a1_1 a1_2 a1_3 a1_4 a1_5 l1_6 a1_7 = some (r1, r2)) ∧ Aside0 (kq ≤ k) ∧ Aside0 (wc.heap[gb435]? = some (.cells #[.int .i64 a1_0, .int .i64 a1_1, .int .i64 a1_2, .int .i64 a1_3, .int .i64 a1_4, .int .i64 a1_5, (.slice A1_6 l1_6.length c1_6), .int .i64 a1_7] 45 (0, 0))) ∧ Aside0 (Below w.heap.size w wc))
 case first =>
  have H := HC4.out
  clear HC4
  by_cases c7 : t437 = 0
  ·rw [if_pos c7] at H
   have c7b0 : (t437 == 0) = true := beq_iff_eq.mpr c7
   have c7b1 : (t437 != 0) = false := bne_eq_false_iff_eq.mpr c7
   clear c7
   (first|rw [c7b0]|(simp only [i64_w, i32_w]; rw [c7b0])|skip)
   replace H := Option.bind_eq_some_iff.mp H
   obtain ⟨t438, A80, H⟩ := H
   replace H : (emenderref09_Apply.j0 k l0 t438 a1_0 a1_1 a1_2 a1_3 a1_4 a1_5 l1_6 a1_7) = some (r1, r2) := H
   have A8 := aM A80
   clear A80
   have H' := aM H
   clear H
   obtain ⟨hcz9_0, hcz9_1, hcz9_2, hcz9_3, hcz9_4, hcz9_5, hcz9_6, hcz9_7, hfz9_0, hfz9_1, hfz9_2, hfz9_3, hfz9_4, hfz9_5, hfz9_6, hfz9_7⟩ := bx8z BK435.out
   go_wp2_with (first|((with_reducible refine gate_callee (f := 44) rfl ?_); refine goesL_ (some 17) rfl rfl Tryd.func44 (by kernel_rfl) rfl #[.agg #[.int .i64 a1_0, .int .i64 a1_1, .int .i64 a1_2, .int .i64 a1_3, .int .i64 a1_4, .int .i64 a1_5, .slice A1_6 l1_6.length c1_6, .int .i64 a1_7]] rfl (by (try simp only [List.map_toArray, List.map_cons, List.map_nil]); first|done|rfl|(simp only [List.length_drop, List.length_take]; rfl)) ?_; (with_reducible refine (emenderref09_Check.calls k a1_0 a1_1 a1_2 a1_3 a1_4 a1_5 _ _ l1_6 a1_7 t438 _ ?side1 ?side2 A8.out).mono ?_); (case side1 => repeat (first|exact (Kd.C_below HR1_6.out HB.out)|(with_reducible refine Kd.C_alloc ?_ _)|(with_reducible refine Kd.C_drewN ?_ _)|(with_reducible refine Kd.C_drew ?_))); (case side2 => exact HC1_6.out); rintro e w10 ⟨rfl, hb⟩; refine ⟨_, rfl, ?_⟩; replace BK435 := aM (blk_below (by (with_reducible repeat (first|refine bN ?_ _|refine bD ?_|refine bA ?_ _)); exact BK435.out) hb); replace HB := aM (below_step (by repeat (first|(with_reducible first|exact HB.out|apply lA|apply lN|apply lD|refine lS ?_ GE435.out)|exact HB.out)) hb); (try clear hb); (try clear hb2); (try clear hk); (try clear hi)))
   go_meet
   case rel => exact ⟨_, (t438), (by first|rfl|(simp; done)|(simp [*]; done)), H', ⟨by first|omega|exact Nat.le_refl _⟩, ⟨by (with_reducible repeat (first|refine bN ?_ _|refine bD ?_|refine bA ?_ _)); exact BK435.out⟩, ⟨by repeat (first|(with_reducible first|exact HB.out|apply lA|apply lN|apply lD|refine lS ?_ GE435.out)|exact HB.out)⟩⟩
  ·rw [if_neg c7] at H
   have c7b0 : (t437 == 0) = false := beq_eq_false_iff_ne.mpr c7
   have c7b1 : (t437 != 0) = true := bne_iff_ne.mpr c7
   (first|rw [c7b0]|(simp only [i64_w, i32_w]; rw [c7b0])|skip)
   have H' := aM H
   clear H
   go_wp2
   go_meet
   case rel => exact ⟨_, (t437), (by first|rfl|(simp; done)|(simp [*]; done)), H', ⟨by first|omega|exact Nat.le_refl _⟩, ⟨by (with_reducible repeat (first|refine bN ?_ _|refine bD ?_|refine bA ?_ _)); exact BK435.out⟩, ⟨by repeat (first|(with_reducible first|exact HB.out|apply lA|apply lN|apply lD|refine lS ?_ GE435.out)|exact HB.out)⟩⟩
 case rest =>
  clear HC4
  obtain ⟨kq, x7_3, rfl, HA, HJ3, BK435, HB⟩ := hcut
  cases kq with
 |zero => exact absurd HA.out (by simp [emenderref09_Apply.j0])
 |succ kj3 =>
   have H := HA.out
   clear HA
   simp only [emenderref09_Apply.j0] at H
   by_cases c11 : x7_3 = 0
   ·rw [if_pos c11] at H
    have c11b0 : (x7_3 == 0) = true := beq_iff_eq.mpr c11
    have c11b1 : (x7_3 != 0) = false := bne_eq_false_iff_eq.mpr c11
    clear c11
    by_cases c12 : a1_2 > (l0.length : Int)
    ·rw [if_pos c12] at H
     have c12b0 : decide ((l0.length : Int) < a1_2) = true := decide_eq_true c12
     clear c12
     simp only [Option.some.injEq, Prod.mk.injEq] at H
     obtain ⟨rfl, rfl⟩ := H
     obtain ⟨hcz13_0, hcz13_1, hcz13_2, hcz13_3, hcz13_4, hcz13_5, hcz13_6, hcz13_7, hfz13_0, hfz13_1, hfz13_2, hfz13_3, hfz13_4, hfz13_5, hfz13_6, hfz13_7⟩ := bx8z BK435.out
     go_wp2
     go_ret2
     exact ⟨_, by first|rfl|(simp [errW_none, errW_some] <;> rfl)|(simp [*, errW_none, errW_some] <;> rfl), by first|exact Kd.R_nil _ _ _ _ _|exact Kd.N_nil _ _ _ _ _|exact Kd.V_nil _ _ _ _ _|exact Kd.Q_nil _ _ _ _ _|exact Kd.S_nil _ _ _ _ _, by repeat (first|(with_reducible first|exact HB.out|apply lA|apply lN|apply lD|refine lS ?_ GE435.out)|exact HB.out)⟩
    ·rw [if_neg c12] at H
     have c12b0 : decide ((l0.length : Int) < a1_2) = false := decide_eq_false c12
     clear c12
     replace H := Option.bind_eq_some_iff.mp H
     obtain ⟨t439, A140, H⟩ := H
     replace H : ((emenderref04_Check.f kj3 t439).bind fun bt442 => (if bt442.2 = 3 then (emenderref09_Apply.j1 kj3 4 t439) else (emenderref09_Apply.j1 kj3 bt442.2 t439))) = some (r1, r2) := H
     have A14 := aM A140
     clear A140
     replace H := Option.bind_eq_some_iff.mp H
     obtain ⟨⟨t442, t443⟩, A150, H⟩ := H
     replace H : (if t443 = 3 then (emenderref09_Apply.j1 kj3 4 t439) else (emenderref09_Apply.j1 kj3 t443 t439)) = some (r1, r2) := H
     have A15 := aM A150
     clear A150
     have HC16 := aM H
     clear H
     obtain ⟨hcz17_0, hcz17_1, hcz17_2, hcz17_3, hcz17_4, hcz17_5, hcz17_6, hcz17_7, hfz17_0, hfz17_1, hfz17_2, hfz17_3, hfz17_4, hfz17_5, hfz17_6, hfz17_7⟩ := bx8z BK435.out
     go_upto_if 35 with (first|((with_reducible refine gate_callee (f := 45) rfl ?_); refine goesL_ (some 28) rfl rfl Tryd.func45 (by kernel_rfl) rfl #[.slice A0 l0.length c0, .agg #[.int .i64 a1_0, .int .i64 a1_1, .int .i64 a1_2, .int .i64 a1_3, .int .i64 a1_4, .int .i64 a1_5, .slice A1_6 l1_6.length c1_6, .int .i64 a1_7]] rfl (by (try simp only [List.map_toArray, List.map_cons, List.map_nil]); first|done|rfl|(simp only [List.length_drop, List.length_take]; rfl)) ?_; (with_reducible refine (emenderref09_done.calls kj3 (fun k_ => k_ < w.heap.size) _ _ l0 a1_0 a1_1 a1_2 a1_3 a1_4 a1_5 (fun k_ => k_ < w.heap.size) _ _ l1_6 a1_7 t439 _ ?side1 ?side2 A14.out).mono ?_); (case side1 => exact Kd.V_mk HC0.out (Kd.F_below (Kd.C_F k48_heap HR0.out) (by repeat (first|(with_reducible first|exact HB.out|apply lA|apply lN|apply lD|refine lS ?_ GE435.out)|exact HB.out)))); (case side2 => exact Kd.V_mk HC1_6.out (Kd.F_below (Kd.C_F k48_heap HR1_6.out) (by repeat (first|(with_reducible first|exact HB.out|apply lA|apply lN|apply lD|refine lS ?_ GE435.out)|exact HB.out)))); rintro e w18 ⟨v440, rfl, ho0, hb⟩; refine ⟨_, rfl, ?_⟩; replace HO441 := aM (Kd.R_lower (Kd.R_mono (ok' := fun k_ => True) ho0 (fun _ hk_ => trivial)) (below_size (by repeat (first|(with_reducible first|exact HB.out|apply lA|apply lN|apply lD|refine lS ?_ GE435.out)|exact HB.out)))); replace BK435 := aM (blk_below (by (with_reducible repeat (first|refine bN ?_ _|refine bD ?_|refine bA ?_ _)); exact BK435.out) hb); replace HB := aM (below_step (by repeat (first|(with_reducible first|exact HB.out|apply lA|apply lN|apply lD|refine lS ?_ GE435.out)|exact HB.out)) hb); (try clear hb); (try clear hb2); (try clear hk); (try clear hi); (try clear ho0); obtain ⟨Ao19, co19, eo19⟩ := Kd.R_slice HO441.out; subst eo19)|((with_reducible refine gate_callee (f := 25) rfl ?_); refine goesL_ (some 31) rfl rfl Tryd.func25 (by kernel_rfl) rfl #[.slice Ao19 t439.length co19] rfl (by (try simp only [List.map_toArray, List.map_cons, List.map_nil]); first|done|rfl|(simp only [List.length_drop, List.length_take]; rfl)) ?_; (with_reducible refine (emenderref04_Check.calls kj3 _ _ t439 t442 t443 _ ?side1 ?side2 A15.out).mono ?_); (case side1 => repeat (first|exact (Kd.R_reads' HO441.out).2.2|(with_reducible refine Kd.C_alloc ?_ _)|(with_reducible refine Kd.C_drewN ?_ _)|(with_reducible refine Kd.C_drew ?_))); (case side2 => exact (Kd.R_reads' HO441.out).2.1); rintro e w20 ⟨rfl, hb⟩; refine ⟨_, rfl, ?_⟩; replace HO441 := aM (Kd.R_below (by (with_reducible repeat (first|apply Kd.R_alloc|apply Kd.R_drewN|apply Kd.R_drew)); exact HO441.out) hb); replace BK435 := aM (blk_below (by (with_reducible repeat (first|refine bN ?_ _|refine bD ?_|refine bA ?_ _)); exact BK435.out) hb); replace HB := aM (below_step (by repeat (first|(with_reducible first|exact HB.out|apply lA|apply lN|apply lD|refine lS ?_ GE435.out)|exact HB.out)) hb); (try clear hb); (try clear hb2); (try clear hk); (try clear hi)))
     (try simp only [Act.put, List.setIfInBounds_toArray, List.set_cons_zero, List.set_cons_succ])
     go_cut [7] (fun v7 wc => ∃ (kq : Nat) (x7_15 : Int), v7 = .int .i64 x7_15 ∧ Aside0 (emenderref09_Apply.j1 kq x7_15 t439 = some (r1, r2)) ∧ Aside0 (kq ≤ kj3) ∧ Aside0 (Kd.R k48 48 wc w.heap.size (fun _ => True) (.slice Ao19 t439.length co19) t439) ∧ Aside0 (wc.heap[gb435]? = some (.cells #[.int .i64 a1_0, .int .i64 a1_1, .int .i64 a1_2, .int .i64 a1_3, .int .i64 a1_4, .int .i64 a1_5, (.slice A1_6 l1_6.length c1_6), .int .i64 a1_7] 45 (0, 0))) ∧ Aside0 (Below w.heap.size w wc))
     case first =>
      have H := HC16.out
      clear HC16
      by_cases c21 : t443 = 3
      ·rw [if_pos c21] at H
       have c21b0 : (t443 == 3) = true := beq_iff_eq.mpr c21
       have c21b1 : (t443 != 3) = false := bne_eq_false_iff_eq.mpr c21
       clear c21
       (first|rw [c21b0]|(simp only [i64_w, i32_w]; rw [c21b0])|skip)
       have H' := aM H
       clear H
       go_wp2
       go_meet
       case rel => exact ⟨_, (4), (by first|rfl|(simp; done)|(simp [*]; done)), H', ⟨by have := HJ3.out; first|omega|exact Nat.le_refl _⟩, ⟨by (with_reducible repeat (first|apply Kd.R_alloc|apply Kd.R_drewN|apply Kd.R_drew)); exact HO441.out⟩, ⟨by (with_reducible repeat (first|refine bN ?_ _|refine bD ?_|refine bA ?_ _)); exact BK435.out⟩, ⟨by repeat (first|(with_reducible first|exact HB.out|apply lA|apply lN|apply lD|refine lS ?_ GE435.out)|exact HB.out)⟩⟩
      ·rw [if_neg c21] at H
       have c21b0 : (t443 == 3) = false := beq_eq_false_iff_ne.mpr c21
       have c21b1 : (t443 != 3) = true := bne_iff_ne.mpr c21
       (first|rw [c21b0]|(simp only [i64_w, i32_w]; rw [c21b0])|skip)
       have H' := aM H
       clear H
       go_wp2
       go_meet
       case rel => exact ⟨_, (t443), (by first|rfl|(simp; done)|(simp [*]; done)), H', ⟨by have := HJ3.out; first|omega|exact Nat.le_refl _⟩, ⟨by (with_reducible repeat (first|apply Kd.R_alloc|apply Kd.R_drewN|apply Kd.R_drew)); exact HO441.out⟩, ⟨by (with_reducible repeat (first|refine bN ?_ _|refine bD ?_|refine bA ?_ _)); exact BK435.out⟩, ⟨by repeat (first|(with_reducible first|exact HB.out|apply lA|apply lN|apply lD|refine lS ?_ GE435.out)|exact HB.out)⟩⟩
     case rest =>
      clear HC16
      obtain ⟨kq, x7_15, rfl, HA, HJ15, HO_8, BK435, HB⟩ := hcut
      cases kq with
     |zero => exact absurd HA.out (by simp [emenderref09_Apply.j1])
     |succ kj15 =>
       have H := HA.out
       clear HA
       simp only [emenderref09_Apply.j1] at H
       by_cases c22 : x7_15 = 0
       ·rw [if_pos c22] at H
        have c22b0 : (x7_15 == 0) = true := beq_iff_eq.mpr c22
        have c22b1 : (x7_15 != 0) = false := bne_eq_false_iff_eq.mpr c22
        clear c22
        simp only [Option.some.injEq, Prod.mk.injEq] at H
        obtain ⟨rfl, rfl⟩ := H
        go_wp2
        go_ret2
        exact ⟨_, by first|rfl|(simp [errW_none, errW_some] <;> rfl)|(simp [*, errW_none, errW_some] <;> rfl), by (with_reducible repeat (first|apply Kd.R_alloc|apply Kd.R_drewN|apply Kd.R_drew)); exact HO_8.out, by repeat (first|(with_reducible first|exact HB.out|apply lA|apply lN|apply lD|refine lS ?_ GE435.out)|exact HB.out)⟩
       ·rw [if_neg c22] at H
        have c22b0 : (x7_15 == 0) = false := beq_eq_false_iff_ne.mpr c22
        have c22b1 : (x7_15 != 0) = true := bne_iff_ne.mpr c22
        simp only [Option.some.injEq, Prod.mk.injEq] at H
        obtain ⟨rfl, rfl⟩ := H
        go_wp2
        go_ret2
        exact ⟨_, by first|rfl|(simp [errW_none, errW_some] <;> rfl)|(simp [*, errW_none, errW_some] <;> rfl), by first|exact Kd.R_nil _ _ _ _ _|exact Kd.N_nil _ _ _ _ _|exact Kd.V_nil _ _ _ _ _|exact Kd.Q_nil _ _ _ _ _|exact Kd.S_nil _ _ _ _ _, by repeat (first|(with_reducible first|exact HB.out|apply lA|apply lN|apply lD|refine lS ?_ GE435.out)|exact HB.out)⟩
   ·rw [if_neg c11] at H
    have c11b0 : (x7_3 == 0) = false := beq_eq_false_iff_ne.mpr c11
    have c11b1 : (x7_3 != 0) = true := bne_iff_ne.mpr c11
    simp only [Option.some.injEq, Prod.mk.injEq] at H
    obtain ⟨rfl, rfl⟩ := H
    go_wp2
    go_ret2
    exact ⟨_, by first|rfl|(simp [errW_none, errW_some] <;> rfl)|(simp [*, errW_none, errW_some] <;> rfl), by first|exact Kd.R_nil _ _ _ _ _|exact Kd.N_nil _ _ _ _ _|exact Kd.V_nil _ _ _ _ _|exact Kd.Q_nil _ _ _ _ _|exact Kd.S_nil _ _ _ _ _, by repeat (first|(with_reducible first|exact HB.out|apply lA|apply lN|apply lD|refine lS ?_ GE435.out)|exact HB.out)⟩
end Go.Proofs.YtfcfomconcoimaaDoor.PFa
