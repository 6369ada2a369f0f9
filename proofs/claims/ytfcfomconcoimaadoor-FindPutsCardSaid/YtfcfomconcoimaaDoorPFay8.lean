-- Written for this claim by a program (printed texts under one roof).
import Derived.Test.YtfcfomconcoimaaDoorPFax0
import Derived.Test.YtfcfomconcoimaaDoorPFay4
import Derived.Test.YtfcfomconcoimaaDoorPFay6
import Derived.Test.YtfcfomconcoimaaDoorPFay7
import Derived.Test.YtfcfomconcoimaaDoorPFay1
namespace Go.Proofs.YtfcfomconcoimaaDoor.PFa
open Go.RowKit Go.Proofs.YtfcfomconcoimaaDoorW.PrintWords Go.Proofs.YtfcfomconcoimaaDoorW.PrintLast Go.Proofs.YtfcfomconcoimaaDoorW.PrintMore
attribute [local go_sem] max2_int min2_int max_two min_two max_three min_three max_four min_four
set_option linter.unusedVariables false
set_option linter.unusedSimpArgs false
def emenderref26_Replace.l0 : Nat → List (S45) → List (S48) → Int → Option ((List (S48)) × Int)
|0, _, _, _ => none
|k + 1, x8, x10, x11 => if x11 < (x8.length : Int) then (if 0 ≤ x11 then ((emenderref09_Apply.f k x10 ((rd_T45 x8 x11).f0) ((rd_T45 x8 x11).f1) ((rd_T45 x8 x11).f2) ((rd_T45 x8 x11).f3) ((rd_T45 x8 x11).f4) ((rd_T45 x8 x11).f5) ((rd_T45 x8 x11).f6) ((rd_T45 x8 x11).f7)).bind fun bt455 => (if bt455.2 = 0 then (emenderref26_Replace.l0 k x8 bt455.1 (wrap64 (x11 + 1))) else (some (([] : List (S48)), bt455.2)))) else (none)) else (some (x10, 0))
def emenderref26_Replace.f (k : Nat) (l0 : List (S48)) (l1 : List (S28)) (a2 : ByteArray) : Option ((List (S48)) × Int) := (emenderref26_Steps.f k l0 l1 a2).bind fun bt444 => (if bt444.2 = 0 then ((some (([] : List (S48)) : List (S48))).bind fun y448 => (if y448.length + l0.length < 4398046511104 then (emenderref26_Replace.l0 k bt444.1 (y448 ++ l0) 0) else (none))) else (some (([] : List (S48)), bt444.2)))
set_option maxHeartbeats 8000000 in
set_option maxRecDepth 100000 in
theorem emenderref26_Replace.calls (k : Nat) (A0 : Option Addr) (c0 : Nat) (l0 : List (S48)) (A1 : Option Addr) (c1 : Nat) (l1 : List (S28)) (a2 : ByteArray) (r1 : List (S48)) (r2 : Int) (w : World) (hr0 : Kd.C k48 w A0 l0.length l0) (hc0 : l0.length ≤ c0) (hr1 : Kd.C k28 w A1 l1.length l1) (hc1 : l1.length ≤ c1) (h : emenderref26_Replace.f k l0 l1 a2 = some (r1, r2)) :
  Calls Tryd.prog 14 #[.slice A0 l0.length c0, .slice A1 l1.length c1, .string a2] w fun e w' => ∃ v0_ : Value, e = .returned (.tuple #[v0_, .int .i64 r2]) ∧ Kd.R k48 48 w' w.heap.size (fun _ => True) v0_ r1 ∧ Below w.heap.size w w' := by
 have hu45 := Tryd.underlying45
 have HR0 := aM hr0
 have HC0 := aM hc0
 clear hr0 hc0
 have HR1 := aM hr1
 have HC1 := aM hc1
 clear hr1 hc1
 have HB := aM (Below.refl w.heap.size w)
 have H : ((emenderref26_Steps.f k l0 l1 a2).bind fun bt444 => (if bt444.2 = 0 then ((some (([] : List (S48)) : List (S48))).bind fun y448 => (if y448.length + l0.length < 4398046511104 then (emenderref26_Replace.l0 k bt444.1 (y448 ++ l0) 0) else (none))) else (some (([] : List (S48)), bt444.2)))) = some (r1, r2) := h
 clear h
 replace H := Option.bind_eq_some_iff.mp H
 obtain ⟨⟨t444, t445⟩, A40, H⟩ := H
 replace H : (if t445 = 0 then ((some (([] : List (S48)) : List (S48))).bind fun y448 => (if y448.length + l0.length < 4398046511104 then (emenderref26_Replace.l0 k t444 (y448 ++ l0) 0) else (none))) else (some (([] : List (S48)), t445))) = some (r1, r2) := H
 have A4 := aM A40
 clear A40
 by_cases c5 : t445 = 0
 ·rw [if_pos c5] at H
  have c5b0 : (t445 == 0) = true := beq_iff_eq.mpr c5
  have c5b1 : (t445 != 0) = false := bne_eq_false_iff_eq.mpr c5
  clear c5
  obtain ⟨y448, hy448⟩ : ∃ y_ : List (S48), y_ = (([] : List (S48))) := ⟨_, rfl⟩
  replace H : (if y448.length + l0.length < 4398046511104 then (emenderref26_Replace.l0 k t444 (y448 ++ l0) 0) else (none)) = some (r1, r2) := by first|(rw [hy448]; with_reducible exact H)|(have H2_ := (Option.bind_some _ _).symm.trans H; rw [hy448]; with_reducible exact H2_)|(have H2_ := (Option.bind_some _ _).symm.trans H; with_reducible exact H2_)|with_reducible exact H|(rw [hy448]; exact H)|exact H
  have Ny448 := aM hy448
  clear hy448
  replace H := ifS H; obtain ⟨c6, H⟩ := H
  have LMc6 := aM c6
  clear c6
  obtain ⟨y451, hy451⟩ : ∃ y_ : List (S48), y_ = (y448 ++ l0) := ⟨_, rfl⟩
  replace H : (emenderref26_Replace.l0 k t444 y451 0) = some (r1, r2) := by first|(rw [hy451]; with_reducible exact H)|(have H2_ := (Option.bind_some _ _).symm.trans H; rw [hy451]; with_reducible exact H2_)|(have H2_ := (Option.bind_some _ _).symm.trans H; with_reducible exact H2_)|with_reducible exact H|(rw [hy451]; exact H)|exact H
  have Ny451 := aM hy451
  clear hy451
  have H' := aM H
  clear H
  go_enter Tryd.func14, Tryd.ntmps14
  go_wp2_with (first|((with_reducible refine gate_callee (f := 12) rfl ?_); refine goesL_ (some 18) rfl rfl Tryd.func12 (by kernel_rfl) rfl #[.slice A0 l0.length c0, .slice A1 l1.length c1, .string a2] rfl (by (try simp only [List.map_toArray, List.map_cons, List.map_nil]); first|done|rfl|(simp only [List.length_drop, List.length_take]; rfl)) ?_; (with_reducible refine (emenderref26_Steps.calls k _ _ l0 _ _ l1 a2 t444 t445 _ ?side1 ?side2 ?side3 ?side4 A4.out).mono ?_); (case side1 => repeat (first|exact HR0.out|(with_reducible refine Kd.C_alloc ?_ _)|(with_reducible refine Kd.C_drewN ?_ _)|(with_reducible refine Kd.C_drew ?_))); (case side2 => exact HC0.out); (case side3 => repeat (first|exact HR1.out|(with_reducible refine Kd.C_alloc ?_ _)|(with_reducible refine Kd.C_drewN ?_ _)|(with_reducible refine Kd.C_drew ?_))); (case side4 => exact HC1.out); rintro e w7 ⟨v446, rfl, ho0, hb⟩; refine ⟨_, rfl, ?_⟩; replace HO447 := aM (Kd.S_lower ho0 (below_size (by repeat (first|(with_reducible first|exact HB.out|apply lA|apply lN|apply lD)|exact HB.out)))); replace HB := aM (below_step (by repeat (first|(with_reducible first|exact HB.out|apply lA|apply lN|apply lD)|exact HB.out)) hb); (try clear hb); (try clear hb2); (try clear hk); (try clear hi); (try clear ho0))|((with_reducible refine gate_dst (N := 24) rfl ?_); refine Kd.R_lit k48 _ 48 ?hg (N := 24) ?hd (xs := ([] : List (S48))) (inner := []) (ok := fun _ => True) (okp := fun _ => True) ?hr ?hp (fun _ hk => hk) trivial (Below.refl _ _) (Nat.le_refl _) (by simp) ?_; (case hd => rfl); (case hg => rfl); (case hr => first|(go_simp; done)|(go_simp; rfl)); (case hp => exact (Reps.none _ _)); intro v449 w8 ho9 hb hg_ hnew_; clear hg_ hnew_; (first|rw [← Ny448.out] at ho9|(simp only [Int.reduceToNat] at ho9; rw [← Ny448.out] at ho9)); replace HO447 := aM (Kd.S_elder' (by (with_reducible repeat (first|apply Kd.S_alloc|apply Kd.S_drewN|apply Kd.S_drew)); exact HO447.out) (Kd.R_base ho9) hb); replace HO450 := aM (Kd.R_lower ho9 (below_size (by repeat (first|(with_reducible first|exact HB.out|apply lA|apply lN|apply lD)|exact HB.out)))); replace HB := aM (below_step (by repeat (first|(with_reducible first|exact HB.out|apply lA|apply lN|apply lD)|exact HB.out)) hb); clear hb ho9)|((with_reducible refine gate_builtin (b := .append) (xs := #[.tmp 24, .tmp 25]) rfl ?_); at_builtin; refine Kd.R_append_rows k48 (w0 := w) w.heap.size rfl (.tmp 24) (.tmp 25) 22 48 (.agg #[(.int .i64 0), (.int .i64 0), (.int .i64 0), (.int .i64 0)]) 32 rfl Tryd.underlying22 info48 rfl (by decide) (by omega) v449 y448 l0 _ _ _ (fun _ => True) (fun _ => False) rfl rfl ?aO ?aR (fun _ _ h => h) (fun _ h => h.elim) ?aF ?aB ?aS ?aL ?_; (case aR => repeat (first|exact (Kd.C_below HR0.out HB.out)|(with_reducible refine Kd.C_alloc ?_ _)|(with_reducible refine Kd.C_drewN ?_ _)|(with_reducible refine Kd.C_drew ?_))); (case aB => exact (by repeat (first|(with_reducible first|exact HB.out|apply lA|apply lN|apply lD)|exact HB.out))); (case aF => exact (fun _ _ => trivial)); (case aO => exact (by (with_reducible repeat (first|apply Kd.R_alloc|apply Kd.R_drewN|apply Kd.R_drew)); exact HO450.out)); (case aS => exact (below_size (by repeat (first|(with_reducible first|exact HB.out|apply lA|apply lN|apply lD)|exact HB.out)))); (case aL => have := LMc6.out; omega); intro v452 w10 ho hb hg hat; rw [← Ny451.out] at ho; have n0_ := aM (Kd.S_after (ok := (fun _ => True)) (by (with_reducible repeat (first|apply Kd.S_alloc|apply Kd.S_drewN|apply Kd.S_drew)); exact HO447.out) hg hat); have n1_ := aM (hb); have n2_ := aM (ho); clear HO447; clear HB; clear HO450; have HO447 := n0_; have HB := n1_; have HO453 := n2_; clear n0_ n1_ n2_; clear ho hb hg hat))
  go_loopg [10, 11] k (fun kq v10 v11 w' => ∃ (x10_1 : List (S48)) (x11_1 : Int), v11 = .int .i64 x11_1 ∧ Aside0 (emenderref26_Replace.l0 kq t444 x10_1 x11_1 = some (r1, r2)) ∧ Aside0 (kq ≤ k) ∧ Aside0 (Kd.S k45 45 w' w.heap.size (fun k_ => some k_ ≠ (v10 : Value).ownBlock) v446 t444) ∧ Aside0 (Kd.R k48 48 w' w.heap.size (fun _ => True) v10 x10_1) ∧ Aside0 (Below w.heap.size w w'))
  case atStart => exact ⟨(y451), (0), (by first|rfl|(simp; done)|(simp [*]; done)), H', ⟨Nat.le_refl _⟩, ⟨by (with_reducible repeat (first|apply Kd.S_alloc|apply Kd.S_drewN|apply Kd.S_drew)); exact Kd.S_mono HO447.out (fun _ hk => hk.2)⟩, ⟨by (with_reducible repeat (first|apply Kd.R_alloc|apply Kd.R_drewN|apply Kd.R_drew)); exact HO453.out⟩, ⟨by repeat (first|(with_reducible first|exact HB.out|apply lA|apply lN|apply lD)|exact HB.out)⟩⟩
  case round =>
   clear H'
   obtain ⟨x10_1, x11_1, rfl, HA, HK1, HO_8, HO_10, HB⟩ := hrel
   cases gk with
  |zero => exact absurd HA.out (by simp [emenderref26_Replace.l0])
  |succ k1 =>
    have H := HA.out
    clear HA
    simp only [emenderref26_Replace.l0] at H
    by_cases c11 : x11_1 < (t444.length : Int)
    ·rw [if_pos c11] at H
     have c11b0 : decide (x11_1 < (t444.length : Int)) = true := decide_eq_true c11
     clear c11
     replace H := ifS H; obtain ⟨c12, H⟩ := H
     have c12b0 : decide (0 ≤ x11_1) = true := decide_eq_true c12
     clear c12
     replace H := Option.bind_eq_some_iff.mp H
     obtain ⟨⟨t455, t458⟩, A130, H⟩ := H
     replace H : (if t458 = 0 then (emenderref26_Replace.l0 k1 t444 t455 (wrap64 (x11_1 + 1))) else (some (([] : List (S48)), t458))) = some (r1, r2) := H
     have A13 := aM A130
     clear A130
     by_cases c14 : t458 = 0
     ·rw [if_pos c14] at H
      have c14b0 : (t458 == 0) = true := beq_iff_eq.mpr c14
      have c14b1 : (t458 != 0) = false := bne_eq_false_iff_eq.mpr c14
      clear c14
      have H' := aM H
      clear H
      obtain ⟨Ao15, co15, eo15⟩ := Kd.S_slice HO_8.out
      subst eo15
      have p454 : 0 ≤ (x11_1 : Int) := of_decide_eq_true (by assumption)
      have q454 : x11_1 < (t444.length : Int) := of_decide_eq_true (by assumption)
      obtain ⟨ad454, A454_6, c454_6, e454, hx454_0, hx454_1, hx454_2, hx454_3, hx454_4, hx454_5, hx454_6, hx454_7, hl454_6, hi454_6⟩ := at_T45 (Kd.S_reads' HO_8.out).2.2 x11_1 p454 q454
      cases e454
      obtain ⟨ce454, hce454, hMe454, hcc454⟩ := Kd.S_get HO_8.out z45 x11_1 p454 (by first|exact q454|exact of_decide_eq_true (by assumption)|(have e_ := (Kd.S_reads' HO_8.out).1; omega))
      obtain ⟨ve454_6, rfl, ge454_6⟩ := k45_openM hMe454
      have hv454_6 := hcc454 6 _ rfl
      rw [add_field _ _ 6 (by omega)] at hv454_6
      replace hv454_6 := Option.some.inj (hv454_6.symm.trans hx454_6)
      rw [hv454_6] at ge454_6
      have HL454_6 := aM (show Kd.R k48 48 _ _ _ _ ((rd_T45 t444 x11_1).f6) from ge454_6)
      clear hv454_6 ge454_6
      clear hcc454 hce454
      have HR454_6 := aM hi454_6
      have HC454_6 := aM hl454_6
      clear hi454_6 hl454_6
      replace p454 := eq_true p454
      replace q454 := eq_true q454
      obtain ⟨Ao16, co16, eo16⟩ := Kd.R_slice HO_10.out
      subst eo16
      go_wp2_with (first|((with_reducible refine gate_callee (f := 29) rfl ?_); refine goesL_ (some 39) rfl rfl Tryd.func29 (by kernel_rfl) rfl #[.slice Ao16 x10_1.length co16, .agg #[.int .i64 ((rd_T45 t444 x11_1).f0), .int .i64 ((rd_T45 t444 x11_1).f1), .int .i64 ((rd_T45 t444 x11_1).f2), .int .i64 ((rd_T45 t444 x11_1).f3), .int .i64 ((rd_T45 t444 x11_1).f4), .int .i64 ((rd_T45 t444 x11_1).f5), .slice A454_6 ((rd_T45 t444 x11_1).f6).length c454_6, .int .i64 ((rd_T45 t444 x11_1).f7)]] rfl (by (try simp only [List.map_toArray, List.map_cons, List.map_nil]); first|done|rfl|(simp only [List.length_drop, List.length_take]; rfl)) ?_; (with_reducible refine (emenderref09_Apply.calls k1 _ _ x10_1 ((rd_T45 t444 x11_1).f0) ((rd_T45 t444 x11_1).f1) ((rd_T45 t444 x11_1).f2) ((rd_T45 t444 x11_1).f3) ((rd_T45 t444 x11_1).f4) ((rd_T45 t444 x11_1).f5) _ _ ((rd_T45 t444 x11_1).f6) ((rd_T45 t444 x11_1).f7) t455 t458 _ ?side1 ?side2 ?side3 ?side4 A13.out).mono ?_); (case side1 => repeat (first|exact (Kd.R_reads' HO_10.out).2.2|(with_reducible refine Kd.C_alloc ?_ _)|(with_reducible refine Kd.C_drewN ?_ _)|(with_reducible refine Kd.C_drew ?_))); (case side2 => exact (Kd.R_reads' HO_10.out).2.1); (case side3 => repeat (first|exact (by repeat (first|(with_reducible exact HR454_6.out)|(with_reducible refine Kd.C_alloc ?_ _)|(with_reducible refine Kd.C_drewN ?_ _)|(with_reducible refine Kd.C_drew ?_)|exact HR454_6.out))|(with_reducible refine Kd.C_alloc ?_ _)|(with_reducible refine Kd.C_drewN ?_ _)|(with_reducible refine Kd.C_drew ?_))); (case side4 => exact HC454_6.out); rintro e w17 ⟨v456, rfl, ho0, hb⟩; refine ⟨_, rfl, ?_⟩; replace HO_8 := aM (Kd.S_elder' (by (with_reducible repeat (first|apply Kd.S_alloc|apply Kd.S_drewN|apply Kd.S_drew)); exact HO_8.out) (Kd.R_base ho0) hb); replace HO457 := aM (Kd.R_lower (Kd.R_new' (Kd.R_new' ho0 (Kd.R_lt (by (with_reducible repeat (first|apply Kd.R_alloc|apply Kd.R_drewN|apply Kd.R_drew)); exact HO_10.out))) (Kd.R_lt (by (with_reducible repeat (first|apply Kd.R_alloc|apply Kd.R_drewN|apply Kd.R_drew)); exact HL454_6.out))) (below_size (by repeat (first|(with_reducible first|exact HB.out|apply lA|apply lN|apply lD)|exact HB.out)))); replace HO_10 := aM (Kd.R_elder' (by (with_reducible repeat (first|apply Kd.R_alloc|apply Kd.R_drewN|apply Kd.R_drew)); exact HO_10.out) (Kd.R_base ho0) hb); replace HL454_6 := aM (Kd.R_elder' (by (with_reducible repeat (first|apply Kd.R_alloc|apply Kd.R_drewN|apply Kd.R_drew)); exact HL454_6.out) (Kd.R_base ho0) hb); replace HR454_6 := aM (Kd.C_below (by repeat (first|(with_reducible exact HR454_6.out)|(with_reducible refine Kd.C_alloc ?_ _)|(with_reducible refine Kd.C_drewN ?_ _)|(with_reducible refine Kd.C_drew ?_)|exact HR454_6.out)) hb); replace HB := aM (below_step (by repeat (first|(with_reducible first|exact HB.out|apply lA|apply lN|apply lD)|exact HB.out)) hb); (try clear hb); (try clear hb2); (try clear hk); (try clear hi); (try clear ho0)))
      go_roundg k1
      case measure => have := HK1.out; omega
      case rel => exact ⟨(t455), (wrap64 (x11_1 + 1)), (by first|rfl|(simp; done)|(simp [*]; done)), H', ⟨by have := HK1.out; omega⟩, ⟨by (with_reducible repeat (first|apply Kd.S_alloc|apply Kd.S_drewN|apply Kd.S_drew)); exact Kd.S_mono HO_8.out (fun _ hk => hk.2)⟩, ⟨by (with_reducible repeat (first|apply Kd.R_alloc|apply Kd.R_drewN|apply Kd.R_drew)); exact Kd.R_mono HO457.out (fun _ hk => trivial)⟩, ⟨by repeat (first|(with_reducible first|exact HB.out|apply lA|apply lN|apply lD)|exact HB.out)⟩⟩
     ·rw [if_neg c14] at H
      have c14b0 : (t458 == 0) = false := beq_eq_false_iff_ne.mpr c14
      have c14b1 : (t458 != 0) = true := bne_iff_ne.mpr c14
      simp only [Option.some.injEq, Prod.mk.injEq] at H
      obtain ⟨rfl, rfl⟩ := H
      obtain ⟨Ao18, co18, eo18⟩ := Kd.S_slice HO_8.out
      subst eo18
      have p454 : 0 ≤ (x11_1 : Int) := of_decide_eq_true (by assumption)
      have q454 : x11_1 < (t444.length : Int) := of_decide_eq_true (by assumption)
      obtain ⟨ad454, A454_6, c454_6, e454, hx454_0, hx454_1, hx454_2, hx454_3, hx454_4, hx454_5, hx454_6, hx454_7, hl454_6, hi454_6⟩ := at_T45 (Kd.S_reads' HO_8.out).2.2 x11_1 p454 q454
      cases e454
      obtain ⟨ce454, hce454, hMe454, hcc454⟩ := Kd.S_get HO_8.out z45 x11_1 p454 (by first|exact q454|exact of_decide_eq_true (by assumption)|(have e_ := (Kd.S_reads' HO_8.out).1; omega))
      obtain ⟨ve454_6, rfl, ge454_6⟩ := k45_openM hMe454
      have hv454_6 := hcc454 6 _ rfl
      rw [add_field _ _ 6 (by omega)] at hv454_6
      replace hv454_6 := Option.some.inj (hv454_6.symm.trans hx454_6)
      rw [hv454_6] at ge454_6
      have HL454_6 := aM (show Kd.R k48 48 _ _ _ _ ((rd_T45 t444 x11_1).f6) from ge454_6)
      clear hv454_6 ge454_6
      clear hcc454 hce454
      have HR454_6 := aM hi454_6
      have HC454_6 := aM hl454_6
      clear hi454_6 hl454_6
      replace p454 := eq_true p454
      replace q454 := eq_true q454
      obtain ⟨Ao19, co19, eo19⟩ := Kd.R_slice HO_10.out
      subst eo19
      go_wp2_with (first|((with_reducible refine gate_callee (f := 29) rfl ?_); refine goesL_ (some 39) rfl rfl Tryd.func29 (by kernel_rfl) rfl #[.slice Ao19 x10_1.length co19, .agg #[.int .i64 ((rd_T45 t444 x11_1).f0), .int .i64 ((rd_T45 t444 x11_1).f1), .int .i64 ((rd_T45 t444 x11_1).f2), .int .i64 ((rd_T45 t444 x11_1).f3), .int .i64 ((rd_T45 t444 x11_1).f4), .int .i64 ((rd_T45 t444 x11_1).f5), .slice A454_6 ((rd_T45 t444 x11_1).f6).length c454_6, .int .i64 ((rd_T45 t444 x11_1).f7)]] rfl (by (try simp only [List.map_toArray, List.map_cons, List.map_nil]); first|done|rfl|(simp only [List.length_drop, List.length_take]; rfl)) ?_; (with_reducible refine (emenderref09_Apply.calls k1 _ _ x10_1 ((rd_T45 t444 x11_1).f0) ((rd_T45 t444 x11_1).f1) ((rd_T45 t444 x11_1).f2) ((rd_T45 t444 x11_1).f3) ((rd_T45 t444 x11_1).f4) ((rd_T45 t444 x11_1).f5) _ _ ((rd_T45 t444 x11_1).f6) ((rd_T45 t444 x11_1).f7) t455 t458 _ ?side1 ?side2 ?side3 ?side4 A13.out).mono ?_); (case side1 => repeat (first|exact (Kd.R_reads' HO_10.out).2.2|(with_reducible refine Kd.C_alloc ?_ _)|(with_reducible refine Kd.C_drewN ?_ _)|(with_reducible refine Kd.C_drew ?_))); (case side2 => exact (Kd.R_reads' HO_10.out).2.1); (case side3 => repeat (first|exact (by repeat (first|(with_reducible exact HR454_6.out)|(with_reducible refine Kd.C_alloc ?_ _)|(with_reducible refine Kd.C_drewN ?_ _)|(with_reducible refine Kd.C_drew ?_)|exact HR454_6.out))|(with_reducible refine Kd.C_alloc ?_ _)|(with_reducible refine Kd.C_drewN ?_ _)|(with_reducible refine Kd.C_drew ?_))); (case side4 => exact HC454_6.out); rintro e w20 ⟨v456, rfl, ho0, hb⟩; refine ⟨_, rfl, ?_⟩; replace HO_8 := aM (Kd.S_elder' (by (with_reducible repeat (first|apply Kd.S_alloc|apply Kd.S_drewN|apply Kd.S_drew)); exact HO_8.out) (Kd.R_base ho0) hb); replace HO457 := aM (Kd.R_lower (Kd.R_new' (Kd.R_new' ho0 (Kd.R_lt (by (with_reducible repeat (first|apply Kd.R_alloc|apply Kd.R_drewN|apply Kd.R_drew)); exact HO_10.out))) (Kd.R_lt (by (with_reducible repeat (first|apply Kd.R_alloc|apply Kd.R_drewN|apply Kd.R_drew)); exact HL454_6.out))) (below_size (by repeat (first|(with_reducible first|exact HB.out|apply lA|apply lN|apply lD)|exact HB.out)))); replace HO_10 := aM (Kd.R_elder' (by (with_reducible repeat (first|apply Kd.R_alloc|apply Kd.R_drewN|apply Kd.R_drew)); exact HO_10.out) (Kd.R_base ho0) hb); replace HL454_6 := aM (Kd.R_elder' (by (with_reducible repeat (first|apply Kd.R_alloc|apply Kd.R_drewN|apply Kd.R_drew)); exact HL454_6.out) (Kd.R_base ho0) hb); replace HR454_6 := aM (Kd.C_below (by repeat (first|(with_reducible exact HR454_6.out)|(with_reducible refine Kd.C_alloc ?_ _)|(with_reducible refine Kd.C_drewN ?_ _)|(with_reducible refine Kd.C_drew ?_)|exact HR454_6.out)) hb); replace HB := aM (below_step (by repeat (first|(with_reducible first|exact HB.out|apply lA|apply lN|apply lD)|exact HB.out)) hb); (try clear hb); (try clear hb2); (try clear hk); (try clear hi); (try clear ho0)))
      go_ret2
      exact ⟨_, by first|rfl|(simp [errW_none, errW_some] <;> rfl)|(simp [*, errW_none, errW_some] <;> rfl), by first|exact Kd.R_nil _ _ _ _ _|exact Kd.N_nil _ _ _ _ _|exact Kd.V_nil _ _ _ _ _|exact Kd.Q_nil _ _ _ _ _|exact Kd.S_nil _ _ _ _ _, by repeat (first|(with_reducible first|exact HB.out|apply lA|apply lN|apply lD)|exact HB.out)⟩
    ·rw [if_neg c11] at H
     have c11b0 : decide (x11_1 < (t444.length : Int)) = false := decide_eq_false c11
     clear c11
     simp only [Option.some.injEq, Prod.mk.injEq] at H
     obtain ⟨rfl, rfl⟩ := H
     obtain ⟨Ao21, co21, eo21⟩ := Kd.S_slice HO_8.out
     subst eo21
     go_wp2
     go_ret2
     exact ⟨_, by first|rfl|(simp [errW_none, errW_some] <;> rfl)|(simp [*, errW_none, errW_some] <;> rfl), by (with_reducible repeat (first|apply Kd.R_alloc|apply Kd.R_drewN|apply Kd.R_drew)); exact HO_10.out, by repeat (first|(with_reducible first|exact HB.out|apply lA|apply lN|apply lD)|exact HB.out)⟩
 ·rw [if_neg c5] at H
  have c5b0 : (t445 == 0) = false := beq_eq_false_iff_ne.mpr c5
  have c5b1 : (t445 != 0) = true := bne_iff_ne.mpr c5
  simp only [Option.some.injEq, Prod.mk.injEq] at H
  obtain ⟨rfl, rfl⟩ := H
  go_enter Tryd.func14, Tryd.ntmps14
  go_wp2_with (first|((with_reducible refine gate_callee (f := 12) rfl ?_); refine goesL_ (some 18) rfl rfl Tryd.func12 (by kernel_rfl) rfl #[.slice A0 l0.length c0, .slice A1 l1.length c1, .string a2] rfl (by (try simp only [List.map_toArray, List.map_cons, List.map_nil]); first|done|rfl|(simp only [List.length_drop, List.length_take]; rfl)) ?_; (with_reducible refine (emenderref26_Steps.calls k _ _ l0 _ _ l1 a2 t444 t445 _ ?side1 ?side2 ?side3 ?side4 A4.out).mono ?_); (case side1 => repeat (first|exact HR0.out|(with_reducible refine Kd.C_alloc ?_ _)|(with_reducible refine Kd.C_drewN ?_ _)|(with_reducible refine Kd.C_drew ?_))); (case side2 => exact HC0.out); (case side3 => repeat (first|exact HR1.out|(with_reducible refine Kd.C_alloc ?_ _)|(with_reducible refine Kd.C_drewN ?_ _)|(with_reducible refine Kd.C_drew ?_))); (case side4 => exact HC1.out); rintro e w22 ⟨v446, rfl, ho0, hb⟩; refine ⟨_, rfl, ?_⟩; replace HO447 := aM (Kd.S_lower ho0 (below_size (by repeat (first|(with_reducible first|exact HB.out|apply lA|apply lN|apply lD)|exact HB.out)))); replace HB := aM (below_step (by repeat (first|(with_reducible first|exact HB.out|apply lA|apply lN|apply lD)|exact HB.out)) hb); (try clear hb); (try clear hb2); (try clear hk); (try clear hi); (try clear ho0)))
  go_ret2
  exact ⟨_, by first|rfl|(simp [errW_none, errW_some] <;> rfl)|(simp [*, errW_none, errW_some] <;> rfl), by first|exact Kd.R_nil _ _ _ _ _|exact Kd.N_nil _ _ _ _ _|exact Kd.V_nil _ _ _ _ _|exact Kd.Q_nil _ _ _ _ _|exact Kd.S_nil _ _ _ _ _, by repeat (first|(with_reducible first|exact HB.out|apply lA|apply lN|apply lD)|exact HB.out)⟩
def emenderlaw26_twin.f (k : Nat) (a0_0 : Int) (a0_1 : Int) (a0_2 : Int) (a0_3 : Int) (a0_4 : Int) (a0_5 : Int) (l0_6 : List (S48)) (a0_7 : Int) (a1_0 : Int) (a1_1 : Int) (a1_2 : Int) (a1_3 : Int) (a1_4 : Int) (a1_5 : Int) (l1_6 : List (S48)) (a1_7 : Int) : Option (Bool) := if a0_0 = a1_0 then (if a0_1 = a1_1 then (if a0_2 = a1_2 then (if a0_3 = a1_3 then (if a0_4 = a1_4 then (if a0_5 = a1_5 then (if a0_7 = a1_7 then ((emenderlaw26_alike.f k l0_6 l1_6).bind fun t461 => (some t461)) else (some false)) else (some false)) else (some false)) else (some false)) else (some false)) else (some false)) else (some false)
set_option maxHeartbeats 8000000 in
set_option maxRecDepth 100000 in
theorem emenderlaw26_twin.calls (k : Nat) (a0_0 : Int) (a0_1 : Int) (a0_2 : Int) (a0_3 : Int) (a0_4 : Int) (a0_5 : Int) (A0_6 : Option Addr) (c0_6 : Nat) (l0_6 : List (S48)) (a0_7 : Int) (a1_0 : Int) (a1_1 : Int) (a1_2 : Int) (a1_3 : Int) (a1_4 : Int) (a1_5 : Int) (A1_6 : Option Addr) (c1_6 : Nat) (l1_6 : List (S48)) (a1_7 : Int) (r : Bool) (w : World) (hr0_6 : Kd.C k48 w A0_6 l0_6.length l0_6) (hc0_6 : l0_6.length ≤ c0_6) (hr1_6 : Kd.C k48 w A1_6 l1_6.length l1_6) (hc1_6 : l1_6.length ≤ c1_6) (h : emenderlaw26_twin.f k a0_0 a0_1 a0_2 a0_3 a0_4 a0_5 l0_6 a0_7 a1_0 a1_1 a1_2 a1_3 a1_4 a1_5 l1_6 a1_7 = some r) :
  Calls Tryd.prog 16 #[.agg #[.int .i64 a0_0, .int .i64 a0_1, .int .i64 a0_2, .int .i64 a0_3, .int .i64 a0_4, .int .i64 a0_5, .slice A0_6 l0_6.length c0_6, .int .i64 a0_7], .agg #[.int .i64 a1_0, .int .i64 a1_1, .int .i64 a1_2, .int .i64 a1_3, .int .i64 a1_4, .int .i64 a1_5, .slice A1_6 l1_6.length c1_6, .int .i64 a1_7]] w fun e w' => e = .returned (.bool r) ∧ Below w.heap.size w w' := by
 have hu45 := Tryd.underlying45
 have HR0_6 := aM hr0_6
 have HC0_6 := aM hc0_6
 clear hr0_6 hc0_6
 have HR1_6 := aM hr1_6
 have HC1_6 := aM hc1_6
 clear hr1_6 hc1_6
 have HB := aM (Below.refl w.heap.size w)
 have H : (if a0_0 = a1_0 then (if a0_1 = a1_1 then (if a0_2 = a1_2 then (if a0_3 = a1_3 then (if a0_4 = a1_4 then (if a0_5 = a1_5 then (if a0_7 = a1_7 then ((emenderlaw26_alike.f k l0_6 l1_6).bind fun t461 => (some t461)) else (some false)) else (some false)) else (some false)) else (some false)) else (some false)) else (some false)) else (some false)) = some r := h
 clear h
 by_cases c3 : a0_0 = a1_0
 ·rw [if_pos c3] at H
  have c3b0 : (a0_0 == a1_0) = true := beq_iff_eq.mpr c3
  have c3b1 : (a0_0 != a1_0) = false := bne_eq_false_iff_eq.mpr c3
  clear c3
  by_cases c4 : a0_1 = a1_1
  ·rw [if_pos c4] at H
   have c4b0 : (a0_1 == a1_1) = true := beq_iff_eq.mpr c4
   have c4b1 : (a0_1 != a1_1) = false := bne_eq_false_iff_eq.mpr c4
   clear c4
   by_cases c5 : a0_2 = a1_2
   ·rw [if_pos c5] at H
    have c5b0 : (a0_2 == a1_2) = true := beq_iff_eq.mpr c5
    have c5b1 : (a0_2 != a1_2) = false := bne_eq_false_iff_eq.mpr c5
    clear c5
    by_cases c6 : a0_3 = a1_3
    ·rw [if_pos c6] at H
     have c6b0 : (a0_3 == a1_3) = true := beq_iff_eq.mpr c6
     have c6b1 : (a0_3 != a1_3) = false := bne_eq_false_iff_eq.mpr c6
     clear c6
     by_cases c7 : a0_4 = a1_4
     ·rw [if_pos c7] at H
      have c7b0 : (a0_4 == a1_4) = true := beq_iff_eq.mpr c7
      have c7b1 : (a0_4 != a1_4) = false := bne_eq_false_iff_eq.mpr c7
      clear c7
      by_cases c8 : a0_5 = a1_5
      ·rw [if_pos c8] at H
       have c8b0 : (a0_5 == a1_5) = true := beq_iff_eq.mpr c8
       have c8b1 : (a0_5 != a1_5) = false := bne_eq_false_iff_eq.mpr c8
       clear c8
       by_cases c9 : a0_7 = a1_7
       ·rw [if_pos c9] at H
        have c9b0 : (a0_7 == a1_7) = true := beq_iff_eq.mpr c9
        have c9b1 : (a0_7 != a1_7) = false := bne_eq_false_iff_eq.mpr c9
        clear c9
        replace H := Option.bind_eq_some_iff.mp H
        obtain ⟨t461, A100, H⟩ := H
        replace H : (some t461) = some r := H
        have A10 := aM A100
        clear A100
        obtain rfl := Option.some.inj H
        go_enter Tryd.func16, Tryd.ntmps16
        go_wp2_with (first|((with_reducible refine gate_dst (N := 2) rfl ?_); refine box_event ?hg (N := 2) ?hd (cs := #[.int .i64 a0_0, .int .i64 a0_1, .int .i64 a0_2, .int .i64 a0_3, .int .i64 a0_4, .int .i64 a0_5, .slice A0_6 l0_6.length c0_6, .int .i64 a0_7]) (t := 45) ?hr ?_; (case hd => rfl); (case hg => rfl); (case hr => first|(go_simp; done)|(go_simp; rfl)); intro gb459 hg w11 hbox hb; have hB_ := (by repeat (first|(with_reducible first|exact HB.out|apply lA|apply lN|apply lD)|exact HB.out) : Below w.heap.size w _); replace HB := aM (below_step hB_ hb); replace BK459 := aM (hbox); replace GW459 := aM ((bsz hg hB_)); replace GE459 := aM ((bsz hg hB_)); clear hb hbox hg hB_)|((with_reducible refine gate_dst (N := 3) rfl ?_); refine box_event ?hg (N := 3) ?hd (cs := #[.int .i64 a1_0, .int .i64 a1_1, .int .i64 a1_2, .int .i64 a1_3, .int .i64 a1_4, .int .i64 a1_5, .slice A1_6 l1_6.length c1_6, .int .i64 a1_7]) (t := 45) ?hr ?_; (case hd => rfl); (case hg => rfl); (case hr => first|(go_simp; done)|(go_simp; rfl)); intro gb460 hg w12 hbox hb; replace BK460 := aM (hbox); replace GW460 := aM ((by rw [hg]; exact (below_size (by repeat (first|(with_reducible first|exact HB.out|apply lA|apply lN|apply lD|refine lS ?_ GE459.out)|exact HB.out))) : w.heap.size ≤ gb460)); replace GE460 := aM ((by rw [hg]; exact (below_size (by repeat (first|(with_reducible first|exact HB.out|apply lA|apply lN|apply lD|refine lS ?_ GE459.out)|exact HB.out))) : w.heap.size ≤ gb460)); replace HB := aM (below_step (by repeat (first|(with_reducible first|exact HB.out|apply lA|apply lN|apply lD|refine lS ?_ GE459.out)|exact HB.out)) hb); replace NB459_460 := aM ((by rw [hg]; exact Nat.ne_of_lt (blk_lt (g := gb459) (o := .cells #[.int .i64 a0_0, .int .i64 a0_1, .int .i64 a0_2, .int .i64 a0_3, .int .i64 a0_4, .int .i64 a0_5, .slice A0_6 l0_6.length c0_6, .int .i64 a0_7] 45 (0, 0)) (by (with_reducible repeat (first|refine bN ?_ _|refine bD ?_|refine bA ?_ _)); exact BK459.out)) : gb459 ≠ gb460)); replace NB460_459 := aM ((by rw [hg]; exact Nat.ne_of_gt (blk_lt (g := gb459) (o := .cells #[.int .i64 a0_0, .int .i64 a0_1, .int .i64 a0_2, .int .i64 a0_3, .int .i64 a0_4, .int .i64 a0_5, .slice A0_6 l0_6.length c0_6, .int .i64 a0_7] 45 (0, 0)) (by (with_reducible repeat (first|refine bN ?_ _|refine bD ?_|refine bA ?_ _)); exact BK459.out)) : gb460 ≠ gb459)); replace BK459 := aM (blk_below (by (with_reducible repeat (first|refine bN ?_ _|refine bD ?_|refine bA ?_ _)); exact BK459.out) hb); clear hb hbox hg; have hnb13 := NB459_460.out; have hnc13 := NB460_459.out; obtain ⟨hcz14_0, hcz14_1, hcz14_2, hcz14_3, hcz14_4, hcz14_5, hcz14_6, hcz14_7, hfz14_0, hfz14_1, hfz14_2, hfz14_3, hfz14_4, hfz14_5, hfz14_6, hfz14_7⟩ := bx8z BK459.out; obtain ⟨hcz15_0, hcz15_1, hcz15_2, hcz15_3, hcz15_4, hcz15_5, hcz15_6, hcz15_7, hfz15_0, hfz15_1, hfz15_2, hfz15_3, hfz15_4, hfz15_5, hfz15_6, hfz15_7⟩ := bx8z BK460.out)|(go_at_call 15; (with_reducible refine (emenderlaw26_alike.calls k _ _ l0_6 _ _ l1_6 t461 _ ?side1 ?side2 ?side3 ?side4 A10.out).mono ?_); (case side1 => repeat (first|exact (Kd.C_below HR0_6.out HB.out)|(with_reducible refine Kd.C_alloc ?_ _)|(with_reducible refine Kd.C_drewN ?_ _)|(with_reducible refine Kd.C_drew ?_))); (case side2 => exact HC0_6.out); (case side3 => repeat (first|exact (Kd.C_below HR1_6.out HB.out)|(with_reducible refine Kd.C_alloc ?_ _)|(with_reducible refine Kd.C_drewN ?_ _)|(with_reducible refine Kd.C_drew ?_))); (case side4 => exact HC1_6.out); rintro e w' ⟨rfl, ⟨nd, rfl⟩⟩))
        go_ret
        exact ⟨by first|rfl|(simp [errW_none, errW_some] <;> rfl)|(simp [*, errW_none, errW_some] <;> rfl), by repeat (first|(with_reducible first|exact HB.out|apply lA|apply lN|apply lD|refine lS ?_ GE459.out|refine lS ?_ GE460.out)|exact HB.out)⟩
       ·rw [if_neg c9] at H
        have c9b0 : (a0_7 == a1_7) = false := beq_eq_false_iff_ne.mpr c9
        have c9b1 : (a0_7 != a1_7) = true := bne_iff_ne.mpr c9
        obtain rfl := Option.some.inj H
        go_enter Tryd.func16, Tryd.ntmps16
        go_wp2_with (first|((with_reducible refine gate_dst (N := 2) rfl ?_); refine box_event ?hg (N := 2) ?hd (cs := #[.int .i64 a0_0, .int .i64 a0_1, .int .i64 a0_2, .int .i64 a0_3, .int .i64 a0_4, .int .i64 a0_5, .slice A0_6 l0_6.length c0_6, .int .i64 a0_7]) (t := 45) ?hr ?_; (case hd => rfl); (case hg => rfl); (case hr => first|(go_simp; done)|(go_simp; rfl)); intro gb459 hg w16 hbox hb; have hB_ := (by repeat (first|(with_reducible first|exact HB.out|apply lA|apply lN|apply lD)|exact HB.out) : Below w.heap.size w _); replace HB := aM (below_step hB_ hb); replace BK459 := aM (hbox); replace GW459 := aM ((bsz hg hB_)); replace GE459 := aM ((bsz hg hB_)); clear hb hbox hg hB_)|((with_reducible refine gate_dst (N := 3) rfl ?_); refine box_event ?hg (N := 3) ?hd (cs := #[.int .i64 a1_0, .int .i64 a1_1, .int .i64 a1_2, .int .i64 a1_3, .int .i64 a1_4, .int .i64 a1_5, .slice A1_6 l1_6.length c1_6, .int .i64 a1_7]) (t := 45) ?hr ?_; (case hd => rfl); (case hg => rfl); (case hr => first|(go_simp; done)|(go_simp; rfl)); intro gb460 hg w17 hbox hb; replace BK460 := aM (hbox); replace GW460 := aM ((by rw [hg]; exact (below_size (by repeat (first|(with_reducible first|exact HB.out|apply lA|apply lN|apply lD|refine lS ?_ GE459.out)|exact HB.out))) : w.heap.size ≤ gb460)); replace GE460 := aM ((by rw [hg]; exact (below_size (by repeat (first|(with_reducible first|exact HB.out|apply lA|apply lN|apply lD|refine lS ?_ GE459.out)|exact HB.out))) : w.heap.size ≤ gb460)); replace HB := aM (below_step (by repeat (first|(with_reducible first|exact HB.out|apply lA|apply lN|apply lD|refine lS ?_ GE459.out)|exact HB.out)) hb); replace NB459_460 := aM ((by rw [hg]; exact Nat.ne_of_lt (blk_lt (g := gb459) (o := .cells #[.int .i64 a0_0, .int .i64 a0_1, .int .i64 a0_2, .int .i64 a0_3, .int .i64 a0_4, .int .i64 a0_5, .slice A0_6 l0_6.length c0_6, .int .i64 a0_7] 45 (0, 0)) (by (with_reducible repeat (first|refine bN ?_ _|refine bD ?_|refine bA ?_ _)); exact BK459.out)) : gb459 ≠ gb460)); replace NB460_459 := aM ((by rw [hg]; exact Nat.ne_of_gt (blk_lt (g := gb459) (o := .cells #[.int .i64 a0_0, .int .i64 a0_1, .int .i64 a0_2, .int .i64 a0_3, .int .i64 a0_4, .int .i64 a0_5, .slice A0_6 l0_6.length c0_6, .int .i64 a0_7] 45 (0, 0)) (by (with_reducible repeat (first|refine bN ?_ _|refine bD ?_|refine bA ?_ _)); exact BK459.out)) : gb460 ≠ gb459)); replace BK459 := aM (blk_below (by (with_reducible repeat (first|refine bN ?_ _|refine bD ?_|refine bA ?_ _)); exact BK459.out) hb); clear hb hbox hg; have hnb18 := NB459_460.out; have hnc18 := NB460_459.out; obtain ⟨hcz19_0, hcz19_1, hcz19_2, hcz19_3, hcz19_4, hcz19_5, hcz19_6, hcz19_7, hfz19_0, hfz19_1, hfz19_2, hfz19_3, hfz19_4, hfz19_5, hfz19_6, hfz19_7⟩ := bx8z BK459.out; obtain ⟨hcz20_0, hcz20_1, hcz20_2, hcz20_3, hcz20_4, hcz20_5, hcz20_6, hcz20_7, hfz20_0, hfz20_1, hfz20_2, hfz20_3, hfz20_4, hfz20_5, hfz20_6, hfz20_7⟩ := bx8z BK460.out))
        go_ret
        exact ⟨by first|rfl|(simp [errW_none, errW_some] <;> rfl)|(simp [*, errW_none, errW_some] <;> rfl), by repeat (first|(with_reducible first|exact HB.out|apply lA|apply lN|apply lD|refine lS ?_ GE459.out|refine lS ?_ GE460.out)|exact HB.out)⟩
      ·rw [if_neg c8] at H
       have c8b0 : (a0_5 == a1_5) = false := beq_eq_false_iff_ne.mpr c8
       have c8b1 : (a0_5 != a1_5) = true := bne_iff_ne.mpr c8
       obtain rfl := Option.some.inj H
       go_enter Tryd.func16, Tryd.ntmps16
       go_wp2_with (first|((with_reducible refine gate_dst (N := 2) rfl ?_); refine box_event ?hg (N := 2) ?hd (cs := #[.int .i64 a0_0, .int .i64 a0_1, .int .i64 a0_2, .int .i64 a0_3, .int .i64 a0_4, .int .i64 a0_5, .slice A0_6 l0_6.length c0_6, .int .i64 a0_7]) (t := 45) ?hr ?_; (case hd => rfl); (case hg => rfl); (case hr => first|(go_simp; done)|(go_simp; rfl)); intro gb459 hg w21 hbox hb; have hB_ := (by repeat (first|(with_reducible first|exact HB.out|apply lA|apply lN|apply lD)|exact HB.out) : Below w.heap.size w _); replace HB := aM (below_step hB_ hb); replace BK459 := aM (hbox); replace GW459 := aM ((bsz hg hB_)); replace GE459 := aM ((bsz hg hB_)); clear hb hbox hg hB_)|((with_reducible refine gate_dst (N := 3) rfl ?_); refine box_event ?hg (N := 3) ?hd (cs := #[.int .i64 a1_0, .int .i64 a1_1, .int .i64 a1_2, .int .i64 a1_3, .int .i64 a1_4, .int .i64 a1_5, .slice A1_6 l1_6.length c1_6, .int .i64 a1_7]) (t := 45) ?hr ?_; (case hd => rfl); (case hg => rfl); (case hr => first|(go_simp; done)|(go_simp; rfl)); intro gb460 hg w22 hbox hb; replace BK460 := aM (hbox); replace GW460 := aM ((by rw [hg]; exact (below_size (by repeat (first|(with_reducible first|exact HB.out|apply lA|apply lN|apply lD|refine lS ?_ GE459.out)|exact HB.out))) : w.heap.size ≤ gb460)); replace GE460 := aM ((by rw [hg]; exact (below_size (by repeat (first|(with_reducible first|exact HB.out|apply lA|apply lN|apply lD|refine lS ?_ GE459.out)|exact HB.out))) : w.heap.size ≤ gb460)); replace HB := aM (below_step (by repeat (first|(with_reducible first|exact HB.out|apply lA|apply lN|apply lD|refine lS ?_ GE459.out)|exact HB.out)) hb); replace NB459_460 := aM ((by rw [hg]; exact Nat.ne_of_lt (blk_lt (g := gb459) (o := .cells #[.int .i64 a0_0, .int .i64 a0_1, .int .i64 a0_2, .int .i64 a0_3, .int .i64 a0_4, .int .i64 a0_5, .slice A0_6 l0_6.length c0_6, .int .i64 a0_7] 45 (0, 0)) (by (with_reducible repeat (first|refine bN ?_ _|refine bD ?_|refine bA ?_ _)); exact BK459.out)) : gb459 ≠ gb460)); replace NB460_459 := aM ((by rw [hg]; exact Nat.ne_of_gt (blk_lt (g := gb459) (o := .cells #[.int .i64 a0_0, .int .i64 a0_1, .int .i64 a0_2, .int .i64 a0_3, .int .i64 a0_4, .int .i64 a0_5, .slice A0_6 l0_6.length c0_6, .int .i64 a0_7] 45 (0, 0)) (by (with_reducible repeat (first|refine bN ?_ _|refine bD ?_|refine bA ?_ _)); exact BK459.out)) : gb460 ≠ gb459)); replace BK459 := aM (blk_below (by (with_reducible repeat (first|refine bN ?_ _|refine bD ?_|refine bA ?_ _)); exact BK459.out) hb); clear hb hbox hg; have hnb23 := NB459_460.out; have hnc23 := NB460_459.out; obtain ⟨hcz24_0, hcz24_1, hcz24_2, hcz24_3, hcz24_4, hcz24_5, hcz24_6, hcz24_7, hfz24_0, hfz24_1, hfz24_2, hfz24_3, hfz24_4, hfz24_5, hfz24_6, hfz24_7⟩ := bx8z BK459.out; obtain ⟨hcz25_0, hcz25_1, hcz25_2, hcz25_3, hcz25_4, hcz25_5, hcz25_6, hcz25_7, hfz25_0, hfz25_1, hfz25_2, hfz25_3, hfz25_4, hfz25_5, hfz25_6, hfz25_7⟩ := bx8z BK460.out))
       go_ret
       exact ⟨by first|rfl|(simp [errW_none, errW_some] <;> rfl)|(simp [*, errW_none, errW_some] <;> rfl), by repeat (first|(with_reducible first|exact HB.out|apply lA|apply lN|apply lD|refine lS ?_ GE459.out|refine lS ?_ GE460.out)|exact HB.out)⟩
     ·rw [if_neg c7] at H
      have c7b0 : (a0_4 == a1_4) = false := beq_eq_false_iff_ne.mpr c7
      have c7b1 : (a0_4 != a1_4) = true := bne_iff_ne.mpr c7
      obtain rfl := Option.some.inj H
      go_enter Tryd.func16, Tryd.ntmps16
      go_wp2_with (first|((with_reducible refine gate_dst (N := 2) rfl ?_); refine box_event ?hg (N := 2) ?hd (cs := #[.int .i64 a0_0, .int .i64 a0_1, .int .i64 a0_2, .int .i64 a0_3, .int .i64 a0_4, .int .i64 a0_5, .slice A0_6 l0_6.length c0_6, .int .i64 a0_7]) (t := 45) ?hr ?_; (case hd => rfl); (case hg => rfl); (case hr => first|(go_simp; done)|(go_simp; rfl)); intro gb459 hg w26 hbox hb; have hB_ := (by repeat (first|(with_reducible first|exact HB.out|apply lA|apply lN|apply lD)|exact HB.out) : Below w.heap.size w _); replace HB := aM (below_step hB_ hb); replace BK459 := aM (hbox); replace GW459 := aM ((bsz hg hB_)); replace GE459 := aM ((bsz hg hB_)); clear hb hbox hg hB_)|((with_reducible refine gate_dst (N := 3) rfl ?_); refine box_event ?hg (N := 3) ?hd (cs := #[.int .i64 a1_0, .int .i64 a1_1, .int .i64 a1_2, .int .i64 a1_3, .int .i64 a1_4, .int .i64 a1_5, .slice A1_6 l1_6.length c1_6, .int .i64 a1_7]) (t := 45) ?hr ?_; (case hd => rfl); (case hg => rfl); (case hr => first|(go_simp; done)|(go_simp; rfl)); intro gb460 hg w27 hbox hb; replace BK460 := aM (hbox); replace GW460 := aM ((by rw [hg]; exact (below_size (by repeat (first|(with_reducible first|exact HB.out|apply lA|apply lN|apply lD|refine lS ?_ GE459.out)|exact HB.out))) : w.heap.size ≤ gb460)); replace GE460 := aM ((by rw [hg]; exact (below_size (by repeat (first|(with_reducible first|exact HB.out|apply lA|apply lN|apply lD|refine lS ?_ GE459.out)|exact HB.out))) : w.heap.size ≤ gb460)); replace HB := aM (below_step (by repeat (first|(with_reducible first|exact HB.out|apply lA|apply lN|apply lD|refine lS ?_ GE459.out)|exact HB.out)) hb); replace NB459_460 := aM ((by rw [hg]; exact Nat.ne_of_lt (blk_lt (g := gb459) (o := .cells #[.int .i64 a0_0, .int .i64 a0_1, .int .i64 a0_2, .int .i64 a0_3, .int .i64 a0_4, .int .i64 a0_5, .slice A0_6 l0_6.length c0_6, .int .i64 a0_7] 45 (0, 0)) (by (with_reducible repeat (first|refine bN ?_ _|refine bD ?_|refine bA ?_ _)); exact BK459.out)) : gb459 ≠ gb460)); replace NB460_459 := aM ((by rw [hg]; exact Nat.ne_of_gt (blk_lt (g := gb459) (o := .cells #[.int .i64 a0_0, .int .i64 a0_1, .int .i64 a0_2, .int .i64 a0_3, .int .i64 a0_4, .int .i64 a0_5, .slice A0_6 l0_6.length c0_6, .int .i64 a0_7] 45 (0, 0)) (by (with_reducible repeat (first|refine bN ?_ _|refine bD ?_|refine bA ?_ _)); exact BK459.out)) : gb460 ≠ gb459)); replace BK459 := aM (blk_below (by (with_reducible repeat (first|refine bN ?_ _|refine bD ?_|refine bA ?_ _)); exact BK459.out) hb); clear hb hbox hg; have hnb28 := NB459_460.out; have hnc28 := NB460_459.out; obtain ⟨hcz29_0, hcz29_1, hcz29_2, hcz29_3, hcz29_4, hcz29_5, hcz29_6, hcz29_7, hfz29_0, hfz29_1, hfz29_2, hfz29_3, hfz29_4, hfz29_5, hfz29_6, hfz29_7⟩ := bx8z BK459.out; obtain ⟨hcz30_0, hcz30_1, hcz30_2, hcz30_3, hcz30_4, hcz30_5, hcz30_6, hcz30_7, hfz30_0, hfz30_1, hfz30_2, hfz30_3, hfz30_4, hfz30_5, hfz30_6, hfz30_7⟩ := bx8z BK460.out))
      go_ret
      exact ⟨by first|rfl|(simp [errW_none, errW_some] <;> rfl)|(simp [*, errW_none, errW_some] <;> rfl), by repeat (first|(with_reducible first|exact HB.out|apply lA|apply lN|apply lD|refine lS ?_ GE459.out|refine lS ?_ GE460.out)|exact HB.out)⟩
    ·rw [if_neg c6] at H
     have c6b0 : (a0_3 == a1_3) = false := beq_eq_false_iff_ne.mpr c6
     have c6b1 : (a0_3 != a1_3) = true := bne_iff_ne.mpr c6
     obtain rfl := Option.some.inj H
     go_enter Tryd.func16, Tryd.ntmps16
     go_wp2_with (first|((with_reducible refine gate_dst (N := 2) rfl ?_); refine box_event ?hg (N := 2) ?hd (cs := #[.int .i64 a0_0, .int .i64 a0_1, .int .i64 a0_2, .int .i64 a0_3, .int .i64 a0_4, .int .i64 a0_5, .slice A0_6 l0_6.length c0_6, .int .i64 a0_7]) (t := 45) ?hr ?_; (case hd => rfl); (case hg => rfl); (case hr => first|(go_simp; done)|(go_simp; rfl)); intro gb459 hg w31 hbox hb; have hB_ := (by repeat (first|(with_reducible first|exact HB.out|apply lA|apply lN|apply lD)|exact HB.out) : Below w.heap.size w _); replace HB := aM (below_step hB_ hb); replace BK459 := aM (hbox); replace GW459 := aM ((bsz hg hB_)); replace GE459 := aM ((bsz hg hB_)); clear hb hbox hg hB_)|((with_reducible refine gate_dst (N := 3) rfl ?_); refine box_event ?hg (N := 3) ?hd (cs := #[.int .i64 a1_0, .int .i64 a1_1, .int .i64 a1_2, .int .i64 a1_3, .int .i64 a1_4, .int .i64 a1_5, .slice A1_6 l1_6.length c1_6, .int .i64 a1_7]) (t := 45) ?hr ?_; (case hd => rfl); (case hg => rfl); (case hr => first|(go_simp; done)|(go_simp; rfl)); intro gb460 hg w32 hbox hb; replace BK460 := aM (hbox); replace GW460 := aM ((by rw [hg]; exact (below_size (by repeat (first|(with_reducible first|exact HB.out|apply lA|apply lN|apply lD|refine lS ?_ GE459.out)|exact HB.out))) : w.heap.size ≤ gb460)); replace GE460 := aM ((by rw [hg]; exact (below_size (by repeat (first|(with_reducible first|exact HB.out|apply lA|apply lN|apply lD|refine lS ?_ GE459.out)|exact HB.out))) : w.heap.size ≤ gb460)); replace HB := aM (below_step (by repeat (first|(with_reducible first|exact HB.out|apply lA|apply lN|apply lD|refine lS ?_ GE459.out)|exact HB.out)) hb); replace NB459_460 := aM ((by rw [hg]; exact Nat.ne_of_lt (blk_lt (g := gb459) (o := .cells #[.int .i64 a0_0, .int .i64 a0_1, .int .i64 a0_2, .int .i64 a0_3, .int .i64 a0_4, .int .i64 a0_5, .slice A0_6 l0_6.length c0_6, .int .i64 a0_7] 45 (0, 0)) (by (with_reducible repeat (first|refine bN ?_ _|refine bD ?_|refine bA ?_ _)); exact BK459.out)) : gb459 ≠ gb460)); replace NB460_459 := aM ((by rw [hg]; exact Nat.ne_of_gt (blk_lt (g := gb459) (o := .cells #[.int .i64 a0_0, .int .i64 a0_1, .int .i64 a0_2, .int .i64 a0_3, .int .i64 a0_4, .int .i64 a0_5, .slice A0_6 l0_6.length c0_6, .int .i64 a0_7] 45 (0, 0)) (by (with_reducible repeat (first|refine bN ?_ _|refine bD ?_|refine bA ?_ _)); exact BK459.out)) : gb460 ≠ gb459)); replace BK459 := aM (blk_below (by (with_reducible repeat (first|refine bN ?_ _|refine bD ?_|refine bA ?_ _)); exact BK459.out) hb); clear hb hbox hg; have hnb33 := NB459_460.out; have hnc33 := NB460_459.out; obtain ⟨hcz34_0, hcz34_1, hcz34_2, hcz34_3, hcz34_4, hcz34_5, hcz34_6, hcz34_7, hfz34_0, hfz34_1, hfz34_2, hfz34_3, hfz34_4, hfz34_5, hfz34_6, hfz34_7⟩ := bx8z BK459.out; obtain ⟨hcz35_0, hcz35_1, hcz35_2, hcz35_3, hcz35_4, hcz35_5, hcz35_6, hcz35_7, hfz35_0, hfz35_1, hfz35_2, hfz35_3, hfz35_4, hfz35_5, hfz35_6, hfz35_7⟩ := bx8z BK460.out))
     go_ret
     exact ⟨by first|rfl|(simp [errW_none, errW_some] <;> rfl)|(simp [*, errW_none, errW_some] <;> rfl), by repeat (first|(with_reducible first|exact HB.out|apply lA|apply lN|apply lD|refine lS ?_ GE459.out|refine lS ?_ GE460.out)|exact HB.out)⟩
   ·rw [if_neg c5] at H
    have c5b0 : (a0_2 == a1_2) = false := beq_eq_false_iff_ne.mpr c5
    have c5b1 : (a0_2 != a1_2) = true := bne_iff_ne.mpr c5
    obtain rfl := Option.some.inj H
    go_enter Tryd.func16, Tryd.ntmps16
    go_wp2_with (first|((with_reducible refine gate_dst (N := 2) rfl ?_); refine box_event ?hg (N := 2) ?hd (cs := #[.int .i64 a0_0, .int .i64 a0_1, .int .i64 a0_2, .int .i64 a0_3, .int .i64 a0_4, .int .i64 a0_5, .slice A0_6 l0_6.length c0_6, .int .i64 a0_7]) (t := 45) ?hr ?_; (case hd => rfl); (case hg => rfl); (case hr => first|(go_simp; done)|(go_simp; rfl)); intro gb459 hg w36 hbox hb; have hB_ := (by repeat (first|(with_reducible first|exact HB.out|apply lA|apply lN|apply lD)|exact HB.out) : Below w.heap.size w _); replace HB := aM (below_step hB_ hb); replace BK459 := aM (hbox); replace GW459 := aM ((bsz hg hB_)); replace GE459 := aM ((bsz hg hB_)); clear hb hbox hg hB_)|((with_reducible refine gate_dst (N := 3) rfl ?_); refine box_event ?hg (N := 3) ?hd (cs := #[.int .i64 a1_0, .int .i64 a1_1, .int .i64 a1_2, .int .i64 a1_3, .int .i64 a1_4, .int .i64 a1_5, .slice A1_6 l1_6.length c1_6, .int .i64 a1_7]) (t := 45) ?hr ?_; (case hd => rfl); (case hg => rfl); (case hr => first|(go_simp; done)|(go_simp; rfl)); intro gb460 hg w37 hbox hb; replace BK460 := aM (hbox); replace GW460 := aM ((by rw [hg]; exact (below_size (by repeat (first|(with_reducible first|exact HB.out|apply lA|apply lN|apply lD|refine lS ?_ GE459.out)|exact HB.out))) : w.heap.size ≤ gb460)); replace GE460 := aM ((by rw [hg]; exact (below_size (by repeat (first|(with_reducible first|exact HB.out|apply lA|apply lN|apply lD|refine lS ?_ GE459.out)|exact HB.out))) : w.heap.size ≤ gb460)); replace HB := aM (below_step (by repeat (first|(with_reducible first|exact HB.out|apply lA|apply lN|apply lD|refine lS ?_ GE459.out)|exact HB.out)) hb); replace NB459_460 := aM ((by rw [hg]; exact Nat.ne_of_lt (blk_lt (g := gb459) (o := .cells #[.int .i64 a0_0, .int .i64 a0_1, .int .i64 a0_2, .int .i64 a0_3, .int .i64 a0_4, .int .i64 a0_5, .slice A0_6 l0_6.length c0_6, .int .i64 a0_7] 45 (0, 0)) (by (with_reducible repeat (first|refine bN ?_ _|refine bD ?_|refine bA ?_ _)); exact BK459.out)) : gb459 ≠ gb460)); replace NB460_459 := aM ((by rw [hg]; exact Nat.ne_of_gt (blk_lt (g := gb459) (o := .cells #[.int .i64 a0_0, .int .i64 a0_1, .int .i64 a0_2, .int .i64 a0_3, .int .i64 a0_4, .int .i64 a0_5, .slice A0_6 l0_6.length c0_6, .int .i64 a0_7] 45 (0, 0)) (by (with_reducible repeat (first|refine bN ?_ _|refine bD ?_|refine bA ?_ _)); exact BK459.out)) : gb460 ≠ gb459)); replace BK459 := aM (blk_below (by (with_reducible repeat (first|refine bN ?_ _|refine bD ?_|refine bA ?_ _)); exact BK459.out) hb); clear hb hbox hg; have hnb38 := NB459_460.out; have hnc38 := NB460_459.out; obtain ⟨hcz39_0, hcz39_1, hcz39_2, hcz39_3, hcz39_4, hcz39_5, hcz39_6, hcz39_7, hfz39_0, hfz39_1, hfz39_2, hfz39_3, hfz39_4, hfz39_5, hfz39_6, hfz39_7⟩ := bx8z BK459.out; obtain ⟨hcz40_0, hcz40_1, hcz40_2, hcz40_3, hcz40_4, hcz40_5, hcz40_6, hcz40_7, hfz40_0, hfz40_1, hfz40_2, hfz40_3, hfz40_4, hfz40_5, hfz40_6, hfz40_7⟩ := bx8z BK460.out))
    go_ret
    exact ⟨by first|rfl|(simp [errW_none, errW_some] <;> rfl)|(simp [*, errW_none, errW_some] <;> rfl), by repeat (first|(with_reducible first|exact HB.out|apply lA|apply lN|apply lD|refine lS ?_ GE459.out|refine lS ?_ GE460.out)|exact HB.out)⟩
  ·rw [if_neg c4] at H
   have c4b0 : (a0_1 == a1_1) = false := beq_eq_false_iff_ne.mpr c4
   have c4b1 : (a0_1 != a1_1) = true := bne_iff_ne.mpr c4
   obtain rfl := Option.some.inj H
   go_enter Tryd.func16, Tryd.ntmps16
   go_wp2_with (first|((with_reducible refine gate_dst (N := 2) rfl ?_); refine box_event ?hg (N := 2) ?hd (cs := #[.int .i64 a0_0, .int .i64 a0_1, .int .i64 a0_2, .int .i64 a0_3, .int .i64 a0_4, .int .i64 a0_5, .slice A0_6 l0_6.length c0_6, .int .i64 a0_7]) (t := 45) ?hr ?_; (case hd => rfl); (case hg => rfl); (case hr => first|(go_simp; done)|(go_simp; rfl)); intro gb459 hg w41 hbox hb; have hB_ := (by repeat (first|(with_reducible first|exact HB.out|apply lA|apply lN|apply lD)|exact HB.out) : Below w.heap.size w _); replace HB := aM (below_step hB_ hb); replace BK459 := aM (hbox); replace GW459 := aM ((bsz hg hB_)); replace GE459 := aM ((bsz hg hB_)); clear hb hbox hg hB_)|((with_reducible refine gate_dst (N := 3) rfl ?_); refine box_event ?hg (N := 3) ?hd (cs := #[.int .i64 a1_0, .int .i64 a1_1, .int .i64 a1_2, .int .i64 a1_3, .int .i64 a1_4, .int .i64 a1_5, .slice A1_6 l1_6.length c1_6, .int .i64 a1_7]) (t := 45) ?hr ?_; (case hd => rfl); (case hg => rfl); (case hr => first|(go_simp; done)|(go_simp; rfl)); intro gb460 hg w42 hbox hb; replace BK460 := aM (hbox); replace GW460 := aM ((by rw [hg]; exact (below_size (by repeat (first|(with_reducible first|exact HB.out|apply lA|apply lN|apply lD|refine lS ?_ GE459.out)|exact HB.out))) : w.heap.size ≤ gb460)); replace GE460 := aM ((by rw [hg]; exact (below_size (by repeat (first|(with_reducible first|exact HB.out|apply lA|apply lN|apply lD|refine lS ?_ GE459.out)|exact HB.out))) : w.heap.size ≤ gb460)); replace HB := aM (below_step (by repeat (first|(with_reducible first|exact HB.out|apply lA|apply lN|apply lD|refine lS ?_ GE459.out)|exact HB.out)) hb); replace NB459_460 := aM ((by rw [hg]; exact Nat.ne_of_lt (blk_lt (g := gb459) (o := .cells #[.int .i64 a0_0, .int .i64 a0_1, .int .i64 a0_2, .int .i64 a0_3, .int .i64 a0_4, .int .i64 a0_5, .slice A0_6 l0_6.length c0_6, .int .i64 a0_7] 45 (0, 0)) (by (with_reducible repeat (first|refine bN ?_ _|refine bD ?_|refine bA ?_ _)); exact BK459.out)) : gb459 ≠ gb460)); replace NB460_459 := aM ((by rw [hg]; exact Nat.ne_of_gt (blk_lt (g := gb459) (o := .cells #[.int .i64 a0_0, .int .i64 a0_1, .int .i64 a0_2, .int .i64 a0_3, .int .i64 a0_4, .int .i64 a0_5, .slice A0_6 l0_6.length c0_6, .int .i64 a0_7] 45 (0, 0)) (by (with_reducible repeat (first|refine bN ?_ _|refine bD ?_|refine bA ?_ _)); exact BK459.out)) : gb460 ≠ gb459)); replace BK459 := aM (blk_below (by (with_reducible repeat (first|refine bN ?_ _|refine bD ?_|refine bA ?_ _)); exact BK459.out) hb); clear hb hbox hg; have hnb43 := NB459_460.out; have hnc43 := NB460_459.out; obtain ⟨hcz44_0, hcz44_1, hcz44_2, hcz44_3, hcz44_4, hcz44_5, hcz44_6, hcz44_7, hfz44_0, hfz44_1, hfz44_2, hfz44_3, hfz44_4, hfz44_5, hfz44_6, hfz44_7⟩ := bx8z BK459.out; obtain ⟨hcz45_0, hcz45_1, hcz45_2, hcz45_3, hcz45_4, hcz45_5, hcz45_6, hcz45_7, hfz45_0, hfz45_1, hfz45_2, hfz45_3, hfz45_4, hfz45_5, hfz45_6, hfz45_7⟩ := bx8z BK460.out))
   go_ret
   exact ⟨by first|rfl|(simp [errW_none, errW_some] <;> rfl)|(simp [*, errW_none, errW_some] <;> rfl), by repeat (first|(with_reducible first|exact HB.out|apply lA|apply lN|apply lD|refine lS ?_ GE459.out|refine lS ?_ GE460.out)|exact HB.out)⟩
 ·rw [if_neg c3] at H
  have c3b0 : (a0_0 == a1_0) = false := beq_eq_false_iff_ne.mpr c3
  have c3b1 : (a0_0 != a1_0) = true := bne_iff_ne.mpr c3
  obtain rfl := Option.some.inj H
  go_enter Tryd.func16, Tryd.ntmps16
  go_wp2_with (first|((with_reducible refine gate_dst (N := 2) rfl ?_); refine box_event ?hg (N := 2) ?hd (cs := #[.int .i64 a0_0, .int .i64 a0_1, .int .i64 a0_2, .int .i64 a0_3, .int .i64 a0_4, .int .i64 a0_5, .slice A0_6 l0_6.length c0_6, .int .i64 a0_7]) (t := 45) ?hr ?_; (case hd => rfl); (case hg => rfl); (case hr => first|(go_simp; done)|(go_simp; rfl)); intro gb459 hg w46 hbox hb; have hB_ := (by repeat (first|(with_reducible first|exact HB.out|apply lA|apply lN|apply lD)|exact HB.out) : Below w.heap.size w _); replace HB := aM (below_step hB_ hb); replace BK459 := aM (hbox); replace GW459 := aM ((bsz hg hB_)); replace GE459 := aM ((bsz hg hB_)); clear hb hbox hg hB_)|((with_reducible refine gate_dst (N := 3) rfl ?_); refine box_event ?hg (N := 3) ?hd (cs := #[.int .i64 a1_0, .int .i64 a1_1, .int .i64 a1_2, .int .i64 a1_3, .int .i64 a1_4, .int .i64 a1_5, .slice A1_6 l1_6.length c1_6, .int .i64 a1_7]) (t := 45) ?hr ?_; (case hd => rfl); (case hg => rfl); (case hr => first|(go_simp; done)|(go_simp; rfl)); intro gb460 hg w47 hbox hb; replace BK460 := aM (hbox); replace GW460 := aM ((by rw [hg]; exact (below_size (by repeat (first|(with_reducible first|exact HB.out|apply lA|apply lN|apply lD|refine lS ?_ GE459.out)|exact HB.out))) : w.heap.size ≤ gb460)); replace GE460 := aM ((by rw [hg]; exact (below_size (by repeat (first|(with_reducible first|exact HB.out|apply lA|apply lN|apply lD|refine lS ?_ GE459.out)|exact HB.out))) : w.heap.size ≤ gb460)); replace HB := aM (below_step (by repeat (first|(with_reducible first|exact HB.out|apply lA|apply lN|apply lD|refine lS ?_ GE459.out)|exact HB.out)) hb); replace NB459_460 := aM ((by rw [hg]; exact Nat.ne_of_lt (blk_lt (g := gb459) (o := .cells #[.int .i64 a0_0, .int .i64 a0_1, .int .i64 a0_2, .int .i64 a0_3, .int .i64 a0_4, .int .i64 a0_5, .slice A0_6 l0_6.length c0_6, .int .i64 a0_7] 45 (0, 0)) (by (with_reducible repeat (first|refine bN ?_ _|refine bD ?_|refine bA ?_ _)); exact BK459.out)) : gb459 ≠ gb460)); replace NB460_459 := aM ((by rw [hg]; exact Nat.ne_of_gt (blk_lt (g := gb459) (o := .cells #[.int .i64 a0_0, .int .i64 a0_1, .int .i64 a0_2, .int .i64 a0_3, .int .i64 a0_4, .int .i64 a0_5, .slice A0_6 l0_6.length c0_6, .int .i64 a0_7] 45 (0, 0)) (by (with_reducible repeat (first|refine bN ?_ _|refine bD ?_|refine bA ?_ _)); exact BK459.out)) : gb460 ≠ gb459)); replace BK459 := aM (blk_below (by (with_reducible repeat (first|refine bN ?_ _|refine bD ?_|refine bA ?_ _)); exact BK459.out) hb); clear hb hbox hg; have hnb48 := NB459_460.out; have hnc48 := NB460_459.out; obtain ⟨hcz49_0, hcz49_1, hcz49_2, hcz49_3, hcz49_4, hcz49_5, hcz49_6, hcz49_7, hfz49_0, hfz49_1, hfz49_2, hfz49_3, hfz49_4, hfz49_5, hfz49_6, hfz49_7⟩ := bx8z BK459.out; obtain ⟨hcz50_0, hcz50_1, hcz50_2, hcz50_3, hcz50_4, hcz50_5, hcz50_6, hcz50_7, hfz50_0, hfz50_1, hfz50_2, hfz50_3, hfz50_4, hfz50_5, hfz50_6, hfz50_7⟩ := bx8z BK460.out))
  go_ret
  exact ⟨by first|rfl|(simp [errW_none, errW_some] <;> rfl)|(simp [*, errW_none, errW_some] <;> rfl), by repeat (first|(with_reducible first|exact HB.out|apply lA|apply lN|apply lD|refine lS ?_ GE459.out|refine lS ?_ GE460.out)|exact HB.out)⟩
mutual
def emenderlaw26_FindPuts.j0 : Nat → List (S48) → List (S28) → ByteArray → Bool → Option (Bool)
|0, _, _, _, _ => none
|k + 1, x0, x1, x2, x23 => if x23 = true then ((emenderlaw26_awake.f).bind fun t462 => (some t462)) else ((find_Steps.f k x0 x1 x2).bind fun bt463 => ((emenderref26_Steps.f k x0 x1 x2).bind fun bt467 => ((find_Replace.f k x0 x1 x2).bind fun bt471 => ((emenderref26_Replace.f k x0 x1 x2).bind fun bt475 => (if (bt463.1.length : Int) = (bt467.1.length : Int) then (if bt463.2 = bt467.2 then ((emenderlaw26_alike.f k bt471.1 bt475.1).bind fun t479 => (if t479 = true then (emenderlaw26_FindPuts.j1 k bt463.1 bt467.1 (bt471.2 != bt475.2)) else (emenderlaw26_FindPuts.j1 k bt463.1 bt467.1 true))) else (emenderlaw26_FindPuts.j1 k bt463.1 bt467.1 true)) else (emenderlaw26_FindPuts.j1 k bt463.1 bt467.1 true))))))
def emenderlaw26_FindPuts.j1 : Nat → List (S45) → List (S45) → Bool → Option (Bool)
|0, _, _, _ => none
|k + 1, x7, x9, x73 => if x73 = true then (none) else (emenderlaw26_FindPuts.l0 k x7 x9 0)
def emenderlaw26_FindPuts.l0 : Nat → List (S45) → List (S45) → Int → Option (Bool)
|0, _, _, _ => none
|k + 1, x7, x9, x15 => if x15 < (x7.length : Int) then (if 0 ≤ x15 then (if x15 < (x9.length : Int) then ((emenderlaw26_twin.f k ((rd_T45 x7 x15).f0) ((rd_T45 x7 x15).f1) ((rd_T45 x7 x15).f2) ((rd_T45 x7 x15).f3) ((rd_T45 x7 x15).f4) ((rd_T45 x7 x15).f5) ((rd_T45 x7 x15).f6) ((rd_T45 x7 x15).f7) ((rd_T45 x9 x15).f0) ((rd_T45 x9 x15).f1) ((rd_T45 x9 x15).f2) ((rd_T45 x9 x15).f3) ((rd_T45 x9 x15).f4) ((rd_T45 x9 x15).f5) ((rd_T45 x9 x15).f6) ((rd_T45 x9 x15).f7)).bind fun t482 => (if t482 = true then (emenderlaw26_FindPuts.l0 k x7 x9 (wrap64 (x15 + 1))) else (none))) else (none)) else (none)) else ((emenderlaw26_awake.f).bind fun t483 => (some t483))
end
def emenderlaw26_FindPuts.f (k : Nat) (l0 : List (S48)) (l1 : List (S28)) (a2 : ByteArray) : Option (Bool) := if (l0.length : Int) > 300 then (emenderlaw26_FindPuts.j0 k l0 l1 a2 true) else (emenderlaw26_FindPuts.j0 k l0 l1 a2 (decide ((l1.length : Int) > 100)))
def emenderlaw26_FindPuts.T12 : Bool × List (List Nat × List Nat) := (true, [([], []), ([], []), ([0, 1], [0, 1]), ([2], [2]), ([], []), ([], []), ([4, 5], [4, 5]), ([6], [6]), ([3, 7], [3, 7]), ([8], [8])])
def emenderlaw26_FindPuts.B12 : List Nat := [0, 0, 3, 7, 0, 0, 48, 112, 255, 511]
theorem emenderlaw26_FindPuts.tab12 : rtab .any (opsOf Tryd.f5 12) = emenderlaw26_FindPuts.T12 := by kernel_rfl
theorem emenderlaw26_FindPuts.bits12 : waitsOk emenderlaw26_FindPuts.T12.2 emenderlaw26_FindPuts.B12 = true := by kernel_rfl
set_option maxHeartbeats 8000000 in
set_option maxRecDepth 100000 in
theorem emenderlaw26_FindPuts.calls (k : Nat) (A0 : Option Addr) (c0 : Nat) (l0 : List (S48)) (A1 : Option Addr) (c1 : Nat) (l1 : List (S28)) (a2 : ByteArray) (r : Bool) (w : World) (HT_ : Aside0 (Lib.Utf8Tabs 0 1 w)) (hr0 : Kd.C k48 w A0 l0.length l0) (hc0 : l0.length ≤ c0) (hr1 : Kd.C k28 w A1 l1.length l1) (hc1 : l1.length ≤ c1) (h : emenderlaw26_FindPuts.f k l0 l1 a2 = some r) :
  Calls Tryd.prog 5 #[.slice A0 l0.length c0, .slice A1 l1.length c1, .string a2] w fun e w' => e = .returned (.bool r) ∧ Below w.heap.size w w' := by
 have HU8_ := HT_
 have hu45 := Tryd.underlying45
 have HR0 := aM hr0
 have HC0 := aM hc0
 clear hr0 hc0
 have HR1 := aM hr1
 have HC1 := aM hc1
 clear hr1 hc1
 have HB := aM (Below.refl w.heap.size w)
 have H : (if (l0.length : Int) > 300 then (emenderlaw26_FindPuts.j0 k l0 l1 a2 true) else (emenderlaw26_FindPuts.j0 k l0 l1 a2 (decide ((l1.length : Int) > 100)))) = some r := h
 clear h
 have HC4 := aM H
 clear H
 go_enter Tryd.func5, Tryd.ntmps5
 go_upto_region 1 with (fail)
 go_cut [23] (fun v23 wc => ∃ (kq : Nat) (x23_3 : Bool), v23 = .bool x23_3 ∧ Aside0 (emenderlaw26_FindPuts.j0 kq l0 l1 a2 x23_3 = some r) ∧ Aside0 (kq ≤ k) ∧ Aside0 (Below w.heap.size w wc))
 case first =>
  have H := HC4.out
  clear HC4
  by_cases c5 : (l0.length : Int) > 300
  ·rw [if_pos c5] at H
   have c5b0 : decide (300 < (l0.length : Int)) = true := decide_eq_true c5
   have c5b1 : decide (300 < l0.length) = true := decide_eq_true (by omega)
   clear c5
   (first|rw [c5b0]|(simp only [i64_w, i32_w]; rw [c5b0])|skip)
   have H' := aM H
   clear H
   go_wp2
   go_meet
   case rel => exact ⟨_, (true), (by first|rfl|(simp; done)|(simp [*]; done)), H', ⟨by first|omega|exact Nat.le_refl _⟩, ⟨by repeat (first|(with_reducible first|exact HB.out|apply lA|apply lN|apply lD)|exact HB.out)⟩⟩
  ·rw [if_neg c5] at H
   have c5b0 : decide (300 < (l0.length : Int)) = false := decide_eq_false c5
   have c5b1 : decide (300 < l0.length) = false := decide_eq_false (by omega)
   clear c5
   (first|rw [c5b0]|(simp only [i64_w, i32_w]; rw [c5b0])|skip)
   have H' := aM H
   clear H
   go_wp2
   go_meet
   case rel => exact ⟨_, (decide ((l1.length : Int) > 100)), (by first|rfl|(simp; done)|(simp [*]; done)), H', ⟨by first|omega|exact Nat.le_refl _⟩, ⟨by repeat (first|(with_reducible first|exact HB.out|apply lA|apply lN|apply lD)|exact HB.out)⟩⟩
 case rest =>
  clear HC4
  obtain ⟨kq, x23_3, rfl, HA, HJ3, HB⟩ := hcut
  cases kq with
 |zero => exact absurd HA.out (by simp [emenderlaw26_FindPuts.j0])
 |succ kj3 =>
   have H := HA.out
   clear HA
   simp only [emenderlaw26_FindPuts.j0] at H
   by_cases c6 : x23_3 = true
   ·subst c6
    have H1 : ((emenderlaw26_awake.f).bind fun t462 => (some t462)) = some r := by rw [if_pos rfl] at H; exact H
    clear H
    have H := H1
    clear H1
    replace H := Option.bind_eq_some_iff.mp H
    obtain ⟨t462, A70, H⟩ := H
    replace H : (some t462) = some r := H
    have A7 := aM A70
    clear A70
    obtain rfl := Option.some.inj H
    go_wp2_with (first|((with_reducible refine gate_callee (f := 7) rfl ?_); refine goesL_ (some 24) rfl rfl Tryd.func7 (by kernel_rfl) rfl #[] rfl (by (try simp only [List.map_toArray, List.map_cons, List.map_nil]); first|done|rfl|(simp only [List.length_drop, List.length_take]; rfl)) ?_; (with_reducible refine (emenderlaw26_awake.calls  t462 _ A7.out).mono ?_); rintro e w8 ⟨rfl, hb⟩; refine ⟨_, rfl, ?_⟩; replace HB := aM (below_step (by repeat (first|(with_reducible first|exact HB.out|apply lA|apply lN|apply lD)|exact HB.out)) hb); (try clear hb); (try clear hb2); (try clear hk); (try clear hi)))
    go_ret
    exact ⟨by first|rfl|(simp [errW_none, errW_some] <;> rfl)|(simp [*, errW_none, errW_some] <;> rfl), by repeat (first|(with_reducible first|exact HB.out|apply lA|apply lN|apply lD)|exact HB.out)⟩
   ·replace c6 := Bool.eq_false_iff.mpr c6
    subst c6
    have H1 : ((find_Steps.f kj3 l0 l1 a2).bind fun bt463 => ((emenderref26_Steps.f kj3 l0 l1 a2).bind fun bt467 => ((find_Replace.f kj3 l0 l1 a2).bind fun bt471 => ((emenderref26_Replace.f kj3 l0 l1 a2).bind fun bt475 => (if (bt463.1.length : Int) = (bt467.1.length : Int) then (if bt463.2 = bt467.2 then ((emenderlaw26_alike.f kj3 bt471.1 bt475.1).bind fun t479 => (if t479 = true then (emenderlaw26_FindPuts.j1 kj3 bt463.1 bt467.1 (bt471.2 != bt475.2)) else (emenderlaw26_FindPuts.j1 kj3 bt463.1 bt467.1 true))) else (emenderlaw26_FindPuts.j1 kj3 bt463.1 bt467.1 true)) else (emenderlaw26_FindPuts.j1 kj3 bt463.1 bt467.1 true)))))) = some r := by rw [if_neg (show ¬ (false = true) by decide)] at H; exact H
    clear H
    have H := H1
    clear H1
    replace H := Option.bind_eq_some_iff.mp H
    obtain ⟨⟨t463, t464⟩, A90, H⟩ := H
    replace H : ((emenderref26_Steps.f kj3 l0 l1 a2).bind fun bt467 => ((find_Replace.f kj3 l0 l1 a2).bind fun bt471 => ((emenderref26_Replace.f kj3 l0 l1 a2).bind fun bt475 => (if (t463.length : Int) = (bt467.1.length : Int) then (if t464 = bt467.2 then ((emenderlaw26_alike.f kj3 bt471.1 bt475.1).bind fun t479 => (if t479 = true then (emenderlaw26_FindPuts.j1 kj3 t463 bt467.1 (bt471.2 != bt475.2)) else (emenderlaw26_FindPuts.j1 kj3 t463 bt467.1 true))) else (emenderlaw26_FindPuts.j1 kj3 t463 bt467.1 true)) else (emenderlaw26_FindPuts.j1 kj3 t463 bt467.1 true))))) = some r := H
    have A9 := aM A90
    clear A90
    replace H := Option.bind_eq_some_iff.mp H
    obtain ⟨⟨t467, t468⟩, A100, H⟩ := H
    replace H : ((find_Replace.f kj3 l0 l1 a2).bind fun bt471 => ((emenderref26_Replace.f kj3 l0 l1 a2).bind fun bt475 => (if (t463.length : Int) = (t467.length : Int) then (if t464 = t468 then ((emenderlaw26_alike.f kj3 bt471.1 bt475.1).bind fun t479 => (if t479 = true then (emenderlaw26_FindPuts.j1 kj3 t463 t467 (bt471.2 != bt475.2)) else (emenderlaw26_FindPuts.j1 kj3 t463 t467 true))) else (emenderlaw26_FindPuts.j1 kj3 t463 t467 true)) else (emenderlaw26_FindPuts.j1 kj3 t463 t467 true)))) = some r := H
    have A10 := aM A100
    clear A100
    replace H := Option.bind_eq_some_iff.mp H
    obtain ⟨⟨t471, t472⟩, A110, H⟩ := H
    replace H : ((emenderref26_Replace.f kj3 l0 l1 a2).bind fun bt475 => (if (t463.length : Int) = (t467.length : Int) then (if t464 = t468 then ((emenderlaw26_alike.f kj3 t471 bt475.1).bind fun t479 => (if t479 = true then (emenderlaw26_FindPuts.j1 kj3 t463 t467 (t472 != bt475.2)) else (emenderlaw26_FindPuts.j1 kj3 t463 t467 true))) else (emenderlaw26_FindPuts.j1 kj3 t463 t467 true)) else (emenderlaw26_FindPuts.j1 kj3 t463 t467 true))) = some r := H
    have A11 := aM A110
    clear A110
    replace H := Option.bind_eq_some_iff.mp H
    obtain ⟨⟨t475, t476⟩, A120, H⟩ := H
    replace H : (if (t463.length : Int) = (t467.length : Int) then (if t464 = t468 then ((emenderlaw26_alike.f kj3 t471 t475).bind fun t479 => (if t479 = true then (emenderlaw26_FindPuts.j1 kj3 t463 t467 (t472 != t476)) else (emenderlaw26_FindPuts.j1 kj3 t463 t467 true))) else (emenderlaw26_FindPuts.j1 kj3 t463 t467 true)) else (emenderlaw26_FindPuts.j1 kj3 t463 t467 true)) = some r := H
    have A12 := aM A120
    clear A120
    have HC13 := aM H
    clear H
    go_upto_region 7 with (first|((with_reducible refine gate_callee (f := 11) rfl ?_); refine goesL_ (some 29) rfl rfl Tryd.func11 (by kernel_rfl) rfl #[.slice A0 l0.length c0, .slice A1 l1.length c1, .string a2] rfl (by (try simp only [List.map_toArray, List.map_cons, List.map_nil]); first|done|rfl|(simp only [List.length_drop, List.length_take]; rfl)) ?_; (with_reducible refine (find_Steps.calls kj3 _ _ l0 _ _ l1 a2 t463 t464 _ ?side1 ?side2 ?side3 ?side4 A9.out).mono ?_); (case side1 => repeat (first|exact (Kd.C_below HR0.out HB.out)|(with_reducible refine Kd.C_alloc ?_ _)|(with_reducible refine Kd.C_drewN ?_ _)|(with_reducible refine Kd.C_drew ?_))); (case side2 => exact HC0.out); (case side3 => repeat (first|exact (Kd.C_below HR1.out HB.out)|(with_reducible refine Kd.C_alloc ?_ _)|(with_reducible refine Kd.C_drewN ?_ _)|(with_reducible refine Kd.C_drew ?_))); (case side4 => exact HC1.out); rintro e w14 ⟨v465, rfl, ho0, hb⟩; refine ⟨_, rfl, ?_⟩; replace HO466 := aM (Kd.S_lower ho0 (below_size (by repeat (first|(with_reducible first|exact HB.out|apply lA|apply lN|apply lD)|exact HB.out)))); replace HB := aM (below_step (by repeat (first|(with_reducible first|exact HB.out|apply lA|apply lN|apply lD)|exact HB.out)) hb); (try clear hb); (try clear hb2); (try clear hk); (try clear hi); (try clear ho0))|((with_reducible refine gate_callee (f := 12) rfl ?_); refine goesL_ (some 36) rfl rfl Tryd.func12 (by kernel_rfl) rfl #[.slice A0 l0.length c0, .slice A1 l1.length c1, .string a2] rfl (by (try simp only [List.map_toArray, List.map_cons, List.map_nil]); first|done|rfl|(simp only [List.length_drop, List.length_take]; rfl)) ?_; (with_reducible refine (emenderref26_Steps.calls kj3 _ _ l0 _ _ l1 a2 t467 t468 _ ?side1 ?side2 ?side3 ?side4 A10.out).mono ?_); (case side1 => repeat (first|exact (Kd.C_below HR0.out HB.out)|(with_reducible refine Kd.C_alloc ?_ _)|(with_reducible refine Kd.C_drewN ?_ _)|(with_reducible refine Kd.C_drew ?_))); (case side2 => exact HC0.out); (case side3 => repeat (first|exact (Kd.C_below HR1.out HB.out)|(with_reducible refine Kd.C_alloc ?_ _)|(with_reducible refine Kd.C_drewN ?_ _)|(with_reducible refine Kd.C_drew ?_))); (case side4 => exact HC1.out); rintro e w15 ⟨v469, rfl, ho0, hb⟩; refine ⟨_, rfl, ?_⟩; replace HO470 := aM (Kd.S_lower (Kd.S_new' ho0 (Kd.S_lt (by (with_reducible repeat (first|apply Kd.S_alloc|apply Kd.S_drewN|apply Kd.S_drew)); exact HO466.out))) (below_size (by repeat (first|(with_reducible first|exact HB.out|apply lA|apply lN|apply lD)|exact HB.out)))); replace HO466 := aM (Kd.S_elder' (by (with_reducible repeat (first|apply Kd.S_alloc|apply Kd.S_drewN|apply Kd.S_drew)); exact HO466.out) (Kd.S_base ho0) hb); replace HB := aM (below_step (by repeat (first|(with_reducible first|exact HB.out|apply lA|apply lN|apply lD)|exact HB.out)) hb); (try clear hb); (try clear hb2); (try clear hk); (try clear hi); (try clear ho0))|((with_reducible refine gate_callee (f := 13) rfl ?_); refine goesL_ (some 43) rfl rfl Tryd.func13 (by kernel_rfl) rfl #[.slice A0 l0.length c0, .slice A1 l1.length c1, .string a2] rfl (by (try simp only [List.map_toArray, List.map_cons, List.map_nil]); first|done|rfl|(simp only [List.length_drop, List.length_take]; rfl)) ?_; (with_reducible refine (find_Replace.calls kj3 _ _ l0 _ _ l1 a2 t471 t472 _ ?side1 ?side2 ?side3 ?side4 A11.out).mono ?_); (case side1 => repeat (first|exact (Kd.C_below HR0.out HB.out)|(with_reducible refine Kd.C_alloc ?_ _)|(with_reducible refine Kd.C_drewN ?_ _)|(with_reducible refine Kd.C_drew ?_))); (case side2 => exact HC0.out); (case side3 => repeat (first|exact (Kd.C_below HR1.out HB.out)|(with_reducible refine Kd.C_alloc ?_ _)|(with_reducible refine Kd.C_drewN ?_ _)|(with_reducible refine Kd.C_drew ?_))); (case side4 => exact HC1.out); rintro e w16 ⟨v473, rfl, ho0, hb⟩; refine ⟨_, rfl, ?_⟩; replace HO466 := aM (Kd.S_elder' (by (with_reducible repeat (first|apply Kd.S_alloc|apply Kd.S_drewN|apply Kd.S_drew)); exact HO466.out) (Kd.R_base ho0) hb); replace HO470 := aM (Kd.S_elder' (by (with_reducible repeat (first|apply Kd.S_alloc|apply Kd.S_drewN|apply Kd.S_drew)); exact HO470.out) (Kd.R_base ho0) hb); replace HO474 := aM (Kd.R_lower ho0 (below_size (by repeat (first|(with_reducible first|exact HB.out|apply lA|apply lN|apply lD)|exact HB.out)))); replace HB := aM (below_step (by repeat (first|(with_reducible first|exact HB.out|apply lA|apply lN|apply lD)|exact HB.out)) hb); (try clear hb); (try clear hb2); (try clear hk); (try clear hi); (try clear ho0))|((with_reducible refine gate_callee (f := 14) rfl ?_); refine goesL_ (some 50) rfl rfl Tryd.func14 (by kernel_rfl) rfl #[.slice A0 l0.length c0, .slice A1 l1.length c1, .string a2] rfl (by (try simp only [List.map_toArray, List.map_cons, List.map_nil]); first|done|rfl|(simp only [List.length_drop, List.length_take]; rfl)) ?_; (with_reducible refine (emenderref26_Replace.calls kj3 _ _ l0 _ _ l1 a2 t475 t476 _ ?side1 ?side2 ?side3 ?side4 A12.out).mono ?_); (case side1 => repeat (first|exact (Kd.C_below HR0.out HB.out)|(with_reducible refine Kd.C_alloc ?_ _)|(with_reducible refine Kd.C_drewN ?_ _)|(with_reducible refine Kd.C_drew ?_))); (case side2 => exact HC0.out); (case side3 => repeat (first|exact (Kd.C_below HR1.out HB.out)|(with_reducible refine Kd.C_alloc ?_ _)|(with_reducible refine Kd.C_drewN ?_ _)|(with_reducible refine Kd.C_drew ?_))); (case side4 => exact HC1.out); rintro e w17 ⟨v477, rfl, ho0, hb⟩; refine ⟨_, rfl, ?_⟩; replace HO466 := aM (Kd.S_elder' (by (with_reducible repeat (first|apply Kd.S_alloc|apply Kd.S_drewN|apply Kd.S_drew)); exact HO466.out) (Kd.R_base ho0) hb); replace HO470 := aM (Kd.S_elder' (by (with_reducible repeat (first|apply Kd.S_alloc|apply Kd.S_drewN|apply Kd.S_drew)); exact HO470.out) (Kd.R_base ho0) hb); replace HO478 := aM (Kd.R_lower (Kd.R_new' ho0 (Kd.R_lt (by (with_reducible repeat (first|apply Kd.R_alloc|apply Kd.R_drewN|apply Kd.R_drew)); exact HO474.out))) (below_size (by repeat (first|(with_reducible first|exact HB.out|apply lA|apply lN|apply lD)|exact HB.out)))); replace HO474 := aM (Kd.R_elder' (by (with_reducible repeat (first|apply Kd.R_alloc|apply Kd.R_drewN|apply Kd.R_drew)); exact HO474.out) (Kd.R_base ho0) hb); replace HB := aM (below_step (by repeat (first|(with_reducible first|exact HB.out|apply lA|apply lN|apply lD)|exact HB.out)) hb); (try clear hb); (try clear hb2); (try clear hk); (try clear hi); (try clear ho0)))
    (try simp only [Act.put, List.setIfInBounds_toArray, List.set_cons_zero, List.set_cons_succ])
    go_cut [73] (fun v73 wc => ∃ (kq : Nat) (x73_12 : Bool), v73 = .bool x73_12 ∧ Aside0 (emenderlaw26_FindPuts.j1 kq t463 t467 x73_12 = some r) ∧ Aside0 (kq ≤ kj3) ∧ Aside0 (Kd.S k45 45 wc w.heap.size (fun k_ => some k_ ≠ (v469 : Value).ownBlock) v465 t463) ∧ Aside0 (Kd.S k45 45 wc w.heap.size (fun k_ => some k_ ≠ (v465 : Value).ownBlock) v469 t467) ∧ Aside0 (Below w.heap.size w wc))
    case first =>
     have H := HC13.out
     clear HC13
     by_cases c18 : (t463.length : Int) = (t467.length : Int)
     ·rw [if_pos c18] at H
      have c18b0 : ((t463.length : Int) == (t467.length : Int)) = true := beq_iff_eq.mpr c18
      have c18b1 : ((t463.length : Int) != (t467.length : Int)) = false := bne_eq_false_iff_eq.mpr c18
      have c18b2 : (t463.length == t467.length) = true := by first|simpa using c18|(simp at c18 ⊢; omega)
      clear c18
      (first|rw [c18b0]|(simp only [i64_w, i32_w]; rw [c18b0])|skip)
      by_cases c19 : t464 = t468
      ·rw [if_pos c19] at H
       have c19b0 : (t464 == t468) = true := beq_iff_eq.mpr c19
       have c19b1 : (t464 != t468) = false := bne_eq_false_iff_eq.mpr c19
       clear c19
       replace H := Option.bind_eq_some_iff.mp H
       obtain ⟨t479, A200, H⟩ := H
       replace H : (if t479 = true then (emenderlaw26_FindPuts.j1 kj3 t463 t467 (t472 != t476)) else (emenderlaw26_FindPuts.j1 kj3 t463 t467 true)) = some r := H
       have A20 := aM A200
       clear A200
       by_cases c21 : t479 = true
       ·subst c21
        have H1 : (emenderlaw26_FindPuts.j1 kj3 t463 t467 (t472 != t476)) = some r := by rw [if_pos rfl] at H; exact H
        clear H
        have H := H1
        clear H1
        have H' := aM H
        clear H
        obtain ⟨Ao22, co22, eo22⟩ := Kd.S_slice HO466.out
        subst eo22
        obtain ⟨Ao23, co23, eo23⟩ := Kd.S_slice HO470.out
        subst eo23
        obtain ⟨Ao24, co24, eo24⟩ := Kd.R_slice HO474.out
        subst eo24
        obtain ⟨Ao25, co25, eo25⟩ := Kd.R_slice HO478.out
        subst eo25
        go_wp2_with (first|(go_at_call 15; (with_reducible refine (emenderlaw26_alike.calls kj3 _ _ t471 _ _ t475 true _ ?side1 ?side2 ?side3 ?side4 A20.out).mono ?_); (case side1 => repeat (first|exact (Kd.R_reads' HO474.out).2.2|(with_reducible refine Kd.C_alloc ?_ _)|(with_reducible refine Kd.C_drewN ?_ _)|(with_reducible refine Kd.C_drew ?_))); (case side2 => exact (Kd.R_reads' HO474.out).2.1); (case side3 => repeat (first|exact (Kd.R_reads' HO478.out).2.2|(with_reducible refine Kd.C_alloc ?_ _)|(with_reducible refine Kd.C_drewN ?_ _)|(with_reducible refine Kd.C_drew ?_))); (case side4 => exact (Kd.R_reads' HO478.out).2.1); rintro e w' ⟨rfl, ⟨nd, rfl⟩⟩))
        go_meet
        case rel => exact ⟨_, ((t472 != t476)), (by first|rfl|(simp; done)|(simp [*]; done)), H', ⟨by have := HJ3.out; first|omega|exact Nat.le_refl _⟩, ⟨by (with_reducible repeat (first|apply Kd.S_alloc|apply Kd.S_drewN|apply Kd.S_drew)); exact Kd.S_mono HO466.out (fun _ hk => hk.1.1.2)⟩, ⟨by (with_reducible repeat (first|apply Kd.S_alloc|apply Kd.S_drewN|apply Kd.S_drew)); exact Kd.S_mono HO470.out (fun _ hk => hk.1.1.2)⟩, ⟨by repeat (first|(with_reducible first|exact HB.out|apply lA|apply lN|apply lD)|exact HB.out)⟩⟩
       ·replace c21 := Bool.eq_false_iff.mpr c21
        subst c21
        have H1 : (emenderlaw26_FindPuts.j1 kj3 t463 t467 true) = some r := by rw [if_neg (show ¬ (false = true) by decide)] at H; exact H
        clear H
        have H := H1
        clear H1
        have H' := aM H
        clear H
        obtain ⟨Ao26, co26, eo26⟩ := Kd.S_slice HO466.out
        subst eo26
        obtain ⟨Ao27, co27, eo27⟩ := Kd.S_slice HO470.out
        subst eo27
        obtain ⟨Ao28, co28, eo28⟩ := Kd.R_slice HO474.out
        subst eo28
        obtain ⟨Ao29, co29, eo29⟩ := Kd.R_slice HO478.out
        subst eo29
        go_wp2_with (first|(go_at_call 15; (with_reducible refine (emenderlaw26_alike.calls kj3 _ _ t471 _ _ t475 false _ ?side1 ?side2 ?side3 ?side4 A20.out).mono ?_); (case side1 => repeat (first|exact (Kd.R_reads' HO474.out).2.2|(with_reducible refine Kd.C_alloc ?_ _)|(with_reducible refine Kd.C_drewN ?_ _)|(with_reducible refine Kd.C_drew ?_))); (case side2 => exact (Kd.R_reads' HO474.out).2.1); (case side3 => repeat (first|exact (Kd.R_reads' HO478.out).2.2|(with_reducible refine Kd.C_alloc ?_ _)|(with_reducible refine Kd.C_drewN ?_ _)|(with_reducible refine Kd.C_drew ?_))); (case side4 => exact (Kd.R_reads' HO478.out).2.1); rintro e w' ⟨rfl, ⟨nd, rfl⟩⟩))
        go_meet
        case rel => exact ⟨_, (true), (by first|rfl|(simp; done)|(simp [*]; done)), H', ⟨by have := HJ3.out; first|omega|exact Nat.le_refl _⟩, ⟨by (with_reducible repeat (first|apply Kd.S_alloc|apply Kd.S_drewN|apply Kd.S_drew)); exact Kd.S_mono HO466.out (fun _ hk => hk.1.1.2)⟩, ⟨by (with_reducible repeat (first|apply Kd.S_alloc|apply Kd.S_drewN|apply Kd.S_drew)); exact Kd.S_mono HO470.out (fun _ hk => hk.1.1.2)⟩, ⟨by repeat (first|(with_reducible first|exact HB.out|apply lA|apply lN|apply lD)|exact HB.out)⟩⟩
      ·rw [if_neg c19] at H
       have c19b0 : (t464 == t468) = false := beq_eq_false_iff_ne.mpr c19
       have c19b1 : (t464 != t468) = true := bne_iff_ne.mpr c19
       have H' := aM H
       clear H
       obtain ⟨Ao30, co30, eo30⟩ := Kd.S_slice HO466.out
       subst eo30
       obtain ⟨Ao31, co31, eo31⟩ := Kd.S_slice HO470.out
       subst eo31
       go_wp2
       go_meet
       case rel => exact ⟨_, (true), (by first|rfl|(simp; done)|(simp [*]; done)), H', ⟨by have := HJ3.out; first|omega|exact Nat.le_refl _⟩, ⟨by (with_reducible repeat (first|apply Kd.S_alloc|apply Kd.S_drewN|apply Kd.S_drew)); exact Kd.S_mono HO466.out (fun _ hk => hk.1.1.2)⟩, ⟨by (with_reducible repeat (first|apply Kd.S_alloc|apply Kd.S_drewN|apply Kd.S_drew)); exact Kd.S_mono HO470.out (fun _ hk => hk.1.1.2)⟩, ⟨by repeat (first|(with_reducible first|exact HB.out|apply lA|apply lN|apply lD)|exact HB.out)⟩⟩
     ·rw [if_neg c18] at H
      have c18b0 : ((t463.length : Int) == (t467.length : Int)) = false := beq_eq_false_iff_ne.mpr c18
      have c18b1 : ((t463.length : Int) != (t467.length : Int)) = true := bne_iff_ne.mpr c18
      have c18b2 : (t463.length == t467.length) = false := by first|simpa using c18|(simp at c18 ⊢; omega)
      (first|rw [c18b0]|(simp only [i64_w, i32_w]; rw [c18b0])|skip)
      have H' := aM H
      clear H
      obtain ⟨Ao32, co32, eo32⟩ := Kd.S_slice HO466.out
      subst eo32
      obtain ⟨Ao33, co33, eo33⟩ := Kd.S_slice HO470.out
      subst eo33
      go_wp2
      go_meet
      case rel => exact ⟨_, (true), (by first|rfl|(simp; done)|(simp [*]; done)), H', ⟨by have := HJ3.out; first|omega|exact Nat.le_refl _⟩, ⟨by (with_reducible repeat (first|apply Kd.S_alloc|apply Kd.S_drewN|apply Kd.S_drew)); exact Kd.S_mono HO466.out (fun _ hk => hk.1.1.2)⟩, ⟨by (with_reducible repeat (first|apply Kd.S_alloc|apply Kd.S_drewN|apply Kd.S_drew)); exact Kd.S_mono HO470.out (fun _ hk => hk.1.1.2)⟩, ⟨by repeat (first|(with_reducible first|exact HB.out|apply lA|apply lN|apply lD)|exact HB.out)⟩⟩
    case rest =>
     clear HC13
     obtain ⟨kq, x73_12, rfl, HA, HJ12, HO_7, HO_9, HB⟩ := hcut
     cases kq with
    |zero => exact absurd HA.out (by simp [emenderlaw26_FindPuts.j1])
    |succ kj12 =>
      have H := HA.out
      clear HA
      simp only [emenderlaw26_FindPuts.j1] at H
      by_cases c34 : x73_12 = true
      ·subst c34
       have H1 : (none) = some r := by rw [if_pos rfl] at H; exact H
       clear H
       have H := H1
       clear H1
       exact absurd H (by simp)
      ·replace c34 := Bool.eq_false_iff.mpr c34
       subst c34
       have H1 : (emenderlaw26_FindPuts.l0 kj12 t463 t467 0) = some r := by rw [if_neg (show ¬ (false = true) by decide)] at H; exact H
       clear H
       have H := H1
       clear H1
       have H' := aM H
       clear H
       go_wp2
       go_loopg [15] kj12 (fun kq v15 w' => ∃ (x15_3 : Int), v15 = .int .i64 x15_3 ∧ Aside0 (emenderlaw26_FindPuts.l0 kq t463 t467 x15_3 = some r) ∧ Aside0 (kq ≤ kj12) ∧ Aside0 (Kd.S k45 45 w' w.heap.size (fun k_ => some k_ ≠ (v469 : Value).ownBlock) v465 t463) ∧ Aside0 (Kd.S k45 45 w' w.heap.size (fun k_ => some k_ ≠ (v465 : Value).ownBlock) v469 t467) ∧ Aside0 (Below w.heap.size w w'))
       case atStart => exact ⟨(0), (by first|rfl|(simp; done)|(simp [*]; done)), H', ⟨Nat.le_refl _⟩, ⟨by (with_reducible repeat (first|apply Kd.S_alloc|apply Kd.S_drewN|apply Kd.S_drew)); exact HO_7.out⟩, ⟨by (with_reducible repeat (first|apply Kd.S_alloc|apply Kd.S_drewN|apply Kd.S_drew)); exact HO_9.out⟩, ⟨by repeat (first|(with_reducible first|exact HB.out|apply lA|apply lN|apply lD)|exact HB.out)⟩⟩
       case round =>
        clear H'
        obtain ⟨x15_3, rfl, HA, HK3, HO_7, HO_9, HB⟩ := hrel
        cases gk with
       |zero => exact absurd HA.out (by simp [emenderlaw26_FindPuts.l0])
       |succ k3 =>
         have H := HA.out
         clear HA
         simp only [emenderlaw26_FindPuts.l0] at H
         by_cases c35 : x15_3 < (t463.length : Int)
         ·rw [if_pos c35] at H
          have c35b0 : decide (x15_3 < (t463.length : Int)) = true := decide_eq_true c35
          clear c35
          replace H := ifS H; obtain ⟨c36, H⟩ := H
          have c36b0 : decide (0 ≤ x15_3) = true := decide_eq_true c36
          clear c36
          replace H := ifS H; obtain ⟨c37, H⟩ := H
          have c37b0 : decide (x15_3 < (t467.length : Int)) = true := decide_eq_true c37
          clear c37
          replace H := Option.bind_eq_some_iff.mp H
          obtain ⟨t482, A380, H⟩ := H
          replace H : (if t482 = true then (emenderlaw26_FindPuts.l0 k3 t463 t467 (wrap64 (x15_3 + 1))) else (none)) = some r := H
          have A38 := aM A380
          clear A380
          by_cases c39 : t482 = true
          ·subst c39
           have H1 : (emenderlaw26_FindPuts.l0 k3 t463 t467 (wrap64 (x15_3 + 1))) = some r := by rw [if_pos rfl] at H; exact H
           clear H
           have H := H1
           clear H1
           have H' := aM H
           clear H
           obtain ⟨Ao40, co40, eo40⟩ := Kd.S_slice HO_7.out
           subst eo40
           try go_wp2
           have n0_ := aM (Kd.S_drew HO_7.out)
           have n1_ := aM (Kd.S_drew HO_9.out)
           have n2_ := aM (lD HB.out)
           clear HO_7
           clear HO_9
           clear HB
           have HO_7 := n0_
           have HO_9 := n1_
           have HB := n2_
           clear n0_ n1_ n2_
           have p480 : 0 ≤ (x15_3 : Int) := of_decide_eq_true (by assumption)
           have q480 : x15_3 < (t463.length : Int) := of_decide_eq_true (by assumption)
           obtain ⟨ad480, A480_6, c480_6, e480, hx480_0, hx480_1, hx480_2, hx480_3, hx480_4, hx480_5, hx480_6, hx480_7, hl480_6, hi480_6⟩ := at_T45 (Kd.S_reads' HO_7.out).2.2 x15_3 p480 q480
           cases e480
           obtain ⟨ce480, hce480, hMe480, hcc480⟩ := Kd.S_get HO_7.out z45 x15_3 p480 (by first|exact q480|exact of_decide_eq_true (by assumption)|(have e_ := (Kd.S_reads' HO_7.out).1; omega))
           obtain ⟨ve480_6, rfl, ge480_6⟩ := k45_openM hMe480
           have hv480_6 := hcc480 6 _ rfl
           rw [add_field _ _ 6 (by omega)] at hv480_6
           replace hv480_6 := Option.some.inj (hv480_6.symm.trans hx480_6)
           rw [hv480_6] at ge480_6
           have HL480_6 := aM (show Kd.R k48 48 _ _ _ _ ((rd_T45 t463 x15_3).f6) from ge480_6)
           clear hv480_6 ge480_6
           clear hcc480 hce480
           have HR480_6 := aM hi480_6
           have HC480_6 := aM hl480_6
           clear hi480_6 hl480_6
           replace p480 := eq_true p480
           replace q480 := eq_true q480
           obtain ⟨Ao42, co42, eo42⟩ := Kd.S_slice HO_9.out
           (first|subst eo42|(injection eo42 with f1_ f2_ f3_; have f4_ := f1_.symm; have f5_ := f3_.symm; clear f1_ f2_ f3_; subst f4_; subst f5_))
           have p481 : 0 ≤ (x15_3 : Int) := of_decide_eq_true (by assumption)
           have q481 : x15_3 < (t467.length : Int) := of_decide_eq_true (by assumption)
           obtain ⟨ad481, A481_6, c481_6, e481, hx481_0, hx481_1, hx481_2, hx481_3, hx481_4, hx481_5, hx481_6, hx481_7, hl481_6, hi481_6⟩ := at_T45 (Kd.S_reads' HO_9.out).2.2 x15_3 p481 q481
           cases e481
           obtain ⟨ce481, hce481, hMe481, hcc481⟩ := Kd.S_get HO_9.out z45 x15_3 p481 (by first|exact q481|exact of_decide_eq_true (by assumption)|(have e_ := (Kd.S_reads' HO_9.out).1; omega))
           obtain ⟨ve481_6, rfl, ge481_6⟩ := k45_openM hMe481
           have hv481_6 := hcc481 6 _ rfl
           rw [add_field _ _ 6 (by omega)] at hv481_6
           replace hv481_6 := Option.some.inj (hv481_6.symm.trans hx481_6)
           rw [hv481_6] at ge481_6
           have HL481_6 := aM (show Kd.R k48 48 _ _ _ _ ((rd_T45 t467 x15_3).f6) from ge481_6)
           clear hv481_6 ge481_6
           clear hcc481 hce481
           have HR481_6 := aM hi481_6
           have HC481_6 := aM hl481_6
           clear hi481_6 hl481_6
           replace p481 := eq_true p481
           replace q481 := eq_true q481
           refine start_ (n := 10) (S := fun w' => w'.cell? (ad480.add ((x15_3).toNat * 8)) = some (.int .i64 ((rd_T45 t463 x15_3).f0)) ∧ w'.cell? ⟨(ad480.add ((x15_3).toNat * 8)).block, (ad480.add ((x15_3).toNat * 8)).off + 1, none⟩ = some (.int .i64 ((rd_T45 t463 x15_3).f1)) ∧ w'.cell? ⟨(ad480.add ((x15_3).toNat * 8)).block, (ad480.add ((x15_3).toNat * 8)).off + 2, none⟩ = some (.int .i64 ((rd_T45 t463 x15_3).f2)) ∧ w'.cell? ⟨(ad480.add ((x15_3).toNat * 8)).block, (ad480.add ((x15_3).toNat * 8)).off + 3, none⟩ = some (.int .i64 ((rd_T45 t463 x15_3).f3)) ∧ w'.cell? ⟨(ad480.add ((x15_3).toNat * 8)).block, (ad480.add ((x15_3).toNat * 8)).off + 4, none⟩ = some (.int .i64 ((rd_T45 t463 x15_3).f4)) ∧ w'.cell? ⟨(ad480.add ((x15_3).toNat * 8)).block, (ad480.add ((x15_3).toNat * 8)).off + 5, none⟩ = some (.int .i64 ((rd_T45 t463 x15_3).f5)) ∧ w'.cell? ⟨(ad480.add ((x15_3).toNat * 8)).block, (ad480.add ((x15_3).toNat * 8)).off + 6, none⟩ = some (.slice A480_6 ((rd_T45 t463 x15_3).f6).length c480_6) ∧ w'.cell? ⟨(ad480.add ((x15_3).toNat * 8)).block, (ad480.add ((x15_3).toNat * 8)).off + 7, none⟩ = some (.int .i64 ((rd_T45 t463 x15_3).f7)) ∧ w'.cell? (ad481.add ((x15_3).toNat * 8)) = some (.int .i64 ((rd_T45 t467 x15_3).f0)) ∧ w'.cell? ⟨(ad481.add ((x15_3).toNat * 8)).block, (ad481.add ((x15_3).toNat * 8)).off + 1, none⟩ = some (.int .i64 ((rd_T45 t467 x15_3).f1)) ∧ w'.cell? ⟨(ad481.add ((x15_3).toNat * 8)).block, (ad481.add ((x15_3).toNat * 8)).off + 2, none⟩ = some (.int .i64 ((rd_T45 t467 x15_3).f2)) ∧ w'.cell? ⟨(ad481.add ((x15_3).toNat * 8)).block, (ad481.add ((x15_3).toNat * 8)).off + 3, none⟩ = some (.int .i64 ((rd_T45 t467 x15_3).f3)) ∧ w'.cell? ⟨(ad481.add ((x15_3).toNat * 8)).block, (ad481.add ((x15_3).toNat * 8)).off + 4, none⟩ = some (.int .i64 ((rd_T45 t467 x15_3).f4)) ∧ w'.cell? ⟨(ad481.add ((x15_3).toNat * 8)).block, (ad481.add ((x15_3).toNat * 8)).off + 5, none⟩ = some (.int .i64 ((rd_T45 t467 x15_3).f5)) ∧ w'.cell? ⟨(ad481.add ((x15_3).toNat * 8)).block, (ad481.add ((x15_3).toNat * 8)).off + 6, none⟩ = some (.slice A481_6 ((rd_T45 t467 x15_3).f6).length c481_6) ∧ w'.cell? ⟨(ad481.add ((x15_3).toNat * 8)).block, (ad481.add ((x15_3).toNat * 8)).off + 7, none⟩ = some (.int .i64 ((rd_T45 t467 x15_3).f7))) (ds := []) #[false, false, false, false, false, false, false, false, false, false] (by kernel_rfl) rfl rfl ⟨hx480_0, hx480_1, hx480_2, hx480_3, hx480_4, hx480_5, hx480_6, hx480_7, hx481_0, hx481_1, hx481_2, hx481_3, hx481_4, hx481_5, hx481_6, hx481_7⟩ (fun hHeld => ?_); refine with_tabW emenderlaw26_FindPuts.tab12 emenderlaw26_FindPuts.bits12 (fun HT_ HW_ => ?_)
           generalize wr.drew = w41 at HO_7 HO_9 HB HL480_6 HL481_6 HR480_6 HR481_6 hx480_0 hx480_1 hx480_2 hx480_3 hx480_4 hx480_5 hx480_6 hx480_7 hx481_0 hx481_1 hx481_2 hx481_3 hx481_4 hx481_5 hx481_6 hx481_7 hHeld ⊢
           refine pure_ (i := 0) (N := some 80) (v := ?_) (a' := ?_) #[true, false, false, false, false, false, false, false, false, false] rfl rfl (any_of HT_.out (by kernel_rfl)) (fun _ _ _ h => h) (Or.inl ⟨by rfl, ?_⟩) ?_ ?_
           rotate_left
           ·intro w'
            go_simp
            with_reducible rfl
           rotate_left
           ·simp only [Act.put, sA, sZ, sS, i64_w, i32_w]
            rfl
           refine pure_ (i := 1) (N := some 81) (v := ?_) (a' := ?_) #[true, true, false, false, false, false, false, false, false, false] rfl rfl (any_of HT_.out (by kernel_rfl)) (fun _ _ _ h => h) (Or.inl ⟨by rfl, ?_⟩) ?_ ?_
           rotate_left
           ·intro w'
            go_simp
            with_reducible rfl
           rotate_left
           ·simp only [Act.put, sA, sZ, sS, i64_w, i32_w]
            rfl
           refine pure_ (i := 2) (N := some 82) (v := ?_) (a' := ?_) #[true, true, true, false, false, false, false, false, false, false] rfl rfl (any_of HT_.out (by kernel_rfl)) (fun _ _ _ h => h) (Or.inl ⟨by rfl, ?_⟩) ?_ ?_
           rotate_left
           ·intro w'
            go_simp
            with_reducible rfl
           rotate_left
           ·simp only [Act.put, sA, sZ, sS, i64_w, i32_w]
            rfl
           refine pure_ (i := 4) (N := some 84) (v := ?_) (a' := ?_) #[true, true, true, false, true, false, false, false, false, false] rfl rfl (any_of HT_.out (by kernel_rfl)) (fun _ _ _ h => h) (Or.inl ⟨by rfl, ?_⟩) ?_ ?_
           rotate_left
           ·intro w'
            go_simp
            with_reducible rfl
           rotate_left
           ·simp only [Act.put, sA, sZ, sS, i64_w, i32_w]
            rfl
           refine pure_ (i := 5) (N := some 85) (v := ?_) (a' := ?_) #[true, true, true, false, true, true, false, false, false, false] rfl rfl (any_of HT_.out (by kernel_rfl)) (fun _ _ _ h => h) (Or.inl ⟨by rfl, ?_⟩) ?_ ?_
           rotate_left
           ·intro w'
            go_simp
            with_reducible rfl
           rotate_left
           ·simp only [Act.put, sA, sZ, sS, i64_w, i32_w]
            rfl
           refine pure_ (i := 6) (N := some 86) (v := ?_) (a' := ?_) #[true, true, true, false, true, true, true, false, false, false] rfl rfl (any_of HT_.out (by kernel_rfl)) (fun _ _ _ h => h) (Or.inl ⟨by rfl, ?_⟩) ?_ ?_
           rotate_left
           ·intro w'
            go_simp
            with_reducible rfl
           rotate_left
           ·simp only [Act.put, sA, sZ, sS, i64_w, i32_w]
            rfl
           refine take_ (i := 3) (N := some 83) (v := ?_) (a' := ?_) #[true, true, true, true, true, true, true, false, false, false] rfl rfl (take_ofW HT_.out HW_.out (by kernel_rfl)) (fun _ _ _ h => h) (Or.inl ⟨by rfl, ?_⟩) hHeld ?_ ?_
           rotate_left
           ·rintro w' ⟨s0, s1, s2, s3, s4, s5, s6, s7, s8, s9, s10, s11, s12, s13, s14, s15⟩
            go_simp
            with_reducible rfl
           rotate_left
           ·simp only [Act.put, sA, sZ, sS, i64_w, i32_w]
            rfl
           refine take_ (i := 7) (N := some 87) (v := ?_) (a' := ?_) #[true, true, true, true, true, true, true, true, false, false] rfl rfl (take_ofW HT_.out HW_.out (by kernel_rfl)) (fun _ _ _ h => h) (Or.inl ⟨by rfl, ?_⟩) hHeld ?_ ?_
           rotate_left
           ·rintro w' ⟨s0, s1, s2, s3, s4, s5, s6, s7, s8, s9, s10, s11, s12, s13, s14, s15⟩
            go_simp
            with_reducible rfl
           rotate_left
           ·simp only [Act.put, sA, sZ, sS, i64_w, i32_w]
            rfl
           refine one_ (i := 8) (N := some 88) #[true, true, true, true, true, true, true, true, true, false] rfl rfl (one_of HT_.out (by kernel_rfl)) (by decide) (fun K hK => ?_)
           refine goes_ Tryd.func16 (by kernel_rfl) rfl #[.agg #[.int .i64 ((rd_T45 t463 x15_3).f0), .int .i64 ((rd_T45 t463 x15_3).f1), .int .i64 ((rd_T45 t463 x15_3).f2), .int .i64 ((rd_T45 t463 x15_3).f3), .int .i64 ((rd_T45 t463 x15_3).f4), .int .i64 ((rd_T45 t463 x15_3).f5), .slice A480_6 ((rd_T45 t463 x15_3).f6).length c480_6, .int .i64 ((rd_T45 t463 x15_3).f7)], .agg #[.int .i64 ((rd_T45 t467 x15_3).f0), .int .i64 ((rd_T45 t467 x15_3).f1), .int .i64 ((rd_T45 t467 x15_3).f2), .int .i64 ((rd_T45 t467 x15_3).f3), .int .i64 ((rd_T45 t467 x15_3).f4), .int .i64 ((rd_T45 t467 x15_3).f5), .slice A481_6 ((rd_T45 t467 x15_3).f6).length c481_6, .int .i64 ((rd_T45 t467 x15_3).f7)]] (by rfl) rfl rfl (by (try simp only [List.map_toArray, List.map_cons, List.map_nil]); first|done|rfl|(simp only [List.length_drop, List.length_take]; rfl)) ?_
           with_reducible refine (emenderlaw26_twin.calls k3 ((rd_T45 t463 x15_3).f0) ((rd_T45 t463 x15_3).f1) ((rd_T45 t463 x15_3).f2) ((rd_T45 t463 x15_3).f3) ((rd_T45 t463 x15_3).f4) ((rd_T45 t463 x15_3).f5) _ _ ((rd_T45 t463 x15_3).f6) ((rd_T45 t463 x15_3).f7) ((rd_T45 t467 x15_3).f0) ((rd_T45 t467 x15_3).f1) ((rd_T45 t467 x15_3).f2) ((rd_T45 t467 x15_3).f3) ((rd_T45 t467 x15_3).f4) ((rd_T45 t467 x15_3).f5) _ _ ((rd_T45 t467 x15_3).f6) ((rd_T45 t467 x15_3).f7) true _ ?side1 ?side2 ?side3 ?side4 A38.out).mono ?_
           (case side1 => repeat (first|exact (by repeat (first|(with_reducible exact HR480_6.out)|(with_reducible refine Kd.C_alloc ?_ _)|(with_reducible refine Kd.C_drewN ?_ _)|(with_reducible refine Kd.C_drew ?_)|exact HR480_6.out))|(with_reducible refine Kd.C_alloc ?_ _)|(with_reducible refine Kd.C_drewN ?_ _)|(with_reducible refine Kd.C_drew ?_)))
           (case side2 => exact HC480_6.out)
           (case side3 => repeat (first|exact (by repeat (first|(with_reducible exact HR481_6.out)|(with_reducible refine Kd.C_alloc ?_ _)|(with_reducible refine Kd.C_drewN ?_ _)|(with_reducible refine Kd.C_drew ?_)|exact HR481_6.out))|(with_reducible refine Kd.C_alloc ?_ _)|(with_reducible refine Kd.C_drewN ?_ _)|(with_reducible refine Kd.C_drew ?_)))
           (case side4 => exact HC481_6.out)
           rintro e w43 ⟨rfl, hb⟩
           have HS0_ := (hb.cell (World.block_lt_of_cell? _ _ (hHeld.1))).trans (hHeld.1)
           have HS1_ := (hb.cell (World.block_lt_of_cell? _ _ (hHeld.2.1))).trans (hHeld.2.1)
           have HS2_ := (hb.cell (World.block_lt_of_cell? _ _ (hHeld.2.2.1))).trans (hHeld.2.2.1)
           have HS3_ := (hb.cell (World.block_lt_of_cell? _ _ (hHeld.2.2.2.1))).trans (hHeld.2.2.2.1)
           have HS4_ := (hb.cell (World.block_lt_of_cell? _ _ (hHeld.2.2.2.2.1))).trans (hHeld.2.2.2.2.1)
           have HS5_ := (hb.cell (World.block_lt_of_cell? _ _ (hHeld.2.2.2.2.2.1))).trans (hHeld.2.2.2.2.2.1)
           have HS6_ := (hb.cell (World.block_lt_of_cell? _ _ (hHeld.2.2.2.2.2.2.1))).trans (hHeld.2.2.2.2.2.2.1)
           have HS7_ := (hb.cell (World.block_lt_of_cell? _ _ (hHeld.2.2.2.2.2.2.2.1))).trans (hHeld.2.2.2.2.2.2.2.1)
           have HS8_ := (hb.cell (World.block_lt_of_cell? _ _ (hHeld.2.2.2.2.2.2.2.2.1))).trans (hHeld.2.2.2.2.2.2.2.2.1)
           have HS9_ := (hb.cell (World.block_lt_of_cell? _ _ (hHeld.2.2.2.2.2.2.2.2.2.1))).trans (hHeld.2.2.2.2.2.2.2.2.2.1)
           have HS10_ := (hb.cell (World.block_lt_of_cell? _ _ (hHeld.2.2.2.2.2.2.2.2.2.2.1))).trans (hHeld.2.2.2.2.2.2.2.2.2.2.1)
           have HS11_ := (hb.cell (World.block_lt_of_cell? _ _ (hHeld.2.2.2.2.2.2.2.2.2.2.2.1))).trans (hHeld.2.2.2.2.2.2.2.2.2.2.2.1)
           have HS12_ := (hb.cell (World.block_lt_of_cell? _ _ (hHeld.2.2.2.2.2.2.2.2.2.2.2.2.1))).trans (hHeld.2.2.2.2.2.2.2.2.2.2.2.2.1)
           have HS13_ := (hb.cell (World.block_lt_of_cell? _ _ (hHeld.2.2.2.2.2.2.2.2.2.2.2.2.2.1))).trans (hHeld.2.2.2.2.2.2.2.2.2.2.2.2.2.1)
           have HS14_ := (hb.cell (World.block_lt_of_cell? _ _ (hHeld.2.2.2.2.2.2.2.2.2.2.2.2.2.2.1))).trans (hHeld.2.2.2.2.2.2.2.2.2.2.2.2.2.2.1)
           have HS15_ := (hb.cell (World.block_lt_of_cell? _ _ (hHeld.2.2.2.2.2.2.2.2.2.2.2.2.2.2.2))).trans (hHeld.2.2.2.2.2.2.2.2.2.2.2.2.2.2.2)
           refine ⟨_, rfl, ?_⟩
           have n0_ := aM (Kd.S_below (by (with_reducible repeat (first|apply Kd.S_alloc|apply Kd.S_drewN|apply Kd.S_drew)); exact HO_7.out) hb)
           have n1_ := aM (Kd.S_below (by (with_reducible repeat (first|apply Kd.S_alloc|apply Kd.S_drewN|apply Kd.S_drew)); exact HO_9.out) hb)
           have n2_ := aM (Kd.R_below (by (with_reducible repeat (first|apply Kd.R_alloc|apply Kd.R_drewN|apply Kd.R_drew)); exact HL480_6.out) hb)
           have n3_ := aM (Kd.R_below (by (with_reducible repeat (first|apply Kd.R_alloc|apply Kd.R_drewN|apply Kd.R_drew)); exact HL481_6.out) hb)
           have n4_ := aM (Kd.C_below (by repeat (first|(with_reducible exact HR480_6.out)|(with_reducible refine Kd.C_alloc ?_ _)|(with_reducible refine Kd.C_drewN ?_ _)|(with_reducible refine Kd.C_drew ?_)|exact HR480_6.out)) hb)
           have n5_ := aM (Kd.C_below (by repeat (first|(with_reducible exact HR481_6.out)|(with_reducible refine Kd.C_alloc ?_ _)|(with_reducible refine Kd.C_drewN ?_ _)|(with_reducible refine Kd.C_drew ?_)|exact HR481_6.out)) hb)
           have n6_ := aM (below_step (by repeat (first|(with_reducible first|exact HB.out|apply lA|apply lN|apply lD)|exact HB.out)) hb)
           clear HO_7
           clear HO_9
           clear HL480_6
           clear HL481_6
           clear HR480_6
           clear HR481_6
           clear HB
           have HO_7 := n0_
           have HO_9 := n1_
           have HL480_6 := n2_
           have HL481_6 := n3_
           have HR480_6 := n4_
           have HR481_6 := n5_
           have HB := n6_
           clear n0_ n1_ n2_ n3_ n4_ n5_ n6_
           refine hK.out _ _ ⟨HS0_, HS1_, HS2_, HS3_, HS4_, HS5_, HS6_, HS7_, HS8_, HS9_, HS10_, HS11_, HS12_, HS13_, HS14_, HS15_⟩ (fun hHeld => ?_)
           clear hK K
           refine norm_ (a' := ?_) ?_ ?_
           rotate_left
           ·show Act.put _ (some 88) _ = _
            simp only [Act.put, sA, sZ, sS, i64_w, i32_w]
            rfl
           refine pure_ (i := 9) (N := some 89) (v := ?_) (a' := ?_) #[true, true, true, true, true, true, true, true, true, true] rfl rfl (any_of HT_.out (by kernel_rfl)) (fun _ _ _ h => h) (Or.inl ⟨by rfl, ?_⟩) ?_ ?_
           rotate_left
           ·intro w'
            go_simp
            with_reducible rfl
           rotate_left
           ·simp only [Act.put, sA, sZ, sS, i64_w, i32_w]
            rfl
           refine done_ (done_of HT_.out (by kernel_rfl)) ?_
           try go_wp2
           go_roundg k3
           case measure => have := HJ3.out; have := HJ12.out; have := HK3.out; omega
           case rel => exact ⟨(wrap64 (x15_3 + 1)), (by first|rfl|(simp; done)|(simp [*]; done)), H', ⟨by have := HJ3.out; have := HJ12.out; have := HK3.out; omega⟩, ⟨by (with_reducible repeat (first|apply Kd.S_alloc|apply Kd.S_drewN|apply Kd.S_drew)); exact HO_7.out⟩, ⟨by (with_reducible repeat (first|apply Kd.S_alloc|apply Kd.S_drewN|apply Kd.S_drew)); exact HO_9.out⟩, ⟨by repeat (first|(with_reducible first|exact HB.out|apply lA|apply lN|apply lD)|exact HB.out)⟩⟩
          ·replace c39 := Bool.eq_false_iff.mpr c39
           subst c39
           have H1 : (none) = some r := by rw [if_neg (show ¬ (false = true) by decide)] at H; exact H
           clear H
           have H := H1
           clear H1
           exact absurd H (by simp)
         ·rw [if_neg c35] at H
          have c35b0 : decide (x15_3 < (t463.length : Int)) = false := decide_eq_false c35
          clear c35
          replace H := Option.bind_eq_some_iff.mp H
          obtain ⟨t483, A440, H⟩ := H
          replace H : (some t483) = some r := H
          have A44 := aM A440
          clear A440
          obtain rfl := Option.some.inj H
          obtain ⟨Ao45, co45, eo45⟩ := Kd.S_slice HO_7.out
          subst eo45
          go_wp2_with (first|((with_reducible refine gate_callee (f := 7) rfl ?_); refine goesL_ (some 90) rfl rfl Tryd.func7 (by kernel_rfl) rfl #[] rfl (by (try simp only [List.map_toArray, List.map_cons, List.map_nil]); first|done|rfl|(simp only [List.length_drop, List.length_take]; rfl)) ?_; (with_reducible refine (emenderlaw26_awake.calls  t483 _ A44.out).mono ?_); rintro e w46 ⟨rfl, hb⟩; refine ⟨_, rfl, ?_⟩; replace HO_7 := aM (Kd.S_below (by (with_reducible repeat (first|apply Kd.S_alloc|apply Kd.S_drewN|apply Kd.S_drew)); exact HO_7.out) hb); replace HO_9 := aM (Kd.S_below (by (with_reducible repeat (first|apply Kd.S_alloc|apply Kd.S_drewN|apply Kd.S_drew)); exact HO_9.out) hb); replace HB := aM (below_step (by repeat (first|(with_reducible first|exact HB.out|apply lA|apply lN|apply lD)|exact HB.out)) hb); (try clear hb); (try clear hb2); (try clear hk); (try clear hi)))
          go_ret
          exact ⟨by first|rfl|(simp [errW_none, errW_some] <;> rfl)|(simp [*, errW_none, errW_some] <;> rfl), by repeat (first|(with_reducible first|exact HB.out|apply lA|apply lN|apply lD)|exact HB.out)⟩
end Go.Proofs.YtfcfomconcoimaaDoor.PFa
