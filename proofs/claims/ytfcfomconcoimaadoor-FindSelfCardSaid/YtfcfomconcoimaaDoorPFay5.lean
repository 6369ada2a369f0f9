-- Written for this claim by a program (printed texts under one roof).
import Derived.Test.YtfcfomconcoimaaDoorPFax0
import Derived.Test.YtfcfomconcoimaaDoorPFay1
import Derived.Test.YtfcfomconcoimaaDoorPFay4
namespace Go.Proofs.YtfcfomconcoimaaDoor.PFa
open Go.RowKit Go.Proofs.YtfcfomconcoimaaDoorW.PrintWords Go.Proofs.YtfcfomconcoimaaDoorW.PrintLast Go.Proofs.YtfcfomconcoimaaDoorW.PrintMore
attribute [local go_sem] max2_int min2_int max_two min_two max_three min_three max_four min_four
set_option linter.unusedVariables false
set_option linter.unusedSimpArgs false
mutual
def emenderlaw26_FindSelf.l0 : Nat → List (S48) → ByteArray → ByteArray → List (S48) → Int → Option (Bool)
|0, _, _, _, _, _ => none
|k + 1, x0, x1, x2, x7, x8 => if x8 < (x7.length : Int) then (if 0 ≤ x8 then (emenderlaw26_FindSelf.l0 k x0 x1 x2 (x7.set (x8 : Int).toNat (⟨(rd_T48 x7 x8).f0, (rd_T48 x7 x8).f1, (rd_T48 x7 x8).f2, 0⟩ : S48)) (wrap64 (x8 + 1))) else (none)) else ((find_Find.f x7 x1 false false).bind fun bt301 => (if bt301.2 = 0 then (if (x0.length : Int) > 200 then (emenderlaw26_FindSelf.j1 k x1 x2 x7 bt301.1 true) else (emenderlaw26_FindSelf.j1 k x1 x2 x7 bt301.1 (decide ((wrap64 ((x1.size : Int) + (x2.size : Int))) > 40)))) else (emenderlaw26_FindSelf.j1 k x1 x2 x7 bt301.1 true)))
def emenderlaw26_FindSelf.j1 : Nat → ByteArray → ByteArray → List (S48) → List (S28) → Bool → Option (Bool)
|0, _, _, _, _, _ => none
|k + 1, x1, x2, x7, x9, x50 => if x50 = true then ((emenderlaw26_awake.f).bind fun t305 => (some t305)) else ((find_Replace.f k x7 x9 x1).bind fun bt306 => (if bt306.2 = 0 then ((emenderlaw26_alike.f k x7 bt306.1).bind fun t310 => (emenderlaw26_FindSelf.j2 k x2 x7 x9 (!t310))) else (emenderlaw26_FindSelf.j2 k x2 x7 x9 true)))
def emenderlaw26_FindSelf.j2 : Nat → ByteArray → List (S48) → List (S28) → Bool → Option (Bool)
|0, _, _, _, _ => none
|k + 1, x2, x7, x9, x66 => if x66 = true then (none) else ((find_Replace.f k x7 x9 x2).bind fun bt311 => (if bt311.2 = 0 then (emenderlaw26_FindSelf.j3 k x2 x9 bt311.1 (x2.toList == ([] : List UInt8))) else (emenderlaw26_FindSelf.j3 k x2 x9 bt311.1 true)))
def emenderlaw26_FindSelf.j3 : Nat → ByteArray → List (S28) → List (S48) → Bool → Option (Bool)
|0, _, _, _, _ => none
|k + 1, x2, x9, x13, x79 => if x79 = true then ((emenderlaw26_awake.f).bind fun t315 => (some t315)) else ((find_Find.f x13 x2 false false).bind fun bt316 => (if bt316.2 = 0 then (if (x9.length : Int) = 0 then ((emenderlaw26_awake.f).bind fun t320 => (some t320)) else (if (bt316.1.length : Int) ≥ 1 then ((emenderlaw26_awake.f).bind fun t321 => (some t321)) else (none))) else (none)))
end
def emenderlaw26_FindSelf.f (k : Nat) (l0 : List (S48)) (a1 : ByteArray) (a2 : ByteArray) : Option (Bool) := (some (([] : List (S48)) : List (S48))).bind fun y294 => (if y294.length + l0.length < 4398046511104 then (emenderlaw26_FindSelf.l0 k l0 a1 a2 (y294 ++ l0) 0) else (none))
set_option maxHeartbeats 8000000 in
set_option maxRecDepth 100000 in
theorem emenderlaw26_FindSelf.calls (k : Nat) (A0 : Option Addr) (c0 : Nat) (l0 : List (S48)) (a1 : ByteArray) (a2 : ByteArray) (r : Bool) (w : World) (HT_ : Aside0 (Lib.Utf8Tabs 0 1 w)) (hr0 : Kd.C k48 w A0 l0.length l0) (hc0 : l0.length ≤ c0) (h : emenderlaw26_FindSelf.f k l0 a1 a2 = some r) :
  Calls Tryd.prog 6 #[.slice A0 l0.length c0, .string a1, .string a2] w fun e w' => e = .returned (.bool r) ∧ Below w.heap.size w w' := by
 have HU8_ := HT_
 have HR0 := aM hr0
 have HC0 := aM hc0
 clear hr0 hc0
 have HB := aM (Below.refl w.heap.size w)
 have H : ((some (([] : List (S48)) : List (S48))).bind fun y294 => (if y294.length + l0.length < 4398046511104 then (emenderlaw26_FindSelf.l0 k l0 a1 a2 (y294 ++ l0) 0) else (none))) = some r := h
 clear h
 obtain ⟨y294, hy294⟩ : ∃ y_ : List (S48), y_ = (([] : List (S48))) := ⟨_, rfl⟩
 replace H : (if y294.length + l0.length < 4398046511104 then (emenderlaw26_FindSelf.l0 k l0 a1 a2 (y294 ++ l0) 0) else (none)) = some r := by first|(rw [hy294]; with_reducible exact H)|(have H2_ := (Option.bind_some _ _).symm.trans H; rw [hy294]; with_reducible exact H2_)|(have H2_ := (Option.bind_some _ _).symm.trans H; with_reducible exact H2_)|with_reducible exact H|(rw [hy294]; exact H)|exact H
 have Ny294 := aM hy294
 clear hy294
 replace H := ifS H; obtain ⟨c4, H⟩ := H
 have LMc4 := aM c4
 clear c4
 obtain ⟨y297, hy297⟩ : ∃ y_ : List (S48), y_ = (y294 ++ l0) := ⟨_, rfl⟩
 replace H : (emenderlaw26_FindSelf.l0 k l0 a1 a2 y297 0) = some r := by first|(rw [hy297]; with_reducible exact H)|(have H2_ := (Option.bind_some _ _).symm.trans H; rw [hy297]; with_reducible exact H2_)|(have H2_ := (Option.bind_some _ _).symm.trans H; with_reducible exact H2_)|with_reducible exact H|(rw [hy297]; exact H)|exact H
 have Ny297 := aM hy297
 clear hy297
 have H' := aM H
 clear H
 go_enter Tryd.func6, Tryd.ntmps6
 go_wp2_with (first|((with_reducible refine gate_dst (N := 17) rfl ?_); (try (refine gate_guard (by rfl) ?_; dsimp only)); refine Kd.R_lit k48 _ 48 ?hg (N := 17) ?hd (xs := ([] : List (S48))) (inner := []) (ok := fun _ => True) (okp := fun _ => True) ?hr ?hp (fun _ hk => hk) trivial (Below.refl _ _) (Nat.le_refl _) (by simp) ?_; (case hd => rfl); (case hg => rfl); (case hr => first|(go_simp; done)|(go_simp; rfl)); (case hp => exact (Reps.none _ _)); intro v295 w5 ho6 hb hg_ hnew_; clear hg_ hnew_; (first|rw [← Ny294.out] at ho6|(simp only [Int.reduceToNat] at ho6; rw [← Ny294.out] at ho6)); replace HO296 := aM (Kd.R_lower ho6 (below_size (by repeat (first|(with_reducible first|exact HB.out|apply lA|apply lN|apply lD)|exact HB.out)))); replace HB := aM (below_step (by repeat (first|(with_reducible first|exact HB.out|apply lA|apply lN|apply lD)|exact HB.out)) hb); clear hb ho6)|((with_reducible refine gate_builtin (b := .append) (xs := #[.tmp 17, .tmp 18]) rfl ?_); (try (refine gate_guard (by rfl) ?_; dsimp only)); at_builtin; refine Kd.R_append_rows k48 (w0 := w) w.heap.size rfl (.tmp 17) (.tmp 18) 22 48 (.agg #[(.int .i64 0), (.int .i64 0), (.int .i64 0), (.int .i64 0)]) 32 rfl Tryd.underlying22 info48 rfl (by decide) (by omega) v295 y294 l0 _ _ _ (fun _ => True) (fun _ => False) rfl rfl ?aO ?aR (fun _ _ h => h) (fun _ h => h.elim) ?aF ?aB ?aS ?aL ?_; (case aR => repeat (first|exact (Kd.C_below HR0.out HB.out)|(with_reducible refine Kd.C_alloc ?_ _)|(with_reducible refine Kd.C_drewN ?_ _)|(with_reducible refine Kd.C_drew ?_))); (case aB => exact (by repeat (first|(with_reducible first|exact HB.out|apply lA|apply lN|apply lD)|exact HB.out))); (case aF => exact (fun _ _ => trivial)); (case aO => exact (by (with_reducible repeat (first|apply Kd.R_alloc|apply Kd.R_drewN|apply Kd.R_drew)); exact HO296.out)); (case aS => exact (below_size (by repeat (first|(with_reducible first|exact HB.out|apply lA|apply lN|apply lD)|exact HB.out)))); (case aL => have := LMc4.out; omega); intro v298 w7 ho hb hg hat; rw [← Ny297.out] at ho; have n0_ := aM (hb); have n1_ := aM (ho); clear HB; clear HO296; have HB := n0_; have HO299 := n1_; clear n0_ n1_; clear ho hb hg hat))
 go_loopg [8] k (fun kq v8 w' => ∃ (x7_1 : List (S48)) (x8_1 : Int), v8 = .int .i64 x8_1 ∧ Aside0 (emenderlaw26_FindSelf.l0 kq l0 a1 a2 x7_1 x8_1 = some r) ∧ Aside0 (kq ≤ k) ∧ Aside0 (Kd.R k48 48 w' w.heap.size (fun _ => True) v298 x7_1) ∧ Aside0 (Below w.heap.size w w'))
 case atStart => exact ⟨(y297), (0), (by first|rfl|(simp; done)|(simp [*]; done)), H', ⟨Nat.le_refl _⟩, ⟨by (with_reducible repeat (first|apply Kd.R_alloc|apply Kd.R_drewN|apply Kd.R_drew)); exact HO299.out⟩, ⟨by repeat (first|(with_reducible first|exact HB.out|apply lA|apply lN|apply lD)|exact HB.out)⟩⟩
 case round =>
  clear H'
  obtain ⟨x7_1, x8_1, rfl, HA, HK1, HO_7, HB⟩ := hrel
  cases gk with
 |zero => exact absurd HA.out (by simp [emenderlaw26_FindSelf.l0])
 |succ k1 =>
   have H := HA.out
   clear HA
   simp only [emenderlaw26_FindSelf.l0] at H
   by_cases c8 : x8_1 < (x7_1.length : Int)
   ·rw [if_pos c8] at H
    have c8b0 : decide (x8_1 < (x7_1.length : Int)) = true := decide_eq_true c8
    clear c8
    replace H := ifS H; obtain ⟨c9, H⟩ := H
    have c9b0 : decide (0 ≤ x8_1) = true := decide_eq_true c9
    clear c9
    obtain ⟨y300, hy300⟩ : ∃ y_ : List (S48), y_ = (x7_1.set (x8_1 : Int).toNat (⟨(rd_T48 x7_1 x8_1).f0, (rd_T48 x7_1 x8_1).f1, (rd_T48 x7_1 x8_1).f2, 0⟩ : S48)) := ⟨_, rfl⟩
    replace H : (emenderlaw26_FindSelf.l0 k1 l0 a1 a2 y300 (wrap64 (x8_1 + 1))) = some r := by first|(rw [hy300]; with_reducible exact H)|(have H2_ := (Option.bind_some _ _).symm.trans H; rw [hy300]; with_reducible exact H2_)|(have H2_ := (Option.bind_some _ _).symm.trans H; with_reducible exact H2_)|with_reducible exact H|(rw [hy300]; exact H)|exact H
    have Ny300 := aM hy300
    clear hy300
    have H' := aM H
    clear H
    obtain ⟨Ao11, co11, eo11⟩ := Kd.R_slice HO_7.out
    subst eo11
    have p10 : 0 ≤ (x8_1 : Int) := of_decide_eq_true (by assumption)
    have q10 : (x8_1 : Int) < ((x7_1.length : Int) : Int) := of_decide_eq_true (by assumption)
    obtain ⟨go10, co10, eo10, gb10, gl10, cl10, HG10⟩ := Kd.R_form HO_7.out (by omega)
    (first|cases eo10|(injection eo10 with ea_ en_ ec_; (first|subst ea_|(injection ea_ with ea_; subst ea_)); subst ec_; clear en_))
    have GB10 := aM gb10
    have GG10 := aM HG10
    clear gb10 gl10 HG10
    obtain ⟨ce10, hcl10, hM10, hcc10, hfr10⟩ := Kd.R_elem HO_7.out z48 (x8_1 : Int) p10 q10
    obtain rfl := k48_openM hM10
    have hx10_0 : wr.cell? ⟨go10, (x8_1 : Int).toNat * 4, none⟩ = some (.int .i64 ((rd_T48 x7_1 x8_1).f0)) := hcc10 0 _ rfl
    have hx10_1 : wr.cell? ⟨go10, (x8_1 : Int).toNat * 4 + 1, none⟩ = some (.int .i64 ((rd_T48 x7_1 x8_1).f1)) := hcc10 1 _ rfl
    have hx10_2 : wr.cell? ⟨go10, (x8_1 : Int).toNat * 4 + 2, none⟩ = some (.int .i64 ((rd_T48 x7_1 x8_1).f2)) := hcc10 2 _ rfl
    have hx10_3 : wr.cell? ⟨go10, (x8_1 : Int).toNat * 4 + 3, none⟩ = some (.int .i64 ((rd_T48 x7_1 x8_1).f3)) := hcc10 3 _ rfl
    have hf10_0 : wr.frozen? ⟨go10, (x8_1 : Int).toNat * 4, none⟩ = false := hfr10 0
    have hf10_1 : wr.frozen? ⟨go10, (x8_1 : Int).toNat * 4 + 1, none⟩ = false := hfr10 1
    have hf10_2 : wr.frozen? ⟨go10, (x8_1 : Int).toNat * 4 + 2, none⟩ = false := hfr10 2
    have hf10_3 : wr.frozen? ⟨go10, (x8_1 : Int).toNat * 4 + 3, none⟩ = false := hfr10 3
    (try clear hM10); clear hcl10 hcc10 hfr10
    replace p10 := eq_true p10
    replace q10 := eq_true q10
    have HX12 := aM (show Kd.R k48 48 wr w.heap.size (fun _ => True) (.slice (some ⟨go10, 0, none⟩) x7_1.length co11) x7_1 from (by (with_reducible repeat (first|apply Kd.R_alloc|apply Kd.R_drewN|apply Kd.R_drew)); exact HO_7.out))
    obtain ⟨ce12, hcl12, hM12, hcc12, hfr12⟩ := Kd.R_elem HX12.out z48 (x8_1 : Int) (of_decide_eq_true (by assumption)) (by have h_ : (x8_1 : Int) < ((x7_1.length : Int) : Int) := of_decide_eq_true (by assumption); first|exact h_|(have e_ := (Kd.R_reads' HO_7.out).1; omega)|simpa using h_)
    obtain rfl := k48_openM hM12
    have HP12 := Kd.R_seg HX12.out (x8_1 : Int) (of_decide_eq_true (by assumption)) (by have h_ : (x8_1 : Int) < ((x7_1.length : Int) : Int) := of_decide_eq_true (by assumption); first|exact h_|(have e_ := (Kd.R_reads' HO_7.out).1; omega)|simpa using h_) (seg := [.int .i64 0]) (j := 3) hcl12 hcc12 (show 4 ≤ 4 from by decide) (x' := (⟨(rd_T48 x7_1 x8_1).f0, (rd_T48 x7_1 x8_1).f1, (rd_T48 x7_1 x8_1).f2, 0⟩ : S48)) (k48_mkM _ _ _ (⟨(rd_T48 x7_1 x8_1).f0, (rd_T48 x7_1 x8_1).f1, (rd_T48 x7_1 x8_1).f2, 0⟩ : S48) ) (fun _ hk => hk)
    have hx12_3 := hcc12 3 _ rfl
    (try simp only [show (k48).sz = 4 from rfl, Nat.mul_one, Nat.add_zero] at hx12_3)
    have hf12_3 := hfr12 3
    (try simp only [show (k48).sz = 4 from rfl, Nat.mul_one, Nat.add_zero] at hf12_3)
    (try clear hM12); clear hcl12 hcc12 hfr12
    go_wp2_with (first|((with_reducible refine gate_store (t := 3) (p := 29) rfl ?_); refine store_event (t := 3) (p := 29) (v := ?vo_w13) (w1 := (wr.setCell ⟨go10, (x8_1 : Int).toNat * 4 + 3, none⟩ (.int .i64 0))) ?hg ?ho ?hn ?hr ?_; (case ho => rfl); (case hg => rfl); (case hn => rfl); (case hr => first|(go_simp; done)|(go_simp; rfl)); intro w13 hw; have hg : wr.grownBy w13 (some go10) := (by rw [hw]; exact HP12.2); have hp_ : Kd.R k48 48 w13 w.heap.size (fun _ => True) (.slice (some ⟨go10, 0, none⟩) x7_1.length co11) y300 := (by rw [hw, Ny300.out]; exact HP12.1); clear HP12; replace HO_7 := aM (hp_); replace HB := aM ((by rw [hw]; exact lS (HB.out) GB10.out : Below w.heap.size w w13)); clear hg hw hp_))
    go_roundg k1
    case measure => have := HK1.out; omega
    case rel => exact ⟨(y300), (wrap64 (x8_1 + 1)), (by first|rfl|(simp; done)|(simp [*]; done)), H', ⟨by have := HK1.out; omega⟩, ⟨by (with_reducible repeat (first|apply Kd.R_alloc|apply Kd.R_drewN|apply Kd.R_drew)); exact HO_7.out⟩, ⟨by repeat (first|(with_reducible first|exact HB.out|apply lA|apply lN|apply lD)|exact HB.out)⟩⟩
   ·rw [if_neg c8] at H
    have c8b0 : decide (x8_1 < (x7_1.length : Int)) = false := decide_eq_false c8
    clear c8
    replace H := Option.bind_eq_some_iff.mp H
    obtain ⟨⟨t301, t302⟩, A140, H⟩ := H
    replace H : (if t302 = 0 then (if (l0.length : Int) > 200 then (emenderlaw26_FindSelf.j1 k1 a1 a2 x7_1 t301 true) else (emenderlaw26_FindSelf.j1 k1 a1 a2 x7_1 t301 (decide ((wrap64 ((a1.size : Int) + (a2.size : Int))) > 40)))) else (emenderlaw26_FindSelf.j1 k1 a1 a2 x7_1 t301 true)) = some r := H
    have A14 := aM A140
    clear A140
    have HC15 := aM H
    clear H
    obtain ⟨Ao16, co16, eo16⟩ := Kd.R_slice HO_7.out
    subst eo16
    go_upto_region 7 with (first|((with_reducible refine gate_callee (f := 8) rfl ?_); refine goesL_ (some 33) rfl rfl Tryd.func8 (by kernel_rfl) rfl #[.slice Ao16 x7_1.length co16, .string a1, .bool false, .bool false] rfl (by (try simp only [List.map_toArray, List.map_cons, List.map_nil]); first|done|rfl|(simp only [List.length_drop, List.length_take]; rfl)) ?_; (with_reducible refine (find_Find.calls _ _ x7_1 a1 false false t301 t302 _ ?side1 ?side2 A14.out).mono ?_); (case side1 => repeat (first|exact (Kd.R_reads' HO_7.out).2.2|(with_reducible refine Kd.C_alloc ?_ _)|(with_reducible refine Kd.C_drewN ?_ _)|(with_reducible refine Kd.C_drew ?_))); (case side2 => exact (Kd.R_reads' HO_7.out).2.1); rintro e w17 ⟨v303, rfl, ho0, hb⟩; refine ⟨_, rfl, ?_⟩; replace HO_7 := aM (Kd.R_below (by (with_reducible repeat (first|apply Kd.R_alloc|apply Kd.R_drewN|apply Kd.R_drew)); exact HO_7.out) hb); replace HO304 := aM (Kd.R_lower ho0 (below_size (by repeat (first|(with_reducible first|exact HB.out|apply lA|apply lN|apply lD)|exact HB.out)))); replace HB := aM (below_step (by repeat (first|(with_reducible first|exact HB.out|apply lA|apply lN|apply lD)|exact HB.out)) hb); (try clear hb); (try clear hb2); (try clear hk); (try clear hi); (try clear ho0)))
    (try simp only [Act.put, List.setIfInBounds_toArray, List.set_cons_zero, List.set_cons_succ])
    go_cut [50] (fun v50 wc => ∃ (kq : Nat) (x50_14 : Bool), v50 = .bool x50_14 ∧ Aside0 (emenderlaw26_FindSelf.j1 kq a1 a2 x7_1 t301 x50_14 = some r) ∧ Aside0 (kq ≤ k1) ∧ Aside0 (Kd.R k48 48 wc w.heap.size (fun _ => True) (.slice Ao16 x7_1.length co16) x7_1) ∧ Aside0 (Kd.R k28 28 wc w.heap.size (fun _ => True) v303 t301) ∧ Aside0 (Below w.heap.size w wc))
    case first =>
     have H := HC15.out
     clear HC15
     by_cases c18 : t302 = 0
     ·rw [if_pos c18] at H
      have c18b0 : (t302 == 0) = true := beq_iff_eq.mpr c18
      have c18b1 : (t302 != 0) = false := bne_eq_false_iff_eq.mpr c18
      clear c18
      (first|rw [c18b0]|(simp only [i64_w, i32_w]; rw [c18b0])|skip)
      by_cases c19 : (l0.length : Int) > 200
      ·rw [if_pos c19] at H
       have c19b0 : decide (200 < (l0.length : Int)) = true := decide_eq_true c19
       have c19b1 : decide (200 < l0.length) = true := decide_eq_true (by omega)
       clear c19
       have H' := aM H
       clear H
       go_wp2
       go_meet
       case rel => exact ⟨_, (true), (by first|rfl|(simp; done)|(simp [*]; done)), H', ⟨by have := HK1.out; first|omega|exact Nat.le_refl _⟩, ⟨by (with_reducible repeat (first|apply Kd.R_alloc|apply Kd.R_drewN|apply Kd.R_drew)); exact HO_7.out⟩, ⟨by (with_reducible repeat (first|apply Kd.R_alloc|apply Kd.R_drewN|apply Kd.R_drew)); exact HO304.out⟩, ⟨by repeat (first|(with_reducible first|exact HB.out|apply lA|apply lN|apply lD)|exact HB.out)⟩⟩
      ·rw [if_neg c19] at H
       have c19b0 : decide (200 < (l0.length : Int)) = false := decide_eq_false c19
       have c19b1 : decide (200 < l0.length) = false := decide_eq_false (by omega)
       clear c19
       have H' := aM H
       clear H
       go_wp2
       go_meet
       case rel => exact ⟨_, (decide ((wrap64 ((a1.size : Int) + (a2.size : Int))) > 40)), (by first|rfl|(simp; done)|(simp [*]; done)), H', ⟨by have := HK1.out; first|omega|exact Nat.le_refl _⟩, ⟨by (with_reducible repeat (first|apply Kd.R_alloc|apply Kd.R_drewN|apply Kd.R_drew)); exact HO_7.out⟩, ⟨by (with_reducible repeat (first|apply Kd.R_alloc|apply Kd.R_drewN|apply Kd.R_drew)); exact HO304.out⟩, ⟨by repeat (first|(with_reducible first|exact HB.out|apply lA|apply lN|apply lD)|exact HB.out)⟩⟩
     ·rw [if_neg c18] at H
      have c18b0 : (t302 == 0) = false := beq_eq_false_iff_ne.mpr c18
      have c18b1 : (t302 != 0) = true := bne_iff_ne.mpr c18
      (first|rw [c18b0]|(simp only [i64_w, i32_w]; rw [c18b0])|skip)
      have H' := aM H
      clear H
      go_wp2
      go_meet
      case rel => exact ⟨_, (true), (by first|rfl|(simp; done)|(simp [*]; done)), H', ⟨by have := HK1.out; first|omega|exact Nat.le_refl _⟩, ⟨by (with_reducible repeat (first|apply Kd.R_alloc|apply Kd.R_drewN|apply Kd.R_drew)); exact HO_7.out⟩, ⟨by (with_reducible repeat (first|apply Kd.R_alloc|apply Kd.R_drewN|apply Kd.R_drew)); exact HO304.out⟩, ⟨by repeat (first|(with_reducible first|exact HB.out|apply lA|apply lN|apply lD)|exact HB.out)⟩⟩
    case rest =>
     clear HC15
     obtain ⟨kq, x50_14, rfl, HA, HJ14, HO_7, HO_9, HB⟩ := hcut
     cases kq with
    |zero => exact absurd HA.out (by simp [emenderlaw26_FindSelf.j1])
    |succ kj14 =>
      have H := HA.out
      clear HA
      simp only [emenderlaw26_FindSelf.j1] at H
      by_cases c20 : x50_14 = true
      ·subst c20
       have H1 : ((emenderlaw26_awake.f).bind fun t305 => (some t305)) = some r := by rw [if_pos rfl] at H; exact H
       clear H
       have H := H1
       clear H1
       replace H := Option.bind_eq_some_iff.mp H
       obtain ⟨t305, A210, H⟩ := H
       replace H : (some t305) = some r := H
       have A21 := aM A210
       clear A210
       obtain rfl := Option.some.inj H
       go_wp2_with (first|((with_reducible refine gate_callee (f := 7) rfl ?_); refine goesL_ (some 51) rfl rfl Tryd.func7 (by kernel_rfl) rfl #[] rfl (by (try simp only [List.map_toArray, List.map_cons, List.map_nil]); first|done|rfl|(simp only [List.length_drop, List.length_take]; rfl)) ?_; (with_reducible refine (emenderlaw26_awake.calls  t305 _ A21.out).mono ?_); rintro e w22 ⟨rfl, hb⟩; refine ⟨_, rfl, ?_⟩; replace HO_7 := aM (Kd.R_below (by (with_reducible repeat (first|apply Kd.R_alloc|apply Kd.R_drewN|apply Kd.R_drew)); exact HO_7.out) hb); replace HO_9 := aM (Kd.R_below (by (with_reducible repeat (first|apply Kd.R_alloc|apply Kd.R_drewN|apply Kd.R_drew)); exact HO_9.out) hb); replace HB := aM (below_step (by repeat (first|(with_reducible first|exact HB.out|apply lA|apply lN|apply lD)|exact HB.out)) hb); (try clear hb); (try clear hb2); (try clear hk); (try clear hi)))
       go_ret
       exact ⟨by first|rfl|(simp [errW_none, errW_some] <;> rfl)|(simp [*, errW_none, errW_some] <;> rfl), by repeat (first|(with_reducible first|exact HB.out|apply lA|apply lN|apply lD)|exact HB.out)⟩
      ·replace c20 := Bool.eq_false_iff.mpr c20
       subst c20
       have H1 : ((find_Replace.f kj14 x7_1 t301 a1).bind fun bt306 => (if bt306.2 = 0 then ((emenderlaw26_alike.f kj14 x7_1 bt306.1).bind fun t310 => (emenderlaw26_FindSelf.j2 kj14 a2 x7_1 t301 (!t310))) else (emenderlaw26_FindSelf.j2 kj14 a2 x7_1 t301 true))) = some r := by rw [if_neg (show ¬ (false = true) by decide)] at H; exact H
       clear H
       have H := H1
       clear H1
       replace H := Option.bind_eq_some_iff.mp H
       obtain ⟨⟨t306, t307⟩, A230, H⟩ := H
       replace H : (if t307 = 0 then ((emenderlaw26_alike.f kj14 x7_1 t306).bind fun t310 => (emenderlaw26_FindSelf.j2 kj14 a2 x7_1 t301 (!t310))) else (emenderlaw26_FindSelf.j2 kj14 a2 x7_1 t301 true)) = some r := H
       have A23 := aM A230
       clear A230
       have HC24 := aM H
       clear H
       obtain ⟨Ao25, co25, eo25⟩ := Kd.R_slice HO_9.out
       subst eo25
       go_upto_region 10 with (first|((with_reducible refine gate_callee (f := 13) rfl ?_); refine goesL_ (some 56) rfl rfl Tryd.func13 (by kernel_rfl) rfl #[.slice Ao16 x7_1.length co16, .slice Ao25 t301.length co25, .string a1] rfl (by (try simp only [List.map_toArray, List.map_cons, List.map_nil]); first|done|rfl|(simp only [List.length_drop, List.length_take]; rfl)) ?_; (with_reducible refine (find_Replace.calls kj14 _ _ x7_1 _ _ t301 a1 t306 t307 _ ?side1 ?side2 ?side3 ?side4 A23.out).mono ?_); (case side1 => repeat (first|exact (Kd.R_reads' HO_7.out).2.2|(with_reducible refine Kd.C_alloc ?_ _)|(with_reducible refine Kd.C_drewN ?_ _)|(with_reducible refine Kd.C_drew ?_))); (case side2 => exact (Kd.R_reads' HO_7.out).2.1); (case side3 => repeat (first|exact (Kd.R_reads' HO_9.out).2.2|(with_reducible refine Kd.C_alloc ?_ _)|(with_reducible refine Kd.C_drewN ?_ _)|(with_reducible refine Kd.C_drew ?_))); (case side4 => exact (Kd.R_reads' HO_9.out).2.1); rintro e w26 ⟨v308, rfl, ho0, hb⟩; refine ⟨_, rfl, ?_⟩; replace HO_9 := aM (Kd.R_below (by (with_reducible repeat (first|apply Kd.R_alloc|apply Kd.R_drewN|apply Kd.R_drew)); exact HO_9.out) hb); replace HO309 := aM (Kd.R_lower (Kd.R_new' ho0 (Kd.R_lt (by (with_reducible repeat (first|apply Kd.R_alloc|apply Kd.R_drewN|apply Kd.R_drew)); exact HO_7.out))) (below_size (by repeat (first|(with_reducible first|exact HB.out|apply lA|apply lN|apply lD)|exact HB.out)))); replace HO_7 := aM (Kd.R_elder' (by (with_reducible repeat (first|apply Kd.R_alloc|apply Kd.R_drewN|apply Kd.R_drew)); exact HO_7.out) (Kd.R_base ho0) hb); replace HB := aM (below_step (by repeat (first|(with_reducible first|exact HB.out|apply lA|apply lN|apply lD)|exact HB.out)) hb); (try clear hb); (try clear hb2); (try clear hk); (try clear hi); (try clear ho0)))
       (try simp only [Act.put, List.setIfInBounds_toArray, List.set_cons_zero, List.set_cons_succ])
       go_cut [66] (fun v66 wc => ∃ (kq : Nat) (x66_23 : Bool), v66 = .bool x66_23 ∧ Aside0 (emenderlaw26_FindSelf.j2 kq a2 x7_1 t301 x66_23 = some r) ∧ Aside0 (kq ≤ kj14) ∧ Aside0 (Kd.R k48 48 wc w.heap.size (fun _ => True) (.slice Ao16 x7_1.length co16) x7_1) ∧ Aside0 (Kd.R k28 28 wc w.heap.size (fun _ => True) (.slice Ao25 t301.length co25) t301) ∧ Aside0 (Below w.heap.size w wc))
       case first =>
        have H := HC24.out
        clear HC24
        by_cases c27 : t307 = 0
        ·rw [if_pos c27] at H
         have c27b0 : (t307 == 0) = true := beq_iff_eq.mpr c27
         have c27b1 : (t307 != 0) = false := bne_eq_false_iff_eq.mpr c27
         clear c27
         (first|rw [c27b0]|(simp only [i64_w, i32_w]; rw [c27b0])|skip)
         replace H := Option.bind_eq_some_iff.mp H
         obtain ⟨t310, A280, H⟩ := H
         replace H : (emenderlaw26_FindSelf.j2 kj14 a2 x7_1 t301 (!t310)) = some r := H
         have A28 := aM A280
         clear A280
         have H' := aM H
         clear H
         obtain ⟨Ao29, co29, eo29⟩ := Kd.R_slice HO309.out
         subst eo29
         go_wp2_with (first|(go_at_call 15; (with_reducible refine (emenderlaw26_alike.calls kj14 _ _ x7_1 _ _ t306 t310 _ ?side1 ?side2 ?side3 ?side4 A28.out).mono ?_); (case side1 => repeat (first|exact (Kd.R_reads' HO_7.out).2.2|(with_reducible refine Kd.C_alloc ?_ _)|(with_reducible refine Kd.C_drewN ?_ _)|(with_reducible refine Kd.C_drew ?_))); (case side2 => exact (Kd.R_reads' HO_7.out).2.1); (case side3 => repeat (first|exact (Kd.R_reads' HO309.out).2.2|(with_reducible refine Kd.C_alloc ?_ _)|(with_reducible refine Kd.C_drewN ?_ _)|(with_reducible refine Kd.C_drew ?_))); (case side4 => exact (Kd.R_reads' HO309.out).2.1); rintro e w' ⟨rfl, ⟨nd, rfl⟩⟩))
         go_meet
         case rel => exact ⟨_, (!t310), (by first|rfl|(simp; done)|(simp [*]; done)), H', ⟨by have := HK1.out; have := HJ14.out; first|omega|exact Nat.le_refl _⟩, ⟨by (with_reducible repeat (first|apply Kd.R_alloc|apply Kd.R_drewN|apply Kd.R_drew)); exact Kd.R_mono HO_7.out (fun _ hk => trivial)⟩, ⟨by (with_reducible repeat (first|apply Kd.R_alloc|apply Kd.R_drewN|apply Kd.R_drew)); exact HO_9.out⟩, ⟨by repeat (first|(with_reducible first|exact HB.out|apply lA|apply lN|apply lD)|exact HB.out)⟩⟩
        ·rw [if_neg c27] at H
         have c27b0 : (t307 == 0) = false := beq_eq_false_iff_ne.mpr c27
         have c27b1 : (t307 != 0) = true := bne_iff_ne.mpr c27
         (first|rw [c27b0]|(simp only [i64_w, i32_w]; rw [c27b0])|skip)
         have H' := aM H
         clear H
         go_wp2
         go_meet
         case rel => exact ⟨_, (true), (by first|rfl|(simp; done)|(simp [*]; done)), H', ⟨by have := HK1.out; have := HJ14.out; first|omega|exact Nat.le_refl _⟩, ⟨by (with_reducible repeat (first|apply Kd.R_alloc|apply Kd.R_drewN|apply Kd.R_drew)); exact Kd.R_mono HO_7.out (fun _ hk => trivial)⟩, ⟨by (with_reducible repeat (first|apply Kd.R_alloc|apply Kd.R_drewN|apply Kd.R_drew)); exact HO_9.out⟩, ⟨by repeat (first|(with_reducible first|exact HB.out|apply lA|apply lN|apply lD)|exact HB.out)⟩⟩
       case rest =>
        clear HC24
        obtain ⟨kq, x66_23, rfl, HA, HJ23, HO_7, HO_9, HB⟩ := hcut
        cases kq with
       |zero => exact absurd HA.out (by simp [emenderlaw26_FindSelf.j2])
       |succ kj23 =>
         have H := HA.out
         clear HA
         simp only [emenderlaw26_FindSelf.j2] at H
         by_cases c30 : x66_23 = true
         ·subst c30
          have H1 : (none) = some r := by rw [if_pos rfl] at H; exact H
          clear H
          have H := H1
          clear H1
          exact absurd H (by simp)
         ·replace c30 := Bool.eq_false_iff.mpr c30
          subst c30
          have H1 : ((find_Replace.f kj23 x7_1 t301 a2).bind fun bt311 => (if bt311.2 = 0 then (emenderlaw26_FindSelf.j3 kj23 a2 t301 bt311.1 (a2.toList == ([] : List UInt8))) else (emenderlaw26_FindSelf.j3 kj23 a2 t301 bt311.1 true))) = some r := by rw [if_neg (show ¬ (false = true) by decide)] at H; exact H
          clear H
          have H := H1
          clear H1
          replace H := Option.bind_eq_some_iff.mp H
          obtain ⟨⟨t311, t312⟩, A310, H⟩ := H
          replace H : (if t312 = 0 then (emenderlaw26_FindSelf.j3 kj23 a2 t301 t311 (a2.toList == ([] : List UInt8))) else (emenderlaw26_FindSelf.j3 kj23 a2 t301 t311 true)) = some r := H
          have A31 := aM A310
          clear A310
          have HC32 := aM H
          clear H
          go_upto_region 13 with (first|((with_reducible refine gate_callee (f := 13) rfl ?_); refine goesL_ (some 71) rfl rfl Tryd.func13 (by kernel_rfl) rfl #[.slice Ao16 x7_1.length co16, .slice Ao25 t301.length co25, .string a2] rfl (by (try simp only [List.map_toArray, List.map_cons, List.map_nil]); first|done|rfl|(simp only [List.length_drop, List.length_take]; rfl)) ?_; (with_reducible refine (find_Replace.calls kj23 _ _ x7_1 _ _ t301 a2 t311 t312 _ ?side1 ?side2 ?side3 ?side4 A31.out).mono ?_); (case side1 => repeat (first|exact (Kd.R_reads' HO_7.out).2.2|(with_reducible refine Kd.C_alloc ?_ _)|(with_reducible refine Kd.C_drewN ?_ _)|(with_reducible refine Kd.C_drew ?_))); (case side2 => exact (Kd.R_reads' HO_7.out).2.1); (case side3 => repeat (first|exact (Kd.R_reads' HO_9.out).2.2|(with_reducible refine Kd.C_alloc ?_ _)|(with_reducible refine Kd.C_drewN ?_ _)|(with_reducible refine Kd.C_drew ?_))); (case side4 => exact (Kd.R_reads' HO_9.out).2.1); rintro e w33 ⟨v313, rfl, ho0, hb⟩; refine ⟨_, rfl, ?_⟩; replace HO_9 := aM (Kd.R_below (by (with_reducible repeat (first|apply Kd.R_alloc|apply Kd.R_drewN|apply Kd.R_drew)); exact HO_9.out) hb); replace HO314 := aM (Kd.R_lower (Kd.R_new' ho0 (Kd.R_lt (by (with_reducible repeat (first|apply Kd.R_alloc|apply Kd.R_drewN|apply Kd.R_drew)); exact HO_7.out))) (below_size (by repeat (first|(with_reducible first|exact HB.out|apply lA|apply lN|apply lD)|exact HB.out)))); replace HO_7 := aM (Kd.R_elder' (by (with_reducible repeat (first|apply Kd.R_alloc|apply Kd.R_drewN|apply Kd.R_drew)); exact HO_7.out) (Kd.R_base ho0) hb); replace HB := aM (below_step (by repeat (first|(with_reducible first|exact HB.out|apply lA|apply lN|apply lD)|exact HB.out)) hb); (try clear hb); (try clear hb2); (try clear hk); (try clear hi); (try clear ho0)))
          (try simp only [Act.put, List.setIfInBounds_toArray, List.set_cons_zero, List.set_cons_succ])
          go_cut [79] (fun v79 wc => ∃ (kq : Nat) (x79_31 : Bool), v79 = .bool x79_31 ∧ Aside0 (emenderlaw26_FindSelf.j3 kq a2 t301 t311 x79_31 = some r) ∧ Aside0 (kq ≤ kj23) ∧ Aside0 (Kd.R k28 28 wc w.heap.size (fun _ => True) (.slice Ao25 t301.length co25) t301) ∧ Aside0 (Kd.R k48 48 wc w.heap.size (fun _ => True) v313 t311) ∧ Aside0 (Below w.heap.size w wc))
          case first =>
           have H := HC32.out
           clear HC32
           by_cases c34 : t312 = 0
           ·rw [if_pos c34] at H
            have c34b0 : (t312 == 0) = true := beq_iff_eq.mpr c34
            have c34b1 : (t312 != 0) = false := bne_eq_false_iff_eq.mpr c34
            clear c34
            (first|rw [c34b0]|(simp only [i64_w, i32_w]; rw [c34b0])|skip)
            have H' := aM H
            clear H
            go_wp2
            go_meet
            case rel => exact ⟨_, ((a2.toList == ([] : List UInt8))), (by first|rfl|(simp; done)|(simp [*]; done)), H', ⟨by have := HK1.out; have := HJ14.out; have := HJ23.out; first|omega|exact Nat.le_refl _⟩, ⟨by (with_reducible repeat (first|apply Kd.R_alloc|apply Kd.R_drewN|apply Kd.R_drew)); exact HO_9.out⟩, ⟨by (with_reducible repeat (first|apply Kd.R_alloc|apply Kd.R_drewN|apply Kd.R_drew)); exact Kd.R_mono HO314.out (fun _ hk => trivial)⟩, ⟨by repeat (first|(with_reducible first|exact HB.out|apply lA|apply lN|apply lD)|exact HB.out)⟩⟩
           ·rw [if_neg c34] at H
            have c34b0 : (t312 == 0) = false := beq_eq_false_iff_ne.mpr c34
            have c34b1 : (t312 != 0) = true := bne_iff_ne.mpr c34
            (first|rw [c34b0]|(simp only [i64_w, i32_w]; rw [c34b0])|skip)
            have H' := aM H
            clear H
            go_wp2
            go_meet
            case rel => exact ⟨_, (true), (by first|rfl|(simp; done)|(simp [*]; done)), H', ⟨by have := HK1.out; have := HJ14.out; have := HJ23.out; first|omega|exact Nat.le_refl _⟩, ⟨by (with_reducible repeat (first|apply Kd.R_alloc|apply Kd.R_drewN|apply Kd.R_drew)); exact HO_9.out⟩, ⟨by (with_reducible repeat (first|apply Kd.R_alloc|apply Kd.R_drewN|apply Kd.R_drew)); exact Kd.R_mono HO314.out (fun _ hk => trivial)⟩, ⟨by repeat (first|(with_reducible first|exact HB.out|apply lA|apply lN|apply lD)|exact HB.out)⟩⟩
          case rest =>
           clear HC32
           obtain ⟨kq, x79_31, rfl, HA, HJ31, HO_9, HO_13, HB⟩ := hcut
           cases kq with
          |zero => exact absurd HA.out (by simp [emenderlaw26_FindSelf.j3])
          |succ kj31 =>
            have H := HA.out
            clear HA
            simp only [emenderlaw26_FindSelf.j3] at H
            by_cases c35 : x79_31 = true
            ·subst c35
             have H1 : ((emenderlaw26_awake.f).bind fun t315 => (some t315)) = some r := by rw [if_pos rfl] at H; exact H
             clear H
             have H := H1
             clear H1
             replace H := Option.bind_eq_some_iff.mp H
             obtain ⟨t315, A360, H⟩ := H
             replace H : (some t315) = some r := H
             have A36 := aM A360
             clear A360
             obtain rfl := Option.some.inj H
             go_wp2_with (first|((with_reducible refine gate_callee (f := 7) rfl ?_); refine goesL_ (some 80) rfl rfl Tryd.func7 (by kernel_rfl) rfl #[] rfl (by (try simp only [List.map_toArray, List.map_cons, List.map_nil]); first|done|rfl|(simp only [List.length_drop, List.length_take]; rfl)) ?_; (with_reducible refine (emenderlaw26_awake.calls  t315 _ A36.out).mono ?_); rintro e w37 ⟨rfl, hb⟩; refine ⟨_, rfl, ?_⟩; replace HO_9 := aM (Kd.R_below (by (with_reducible repeat (first|apply Kd.R_alloc|apply Kd.R_drewN|apply Kd.R_drew)); exact HO_9.out) hb); replace HO_13 := aM (Kd.R_below (by (with_reducible repeat (first|apply Kd.R_alloc|apply Kd.R_drewN|apply Kd.R_drew)); exact HO_13.out) hb); replace HB := aM (below_step (by repeat (first|(with_reducible first|exact HB.out|apply lA|apply lN|apply lD)|exact HB.out)) hb); (try clear hb); (try clear hb2); (try clear hk); (try clear hi)))
             go_ret
             exact ⟨by first|rfl|(simp [errW_none, errW_some] <;> rfl)|(simp [*, errW_none, errW_some] <;> rfl), by repeat (first|(with_reducible first|exact HB.out|apply lA|apply lN|apply lD)|exact HB.out)⟩
            ·replace c35 := Bool.eq_false_iff.mpr c35
             subst c35
             have H1 : ((find_Find.f t311 a2 false false).bind fun bt316 => (if bt316.2 = 0 then (if (t301.length : Int) = 0 then ((emenderlaw26_awake.f).bind fun t320 => (some t320)) else (if (bt316.1.length : Int) ≥ 1 then ((emenderlaw26_awake.f).bind fun t321 => (some t321)) else (none))) else (none))) = some r := by rw [if_neg (show ¬ (false = true) by decide)] at H; exact H
             clear H
             have H := H1
             clear H1
             replace H := Option.bind_eq_some_iff.mp H
             obtain ⟨⟨t316, t317⟩, A380, H⟩ := H
             replace H : (if t317 = 0 then (if (t301.length : Int) = 0 then ((emenderlaw26_awake.f).bind fun t320 => (some t320)) else (if (t316.length : Int) ≥ 1 then ((emenderlaw26_awake.f).bind fun t321 => (some t321)) else (none))) else (none)) = some r := H
             have A38 := aM A380
             clear A380
             replace H := ifS H; obtain ⟨c39, H⟩ := H
             have c39b0 : (t317 == 0) = true := beq_iff_eq.mpr c39
             have c39b1 : (t317 != 0) = false := bne_eq_false_iff_eq.mpr c39
             clear c39
             by_cases c40 : (t301.length : Int) = 0
             ·rw [if_pos c40] at H
              have c40b0 : ((t301.length : Int) == 0) = true := beq_iff_eq.mpr c40
              have c40b1 : ((t301.length : Int) != 0) = false := bne_eq_false_iff_eq.mpr c40
              clear c40
              replace H := Option.bind_eq_some_iff.mp H
              obtain ⟨t320, A410, H⟩ := H
              replace H : (some t320) = some r := H
              have A41 := aM A410
              clear A410
              obtain rfl := Option.some.inj H
              obtain ⟨Ao42, co42, eo42⟩ := Kd.R_slice HO_13.out
              subst eo42
              go_wp2_with (first|((with_reducible refine gate_callee (f := 8) rfl ?_); refine goesL_ (some 84) rfl rfl Tryd.func8 (by kernel_rfl) rfl #[.slice Ao42 t311.length co42, .string a2, .bool false, .bool false] rfl (by (try simp only [List.map_toArray, List.map_cons, List.map_nil]); first|done|rfl|(simp only [List.length_drop, List.length_take]; rfl)) ?_; (with_reducible refine (find_Find.calls _ _ t311 a2 false false t316 t317 _ ?side1 ?side2 A38.out).mono ?_); (case side1 => repeat (first|exact (Kd.R_reads' HO_13.out).2.2|(with_reducible refine Kd.C_alloc ?_ _)|(with_reducible refine Kd.C_drewN ?_ _)|(with_reducible refine Kd.C_drew ?_))); (case side2 => exact (Kd.R_reads' HO_13.out).2.1); rintro e w43 ⟨v318, rfl, ho0, hb⟩; refine ⟨_, rfl, ?_⟩; replace HO_13 := aM (Kd.R_below (by (with_reducible repeat (first|apply Kd.R_alloc|apply Kd.R_drewN|apply Kd.R_drew)); exact HO_13.out) hb); replace HO319 := aM (Kd.R_lower (Kd.R_new' ho0 (Kd.R_lt (by (with_reducible repeat (first|apply Kd.R_alloc|apply Kd.R_drewN|apply Kd.R_drew)); exact HO_9.out))) (below_size (by repeat (first|(with_reducible first|exact HB.out|apply lA|apply lN|apply lD)|exact HB.out)))); replace HO_9 := aM (Kd.R_elder' (by (with_reducible repeat (first|apply Kd.R_alloc|apply Kd.R_drewN|apply Kd.R_drew)); exact HO_9.out) (Kd.R_base ho0) hb); replace HB := aM (below_step (by repeat (first|(with_reducible first|exact HB.out|apply lA|apply lN|apply lD)|exact HB.out)) hb); (try clear hb); (try clear hb2); (try clear hk); (try clear hi); (try clear ho0))|(go_at_call 7; (with_reducible refine (emenderlaw26_awake.calls  t320 _ A41.out).mono ?_); rintro e w44 ⟨rfl, hb⟩; replace HO_9 := aM (Kd.R_below (by (with_reducible repeat (first|apply Kd.R_alloc|apply Kd.R_drewN|apply Kd.R_drew)); exact HO_9.out) hb); replace HO_13 := aM (Kd.R_below (by (with_reducible repeat (first|apply Kd.R_alloc|apply Kd.R_drewN|apply Kd.R_drew)); exact HO_13.out) hb); replace HO319 := aM (Kd.R_below (by (with_reducible repeat (first|apply Kd.R_alloc|apply Kd.R_drewN|apply Kd.R_drew)); exact HO319.out) hb); replace HB := aM (below_step (by repeat (first|(with_reducible first|exact HB.out|apply lA|apply lN|apply lD)|exact HB.out)) hb); (try clear hb); (try clear hb2); (try clear hk); (try clear hi)))
              go_ret
              exact ⟨by first|rfl|(simp [errW_none, errW_some] <;> rfl)|(simp [*, errW_none, errW_some] <;> rfl), by repeat (first|(with_reducible first|exact HB.out|apply lA|apply lN|apply lD)|exact HB.out)⟩
             ·rw [if_neg c40] at H
              have c40b0 : ((t301.length : Int) == 0) = false := beq_eq_false_iff_ne.mpr c40
              have c40b1 : ((t301.length : Int) != 0) = true := bne_iff_ne.mpr c40
              have c40b2 : ¬ (t301 = []) := fun h_ => c40 (by rw [h_]; rfl)
              replace H := ifS H; obtain ⟨c45, H⟩ := H
              have c45b0 : decide (1 ≤ (t316.length : Int)) = true := decide_eq_true c45
              have c45b1 : decide (1 ≤ t316.length) = true := decide_eq_true (by omega)
              clear c45
              replace H := Option.bind_eq_some_iff.mp H
              obtain ⟨t321, A460, H⟩ := H
              replace H : (some t321) = some r := H
              have A46 := aM A460
              clear A460
              obtain rfl := Option.some.inj H
              obtain ⟨Ao47, co47, eo47⟩ := Kd.R_slice HO_13.out
              subst eo47
              go_wp2_with (first|((with_reducible refine gate_callee (f := 8) rfl ?_); refine goesL_ (some 84) rfl rfl Tryd.func8 (by kernel_rfl) rfl #[.slice Ao47 t311.length co47, .string a2, .bool false, .bool false] rfl (by (try simp only [List.map_toArray, List.map_cons, List.map_nil]); first|done|rfl|(simp only [List.length_drop, List.length_take]; rfl)) ?_; (with_reducible refine (find_Find.calls _ _ t311 a2 false false t316 t317 _ ?side1 ?side2 A38.out).mono ?_); (case side1 => repeat (first|exact (Kd.R_reads' HO_13.out).2.2|(with_reducible refine Kd.C_alloc ?_ _)|(with_reducible refine Kd.C_drewN ?_ _)|(with_reducible refine Kd.C_drew ?_))); (case side2 => exact (Kd.R_reads' HO_13.out).2.1); rintro e w48 ⟨v318, rfl, ho0, hb⟩; refine ⟨_, rfl, ?_⟩; replace HO_13 := aM (Kd.R_below (by (with_reducible repeat (first|apply Kd.R_alloc|apply Kd.R_drewN|apply Kd.R_drew)); exact HO_13.out) hb); replace HO319 := aM (Kd.R_lower (Kd.R_new' ho0 (Kd.R_lt (by (with_reducible repeat (first|apply Kd.R_alloc|apply Kd.R_drewN|apply Kd.R_drew)); exact HO_9.out))) (below_size (by repeat (first|(with_reducible first|exact HB.out|apply lA|apply lN|apply lD)|exact HB.out)))); replace HO_9 := aM (Kd.R_elder' (by (with_reducible repeat (first|apply Kd.R_alloc|apply Kd.R_drewN|apply Kd.R_drew)); exact HO_9.out) (Kd.R_base ho0) hb); replace HB := aM (below_step (by repeat (first|(with_reducible first|exact HB.out|apply lA|apply lN|apply lD)|exact HB.out)) hb); (try clear hb); (try clear hb2); (try clear hk); (try clear hi); (try clear ho0); obtain ⟨Ao49, co49, eo49⟩ := Kd.R_slice HO319.out; subst eo49)|(go_at_call 7; (with_reducible refine (emenderlaw26_awake.calls  t321 _ A46.out).mono ?_); rintro e w50 ⟨rfl, hb⟩; replace HO_9 := aM (Kd.R_below (by (with_reducible repeat (first|apply Kd.R_alloc|apply Kd.R_drewN|apply Kd.R_drew)); exact HO_9.out) hb); replace HO_13 := aM (Kd.R_below (by (with_reducible repeat (first|apply Kd.R_alloc|apply Kd.R_drewN|apply Kd.R_drew)); exact HO_13.out) hb); replace HO319 := aM (Kd.R_below (by (with_reducible repeat (first|apply Kd.R_alloc|apply Kd.R_drewN|apply Kd.R_drew)); exact HO319.out) hb); replace HB := aM (below_step (by repeat (first|(with_reducible first|exact HB.out|apply lA|apply lN|apply lD)|exact HB.out)) hb); (try clear hb); (try clear hb2); (try clear hk); (try clear hi)))
              go_ret
              exact ⟨by first|rfl|(simp [errW_none, errW_some] <;> rfl)|(simp [*, errW_none, errW_some] <;> rfl), by repeat (first|(with_reducible first|exact HB.out|apply lA|apply lN|apply lD)|exact HB.out)⟩
end Go.Proofs.YtfcfomconcoimaaDoor.PFa
