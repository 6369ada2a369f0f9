-- Written for this claim by a program (printed texts under one roof).
import Derived.Test.YtfcfomconcoimaaDoorPFax0
import Derived.Test.YtfcfomconcoimaaDoorPFay2
namespace Go.Proofs.YtfcfomconcoimaaDoor.PFa
open Go.RowKit Go.Proofs.YtfcfomconcoimaaDoorW.PrintWords Go.Proofs.YtfcfomconcoimaaDoorW.PrintLast Go.Proofs.YtfcfomconcoimaaDoorW.PrintMore
attribute [local go_sem] max2_int min2_int max_two min_two max_three min_three max_four min_four
set_option linter.unusedVariables false
set_option linter.unusedSimpArgs false
mutual
def step_do.l0 : Nat → List (S48) → Int → Int → Int → Int → Int → Int → Int → List (S48) → Int → Option ((List (S48)))
|0, _, _, _, _, _, _, _, _, _, _ => none
|k + 1, x6, x7, x201000, x201001, x201002, x201003, x201004, x201005, x201006, x201007 => if x7 < x201002 then (if 0 ≤ x7 then (if x7 < (x6.length : Int) then (if ((rd_T48 x6 x7).f0) = 0 then ((mark_Take.f k ((rd_T48 x6 x7).f3) x201007).bind fun bt256 => (step_do.l0 k (x6.set (x7 : Int).toNat (⟨(rd_T48 x6 x7).f0, (rd_T48 x6 x7).f1, (rd_T48 x6 x7).f2, bt256.1⟩ : S48)) (wrap64 (x7 + 1)) x201000 x201001 x201002 x201003 x201004 x201005 x201006 x201007)) else (step_do.l0 k x6 (wrap64 (x7 + 1)) x201000 x201001 x201002 x201003 x201004 x201005 x201006 x201007)) else (none)) else (none)) else (some x6)
def step_do.l1 : Nat → List (S48) → Int → Int → Int → Int → Int → Int → Int → List (S48) → Int → Option ((List (S48)))
|0, _, _, _, _, _, _, _, _, _, _ => none
|k + 1, x6, x7, x201000, x201001, x201002, x201003, x201004, x201005, x201006, x201007 => if x7 < x201002 then (if 0 ≤ x7 then (if x7 < (x6.length : Int) then (if ((rd_T48 x6 x7).f0) = 0 then ((mark_Add.f k ((rd_T48 x6 x7).f3) x201007).bind fun bt267 => (step_do.l1 k (x6.set (x7 : Int).toNat (⟨(rd_T48 x6 x7).f0, (rd_T48 x6 x7).f1, (rd_T48 x6 x7).f2, bt267.1⟩ : S48)) (wrap64 (x7 + 1)) x201000 x201001 x201002 x201003 x201004 x201005 x201006 x201007)) else (step_do.l1 k x6 (wrap64 (x7 + 1)) x201000 x201001 x201002 x201003 x201004 x201005 x201006 x201007)) else (none)) else (none)) else (some x6)
end
def step_do.f (k : Nat) (l0 : List (S48)) (a1_0 : Int) (a1_1 : Int) (a1_2 : Int) (a1_3 : Int) (a1_4 : Int) (a1_5 : Int) (l1_6 : List (S48)) (a1_7 : Int) : Option ((List (S48))) := if a1_0 = 0 then (if 0 ≤ a1_1 then (if a1_1 ≤ (l0.length : Int) then (if 0 ≤ a1_2 then (if a1_2 ≤ (l0.length : Int) then ((step_tokens.f (([(l0.take (a1_1 : Int).toNat), l1_6, (l0.drop (a1_2 : Int).toNat)] : List (List (S48))))).bind fun t214 => (some t214)) else (none)) else (none)) else (none)) else (none)) else (if a1_0 = 1 then (if 0 ≤ a1_1 then (if a1_1 ≤ (l0.length : Int) then (if 0 ≤ a1_5 then (if a1_5 ≤ (l1_6.length : Int) then (if 0 ≤ a1_3 then (if a1_3 ≤ a1_4 then (if a1_4 ≤ (l0.length : Int) then (if 0 ≤ a1_2 then (if a1_2 ≤ (l0.length : Int) then ((step_tokens.f (([(l0.take (a1_1 : Int).toNat), (l1_6.take (a1_5 : Int).toNat), ((l0.take (a1_4 : Int).toNat).drop (a1_3 : Int).toNat), (l1_6.drop (a1_5 : Int).toNat), (l0.drop (a1_2 : Int).toNat)] : List (List (S48))))).bind fun t245 => (some t245)) else (none)) else (none)) else (none)) else (none)) else (none)) else (none)) else (none)) else (none)) else (none)) else (if a1_0 = 3 then ((step_tokens.f (([l0] : List (List (S48))))).bind fun t251 => (step_do.l0 k t251 a1_1 a1_0 a1_1 a1_2 a1_3 a1_4 a1_5 l1_6 a1_7)) else ((step_tokens.f (([l0] : List (List (S48))))).bind fun t262 => (step_do.l1 k t262 a1_1 a1_0 a1_1 a1_2 a1_3 a1_4 a1_5 l1_6 a1_7))))
def step_do.T3 : Bool × List (List Nat × List Nat) := (true, [([], []), ([], []), ([1], [1]), ([0, 2], [0, 2]), ([], []), ([4], [4]), ([], []), ([], []), ([7], [7]), ([6, 8], [6, 8]), ([3, 5, 9], [3, 5, 9]), ([10], [10]), ([11, 11, 0, 1, 2, 3, 4, 5, 6, 7, 8, 9, 10, 11], [11])])
def step_do.B3 : List Nat := [0, 0, 2, 7, 0, 16, 0, 0, 128, 448, 1023, 2047, 4095]
/-- A call of a function value that is known. -/
theorem step_do.goes {P : Program} {ops : Array Oper} {Q : Exit → Act → World → Prop} {oi : Oper} {N : Option Tmp} {a : Act} {w : World} {K : Act → World → Prop} {f : FuncId} {fn : Func} {ys : Array Operand} {ts : Array TypeId} {x : Operand} (hf : P.funcs[f]? = some fn) (hname : (fn.name == "runtime.NumGoroutine") = false) (hb : fn.body.isSome = true) (args : Array Value)
  (hw : Region.wanted oi (yielded ops a.tmps) = true) (hN : oi.dst = N) (hop : oi.op = .call { callee := .value x, args := ys, argTypes := ts }) (hx : a.eval x = .func (.func f) #[] #[]) (hargs : ys.map a.eval = args)
  (h : Calls P f args w fun e w' => ∃ v, e = .returned v ∧ K (a.put N v) w') : if Region.wanted oi (yielded ops a.tmps) = true then Oper.wp P oi a w K Q else K (a.put N undef) w := by
 refine call_ f args hw hN ?_ h
 have he := enters_ hf hname hb args w
 unfold execOp
 simp [hop, resolve, Deferred.ofValue, invoke, hx, hargs, he]
theorem step_do.tab3 : rtab .any (opsOf Tryd.f43 3) = step_do.T3 := by kernel_rfl
theorem step_do.bits3 : waitsOk step_do.T3.2 step_do.B3 = true := by kernel_rfl
def step_do.T5 : Bool × List (List Nat × List Nat) := (true, [([], []), ([], []), ([1], [1]), ([0, 2], [0, 2]), ([], []), ([4], [4]), ([], []), ([6], [6]), ([5, 7], [5, 7]), ([], []), ([], []), ([10], [10]), ([], []), ([12], [12]), ([9, 11, 13], [9, 11, 13]), ([], []), ([15], [15]), ([], []), ([17], [17]), ([16, 18], [16, 18]), ([], []), ([], []), ([21], [21]), ([20, 22], [20, 22]), ([3, 8, 14, 19, 23], [3, 8, 14, 19, 23]), ([24], [24]), ([25, 25, 0, 1, 2, 3, 4, 5, 6, 7, 8, 9, 10, 11, 12, 13, 14, 15, 16, 17, 18, 19, 20, 21, 22, 23, 24, 25], [25])])
def step_do.B5 : List Nat := [0, 0, 2, 7, 0, 16, 0, 64, 240, 0, 0, 1024, 0, 4096, 15872, 0, 32768, 0, 131072, 491520, 0, 0, 2097152, 7340032, 16777215, 33554431, 67108863]
theorem step_do.tab5 : rtab .any (opsOf Tryd.f43 5) = step_do.T5 := by kernel_rfl
theorem step_do.bits5 : waitsOk step_do.T5.2 step_do.B5 = true := by kernel_rfl
def step_do.T14 : Bool × List (List Nat × List Nat) := (true, [([], []), ([], []), ([], []), ([], []), ([], []), ([3, 4], [3, 4]), ([5], [5]), ([6], [6]), ([], []), ([8], [8]), ([2, 7, 9], [2, 7, 9]), ([10], [10]), ([11], [11]), ([11], [11]), ([0, 1, 0, 1, 2, 3, 4, 5, 6, 7, 8, 9, 10, 11, 12], [0, 1]), ([14, 0, 1, 2, 3, 4, 5, 6, 7, 8, 9, 10, 11, 12], [14]), ([15, 12, 10, 0, 1, 2, 3, 4, 5, 6, 7, 8, 9, 10, 11, 12], [12, 15])])
def step_do.B14 : List Nat := [0, 0, 0, 0, 0, 24, 56, 120, 0, 256, 1020, 2044, 4092, 4092, 8191, 24575, 57343]
theorem step_do.tab14 : rtab .any (opsOf Tryd.f43 14) = step_do.T14 := by kernel_rfl
theorem step_do.bits14 : waitsOk step_do.T14.2 step_do.B14 = true := by kernel_rfl
set_option maxHeartbeats 8000000 in
set_option maxRecDepth 100000 in
theorem step_do.calls (k : Nat) (P0_ : Nat → Prop) (A0 : Option Addr) (c0 : Nat) (l0 : List (S48)) (a1_0 : Int) (a1_1 : Int) (a1_2 : Int) (a1_3 : Int) (a1_4 : Int) (a1_5 : Int) (P1_6_ : Nat → Prop) (A1_6 : Option Addr) (c1_6 : Nat) (l1_6 : List (S48)) (a1_7 : Int) (r : List (S48)) (w : World) (hs0 : Kd.V k48 48 w w.heap.size (fun k_ => P0_ k_) (.slice A0 l0.length c0) l0) (hs1_6 : Kd.V k48 48 w w.heap.size (fun k_ => P1_6_ k_) (.slice A1_6 l1_6.length c1_6) l1_6) (h : step_do.f k l0 a1_0 a1_1 a1_2 a1_3 a1_4 a1_5 l1_6 a1_7 = some r) :
  Calls Tryd.prog 43 #[.slice A0 l0.length c0, .agg #[.int .i64 a1_0, .int .i64 a1_1, .int .i64 a1_2, .int .i64 a1_3, .int .i64 a1_4, .int .i64 a1_5, .slice A1_6 l1_6.length c1_6, .int .i64 a1_7]] w fun e w' => ∃ v0_ : Value, e = .returned (v0_) ∧ Kd.R k48 48 w' w.heap.size (fun k_ => (w.heap.size ≤ k_)) v0_ r ∧ Below w.heap.size w w' := by
 have hu45 := Tryd.underlying45
 have HO0 := aM (show Kd.V k48 48 w w.heap.size (fun k_ => ((P0_ k_ ∨ P1_6_ k_) ∨ w.heap.size ≤ k_)) (.slice A0 l0.length c0) l0 from Kd.V_mono hs0 (fun k_ hk => .inl (.inl hk)))
 have HO1_6 := aM (show Kd.V k48 48 w w.heap.size (fun k_ => ((P0_ k_ ∨ P1_6_ k_) ∨ w.heap.size ≤ k_)) (.slice A1_6 l1_6.length c1_6) l1_6 from Kd.V_mono hs1_6 (fun k_ hk => .inl (.inr hk)))
 have HB := aM (Below.refl w.heap.size w)
 have H : (if a1_0 = 0 then (if 0 ≤ a1_1 then (if a1_1 ≤ (l0.length : Int) then (if 0 ≤ a1_2 then (if a1_2 ≤ (l0.length : Int) then ((step_tokens.f (([(l0.take (a1_1 : Int).toNat), l1_6, (l0.drop (a1_2 : Int).toNat)] : List (List (S48))))).bind fun t214 => (some t214)) else (none)) else (none)) else (none)) else (none)) else (if a1_0 = 1 then (if 0 ≤ a1_1 then (if a1_1 ≤ (l0.length : Int) then (if 0 ≤ a1_5 then (if a1_5 ≤ (l1_6.length : Int) then (if 0 ≤ a1_3 then (if a1_3 ≤ a1_4 then (if a1_4 ≤ (l0.length : Int) then (if 0 ≤ a1_2 then (if a1_2 ≤ (l0.length : Int) then ((step_tokens.f (([(l0.take (a1_1 : Int).toNat), (l1_6.take (a1_5 : Int).toNat), ((l0.take (a1_4 : Int).toNat).drop (a1_3 : Int).toNat), (l1_6.drop (a1_5 : Int).toNat), (l0.drop (a1_2 : Int).toNat)] : List (List (S48))))).bind fun t245 => (some t245)) else (none)) else (none)) else (none)) else (none)) else (none)) else (none)) else (none)) else (none)) else (none)) else (if a1_0 = 3 then ((step_tokens.f (([l0] : List (List (S48))))).bind fun t251 => (step_do.l0 k t251 a1_1 a1_0 a1_1 a1_2 a1_3 a1_4 a1_5 l1_6 a1_7)) else ((step_tokens.f (([l0] : List (List (S48))))).bind fun t262 => (step_do.l1 k t262 a1_1 a1_0 a1_1 a1_2 a1_3 a1_4 a1_5 l1_6 a1_7))))) = some r := h
 clear h
 by_cases c3 : a1_0 = 0
 ·rw [if_pos c3] at H
  have c3b0 : (a1_0 == 0) = true := beq_iff_eq.mpr c3
  have c3b1 : (a1_0 != 0) = false := bne_eq_false_iff_eq.mpr c3
  clear c3
  replace H := ifS H; obtain ⟨c4, H⟩ := H
  have c4b0 := eq_true c4
  have c4b1 : decide (0 ≤ a1_1) = true := decide_eq_true c4
  clear c4
  replace H := ifS H; obtain ⟨c5, H⟩ := H
  have c5b0 := eq_true c5
  have c5b1 : decide (a1_1 ≤ (l0.length : Int)) = true := decide_eq_true c5
  clear c5
  obtain ⟨y201, hy201⟩ : ∃ y_ : List (S48), y_ = (l0.take (a1_1 : Int).toNat) := ⟨_, rfl⟩
  replace H : (if 0 ≤ a1_2 then (if a1_2 ≤ (l0.length : Int) then ((step_tokens.f (([y201, l1_6, (l0.drop (a1_2 : Int).toNat)] : List (List (S48))))).bind fun t214 => (some t214)) else (none)) else (none)) = some r := by first|(rw [hy201]; with_reducible exact H)|(have H2_ := (Option.bind_some _ _).symm.trans H; rw [hy201]; with_reducible exact H2_)|(have H2_ := (Option.bind_some _ _).symm.trans H; with_reducible exact H2_)|with_reducible exact H|(rw [hy201]; exact H)|exact H
  have Ny201 := aM hy201
  clear hy201
  replace H := ifS H; obtain ⟨c6, H⟩ := H
  have c6b0 := eq_true c6
  have c6b1 : decide (0 ≤ a1_2) = true := decide_eq_true c6
  clear c6
  replace H := ifS H; obtain ⟨c7, H⟩ := H
  have c7b0 := eq_true c7
  have c7b1 : decide (a1_2 ≤ (l0.length : Int)) = true := decide_eq_true c7
  clear c7
  obtain ⟨y206, hy206⟩ : ∃ y_ : List (S48), y_ = (l0.drop (a1_2 : Int).toNat) := ⟨_, rfl⟩
  replace H : ((step_tokens.f (([y201, l1_6, y206] : List (List (S48))))).bind fun t214 => (some t214)) = some r := by first|(rw [hy206]; with_reducible exact H)|(have H2_ := (Option.bind_some _ _).symm.trans H; rw [hy206]; with_reducible exact H2_)|(have H2_ := (Option.bind_some _ _).symm.trans H; with_reducible exact H2_)|with_reducible exact H|(rw [hy206]; exact H)|exact H
  have Ny206 := aM hy206
  clear hy206
  obtain ⟨y211, hy211⟩ : ∃ y_ : List (List (S48)), y_ = (([y201, l1_6, y206] : List (List (S48)))) := ⟨_, rfl⟩
  replace H : ((step_tokens.f y211).bind fun t214 => (some t214)) = some r := by first|(rw [hy211]; with_reducible exact H)|(have H2_ := (Option.bind_some _ _).symm.trans H; rw [hy211]; with_reducible exact H2_)|(have H2_ := (Option.bind_some _ _).symm.trans H; with_reducible exact H2_)|with_reducible exact H|(rw [hy211]; exact H)|exact H
  have Ny211 := aM hy211
  clear hy211
  replace H := Option.bind_eq_some_iff.mp H
  obtain ⟨t214, A80, H⟩ := H
  replace H : (some t214) = some r := H
  have A8 := aM A80
  clear A80
  obtain rfl := Option.some.inj H
  go_enter Tryd.func43, Tryd.ntmps43
  try go_wp2_with (first|((with_reducible refine gate_dst (N := 3) rfl ?_); refine box_event ?hg (N := 3) ?hd (cs := #[.int .i64 a1_0, .int .i64 a1_1, .int .i64 a1_2, .int .i64 a1_3, .int .i64 a1_4, .int .i64 a1_5, .slice A1_6 l1_6.length c1_6, .int .i64 a1_7]) (t := 45) ?hr ?_; (case hd => rfl); (case hg => rfl); (case hr => first|(go_simp; done)|(go_simp; rfl)); intro gb200 hg w9 hbox hb; replace HO0 := aM (Kd.V_below (Kd.V_elderB (by (with_reducible repeat (first|apply Kd.V_alloc|apply Kd.V_drewN|apply Kd.V_drew)); exact HO0.out) gb200 (Nat.le_of_eq hg.symm)) hb); replace HO1_6 := aM (Kd.V_below (Kd.V_elderB (by (with_reducible repeat (first|apply Kd.V_alloc|apply Kd.V_drewN|apply Kd.V_drew)); exact HO1_6.out) gb200 (Nat.le_of_eq hg.symm)) hb); replace BK200 := aM (hbox); replace GW200 := aM ((by rw [hg]; exact (below_size (by repeat (first|(with_reducible first|exact HB.out|apply lA|apply lN|apply lD)|exact HB.out))) : w.heap.size ≤ gb200)); replace GE200 := aM ((by rw [hg]; exact (below_size (by repeat (first|(with_reducible first|exact HB.out|apply lA|apply lN|apply lD)|exact HB.out))) : w.heap.size ≤ gb200)); replace HB := aM (below_step (by repeat (first|(with_reducible first|exact HB.out|apply lA|apply lN|apply lD)|exact HB.out)) hb); clear hb hbox hg; obtain ⟨hcz10_0, hcz10_1, hcz10_2, hcz10_3, hcz10_4, hcz10_5, hcz10_6, hcz10_7, hfz10_0, hfz10_1, hfz10_2, hfz10_3, hfz10_4, hfz10_5, hfz10_6, hfz10_7⟩ := bx8z BK200.out))
  have n0_ := aM (Kd.V_drew HO0.out)
  have n1_ := aM (Kd.V_drew HO1_6.out)
  have n2_ := aM (bD BK200.out)
  have n3_ := aM (lD HB.out)
  clear HO0
  clear HO1_6
  clear BK200
  clear HB
  have HO0 := n0_
  have HO1_6 := n1_
  have BK200 := n2_
  have HB := n3_
  clear n0_ n1_ n2_ n3_
  have q12 : (a1_1 : Int) ≤ ((l0.length : Int) : Int) := of_decide_eq_true (by assumption)
  obtain ⟨i012, hi012, _, hsz12, _⟩ := info_parts info48
  have hroom12 : l0.length ≤ c0 := (Kd.V_reads' HO0.out).2.1
  have hC12 : Kd.F k48 _ _ A0 l0.length l0 := (Kd.V_at (base := w.heap.size) HO0.out).2.2
  have hcut12 := cut_to (P := Tryd.prog) 22 48 .i64 Tryd.underlying22 hi012 A0 l0.length c0 a1_1 (of_decide_eq_true (by assumption)) q12 hroom12
  have hr12 := Kd.F_take (m := (a1_1 : Int).toNat) hC12 (by omega)
  have hy12 : y201.length = (a1_1 : Int).toNat := (by rw [Ny201.out, List.length_take]; omega)
  rw [← Ny201.out] at hr12
  rw [← hy12] at hcut12
  have HO205 := aM (show Kd.V k48 48 _ w.heap.size _ (.slice A0 y201.length c0) y201 from Kd.V_mk (by omega) hr12)
  have HC205 := aM (show y201.length ≤ c0 from by omega)
  clear hr12 hC12 hroom12 hi012 hsz12
  have KY12 := aM hy12
  clear hy12
  replace q12 := eq_true q12
  have q13 : (a1_2 : Int) ≤ ((l0.length : Int) : Int) := of_decide_eq_true (by assumption)
  obtain ⟨i013, hi013, _, hsz13, _⟩ := info_parts info48
  have hroom13 : l0.length ≤ c0 := (Kd.V_reads' HO0.out).2.1
  have hC13 : Kd.F k48 _ _ A0 l0.length l0 := (Kd.V_at (base := w.heap.size) HO0.out).2.2
  have q013 : (0 : Int) ≤ (a1_2 : Int) := of_decide_eq_true (by assumption)
  have hcut13 := cut_from (P := Tryd.prog) 22 48 .i64 Tryd.underlying22 hi013 4 hsz13 A0 l0.length c0 a1_2 q013 q13
  have hr13 := Kd.F_cut (m := (a1_2 : Int).toNat) (c := c0) hC13 (by omega) hroom13
  obtain ⟨A13, hA13⟩ : ∃ A1, A1 = (if c0 = (a1_2 : Int).toNat then A0 else (A0 : Option Addr).map (·.add ((a1_2 : Int).toNat * 4))) := ⟨_, rfl⟩
  obtain ⟨c13, hc13⟩ : ∃ c1, c1 = c0 - (a1_2 : Int).toNat := ⟨_, rfl⟩
  have hy13 : y206.length = l0.length - (a1_2 : Int).toNat := (by rw [Ny206.out, List.length_drop] <;> omega)
  rw [show (l0).drop (a1_2 : Int).toNat = y206 from Ny206.out.symm] at hr13
  replace hr13 : Kd.F k48 _ _ A13 y206.length y206 := (by rw [hA13]; exact hr13)
  rw [← hy13, ← hA13, ← hc13] at hcut13
  have HO210 := aM (show Kd.V k48 48 _ w.heap.size _ (.slice A13 y206.length c13) y206 from Kd.V_mk (by rw [hy13, hc13]; exact Nat.sub_le_sub_right hroom13 _) hr13)
  have HC210 := aM (show y206.length ≤ c13 from by rw [hy13, hc13]; exact Nat.sub_le_sub_right hroom13 _)
  clear hr13 hC13 hroom13 hi013 hsz13 hc13
  have KY13 := aM hy13
  have KA13 := aM hA13
  clear hy13 hA13
  replace q13 := eq_true q13
  refine start_ (n := 13) (S := fun w' => w'.cell? ⟨gb200, 0, none⟩ = some (.int .i64 a1_0) ∧ w'.cell? ⟨gb200, 1, none⟩ = some (.int .i64 a1_1) ∧ w'.cell? ⟨gb200, 2, none⟩ = some (.int .i64 a1_2) ∧ w'.cell? ⟨gb200, 3, none⟩ = some (.int .i64 a1_3) ∧ w'.cell? ⟨gb200, 4, none⟩ = some (.int .i64 a1_4) ∧ w'.cell? ⟨gb200, 5, none⟩ = some (.int .i64 a1_5) ∧ w'.cell? ⟨gb200, 6, none⟩ = some (.slice A1_6 l1_6.length c1_6) ∧ w'.cell? ⟨gb200, 7, none⟩ = some (.int .i64 a1_7)) (ds := []) #[false, false, false, false, false, false, false, false, false, false, false, false, false] (by kernel_rfl) rfl rfl ⟨(blk_cell BK200.out 0).trans rfl, (blk_cell BK200.out 1).trans rfl, (blk_cell BK200.out 2).trans rfl, (blk_cell BK200.out 3).trans rfl, (blk_cell BK200.out 4).trans rfl, (blk_cell BK200.out 5).trans rfl, (blk_cell BK200.out 6).trans rfl, (blk_cell BK200.out 7).trans rfl⟩ (fun hHeld => ?_); refine with_tabW step_do.tab3 step_do.bits3 (fun HT_ HW_ => ?_)
  generalize w9.drew = w11 at HO0 HO1_6 BK200 HB HO205 HO210 hHeld ⊢
  refine pure_ (i := 0) (N := some 12) (v := ?_) (a' := ?_) #[true, false, false, false, false, false, false, false, false, false, false, false, false] rfl rfl (any_of HT_.out (by kernel_rfl)) (fun _ _ _ h => h) (Or.inl ⟨by rfl, ?_⟩) ?_ ?_
  rotate_left
  ·intro w'
   go_simp
   with_reducible rfl
  rotate_left
  ·simp only [Act.put, sA, sZ, sS, i64_w, i32_w]
   rfl
  refine pure_ (i := 1) (N := some 13) (v := ?_) (a' := ?_) #[true, true, false, false, false, false, false, false, false, false, false, false, false] rfl rfl (any_of HT_.out (by kernel_rfl)) (fun _ _ _ h => h) (Or.inl ⟨by rfl, ?_⟩) ?_ ?_
  rotate_left
  ·intro w'
   go_simp
   with_reducible rfl
  rotate_left
  ·simp only [Act.put, sA, sZ, sS, i64_w, i32_w]
   rfl
  refine pure_ (i := 4) (N := some 16) (v := ?_) (a' := ?_) #[true, true, false, false, true, false, false, false, false, false, false, false, false] rfl rfl (any_of HT_.out (by kernel_rfl)) (fun _ _ _ h => h) (Or.inl ⟨by rfl, ?_⟩) ?_ ?_
  rotate_left
  ·intro w'
   go_simp
   with_reducible rfl
  rotate_left
  ·simp only [Act.put, sA, sZ, sS, i64_w, i32_w]
   rfl
  refine pure_ (i := 6) (N := some 18) (v := ?_) (a' := ?_) #[true, true, false, false, true, false, true, false, false, false, false, false, false] rfl rfl (any_of HT_.out (by kernel_rfl)) (fun _ _ _ h => h) (Or.inl ⟨by rfl, ?_⟩) ?_ ?_
  rotate_left
  ·intro w'
   go_simp
   with_reducible rfl
  rotate_left
  ·simp only [Act.put, sA, sZ, sS, i64_w, i32_w]
   rfl
  refine pure_ (i := 7) (N := some 19) (v := ?_) (a' := ?_) #[true, true, false, false, true, false, true, true, false, false, false, false, false] rfl rfl (any_of HT_.out (by kernel_rfl)) (fun _ _ _ h => h) (Or.inl ⟨by rfl, ?_⟩) ?_ ?_
  rotate_left
  ·intro w'
   go_simp
   with_reducible rfl
  rotate_left
  ·simp only [Act.put, sA, sZ, sS, i64_w, i32_w]
   rfl
  refine take_ (i := 2) (N := some 14) (v := ?_) (a' := ?_) #[true, true, true, false, true, false, true, true, false, false, false, false, false] rfl rfl (take_ofW HT_.out HW_.out (by kernel_rfl)) (fun _ _ _ h => h) (Or.inl ⟨by rfl, ?_⟩) hHeld ?_ ?_
  rotate_left
  ·rintro w' ⟨s0, s1, s2, s3, s4, s5, s6, s7⟩
   go_simp
   with_reducible rfl
  rotate_left
  ·simp only [Act.put, sA, sZ, sS, i64_w, i32_w]
   rfl
  refine pure_ (i := 3) (N := some 15) (v := ?_) (a' := ?_) #[true, true, true, true, true, false, true, true, false, false, false, false, false] rfl rfl (any_of HT_.out (by kernel_rfl)) (fun _ _ _ h => h) (Or.inl ⟨by rfl, ?_⟩) ?_ ?_
  rotate_left
  ·intro w'
   go_simp
   with_reducible rfl
  rotate_left
  ·simp only [Act.put, sA, sZ, sS, i64_w, i32_w]
   rfl
  refine take_ (i := 5) (N := some 17) (v := ?_) (a' := ?_) #[true, true, true, true, true, true, true, true, false, false, false, false, false] rfl rfl (take_ofW HT_.out HW_.out (by kernel_rfl)) (fun _ _ _ h => h) (Or.inl ⟨by rfl, ?_⟩) hHeld ?_ ?_
  rotate_left
  ·rintro w' ⟨s0, s1, s2, s3, s4, s5, s6, s7⟩
   go_simp
   with_reducible rfl
  rotate_left
  ·simp only [Act.put, sA, sZ, sS, i64_w, i32_w]
   rfl
  refine take_ (i := 8) (N := some 20) (v := ?_) (a' := ?_) #[true, true, true, true, true, true, true, true, true, false, false, false, false] rfl rfl (take_ofW HT_.out HW_.out (by kernel_rfl)) (fun _ _ _ h => h) (Or.inl ⟨by rfl, ?_⟩) hHeld ?_ ?_
  rotate_left
  ·rintro w' ⟨s0, s1, s2, s3, s4, s5, s6, s7⟩
   go_simp
   with_reducible rfl
  rotate_left
  ·simp only [Act.put, sA, sZ, sS, i64_w, i32_w]
   rfl
  refine pure_ (i := 9) (N := some 21) (v := ?_) (a' := ?_) #[true, true, true, true, true, true, true, true, true, true, false, false, false] rfl rfl (any_of HT_.out (by kernel_rfl)) (fun _ _ _ h => h) (Or.inl ⟨by rfl, ?_⟩) ?_ ?_
  rotate_left
  ·intro w'
   go_simp
   with_reducible rfl
  rotate_left
  ·simp only [Act.put, sA, sZ, sS, i64_w, i32_w]
   rfl
  refine one_ (i := 10) (N := some 22) #[true, true, true, true, true, true, true, true, true, true, true, false, false] rfl rfl (one_of HT_.out (by kernel_rfl)) (by decide) (fun K hK => ?_)
  refine Kd.N_lit_step (Kd.slice 48 k48) _ 22 ?hg (N' := 22) ?hd (xs := ([y201, l1_6, y206] : List (List (S48)))) (inner := [.slice A0 y201.length c0, .slice A1_6 l1_6.length c1_6, .slice A13 y206.length c13]) (ok := (fun k_ => ((P0_ k_ ∨ P1_6_ k_) ∨ w.heap.size ≤ k_) ∧ k_ ≠ gb200)) (okp := (fun k_ => ((P0_ k_ ∨ P1_6_ k_) ∨ w.heap.size ≤ k_) ∧ k_ ≠ gb200)) ?hr ?hp (fun _ hk => hk) ((show ∀ k_, w11.heap.size ≤ k_ → (fun k_ => ((P0_ k_ ∨ P1_6_ k_) ∨ w.heap.size ≤ k_) ∧ k_ ≠ gb200) k_ from fun k_ hk => ⟨(.inr (Nat.le_trans (below_size (by repeat (first|(with_reducible first|exact HB.out|apply lA|apply lN|apply lD|refine lS ?_ GE200.out)|exact HB.out))) hk)), Kd.freshB (g := gb200) (o := .cells #[.int .i64 a1_0, .int .i64 a1_1, .int .i64 a1_2, .int .i64 a1_3, .int .i64 a1_4, .int .i64 a1_5, .slice A1_6 l1_6.length c1_6, .int .i64 a1_7] 45 (0, 0)) (by (with_reducible repeat (first|refine bN ?_ _|refine bD ?_|refine bA ?_ _)); exact BK200.out) k_ hk⟩) _ (Nat.le_refl _)) (Below.refl _ _) (Nat.le_refl _) (by simp) ?_; (case hd => rfl); (case hg => rfl); (case hr => first|(go_simp; done)|(go_simp; rfl)); (case hp => exact (Reps.one (show Kd.FK (Kd.slice 48 k48) _ _ y201 [.slice A0 y201.length c0] from (Kd.FK_slice_mk (Kd.V_reads' (Kd.V_mono (ok' := (fun k_ => ((P0_ k_ ∨ P1_6_ k_) ∨ w.heap.size ≤ k_) ∧ k_ ≠ gb200)) (HO205.out) (fun k_ hk => ⟨hk.1, hk.2⟩))).2.1 (Kd.V_F (Kd.V_mono (ok' := (fun k_ => ((P0_ k_ ∨ P1_6_ k_) ∨ w.heap.size ≤ k_) ∧ k_ ≠ gb200)) (HO205.out) (fun k_ hk => ⟨hk.1, hk.2⟩))))) (Reps.one (show Kd.FK (Kd.slice 48 k48) _ _ l1_6 [.slice A1_6 l1_6.length c1_6] from (Kd.FK_slice_mk (Kd.V_reads' (Kd.V_mono (ok' := (fun k_ => ((P0_ k_ ∨ P1_6_ k_) ∨ w.heap.size ≤ k_) ∧ k_ ≠ gb200)) (HO1_6.out) (fun k_ hk => ⟨hk.1, hk.2⟩))).2.1 (Kd.V_F (Kd.V_mono (ok' := (fun k_ => ((P0_ k_ ∨ P1_6_ k_) ∨ w.heap.size ≤ k_) ∧ k_ ≠ gb200)) (HO1_6.out) (fun k_ hk => ⟨hk.1, hk.2⟩))))) (Reps.one (show Kd.FK (Kd.slice 48 k48) _ _ y206 [.slice A13 y206.length c13] from (Kd.FK_slice_mk (Kd.V_reads' (Kd.V_mono (ok' := (fun k_ => ((P0_ k_ ∨ P1_6_ k_) ∨ w.heap.size ≤ k_) ∧ k_ ≠ gb200)) (HO210.out) (fun k_ hk => ⟨hk.1, hk.2⟩))).2.1 (Kd.V_F (Kd.V_mono (ok' := (fun k_ => ((P0_ k_ ∨ P1_6_ k_) ∨ w.heap.size ≤ k_) ∧ k_ ≠ gb200)) (HO210.out) (fun k_ hk => ⟨hk.1, hk.2⟩))))) (Reps.none _ _)))))
  intro v212 w14 ho15 hb hg_ hnew_
  clear hg_ hnew_
  (first|rw [← Ny211.out] at ho15|(simp only [Int.reduceToNat] at ho15; rw [← Ny211.out] at ho15))
  have n0_ := aM (Kd.V_elder' (by (with_reducible repeat (first|apply Kd.V_alloc|apply Kd.V_drewN|apply Kd.V_drew)); exact HO0.out) (Kd.N_base ho15) hb)
  have n1_ := aM (Kd.V_elder' (by (with_reducible repeat (first|apply Kd.V_alloc|apply Kd.V_drewN|apply Kd.V_drew)); exact HO1_6.out) (Kd.N_base ho15) hb)
  have n2_ := aM (Kd.V_elder' (by (with_reducible repeat (first|apply Kd.V_alloc|apply Kd.V_drewN|apply Kd.V_drew)); exact HO205.out) (Kd.N_base ho15) hb)
  have n3_ := aM (Kd.V_elder' (by (with_reducible repeat (first|apply Kd.V_alloc|apply Kd.V_drewN|apply Kd.V_drew)); exact HO210.out) (Kd.N_base ho15) hb)
  have n4_ := aM (Kd.N_lower ho15 (below_size (by repeat (first|(with_reducible first|exact HB.out|apply lA|apply lN|apply lD|refine lS ?_ GE200.out)|exact HB.out))))
  have n5_ := aM (blk_below (by (with_reducible repeat (first|refine bN ?_ _|refine bD ?_|refine bA ?_ _)); exact BK200.out) hb)
  have n6_ := aM (below_step (by repeat (first|(with_reducible first|exact HB.out|apply lA|apply lN|apply lD|refine lS ?_ GE200.out)|exact HB.out)) hb)
  clear HO0
  clear HO1_6
  clear HO205
  clear HO210
  clear BK200
  clear HB
  have HO0 := n0_
  have HO1_6 := n1_
  have HO205 := n2_
  have HO210 := n3_
  have HO213 := n4_
  have BK200 := n5_
  have HB := n6_
  clear n0_ n1_ n2_ n3_ n4_ n5_ n6_
  clear hb ho15
  obtain ⟨Ao16, co16, eo16⟩ := Kd.N_slice HO213.out
  (first|subst eo16|(injection eo16 with f1_ f2_ f3_; have f4_ := f1_.symm; have f5_ := f3_.symm; clear f1_ f2_ f3_; subst f4_; subst f5_))
  refine hK.out _ _ ⟨(blk_cell BK200.out 0).trans rfl, (blk_cell BK200.out 1).trans rfl, (blk_cell BK200.out 2).trans rfl, (blk_cell BK200.out 3).trans rfl, (blk_cell BK200.out 4).trans rfl, (blk_cell BK200.out 5).trans rfl, (blk_cell BK200.out 6).trans rfl, (blk_cell BK200.out 7).trans rfl⟩ (fun hHeld => ?_)
  clear hK K
  refine norm_ (a' := ?_) ?_ ?_
  rotate_left
  ·show Act.put _ (some 22) _ = _
   simp only [Act.put, sA, sZ, sS, i64_w, i32_w]
   rfl
  refine one_ (i := 11) (N := some 23) #[true, true, true, true, true, true, true, true, true, true, true, true, false] rfl rfl (one_of HT_.out (by kernel_rfl)) (by decide) (fun K hK => ?_)
  refine goes_ Tryd.func52 (by kernel_rfl) rfl #[.slice Ao16 y211.length co16] (by rfl) rfl rfl (by (try simp only [List.map_toArray, List.map_cons, List.map_nil]); first|done|rfl|(simp only [List.length_drop, List.length_take]; rfl)) ?_
  with_reducible refine (step_tokens.calls _ _ y211 t214 _ ?side1 ?side2 A8.out).mono ?_
  (case side1 => repeat (first|exact (Kd.N_reads' HO213.out).2.2|(with_reducible refine Kd.C_alloc ?_ _)|(with_reducible refine Kd.C_drewN ?_ _)|(with_reducible refine Kd.C_drew ?_)))
  (case side2 => exact (Kd.N_reads' HO213.out).2.1)
  rintro e w17 ⟨v215, rfl, ho0, hb⟩
  refine ⟨_, rfl, ?_⟩
  have n0_ := aM (Kd.V_elder' (by (with_reducible repeat (first|apply Kd.V_alloc|apply Kd.V_drewN|apply Kd.V_drew)); exact HO0.out) (Kd.R_base ho0) hb)
  have n1_ := aM (Kd.V_elder' (by (with_reducible repeat (first|apply Kd.V_alloc|apply Kd.V_drewN|apply Kd.V_drew)); exact HO1_6.out) (Kd.R_base ho0) hb)
  have n2_ := aM (Kd.V_elder' (by (with_reducible repeat (first|apply Kd.V_alloc|apply Kd.V_drewN|apply Kd.V_drew)); exact HO205.out) (Kd.R_base ho0) hb)
  have n3_ := aM (Kd.V_elder' (by (with_reducible repeat (first|apply Kd.V_alloc|apply Kd.V_drewN|apply Kd.V_drew)); exact HO210.out) (Kd.R_base ho0) hb)
  have n4_ := aM (Kd.N_elder' (by (with_reducible repeat (first|apply Kd.N_alloc|apply Kd.N_drewN|apply Kd.N_drew)); exact HO213.out) (Kd.R_base ho0) hb)
  have n5_ := aM (Kd.R_lower (Kd.R_newM (M := fun k_ => (w.heap.size ≤ k_)) ho0 (below_size (by repeat (first|(with_reducible first|exact HB.out|apply lA|apply lN|apply lD|refine lS ?_ GE200.out)|exact HB.out))) (fun k_ h_ => h_)) (below_size (by repeat (first|(with_reducible first|exact HB.out|apply lA|apply lN|apply lD|refine lS ?_ GE200.out)|exact HB.out))))
  have n6_ := aM (blk_below (by (with_reducible repeat (first|refine bN ?_ _|refine bD ?_|refine bA ?_ _)); exact BK200.out) hb)
  have n7_ := aM (below_step (by repeat (first|(with_reducible first|exact HB.out|apply lA|apply lN|apply lD|refine lS ?_ GE200.out)|exact HB.out)) hb)
  clear HO0
  clear HO1_6
  clear HO205
  clear HO210
  clear HO213
  clear BK200
  clear HB
  have HO0 := n0_
  have HO1_6 := n1_
  have HO205 := n2_
  have HO210 := n3_
  have HO213 := n4_
  have HO216 := n5_
  have BK200 := n6_
  have HB := n7_
  clear n0_ n1_ n2_ n3_ n4_ n5_ n6_ n7_
  refine hK.out _ _ ⟨(blk_cell BK200.out 0).trans rfl, (blk_cell BK200.out 1).trans rfl, (blk_cell BK200.out 2).trans rfl, (blk_cell BK200.out 3).trans rfl, (blk_cell BK200.out 4).trans rfl, (blk_cell BK200.out 5).trans rfl, (blk_cell BK200.out 6).trans rfl, (blk_cell BK200.out 7).trans rfl⟩ (fun hHeld => ?_)
  clear hK K
  refine norm_ (a' := ?_) ?_ ?_
  rotate_left
  ·show Act.put _ (some 23) _ = _
   simp only [Act.put, sA, sZ, sS, i64_w, i32_w]
   rfl
  refine pure_ (i := 12) (N := some 4) (v := ?_) (a' := ?_) #[true, true, true, true, true, true, true, true, true, true, true, true, true] rfl rfl (any_of HT_.out (by kernel_rfl)) (fun _ _ _ h => h) (Or.inl ⟨by rfl, ?_⟩) ?_ ?_
  rotate_left
  ·intro w'
   go_simp
   with_reducible rfl
  rotate_left
  ·simp only [Act.put, sA, sZ, sS, i64_w, i32_w]
   rfl
  refine done_ (done_of HT_.out (by kernel_rfl)) ?_
  try go_wp2
  go_ret
  exact ⟨_, by first|rfl|(simp [errW_none, errW_some] <;> rfl)|(simp [*, errW_none, errW_some] <;> rfl), by (with_reducible repeat (first|apply Kd.R_alloc|apply Kd.R_drewN|apply Kd.R_drew)); exact Kd.R_mono HO216.out (fun _ hk => hk.1), by repeat (first|(with_reducible first|exact HB.out|apply lA|apply lN|apply lD|refine lS ?_ GE200.out)|exact HB.out)⟩
 ·rw [if_neg c3] at H
  have c3b0 : (a1_0 == 0) = false := beq_eq_false_iff_ne.mpr c3
  have c3b1 : (a1_0 != 0) = true := bne_iff_ne.mpr c3
  by_cases c18 : a1_0 = 1
  ·rw [if_pos c18] at H
   have c18b0 : (a1_0 == 1) = true := beq_iff_eq.mpr c18
   have c18b1 : (a1_0 != 1) = false := bne_eq_false_iff_eq.mpr c18
   clear c18
   replace H := ifS H; obtain ⟨c19, H⟩ := H
   have c19b0 := eq_true c19
   have c19b1 : decide (0 ≤ a1_1) = true := decide_eq_true c19
   clear c19
   replace H := ifS H; obtain ⟨c20, H⟩ := H
   have c20b0 := eq_true c20
   have c20b1 : decide (a1_1 ≤ (l0.length : Int)) = true := decide_eq_true c20
   clear c20
   obtain ⟨y217, hy217⟩ : ∃ y_ : List (S48), y_ = (l0.take (a1_1 : Int).toNat) := ⟨_, rfl⟩
   replace H : (if 0 ≤ a1_5 then (if a1_5 ≤ (l1_6.length : Int) then (if 0 ≤ a1_3 then (if a1_3 ≤ a1_4 then (if a1_4 ≤ (l0.length : Int) then (if 0 ≤ a1_2 then (if a1_2 ≤ (l0.length : Int) then ((step_tokens.f (([y217, (l1_6.take (a1_5 : Int).toNat), ((l0.take (a1_4 : Int).toNat).drop (a1_3 : Int).toNat), (l1_6.drop (a1_5 : Int).toNat), (l0.drop (a1_2 : Int).toNat)] : List (List (S48))))).bind fun t245 => (some t245)) else (none)) else (none)) else (none)) else (none)) else (none)) else (none)) else (none)) = some r := by first|(rw [hy217]; with_reducible exact H)|(have H2_ := (Option.bind_some _ _).symm.trans H; rw [hy217]; with_reducible exact H2_)|(have H2_ := (Option.bind_some _ _).symm.trans H; with_reducible exact H2_)|with_reducible exact H|(rw [hy217]; exact H)|exact H
   have Ny217 := aM hy217
   clear hy217
   replace H := ifS H; obtain ⟨c21, H⟩ := H
   have c21b0 := eq_true c21
   have c21b1 : decide (0 ≤ a1_5) = true := decide_eq_true c21
   clear c21
   replace H := ifS H; obtain ⟨c22, H⟩ := H
   have c22b0 := eq_true c22
   have c22b1 : decide (a1_5 ≤ (l1_6.length : Int)) = true := decide_eq_true c22
   clear c22
   obtain ⟨y222, hy222⟩ : ∃ y_ : List (S48), y_ = (l1_6.take (a1_5 : Int).toNat) := ⟨_, rfl⟩
   replace H : (if 0 ≤ a1_3 then (if a1_3 ≤ a1_4 then (if a1_4 ≤ (l0.length : Int) then (if 0 ≤ a1_2 then (if a1_2 ≤ (l0.length : Int) then ((step_tokens.f (([y217, y222, ((l0.take (a1_4 : Int).toNat).drop (a1_3 : Int).toNat), (l1_6.drop (a1_5 : Int).toNat), (l0.drop (a1_2 : Int).toNat)] : List (List (S48))))).bind fun t245 => (some t245)) else (none)) else (none)) else (none)) else (none)) else (none)) = some r := by first|(rw [hy222]; with_reducible exact H)|(have H2_ := (Option.bind_some _ _).symm.trans H; rw [hy222]; with_reducible exact H2_)|(have H2_ := (Option.bind_some _ _).symm.trans H; with_reducible exact H2_)|with_reducible exact H|(rw [hy222]; exact H)|exact H
   have Ny222 := aM hy222
   clear hy222
   replace H := ifS H; obtain ⟨c23, H⟩ := H
   have c23b0 := eq_true c23
   have c23b1 : decide (0 ≤ a1_3) = true := decide_eq_true c23
   clear c23
   replace H := ifS H; obtain ⟨c24, H⟩ := H
   have c24b0 := eq_true c24
   have c24b1 : decide (a1_3 ≤ a1_4) = true := decide_eq_true c24
   clear c24
   replace H := ifS H; obtain ⟨c25, H⟩ := H
   have c25b0 := eq_true c25
   have c25b1 : decide (a1_4 ≤ (l0.length : Int)) = true := decide_eq_true c25
   clear c25
   obtain ⟨y227, hy227⟩ : ∃ y_ : List (S48), y_ = ((l0.take (a1_4 : Int).toNat).drop (a1_3 : Int).toNat) := ⟨_, rfl⟩
   replace H : (if 0 ≤ a1_2 then (if a1_2 ≤ (l0.length : Int) then ((step_tokens.f (([y217, y222, y227, (l1_6.drop (a1_5 : Int).toNat), (l0.drop (a1_2 : Int).toNat)] : List (List (S48))))).bind fun t245 => (some t245)) else (none)) else (none)) = some r := by first|(rw [hy227]; with_reducible exact H)|(have H2_ := (Option.bind_some _ _).symm.trans H; rw [hy227]; with_reducible exact H2_)|(have H2_ := (Option.bind_some _ _).symm.trans H; with_reducible exact H2_)|with_reducible exact H|(rw [hy227]; exact H)|exact H
   have Ny227 := aM hy227
   clear hy227
   have c26b0 := eq_true (of_decide_eq_true (by assumption) : 0 ≤ a1_5)
   have c27b0 := eq_true (of_decide_eq_true (by assumption) : a1_5 ≤ (l1_6.length : Int))
   obtain ⟨y232, hy232⟩ : ∃ y_ : List (S48), y_ = (l1_6.drop (a1_5 : Int).toNat) := ⟨_, rfl⟩
   replace H : (if 0 ≤ a1_2 then (if a1_2 ≤ (l0.length : Int) then ((step_tokens.f (([y217, y222, y227, y232, (l0.drop (a1_2 : Int).toNat)] : List (List (S48))))).bind fun t245 => (some t245)) else (none)) else (none)) = some r := by first|(rw [hy232]; with_reducible exact H)|(have H2_ := (Option.bind_some _ _).symm.trans H; rw [hy232]; with_reducible exact H2_)|(have H2_ := (Option.bind_some _ _).symm.trans H; with_reducible exact H2_)|with_reducible exact H|(rw [hy232]; exact H)|exact H
   have Ny232 := aM hy232
   clear hy232
   replace H := ifS H; obtain ⟨c28, H⟩ := H
   have c28b0 := eq_true c28
   have c28b1 : decide (0 ≤ a1_2) = true := decide_eq_true c28
   clear c28
   replace H := ifS H; obtain ⟨c29, H⟩ := H
   have c29b0 := eq_true c29
   have c29b1 : decide (a1_2 ≤ (l0.length : Int)) = true := decide_eq_true c29
   clear c29
   obtain ⟨y237, hy237⟩ : ∃ y_ : List (S48), y_ = (l0.drop (a1_2 : Int).toNat) := ⟨_, rfl⟩
   replace H : ((step_tokens.f (([y217, y222, y227, y232, y237] : List (List (S48))))).bind fun t245 => (some t245)) = some r := by first|(rw [hy237]; with_reducible exact H)|(have H2_ := (Option.bind_some _ _).symm.trans H; rw [hy237]; with_reducible exact H2_)|(have H2_ := (Option.bind_some _ _).symm.trans H; with_reducible exact H2_)|with_reducible exact H|(rw [hy237]; exact H)|exact H
   have Ny237 := aM hy237
   clear hy237
   obtain ⟨y242, hy242⟩ : ∃ y_ : List (List (S48)), y_ = (([y217, y222, y227, y232, y237] : List (List (S48)))) := ⟨_, rfl⟩
   replace H : ((step_tokens.f y242).bind fun t245 => (some t245)) = some r := by first|(rw [hy242]; with_reducible exact H)|(have H2_ := (Option.bind_some _ _).symm.trans H; rw [hy242]; with_reducible exact H2_)|(have H2_ := (Option.bind_some _ _).symm.trans H; with_reducible exact H2_)|with_reducible exact H|(rw [hy242]; exact H)|exact H
   have Ny242 := aM hy242
   clear hy242
   replace H := Option.bind_eq_some_iff.mp H
   obtain ⟨t245, A300, H⟩ := H
   replace H : (some t245) = some r := H
   have A30 := aM A300
   clear A300
   obtain rfl := Option.some.inj H
   go_enter Tryd.func43, Tryd.ntmps43
   try go_wp2_with (first|((with_reducible refine gate_dst (N := 3) rfl ?_); refine box_event ?hg (N := 3) ?hd (cs := #[.int .i64 a1_0, .int .i64 a1_1, .int .i64 a1_2, .int .i64 a1_3, .int .i64 a1_4, .int .i64 a1_5, .slice A1_6 l1_6.length c1_6, .int .i64 a1_7]) (t := 45) ?hr ?_; (case hd => rfl); (case hg => rfl); (case hr => first|(go_simp; done)|(go_simp; rfl)); intro gb200 hg w31 hbox hb; replace HO0 := aM (Kd.V_below (Kd.V_elderB (by (with_reducible repeat (first|apply Kd.V_alloc|apply Kd.V_drewN|apply Kd.V_drew)); exact HO0.out) gb200 (Nat.le_of_eq hg.symm)) hb); replace HO1_6 := aM (Kd.V_below (Kd.V_elderB (by (with_reducible repeat (first|apply Kd.V_alloc|apply Kd.V_drewN|apply Kd.V_drew)); exact HO1_6.out) gb200 (Nat.le_of_eq hg.symm)) hb); replace BK200 := aM (hbox); replace GW200 := aM ((by rw [hg]; exact (below_size (by repeat (first|(with_reducible first|exact HB.out|apply lA|apply lN|apply lD)|exact HB.out))) : w.heap.size ≤ gb200)); replace GE200 := aM ((by rw [hg]; exact (below_size (by repeat (first|(with_reducible first|exact HB.out|apply lA|apply lN|apply lD)|exact HB.out))) : w.heap.size ≤ gb200)); replace HB := aM (below_step (by repeat (first|(with_reducible first|exact HB.out|apply lA|apply lN|apply lD)|exact HB.out)) hb); clear hb hbox hg; obtain ⟨hcz32_0, hcz32_1, hcz32_2, hcz32_3, hcz32_4, hcz32_5, hcz32_6, hcz32_7, hfz32_0, hfz32_1, hfz32_2, hfz32_3, hfz32_4, hfz32_5, hfz32_6, hfz32_7⟩ := bx8z BK200.out))
   have n0_ := aM (Kd.V_drew HO0.out)
   have n1_ := aM (Kd.V_drew HO1_6.out)
   have n2_ := aM (bD BK200.out)
   have n3_ := aM (lD HB.out)
   clear HO0
   clear HO1_6
   clear BK200
   clear HB
   have HO0 := n0_
   have HO1_6 := n1_
   have BK200 := n2_
   have HB := n3_
   clear n0_ n1_ n2_ n3_
   have q34 : (a1_1 : Int) ≤ ((l0.length : Int) : Int) := of_decide_eq_true (by assumption)
   obtain ⟨i034, hi034, _, hsz34, _⟩ := info_parts info48
   have hroom34 : l0.length ≤ c0 := (Kd.V_reads' HO0.out).2.1
   have hC34 : Kd.F k48 _ _ A0 l0.length l0 := (Kd.V_at (base := w.heap.size) HO0.out).2.2
   have hcut34 := cut_to (P := Tryd.prog) 22 48 .i64 Tryd.underlying22 hi034 A0 l0.length c0 a1_1 (of_decide_eq_true (by assumption)) q34 hroom34
   have hr34 := Kd.F_take (m := (a1_1 : Int).toNat) hC34 (by omega)
   have hy34 : y217.length = (a1_1 : Int).toNat := (by rw [Ny217.out, List.length_take]; omega)
   rw [← Ny217.out] at hr34
   rw [← hy34] at hcut34
   have HO221 := aM (show Kd.V k48 48 _ w.heap.size _ (.slice A0 y217.length c0) y217 from Kd.V_mk (by omega) hr34)
   have HC221 := aM (show y217.length ≤ c0 from by omega)
   clear hr34 hC34 hroom34 hi034 hsz34
   have KY34 := aM hy34
   clear hy34
   replace q34 := eq_true q34
   have q35 : (a1_5 : Int) ≤ ((l1_6.length : Int) : Int) := of_decide_eq_true (by assumption)
   obtain ⟨i035, hi035, _, hsz35, _⟩ := info_parts info48
   have hroom35 : l1_6.length ≤ c1_6 := (Kd.V_reads' HO1_6.out).2.1
   have hC35 : Kd.F k48 _ _ A1_6 l1_6.length l1_6 := (Kd.V_at (base := w.heap.size) HO1_6.out).2.2
   have hcut35 := cut_to (P := Tryd.prog) 22 48 .i64 Tryd.underlying22 hi035 A1_6 l1_6.length c1_6 a1_5 (of_decide_eq_true (by assumption)) q35 hroom35
   have hr35 := Kd.F_take (m := (a1_5 : Int).toNat) hC35 (by omega)
   have hy35 : y222.length = (a1_5 : Int).toNat := (by rw [Ny222.out, List.length_take]; omega)
   rw [← Ny222.out] at hr35
   rw [← hy35] at hcut35
   have HO226 := aM (show Kd.V k48 48 _ w.heap.size _ (.slice A1_6 y222.length c1_6) y222 from Kd.V_mk (by omega) hr35)
   have HC226 := aM (show y222.length ≤ c1_6 from by omega)
   clear hr35 hC35 hroom35 hi035 hsz35
   have KY35 := aM hy35
   clear hy35
   replace q35 := eq_true q35
   have q36 : (a1_4 : Int) ≤ ((l0.length : Int) : Int) := of_decide_eq_true (by assumption)
   obtain ⟨i036, hi036, _, hsz36, _⟩ := info_parts info48
   have hroom36 : l0.length ≤ c0 := (Kd.V_reads' HO0.out).2.1
   have hC36 : Kd.F k48 _ _ A0 l0.length l0 := (Kd.V_at (base := w.heap.size) HO0.out).2.2
   have ql36 : (a1_3 : Int) ≤ (a1_4 : Int) := of_decide_eq_true (by assumption)
   have q036 : (0 : Int) ≤ (a1_3 : Int) := of_decide_eq_true (by assumption)
   have hcut36 := cut_mid (P := Tryd.prog) 22 48 .i64 .i64 Tryd.underlying22 hi036 4 hsz36 A0 l0.length c0 a1_3 a1_4 q036 ql36 q36 hroom36
   have hr36 := Kd.F_mid (lo := (a1_3 : Int).toNat) (hi := (a1_4 : Int).toNat) (c := c0) hC36 (by omega) (by omega) hroom36
   obtain ⟨A36, hA36⟩ : ∃ A1, A1 = (if c0 = (a1_3 : Int).toNat then A0 else (A0 : Option Addr).map (·.add ((a1_3 : Int).toNat * 4))) := ⟨_, rfl⟩
   obtain ⟨c36, hc36⟩ : ∃ c1, c1 = c0 - (a1_3 : Int).toNat := ⟨_, rfl⟩
   have hy36 : y227.length = (a1_4 : Int).toNat - (a1_3 : Int).toNat := (by rw [Ny227.out, List.length_drop, List.length_take] <;> omega)
   rw [show ((l0).take (a1_4 : Int).toNat).drop (a1_3 : Int).toNat = y227 from Ny227.out.symm] at hr36
   replace hr36 : Kd.F k48 _ _ A36 y227.length y227 := (by rw [hA36]; exact hr36)
   rw [← hy36, ← hA36, ← hc36] at hcut36
   have HO231 := aM (show Kd.V k48 48 _ w.heap.size _ (.slice A36 y227.length c36) y227 from Kd.V_mk (by rw [hy36, hc36]; exact Nat.sub_le_sub_right (Nat.le_trans (by omega) hroom36) _) hr36)
   have HC231 := aM (show y227.length ≤ c36 from by rw [hy36, hc36]; exact Nat.sub_le_sub_right (Nat.le_trans (by omega) hroom36) _)
   clear hr36 hC36 hroom36 hi036 hsz36 hc36
   have KY36 := aM hy36
   have KA36 := aM hA36
   clear hy36 hA36
   replace q36 := eq_true q36
   have q37 : (a1_5 : Int) ≤ ((l1_6.length : Int) : Int) := of_decide_eq_true (by assumption)
   obtain ⟨i037, hi037, _, hsz37, _⟩ := info_parts info48
   have hroom37 : l1_6.length ≤ c1_6 := (Kd.V_reads' HO1_6.out).2.1
   have hC37 : Kd.F k48 _ _ A1_6 l1_6.length l1_6 := (Kd.V_at (base := w.heap.size) HO1_6.out).2.2
   have q037 : (0 : Int) ≤ (a1_5 : Int) := of_decide_eq_true (by assumption)
   have hcut37 := cut_from (P := Tryd.prog) 22 48 .i64 Tryd.underlying22 hi037 4 hsz37 A1_6 l1_6.length c1_6 a1_5 q037 q37
   have hr37 := Kd.F_cut (m := (a1_5 : Int).toNat) (c := c1_6) hC37 (by omega) hroom37
   obtain ⟨A37, hA37⟩ : ∃ A1, A1 = (if c1_6 = (a1_5 : Int).toNat then A1_6 else (A1_6 : Option Addr).map (·.add ((a1_5 : Int).toNat * 4))) := ⟨_, rfl⟩
   obtain ⟨c37, hc37⟩ : ∃ c1, c1 = c1_6 - (a1_5 : Int).toNat := ⟨_, rfl⟩
   have hy37 : y232.length = l1_6.length - (a1_5 : Int).toNat := (by rw [Ny232.out, List.length_drop] <;> omega)
   rw [show (l1_6).drop (a1_5 : Int).toNat = y232 from Ny232.out.symm] at hr37
   replace hr37 : Kd.F k48 _ _ A37 y232.length y232 := (by rw [hA37]; exact hr37)
   rw [← hy37, ← hA37, ← hc37] at hcut37
   have HO236 := aM (show Kd.V k48 48 _ w.heap.size _ (.slice A37 y232.length c37) y232 from Kd.V_mk (by rw [hy37, hc37]; exact Nat.sub_le_sub_right hroom37 _) hr37)
   have HC236 := aM (show y232.length ≤ c37 from by rw [hy37, hc37]; exact Nat.sub_le_sub_right hroom37 _)
   clear hr37 hC37 hroom37 hi037 hsz37 hc37
   have KY37 := aM hy37
   have KA37 := aM hA37
   clear hy37 hA37
   replace q37 := eq_true q37
   have q38 : (a1_2 : Int) ≤ ((l0.length : Int) : Int) := of_decide_eq_true (by assumption)
   obtain ⟨i038, hi038, _, hsz38, _⟩ := info_parts info48
   have hroom38 : l0.length ≤ c0 := (Kd.V_reads' HO0.out).2.1
   have hC38 : Kd.F k48 _ _ A0 l0.length l0 := (Kd.V_at (base := w.heap.size) HO0.out).2.2
   have q038 : (0 : Int) ≤ (a1_2 : Int) := of_decide_eq_true (by assumption)
   have hcut38 := cut_from (P := Tryd.prog) 22 48 .i64 Tryd.underlying22 hi038 4 hsz38 A0 l0.length c0 a1_2 q038 q38
   have hr38 := Kd.F_cut (m := (a1_2 : Int).toNat) (c := c0) hC38 (by omega) hroom38
   obtain ⟨A38, hA38⟩ : ∃ A1, A1 = (if c0 = (a1_2 : Int).toNat then A0 else (A0 : Option Addr).map (·.add ((a1_2 : Int).toNat * 4))) := ⟨_, rfl⟩
   obtain ⟨c38, hc38⟩ : ∃ c1, c1 = c0 - (a1_2 : Int).toNat := ⟨_, rfl⟩
   have hy38 : y237.length = l0.length - (a1_2 : Int).toNat := (by rw [Ny237.out, List.length_drop] <;> omega)
   rw [show (l0).drop (a1_2 : Int).toNat = y237 from Ny237.out.symm] at hr38
   replace hr38 : Kd.F k48 _ _ A38 y237.length y237 := (by rw [hA38]; exact hr38)
   rw [← hy38, ← hA38, ← hc38] at hcut38
   have HO241 := aM (show Kd.V k48 48 _ w.heap.size _ (.slice A38 y237.length c38) y237 from Kd.V_mk (by rw [hy38, hc38]; exact Nat.sub_le_sub_right hroom38 _) hr38)
   have HC241 := aM (show y237.length ≤ c38 from by rw [hy38, hc38]; exact Nat.sub_le_sub_right hroom38 _)
   clear hr38 hC38 hroom38 hi038 hsz38 hc38
   have KY38 := aM hy38
   have KA38 := aM hA38
   clear hy38 hA38
   replace q38 := eq_true q38
   refine start_ (n := 27) (S := fun w' => w'.cell? ⟨gb200, 0, none⟩ = some (.int .i64 a1_0) ∧ w'.cell? ⟨gb200, 1, none⟩ = some (.int .i64 a1_1) ∧ w'.cell? ⟨gb200, 2, none⟩ = some (.int .i64 a1_2) ∧ w'.cell? ⟨gb200, 3, none⟩ = some (.int .i64 a1_3) ∧ w'.cell? ⟨gb200, 4, none⟩ = some (.int .i64 a1_4) ∧ w'.cell? ⟨gb200, 5, none⟩ = some (.int .i64 a1_5) ∧ w'.cell? ⟨gb200, 6, none⟩ = some (.slice A1_6 l1_6.length c1_6) ∧ w'.cell? ⟨gb200, 7, none⟩ = some (.int .i64 a1_7)) (ds := []) #[false, false, false, false, false, false, false, false, false, false, false, false, false, false, false, false, false, false, false, false, false, false, false, false, false, false, false] (by kernel_rfl) rfl rfl ⟨(blk_cell BK200.out 0).trans rfl, (blk_cell BK200.out 1).trans rfl, (blk_cell BK200.out 2).trans rfl, (blk_cell BK200.out 3).trans rfl, (blk_cell BK200.out 4).trans rfl, (blk_cell BK200.out 5).trans rfl, (blk_cell BK200.out 6).trans rfl, (blk_cell BK200.out 7).trans rfl⟩ (fun hHeld => ?_); refine with_tabW step_do.tab5 step_do.bits5 (fun HT_ HW_ => ?_)
   generalize w31.drew = w33 at HO0 HO1_6 BK200 HB HO221 HO226 HO231 HO236 HO241 hHeld ⊢
   refine pure_ (i := 0) (N := some 26) (v := ?_) (a' := ?_) #[true, false, false, false, false, false, false, false, false, false, false, false, false, false, false, false, false, false, false, false, false, false, false, false, false, false, false] rfl rfl (any_of HT_.out (by kernel_rfl)) (fun _ _ _ h => h) (Or.inl ⟨by rfl, ?_⟩) ?_ ?_
   rotate_left
   ·intro w'
    go_simp
    with_reducible rfl
   rotate_left
   ·simp only [Act.put, sA, sZ, sS, i64_w, i32_w]
    rfl
   refine pure_ (i := 1) (N := some 27) (v := ?_) (a' := ?_) #[true, true, false, false, false, false, false, false, false, false, false, false, false, false, false, false, false, false, false, false, false, false, false, false, false, false, false] rfl rfl (any_of HT_.out (by kernel_rfl)) (fun _ _ _ h => h) (Or.inl ⟨by rfl, ?_⟩) ?_ ?_
   rotate_left
   ·intro w'
    go_simp
    with_reducible rfl
   rotate_left
   ·simp only [Act.put, sA, sZ, sS, i64_w, i32_w]
    rfl
   refine pure_ (i := 4) (N := some 30) (v := ?_) (a' := ?_) #[true, true, false, false, true, false, false, false, false, false, false, false, false, false, false, false, false, false, false, false, false, false, false, false, false, false, false] rfl rfl (any_of HT_.out (by kernel_rfl)) (fun _ _ _ h => h) (Or.inl ⟨by rfl, ?_⟩) ?_ ?_
   rotate_left
   ·intro w'
    go_simp
    with_reducible rfl
   rotate_left
   ·simp only [Act.put, sA, sZ, sS, i64_w, i32_w]
    rfl
   refine pure_ (i := 6) (N := some 32) (v := ?_) (a' := ?_) #[true, true, false, false, true, false, true, false, false, false, false, false, false, false, false, false, false, false, false, false, false, false, false, false, false, false, false] rfl rfl (any_of HT_.out (by kernel_rfl)) (fun _ _ _ h => h) (Or.inl ⟨by rfl, ?_⟩) ?_ ?_
   rotate_left
   ·intro w'
    go_simp
    with_reducible rfl
   rotate_left
   ·simp only [Act.put, sA, sZ, sS, i64_w, i32_w]
    rfl
   refine pure_ (i := 9) (N := some 35) (v := ?_) (a' := ?_) #[true, true, false, false, true, false, true, false, false, true, false, false, false, false, false, false, false, false, false, false, false, false, false, false, false, false, false] rfl rfl (any_of HT_.out (by kernel_rfl)) (fun _ _ _ h => h) (Or.inl ⟨by rfl, ?_⟩) ?_ ?_
   rotate_left
   ·intro w'
    go_simp
    with_reducible rfl
   rotate_left
   ·simp only [Act.put, sA, sZ, sS, i64_w, i32_w]
    rfl
   refine pure_ (i := 10) (N := some 36) (v := ?_) (a' := ?_) #[true, true, false, false, true, false, true, false, false, true, true, false, false, false, false, false, false, false, false, false, false, false, false, false, false, false, false] rfl rfl (any_of HT_.out (by kernel_rfl)) (fun _ _ _ h => h) (Or.inl ⟨by rfl, ?_⟩) ?_ ?_
   rotate_left
   ·intro w'
    go_simp
    with_reducible rfl
   rotate_left
   ·simp only [Act.put, sA, sZ, sS, i64_w, i32_w]
    rfl
   refine pure_ (i := 12) (N := some 38) (v := ?_) (a' := ?_) #[true, true, false, false, true, false, true, false, false, true, true, false, true, false, false, false, false, false, false, false, false, false, false, false, false, false, false] rfl rfl (any_of HT_.out (by kernel_rfl)) (fun _ _ _ h => h) (Or.inl ⟨by rfl, ?_⟩) ?_ ?_
   rotate_left
   ·intro w'
    go_simp
    with_reducible rfl
   rotate_left
   ·simp only [Act.put, sA, sZ, sS, i64_w, i32_w]
    rfl
   refine pure_ (i := 15) (N := some 41) (v := ?_) (a' := ?_) #[true, true, false, false, true, false, true, false, false, true, true, false, true, false, false, true, false, false, false, false, false, false, false, false, false, false, false] rfl rfl (any_of HT_.out (by kernel_rfl)) (fun _ _ _ h => h) (Or.inl ⟨by rfl, ?_⟩) ?_ ?_
   rotate_left
   ·intro w'
    go_simp
    with_reducible rfl
   rotate_left
   ·simp only [Act.put, sA, sZ, sS, i64_w, i32_w]
    rfl
   refine pure_ (i := 17) (N := some 43) (v := ?_) (a' := ?_) #[true, true, false, false, true, false, true, false, false, true, true, false, true, false, false, true, false, true, false, false, false, false, false, false, false, false, false] rfl rfl (any_of HT_.out (by kernel_rfl)) (fun _ _ _ h => h) (Or.inl ⟨by rfl, ?_⟩) ?_ ?_
   rotate_left
   ·intro w'
    go_simp
    with_reducible rfl
   rotate_left
   ·simp only [Act.put, sA, sZ, sS, i64_w, i32_w]
    rfl
   refine pure_ (i := 20) (N := some 46) (v := ?_) (a' := ?_) #[true, true, false, false, true, false, true, false, false, true, true, false, true, false, false, true, false, true, false, false, true, false, false, false, false, false, false] rfl rfl (any_of HT_.out (by kernel_rfl)) (fun _ _ _ h => h) (Or.inl ⟨by rfl, ?_⟩) ?_ ?_
   rotate_left
   ·intro w'
    go_simp
    with_reducible rfl
   rotate_left
   ·simp only [Act.put, sA, sZ, sS, i64_w, i32_w]
    rfl
   refine pure_ (i := 21) (N := some 47) (v := ?_) (a' := ?_) #[true, true, false, false, true, false, true, false, false, true, true, false, true, false, false, true, false, true, false, false, true, true, false, false, false, false, false] rfl rfl (any_of HT_.out (by kernel_rfl)) (fun _ _ _ h => h) (Or.inl ⟨by rfl, ?_⟩) ?_ ?_
   rotate_left
   ·intro w'
    go_simp
    with_reducible rfl
   rotate_left
   ·simp only [Act.put, sA, sZ, sS, i64_w, i32_w]
    rfl
   refine take_ (i := 2) (N := some 28) (v := ?_) (a' := ?_) #[true, true, true, false, true, false, true, false, false, true, true, false, true, false, false, true, false, true, false, false, true, true, false, false, false, false, false] rfl rfl (take_ofW HT_.out HW_.out (by kernel_rfl)) (fun _ _ _ h => h) (Or.inl ⟨by rfl, ?_⟩) hHeld ?_ ?_
   rotate_left
   ·rintro w' ⟨s0, s1, s2, s3, s4, s5, s6, s7⟩
    go_simp
    with_reducible rfl
   rotate_left
   ·simp only [Act.put, sA, sZ, sS, i64_w, i32_w]
    rfl
   refine pure_ (i := 3) (N := some 29) (v := ?_) (a' := ?_) #[true, true, true, true, true, false, true, false, false, true, true, false, true, false, false, true, false, true, false, false, true, true, false, false, false, false, false] rfl rfl (any_of HT_.out (by kernel_rfl)) (fun _ _ _ h => h) (Or.inl ⟨by rfl, ?_⟩) ?_ ?_
   rotate_left
   ·intro w'
    go_simp
    with_reducible rfl
   rotate_left
   ·simp only [Act.put, sA, sZ, sS, i64_w, i32_w]
    rfl
   refine take_ (i := 5) (N := some 31) (v := ?_) (a' := ?_) #[true, true, true, true, true, true, true, false, false, true, true, false, true, false, false, true, false, true, false, false, true, true, false, false, false, false, false] rfl rfl (take_ofW HT_.out HW_.out (by kernel_rfl)) (fun _ _ _ h => h) (Or.inl ⟨by rfl, ?_⟩) hHeld ?_ ?_
   rotate_left
   ·rintro w' ⟨s0, s1, s2, s3, s4, s5, s6, s7⟩
    go_simp
    with_reducible rfl
   rotate_left
   ·simp only [Act.put, sA, sZ, sS, i64_w, i32_w]
    rfl
   refine take_ (i := 7) (N := some 33) (v := ?_) (a' := ?_) #[true, true, true, true, true, true, true, true, false, true, true, false, true, false, false, true, false, true, false, false, true, true, false, false, false, false, false] rfl rfl (take_ofW HT_.out HW_.out (by kernel_rfl)) (fun _ _ _ h => h) (Or.inl ⟨by rfl, ?_⟩) hHeld ?_ ?_
   rotate_left
   ·rintro w' ⟨s0, s1, s2, s3, s4, s5, s6, s7⟩
    go_simp
    with_reducible rfl
   rotate_left
   ·simp only [Act.put, sA, sZ, sS, i64_w, i32_w]
    rfl
   refine pure_ (i := 8) (N := some 34) (v := ?_) (a' := ?_) #[true, true, true, true, true, true, true, true, true, true, true, false, true, false, false, true, false, true, false, false, true, true, false, false, false, false, false] rfl rfl (any_of HT_.out (by kernel_rfl)) (fun _ _ _ h => h) (Or.inl ⟨by rfl, ?_⟩) ?_ ?_
   rotate_left
   ·intro w'
    go_simp
    with_reducible rfl
   rotate_left
   ·simp only [Act.put, sA, sZ, sS, i64_w, i32_w]
    rfl
   refine take_ (i := 11) (N := some 37) (v := ?_) (a' := ?_) #[true, true, true, true, true, true, true, true, true, true, true, true, true, false, false, true, false, true, false, false, true, true, false, false, false, false, false] rfl rfl (take_ofW HT_.out HW_.out (by kernel_rfl)) (fun _ _ _ h => h) (Or.inl ⟨by rfl, ?_⟩) hHeld ?_ ?_
   rotate_left
   ·rintro w' ⟨s0, s1, s2, s3, s4, s5, s6, s7⟩
    go_simp
    with_reducible rfl
   rotate_left
   ·simp only [Act.put, sA, sZ, sS, i64_w, i32_w]
    rfl
   refine take_ (i := 13) (N := some 39) (v := ?_) (a' := ?_) #[true, true, true, true, true, true, true, true, true, true, true, true, true, true, false, true, false, true, false, false, true, true, false, false, false, false, false] rfl rfl (take_ofW HT_.out HW_.out (by kernel_rfl)) (fun _ _ _ h => h) (Or.inl ⟨by rfl, ?_⟩) hHeld ?_ ?_
   rotate_left
   ·rintro w' ⟨s0, s1, s2, s3, s4, s5, s6, s7⟩
    go_simp
    with_reducible rfl
   rotate_left
   ·simp only [Act.put, sA, sZ, sS, i64_w, i32_w]
    rfl
   refine pure_ (i := 14) (N := some 40) (v := ?_) (a' := ?_) #[true, true, true, true, true, true, true, true, true, true, true, true, true, true, true, true, false, true, false, false, true, true, false, false, false, false, false] rfl rfl (any_of HT_.out (by kernel_rfl)) (fun _ _ _ h => h) (Or.inl ⟨by rfl, ?_⟩) ?_ ?_
   rotate_left
   ·intro w'
    go_simp
    with_reducible rfl
   rotate_left
   ·simp only [Act.put, sA, sZ, sS, i64_w, i32_w]
    rfl
   refine take_ (i := 16) (N := some 42) (v := ?_) (a' := ?_) #[true, true, true, true, true, true, true, true, true, true, true, true, true, true, true, true, true, true, false, false, true, true, false, false, false, false, false] rfl rfl (take_ofW HT_.out HW_.out (by kernel_rfl)) (fun _ _ _ h => h) (Or.inl ⟨by rfl, ?_⟩) hHeld ?_ ?_
   rotate_left
   ·rintro w' ⟨s0, s1, s2, s3, s4, s5, s6, s7⟩
    go_simp
    with_reducible rfl
   rotate_left
   ·simp only [Act.put, sA, sZ, sS, i64_w, i32_w]
    rfl
   refine take_ (i := 18) (N := some 44) (v := ?_) (a' := ?_) #[true, true, true, true, true, true, true, true, true, true, true, true, true, true, true, true, true, true, true, false, true, true, false, false, false, false, false] rfl rfl (take_ofW HT_.out HW_.out (by kernel_rfl)) (fun _ _ _ h => h) (Or.inl ⟨by rfl, ?_⟩) hHeld ?_ ?_
   rotate_left
   ·rintro w' ⟨s0, s1, s2, s3, s4, s5, s6, s7⟩
    go_simp
    with_reducible rfl
   rotate_left
   ·simp only [Act.put, sA, sZ, sS, i64_w, i32_w]
    rfl
   refine pure_ (i := 19) (N := some 45) (v := ?_) (a' := ?_) #[true, true, true, true, true, true, true, true, true, true, true, true, true, true, true, true, true, true, true, true, true, true, false, false, false, false, false] rfl rfl (any_of HT_.out (by kernel_rfl)) (fun _ _ _ h => h) (Or.inl ⟨by rfl, ?_⟩) ?_ ?_
   rotate_left
   ·intro w'
    go_simp
    with_reducible rfl
   rotate_left
   ·simp only [Act.put, sA, sZ, sS, i64_w, i32_w]
    rfl
   refine take_ (i := 22) (N := some 48) (v := ?_) (a' := ?_) #[true, true, true, true, true, true, true, true, true, true, true, true, true, true, true, true, true, true, true, true, true, true, true, false, false, false, false] rfl rfl (take_ofW HT_.out HW_.out (by kernel_rfl)) (fun _ _ _ h => h) (Or.inl ⟨by rfl, ?_⟩) hHeld ?_ ?_
   rotate_left
   ·rintro w' ⟨s0, s1, s2, s3, s4, s5, s6, s7⟩
    go_simp
    with_reducible rfl
   rotate_left
   ·simp only [Act.put, sA, sZ, sS, i64_w, i32_w]
    rfl
   refine pure_ (i := 23) (N := some 49) (v := ?_) (a' := ?_) #[true, true, true, true, true, true, true, true, true, true, true, true, true, true, true, true, true, true, true, true, true, true, true, true, false, false, false] rfl rfl (any_of HT_.out (by kernel_rfl)) (fun _ _ _ h => h) (Or.inl ⟨by rfl, ?_⟩) ?_ ?_
   rotate_left
   ·intro w'
    go_simp
    with_reducible rfl
   rotate_left
   ·simp only [Act.put, sA, sZ, sS, i64_w, i32_w]
    rfl
   refine one_ (i := 24) (N := some 50) #[true, true, true, true, true, true, true, true, true, true, true, true, true, true, true, true, true, true, true, true, true, true, true, true, true, false, false] rfl rfl (one_of HT_.out (by kernel_rfl)) (by decide) (fun K hK => ?_)
   refine Kd.N_lit_step (Kd.slice 48 k48) _ 22 ?hg (N' := 50) ?hd (xs := ([y217, y222, y227, y232, y237] : List (List (S48)))) (inner := [.slice A0 y217.length c0, .slice A1_6 y222.length c1_6, .slice A36 y227.length c36, .slice A37 y232.length c37, .slice A38 y237.length c38]) (ok := (fun k_ => ((P0_ k_ ∨ P1_6_ k_) ∨ w.heap.size ≤ k_) ∧ k_ ≠ gb200)) (okp := (fun k_ => ((P0_ k_ ∨ P1_6_ k_) ∨ w.heap.size ≤ k_) ∧ k_ ≠ gb200)) ?hr ?hp (fun _ hk => hk) ((show ∀ k_, w33.heap.size ≤ k_ → (fun k_ => ((P0_ k_ ∨ P1_6_ k_) ∨ w.heap.size ≤ k_) ∧ k_ ≠ gb200) k_ from fun k_ hk => ⟨(.inr (Nat.le_trans (below_size (by repeat (first|(with_reducible first|exact HB.out|apply lA|apply lN|apply lD|refine lS ?_ GE200.out)|exact HB.out))) hk)), Kd.freshB (g := gb200) (o := .cells #[.int .i64 a1_0, .int .i64 a1_1, .int .i64 a1_2, .int .i64 a1_3, .int .i64 a1_4, .int .i64 a1_5, .slice A1_6 l1_6.length c1_6, .int .i64 a1_7] 45 (0, 0)) (by (with_reducible repeat (first|refine bN ?_ _|refine bD ?_|refine bA ?_ _)); exact BK200.out) k_ hk⟩) _ (Nat.le_refl _)) (Below.refl _ _) (Nat.le_refl _) (by simp) ?_; (case hd => rfl); (case hg => rfl); (case hr => first|(go_simp; done)|(go_simp; rfl)); (case hp => exact (Reps.one (show Kd.FK (Kd.slice 48 k48) _ _ y217 [.slice A0 y217.length c0] from (Kd.FK_slice_mk (Kd.V_reads' (Kd.V_mono (ok' := (fun k_ => ((P0_ k_ ∨ P1_6_ k_) ∨ w.heap.size ≤ k_) ∧ k_ ≠ gb200)) (HO221.out) (fun k_ hk => ⟨hk.1, hk.2⟩))).2.1 (Kd.V_F (Kd.V_mono (ok' := (fun k_ => ((P0_ k_ ∨ P1_6_ k_) ∨ w.heap.size ≤ k_) ∧ k_ ≠ gb200)) (HO221.out) (fun k_ hk => ⟨hk.1, hk.2⟩))))) (Reps.one (show Kd.FK (Kd.slice 48 k48) _ _ y222 [.slice A1_6 y222.length c1_6] from (Kd.FK_slice_mk (Kd.V_reads' (Kd.V_mono (ok' := (fun k_ => ((P0_ k_ ∨ P1_6_ k_) ∨ w.heap.size ≤ k_) ∧ k_ ≠ gb200)) (HO226.out) (fun k_ hk => ⟨hk.1, hk.2⟩))).2.1 (Kd.V_F (Kd.V_mono (ok' := (fun k_ => ((P0_ k_ ∨ P1_6_ k_) ∨ w.heap.size ≤ k_) ∧ k_ ≠ gb200)) (HO226.out) (fun k_ hk => ⟨hk.1, hk.2⟩))))) (Reps.one (show Kd.FK (Kd.slice 48 k48) _ _ y227 [.slice A36 y227.length c36] from (Kd.FK_slice_mk (Kd.V_reads' (Kd.V_mono (ok' := (fun k_ => ((P0_ k_ ∨ P1_6_ k_) ∨ w.heap.size ≤ k_) ∧ k_ ≠ gb200)) (HO231.out) (fun k_ hk => ⟨hk.1, hk.2⟩))).2.1 (Kd.V_F (Kd.V_mono (ok' := (fun k_ => ((P0_ k_ ∨ P1_6_ k_) ∨ w.heap.size ≤ k_) ∧ k_ ≠ gb200)) (HO231.out) (fun k_ hk => ⟨hk.1, hk.2⟩))))) (Reps.one (show Kd.FK (Kd.slice 48 k48) _ _ y232 [.slice A37 y232.length c37] from (Kd.FK_slice_mk (Kd.V_reads' (Kd.V_mono (ok' := (fun k_ => ((P0_ k_ ∨ P1_6_ k_) ∨ w.heap.size ≤ k_) ∧ k_ ≠ gb200)) (HO236.out) (fun k_ hk => ⟨hk.1, hk.2⟩))).2.1 (Kd.V_F (Kd.V_mono (ok' := (fun k_ => ((P0_ k_ ∨ P1_6_ k_) ∨ w.heap.size ≤ k_) ∧ k_ ≠ gb200)) (HO236.out) (fun k_ hk => ⟨hk.1, hk.2⟩))))) (Reps.one (show Kd.FK (Kd.slice 48 k48) _ _ y237 [.slice A38 y237.length c38] from (Kd.FK_slice_mk (Kd.V_reads' (Kd.V_mono (ok' := (fun k_ => ((P0_ k_ ∨ P1_6_ k_) ∨ w.heap.size ≤ k_) ∧ k_ ≠ gb200)) (HO241.out) (fun k_ hk => ⟨hk.1, hk.2⟩))).2.1 (Kd.V_F (Kd.V_mono (ok' := (fun k_ => ((P0_ k_ ∨ P1_6_ k_) ∨ w.heap.size ≤ k_) ∧ k_ ≠ gb200)) (HO241.out) (fun k_ hk => ⟨hk.1, hk.2⟩))))) (Reps.none _ _)))))))
   intro v243 w39 ho40 hb hg_ hnew_
   clear hg_ hnew_
   (first|rw [← Ny242.out] at ho40|(simp only [Int.reduceToNat] at ho40; rw [← Ny242.out] at ho40))
   have n0_ := aM (Kd.V_elder' (by (with_reducible repeat (first|apply Kd.V_alloc|apply Kd.V_drewN|apply Kd.V_drew)); exact HO0.out) (Kd.N_base ho40) hb)
   have n1_ := aM (Kd.V_elder' (by (with_reducible repeat (first|apply Kd.V_alloc|apply Kd.V_drewN|apply Kd.V_drew)); exact HO1_6.out) (Kd.N_base ho40) hb)
   have n2_ := aM (Kd.V_elder' (by (with_reducible repeat (first|apply Kd.V_alloc|apply Kd.V_drewN|apply Kd.V_drew)); exact HO221.out) (Kd.N_base ho40) hb)
   have n3_ := aM (Kd.V_elder' (by (with_reducible repeat (first|apply Kd.V_alloc|apply Kd.V_drewN|apply Kd.V_drew)); exact HO226.out) (Kd.N_base ho40) hb)
   have n4_ := aM (Kd.V_elder' (by (with_reducible repeat (first|apply Kd.V_alloc|apply Kd.V_drewN|apply Kd.V_drew)); exact HO231.out) (Kd.N_base ho40) hb)
   have n5_ := aM (Kd.V_elder' (by (with_reducible repeat (first|apply Kd.V_alloc|apply Kd.V_drewN|apply Kd.V_drew)); exact HO236.out) (Kd.N_base ho40) hb)
   have n6_ := aM (Kd.V_elder' (by (with_reducible repeat (first|apply Kd.V_alloc|apply Kd.V_drewN|apply Kd.V_drew)); exact HO241.out) (Kd.N_base ho40) hb)
   have n7_ := aM (Kd.N_lower ho40 (below_size (by repeat (first|(with_reducible first|exact HB.out|apply lA|apply lN|apply lD|refine lS ?_ GE200.out)|exact HB.out))))
   have n8_ := aM (blk_below (by (with_reducible repeat (first|refine bN ?_ _|refine bD ?_|refine bA ?_ _)); exact BK200.out) hb)
   have n9_ := aM (below_step (by repeat (first|(with_reducible first|exact HB.out|apply lA|apply lN|apply lD|refine lS ?_ GE200.out)|exact HB.out)) hb)
   clear HO0
   clear HO1_6
   clear HO221
   clear HO226
   clear HO231
   clear HO236
   clear HO241
   clear BK200
   clear HB
   have HO0 := n0_
   have HO1_6 := n1_
   have HO221 := n2_
   have HO226 := n3_
   have HO231 := n4_
   have HO236 := n5_
   have HO241 := n6_
   have HO244 := n7_
   have BK200 := n8_
   have HB := n9_
   clear n0_ n1_ n2_ n3_ n4_ n5_ n6_ n7_ n8_ n9_
   clear hb ho40
   obtain ⟨Ao41, co41, eo41⟩ := Kd.N_slice HO244.out
   (first|subst eo41|(injection eo41 with f1_ f2_ f3_; have f4_ := f1_.symm; have f5_ := f3_.symm; clear f1_ f2_ f3_; subst f4_; subst f5_))
   refine hK.out _ _ ⟨(blk_cell BK200.out 0).trans rfl, (blk_cell BK200.out 1).trans rfl, (blk_cell BK200.out 2).trans rfl, (blk_cell BK200.out 3).trans rfl, (blk_cell BK200.out 4).trans rfl, (blk_cell BK200.out 5).trans rfl, (blk_cell BK200.out 6).trans rfl, (blk_cell BK200.out 7).trans rfl⟩ (fun hHeld => ?_)
   clear hK K
   refine norm_ (a' := ?_) ?_ ?_
   rotate_left
   ·show Act.put _ (some 50) _ = _
    simp only [Act.put, sA, sZ, sS, i64_w, i32_w]
    rfl
   refine one_ (i := 25) (N := some 51) #[true, true, true, true, true, true, true, true, true, true, true, true, true, true, true, true, true, true, true, true, true, true, true, true, true, true, false] rfl rfl (one_of HT_.out (by kernel_rfl)) (by decide) (fun K hK => ?_)
   refine goes_ Tryd.func52 (by kernel_rfl) rfl #[.slice Ao41 y242.length co41] (by rfl) rfl rfl (by (try simp only [List.map_toArray, List.map_cons, List.map_nil]); first|done|rfl|(simp only [List.length_drop, List.length_take]; rfl)) ?_
   with_reducible refine (step_tokens.calls _ _ y242 t245 _ ?side1 ?side2 A30.out).mono ?_
   (case side1 => repeat (first|exact (Kd.N_reads' HO244.out).2.2|(with_reducible refine Kd.C_alloc ?_ _)|(with_reducible refine Kd.C_drewN ?_ _)|(with_reducible refine Kd.C_drew ?_)))
   (case side2 => exact (Kd.N_reads' HO244.out).2.1)
   rintro e w42 ⟨v246, rfl, ho0, hb⟩
   refine ⟨_, rfl, ?_⟩
   have n0_ := aM (Kd.V_elder' (by (with_reducible repeat (first|apply Kd.V_alloc|apply Kd.V_drewN|apply Kd.V_drew)); exact HO0.out) (Kd.R_base ho0) hb)
   have n1_ := aM (Kd.V_elder' (by (with_reducible repeat (first|apply Kd.V_alloc|apply Kd.V_drewN|apply Kd.V_drew)); exact HO1_6.out) (Kd.R_base ho0) hb)
   have n2_ := aM (Kd.V_elder' (by (with_reducible repeat (first|apply Kd.V_alloc|apply Kd.V_drewN|apply Kd.V_drew)); exact HO221.out) (Kd.R_base ho0) hb)
   have n3_ := aM (Kd.V_elder' (by (with_reducible repeat (first|apply Kd.V_alloc|apply Kd.V_drewN|apply Kd.V_drew)); exact HO226.out) (Kd.R_base ho0) hb)
   have n4_ := aM (Kd.V_elder' (by (with_reducible repeat (first|apply Kd.V_alloc|apply Kd.V_drewN|apply Kd.V_drew)); exact HO231.out) (Kd.R_base ho0) hb)
   have n5_ := aM (Kd.V_elder' (by (with_reducible repeat (first|apply Kd.V_alloc|apply Kd.V_drewN|apply Kd.V_drew)); exact HO236.out) (Kd.R_base ho0) hb)
   have n6_ := aM (Kd.V_elder' (by (with_reducible repeat (first|apply Kd.V_alloc|apply Kd.V_drewN|apply Kd.V_drew)); exact HO241.out) (Kd.R_base ho0) hb)
   have n7_ := aM (Kd.N_elder' (by (with_reducible repeat (first|apply Kd.N_alloc|apply Kd.N_drewN|apply Kd.N_drew)); exact HO244.out) (Kd.R_base ho0) hb)
   have n8_ := aM (Kd.R_lower (Kd.R_newM (M := fun k_ => (w.heap.size ≤ k_)) ho0 (below_size (by repeat (first|(with_reducible first|exact HB.out|apply lA|apply lN|apply lD|refine lS ?_ GE200.out)|exact HB.out))) (fun k_ h_ => h_)) (below_size (by repeat (first|(with_reducible first|exact HB.out|apply lA|apply lN|apply lD|refine lS ?_ GE200.out)|exact HB.out))))
   have n9_ := aM (blk_below (by (with_reducible repeat (first|refine bN ?_ _|refine bD ?_|refine bA ?_ _)); exact BK200.out) hb)
   have n10_ := aM (below_step (by repeat (first|(with_reducible first|exact HB.out|apply lA|apply lN|apply lD|refine lS ?_ GE200.out)|exact HB.out)) hb)
   clear HO0
   clear HO1_6
   clear HO221
   clear HO226
   clear HO231
   clear HO236
   clear HO241
   clear HO244
   clear BK200
   clear HB
   have HO0 := n0_
   have HO1_6 := n1_
   have HO221 := n2_
   have HO226 := n3_
   have HO231 := n4_
   have HO236 := n5_
   have HO241 := n6_
   have HO244 := n7_
   have HO247 := n8_
   have BK200 := n9_
   have HB := n10_
   clear n0_ n1_ n2_ n3_ n4_ n5_ n6_ n7_ n8_ n9_ n10_
   refine hK.out _ _ ⟨(blk_cell BK200.out 0).trans rfl, (blk_cell BK200.out 1).trans rfl, (blk_cell BK200.out 2).trans rfl, (blk_cell BK200.out 3).trans rfl, (blk_cell BK200.out 4).trans rfl, (blk_cell BK200.out 5).trans rfl, (blk_cell BK200.out 6).trans rfl, (blk_cell BK200.out 7).trans rfl⟩ (fun hHeld => ?_)
   clear hK K
   refine norm_ (a' := ?_) ?_ ?_
   rotate_left
   ·show Act.put _ (some 51) _ = _
    simp only [Act.put, sA, sZ, sS, i64_w, i32_w]
    rfl
   refine pure_ (i := 26) (N := some 4) (v := ?_) (a' := ?_) #[true, true, true, true, true, true, true, true, true, true, true, true, true, true, true, true, true, true, true, true, true, true, true, true, true, true, true] rfl rfl (any_of HT_.out (by kernel_rfl)) (fun _ _ _ h => h) (Or.inl ⟨by rfl, ?_⟩) ?_ ?_
   rotate_left
   ·intro w'
    go_simp
    with_reducible rfl
   rotate_left
   ·simp only [Act.put, sA, sZ, sS, i64_w, i32_w]
    rfl
   refine done_ (done_of HT_.out (by kernel_rfl)) ?_
   try go_wp2
   go_ret
   exact ⟨_, by first|rfl|(simp [errW_none, errW_some] <;> rfl)|(simp [*, errW_none, errW_some] <;> rfl), by (with_reducible repeat (first|apply Kd.R_alloc|apply Kd.R_drewN|apply Kd.R_drew)); exact Kd.R_mono HO247.out (fun _ hk => hk.1), by repeat (first|(with_reducible first|exact HB.out|apply lA|apply lN|apply lD|refine lS ?_ GE200.out)|exact HB.out)⟩
  ·rw [if_neg c18] at H
   have c18b0 : (a1_0 == 1) = false := beq_eq_false_iff_ne.mpr c18
   have c18b1 : (a1_0 != 1) = true := bne_iff_ne.mpr c18
   by_cases c43 : a1_0 = 3
   ·rw [if_pos c43] at H
    have c43b0 : (a1_0 == 3) = true := beq_iff_eq.mpr c43
    have c43b1 : (a1_0 != 3) = false := bne_eq_false_iff_eq.mpr c43
    clear c43
    obtain ⟨y248, hy248⟩ : ∃ y_ : List (List (S48)), y_ = (([l0] : List (List (S48)))) := ⟨_, rfl⟩
    replace H : ((step_tokens.f y248).bind fun t251 => (step_do.l0 k t251 a1_1 a1_0 a1_1 a1_2 a1_3 a1_4 a1_5 l1_6 a1_7)) = some r := by first|(rw [hy248]; with_reducible exact H)|(have H2_ := (Option.bind_some _ _).symm.trans H; rw [hy248]; with_reducible exact H2_)|(have H2_ := (Option.bind_some _ _).symm.trans H; with_reducible exact H2_)|with_reducible exact H|(rw [hy248]; exact H)|exact H
    have Ny248 := aM hy248
    clear hy248
    replace H := Option.bind_eq_some_iff.mp H
    obtain ⟨t251, A440, H⟩ := H
    replace H : (step_do.l0 k t251 a1_1 a1_0 a1_1 a1_2 a1_3 a1_4 a1_5 l1_6 a1_7) = some r := H
    have A44 := aM A440
    clear A440
    have H' := aM H
    clear H
    go_enter Tryd.func43, Tryd.ntmps43
    go_wp2_with (first|((with_reducible refine gate_dst (N := 3) rfl ?_); refine box_event ?hg (N := 3) ?hd (cs := #[.int .i64 a1_0, .int .i64 a1_1, .int .i64 a1_2, .int .i64 a1_3, .int .i64 a1_4, .int .i64 a1_5, .slice A1_6 l1_6.length c1_6, .int .i64 a1_7]) (t := 45) ?hr ?_; (case hd => rfl); (case hg => rfl); (case hr => first|(go_simp; done)|(go_simp; rfl)); intro gb200 hg w45 hbox hb; replace HO0 := aM (Kd.V_below (Kd.V_elderB (by (with_reducible repeat (first|apply Kd.V_alloc|apply Kd.V_drewN|apply Kd.V_drew)); exact HO0.out) gb200 (Nat.le_of_eq hg.symm)) hb); replace HO1_6 := aM (Kd.V_below (Kd.V_elderB (by (with_reducible repeat (first|apply Kd.V_alloc|apply Kd.V_drewN|apply Kd.V_drew)); exact HO1_6.out) gb200 (Nat.le_of_eq hg.symm)) hb); replace BK200 := aM (hbox); replace GW200 := aM ((by rw [hg]; exact (below_size (by repeat (first|(with_reducible first|exact HB.out|apply lA|apply lN|apply lD)|exact HB.out))) : w.heap.size ≤ gb200)); replace GE200 := aM ((by rw [hg]; exact (below_size (by repeat (first|(with_reducible first|exact HB.out|apply lA|apply lN|apply lD)|exact HB.out))) : w.heap.size ≤ gb200)); replace HB := aM (below_step (by repeat (first|(with_reducible first|exact HB.out|apply lA|apply lN|apply lD)|exact HB.out)) hb); clear hb hbox hg; obtain ⟨hcz46_0, hcz46_1, hcz46_2, hcz46_3, hcz46_4, hcz46_5, hcz46_6, hcz46_7, hfz46_0, hfz46_1, hfz46_2, hfz46_3, hfz46_4, hfz46_5, hfz46_6, hfz46_7⟩ := bx8z BK200.out)|((with_reducible refine gate_dst (N := 56) rfl ?_); refine Kd.N_lit (Kd.slice 48 k48) _ 22 ?hg (N' := 56) ?hd (xs := ([l0] : List (List (S48)))) (inner := [.slice A0 l0.length c0]) (ok := (fun k_ => ((P0_ k_ ∨ P1_6_ k_) ∨ w.heap.size ≤ k_) ∧ k_ ≠ gb200)) (okp := (fun k_ => ((P0_ k_ ∨ P1_6_ k_) ∨ w.heap.size ≤ k_) ∧ k_ ≠ gb200)) ?hr ?hp (fun _ hk => hk) ((show ∀ k_, w45.heap.size ≤ k_ → (fun k_ => ((P0_ k_ ∨ P1_6_ k_) ∨ w.heap.size ≤ k_) ∧ k_ ≠ gb200) k_ from fun k_ hk => ⟨(.inr (Nat.le_trans (below_size (by repeat (first|(with_reducible first|exact HB.out|apply lA|apply lN|apply lD|refine lS ?_ GE200.out)|exact HB.out))) hk)), Kd.freshB (g := gb200) (o := .cells #[.int .i64 a1_0, .int .i64 a1_1, .int .i64 a1_2, .int .i64 a1_3, .int .i64 a1_4, .int .i64 a1_5, .slice A1_6 l1_6.length c1_6, .int .i64 a1_7] 45 (0, 0)) (by (with_reducible repeat (first|refine bN ?_ _|refine bD ?_|refine bA ?_ _)); exact BK200.out) k_ hk⟩) _ (Nat.le_refl _)) (Below.refl _ _) (Nat.le_refl _) (by simp) ?_; (case hd => rfl); (case hg => rfl); (case hr => first|(go_simp; done)|(go_simp; rfl)); (case hp => exact (Reps.one (show Kd.FK (Kd.slice 48 k48) _ _ l0 [.slice A0 l0.length c0] from (Kd.FK_slice_mk (Kd.V_reads' (Kd.V_mono (ok' := (fun k_ => ((P0_ k_ ∨ P1_6_ k_) ∨ w.heap.size ≤ k_) ∧ k_ ≠ gb200)) (HO0.out) (fun k_ hk => ⟨hk.1, hk.2⟩))).2.1 (Kd.V_F (Kd.V_mono (ok' := (fun k_ => ((P0_ k_ ∨ P1_6_ k_) ∨ w.heap.size ≤ k_) ∧ k_ ≠ gb200)) (HO0.out) (fun k_ hk => ⟨hk.1, hk.2⟩))))) (Reps.none _ _))); intro v249 w47 ho48 hb hg_ hnew_; clear hg_ hnew_; (first|rw [← Ny248.out] at ho48|(simp only [Int.reduceToNat] at ho48; rw [← Ny248.out] at ho48)); replace HO0 := aM (Kd.V_elder' (by (with_reducible repeat (first|apply Kd.V_alloc|apply Kd.V_drewN|apply Kd.V_drew)); exact HO0.out) (Kd.N_base ho48) hb); replace HO1_6 := aM (Kd.V_elder' (by (with_reducible repeat (first|apply Kd.V_alloc|apply Kd.V_drewN|apply Kd.V_drew)); exact HO1_6.out) (Kd.N_base ho48) hb); replace HO250 := aM (Kd.N_lower ho48 (below_size (by repeat (first|(with_reducible first|exact HB.out|apply lA|apply lN|apply lD|refine lS ?_ GE200.out)|exact HB.out)))); replace BK200 := aM (blk_below (by (with_reducible repeat (first|refine bN ?_ _|refine bD ?_|refine bA ?_ _)); exact BK200.out) hb); replace HB := aM (below_step (by repeat (first|(with_reducible first|exact HB.out|apply lA|apply lN|apply lD|refine lS ?_ GE200.out)|exact HB.out)) hb); clear hb ho48; obtain ⟨Ao49, co49, eo49⟩ := Kd.N_slice HO250.out; subst eo49)|((with_reducible refine gate_callee (f := 52) rfl ?_); refine goesL_ (some 57) rfl rfl Tryd.func52 (by kernel_rfl) rfl #[.slice Ao49 y248.length co49] rfl (by (try simp only [List.map_toArray, List.map_cons, List.map_nil]); first|done|rfl|(simp only [List.length_drop, List.length_take]; rfl)) ?_; (with_reducible refine (step_tokens.calls _ _ y248 t251 _ ?side1 ?side2 A44.out).mono ?_); (case side1 => repeat (first|exact (Kd.N_reads' HO250.out).2.2|(with_reducible refine Kd.C_alloc ?_ _)|(with_reducible refine Kd.C_drewN ?_ _)|(with_reducible refine Kd.C_drew ?_))); (case side2 => exact (Kd.N_reads' HO250.out).2.1); rintro e w50 ⟨v252, rfl, ho0, hb⟩; refine ⟨_, rfl, ?_⟩; replace HO0 := aM (Kd.V_elder' (by (with_reducible repeat (first|apply Kd.V_alloc|apply Kd.V_drewN|apply Kd.V_drew)); exact HO0.out) (Kd.R_base ho0) hb); replace HO1_6 := aM (Kd.V_elder' (by (with_reducible repeat (first|apply Kd.V_alloc|apply Kd.V_drewN|apply Kd.V_drew)); exact HO1_6.out) (Kd.R_base ho0) hb); replace HO250 := aM (Kd.N_elder' (by (with_reducible repeat (first|apply Kd.N_alloc|apply Kd.N_drewN|apply Kd.N_drew)); exact HO250.out) (Kd.R_base ho0) hb); replace HO253 := aM (Kd.R_lower (Kd.R_newM (M := fun k_ => (w.heap.size ≤ k_)) ho0 (below_size (by repeat (first|(with_reducible first|exact HB.out|apply lA|apply lN|apply lD|refine lS ?_ GE200.out)|exact HB.out))) (fun k_ h_ => h_)) (below_size (by repeat (first|(with_reducible first|exact HB.out|apply lA|apply lN|apply lD|refine lS ?_ GE200.out)|exact HB.out)))); replace BK200 := aM (blk_below (by (with_reducible repeat (first|refine bN ?_ _|refine bD ?_|refine bA ?_ _)); exact BK200.out) hb); replace HB := aM (below_step (by repeat (first|(with_reducible first|exact HB.out|apply lA|apply lN|apply lD|refine lS ?_ GE200.out)|exact HB.out)) hb); (try clear hb); (try clear hb2); (try clear hk); (try clear hi); (try clear ho0); obtain ⟨hcz51_0, hcz51_1, hcz51_2, hcz51_3, hcz51_4, hcz51_5, hcz51_6, hcz51_7, hfz51_0, hfz51_1, hfz51_2, hfz51_3, hfz51_4, hfz51_5, hfz51_6, hfz51_7⟩ := bx8z BK200.out))
    go_loopg [7] k (fun kq v7 w' => ∃ (x6_1 : List (S48)) (x7_1 : Int), v7 = .int .i64 x7_1 ∧ Aside0 (step_do.l0 kq x6_1 x7_1 a1_0 a1_1 a1_2 a1_3 a1_4 a1_5 l1_6 a1_7 = some r) ∧ Aside0 (kq ≤ k) ∧ Aside0 (Kd.R k48 48 w' w.heap.size (fun k_ => (w.heap.size ≤ k_)) v252 x6_1) ∧ Aside0 (Kd.V k48 48 w' w.heap.size (fun k_ => ((P0_ k_ ∨ P1_6_ k_) ∨ w.heap.size ≤ k_) ∧ some k_ ≠ (v252 : Value).ownBlock ∧ k_ ≠ gb200) (.slice A1_6 l1_6.length c1_6) l1_6) ∧ Aside0 (w'.heap[gb200]? = some (.cells #[.int .i64 a1_0, .int .i64 a1_1, .int .i64 a1_2, .int .i64 a1_3, .int .i64 a1_4, .int .i64 a1_5, (.slice A1_6 l1_6.length c1_6), .int .i64 a1_7] 45 (0, 0))) ∧ Aside0 (Below w.heap.size w w'))
    case atStart => exact ⟨(t251), (a1_1), (by first|rfl|(simp; done)|(simp [*]; done)), H', ⟨Nat.le_refl _⟩, ⟨by (with_reducible repeat (first|apply Kd.R_alloc|apply Kd.R_drewN|apply Kd.R_drew)); exact Kd.R_mono HO253.out (fun _ hk => hk.1)⟩, ⟨by (with_reducible repeat (first|apply Kd.V_alloc|apply Kd.V_drewN|apply Kd.V_drew)); exact Kd.V_mono HO1_6.out (fun _ hk => ⟨hk.1.1.1, ⟨hk.2, hk.1.1.2⟩⟩)⟩, ⟨by (with_reducible repeat (first|refine bN ?_ _|refine bD ?_|refine bA ?_ _)); exact BK200.out⟩, ⟨by repeat (first|(with_reducible first|exact HB.out|apply lA|apply lN|apply lD|refine lS ?_ GE200.out)|exact HB.out)⟩⟩
    case round =>
     clear H'
     obtain ⟨x6_1, x7_1, rfl, HA, HK1, HO_6, HO_201006, BK200, HB⟩ := hrel
     cases gk with
    |zero => exact absurd HA.out (by simp [step_do.l0])
    |succ k1 =>
      have H := HA.out
      clear HA
      simp only [step_do.l0] at H
      by_cases c52 : x7_1 < a1_2
      ·rw [if_pos c52] at H
       have c52b0 : decide (x7_1 < a1_2) = true := decide_eq_true c52
       clear c52
       replace H := ifS H; obtain ⟨c53, H⟩ := H
       have c53b0 : decide (0 ≤ x7_1) = true := decide_eq_true c53
       clear c53
       replace H := ifS H; obtain ⟨c54, H⟩ := H
       have c54b0 : decide (x7_1 < (x6_1.length : Int)) = true := decide_eq_true c54
       clear c54
       by_cases c55 : ((rd_T48 x6_1 x7_1).f0) = 0
       ·rw [if_pos c55] at H
        have c55b0 : (((rd_T48 x6_1 x7_1).f0) == 0) = true := beq_iff_eq.mpr c55
        have c55b1 : (((rd_T48 x6_1 x7_1).f0) != 0) = false := bne_eq_false_iff_eq.mpr c55
        clear c55
        replace H := Option.bind_eq_some_iff.mp H
        obtain ⟨⟨t256, t257⟩, A560, H⟩ := H
        replace H : (step_do.l0 k1 (x6_1.set (x7_1 : Int).toNat (⟨(rd_T48 x6_1 x7_1).f0, (rd_T48 x6_1 x7_1).f1, (rd_T48 x6_1 x7_1).f2, t256⟩ : S48)) (wrap64 (x7_1 + 1)) a1_0 a1_1 a1_2 a1_3 a1_4 a1_5 l1_6 a1_7) = some r := H
        have A56 := aM A560
        clear A560
        obtain ⟨y258, hy258⟩ : ∃ y_ : List (S48), y_ = (x6_1.set (x7_1 : Int).toNat (⟨(rd_T48 x6_1 x7_1).f0, (rd_T48 x6_1 x7_1).f1, (rd_T48 x6_1 x7_1).f2, t256⟩ : S48)) := ⟨_, rfl⟩
        replace H : (step_do.l0 k1 y258 (wrap64 (x7_1 + 1)) a1_0 a1_1 a1_2 a1_3 a1_4 a1_5 l1_6 a1_7) = some r := by first|(rw [hy258]; with_reducible exact H)|(have H2_ := (Option.bind_some _ _).symm.trans H; rw [hy258]; with_reducible exact H2_)|(have H2_ := (Option.bind_some _ _).symm.trans H; with_reducible exact H2_)|with_reducible exact H|(rw [hy258]; exact H)|exact H
        have Ny258 := aM hy258
        clear hy258
        have H' := aM H
        clear H
        obtain ⟨hcz58_0, hcz58_1, hcz58_2, hcz58_3, hcz58_4, hcz58_5, hcz58_6, hcz58_7, hfz58_0, hfz58_1, hfz58_2, hfz58_3, hfz58_4, hfz58_5, hfz58_6, hfz58_7⟩ := bx8z BK200.out
        obtain ⟨Ao59, co59, eo59⟩ := Kd.R_slice HO_6.out
        subst eo59
        have p254 : 0 ≤ (x7_1 : Int) := of_decide_eq_true (by assumption)
        have q254 : x7_1 < (x6_1.length : Int) := of_decide_eq_true (by assumption)
        obtain ⟨ad254, e254, hx254_0, hx254_1, hx254_2, hx254_3⟩ := at_T48 (Kd.R_reads' HO_6.out).2.2 x7_1 p254 q254
        cases e254
        replace p254 := eq_true p254
        replace q254 := eq_true q254
        try go_wp2
        have n0_ := aM (Kd.R_drew HO_6.out)
        have n1_ := aM (Kd.V_drew HO_201006.out)
        have n2_ := aM (bD BK200.out)
        have n3_ := aM (lD HB.out)
        clear HO_6
        clear HO_201006
        clear BK200
        clear HB
        have HO_6 := n0_
        have HO_201006 := n1_
        have BK200 := n2_
        have HB := n3_
        clear n0_ n1_ n2_ n3_
        have p255 : 0 ≤ (x7_1 : Int) := of_decide_eq_true (by assumption)
        have q255 : x7_1 < (x6_1.length : Int) := of_decide_eq_true (by assumption)
        obtain ⟨ad255, e255, hx255_0, hx255_1, hx255_2, hx255_3⟩ := at_T48 (Kd.R_reads' HO_6.out).2.2 x7_1 p255 q255
        obtain rfl : ad254 = ad255 := (by injection e255)
        replace p255 := eq_true p255
        replace q255 := eq_true q255
        refine start_ (n := 17) (S := fun w' => w'.cell? ⟨gb200, 0, none⟩ = some (.int .i64 a1_0) ∧ w'.cell? ⟨gb200, 1, none⟩ = some (.int .i64 a1_1) ∧ w'.cell? ⟨gb200, 2, none⟩ = some (.int .i64 a1_2) ∧ w'.cell? ⟨gb200, 3, none⟩ = some (.int .i64 a1_3) ∧ w'.cell? ⟨gb200, 4, none⟩ = some (.int .i64 a1_4) ∧ w'.cell? ⟨gb200, 5, none⟩ = some (.int .i64 a1_5) ∧ w'.cell? ⟨gb200, 6, none⟩ = some (.slice A1_6 l1_6.length c1_6) ∧ w'.cell? ⟨gb200, 7, none⟩ = some (.int .i64 a1_7) ∧ w'.cell? (ad254.add ((x7_1).toNat * 4)) = some (.int .i64 ((rd_T48 x6_1 x7_1).f0)) ∧ w'.cell? ⟨(ad254.add ((x7_1).toNat * 4)).block, (ad254.add ((x7_1).toNat * 4)).off + 1, none⟩ = some (.int .i64 ((rd_T48 x6_1 x7_1).f1)) ∧ w'.cell? ⟨(ad254.add ((x7_1).toNat * 4)).block, (ad254.add ((x7_1).toNat * 4)).off + 2, none⟩ = some (.int .i64 ((rd_T48 x6_1 x7_1).f2)) ∧ w'.cell? ⟨(ad254.add ((x7_1).toNat * 4)).block, (ad254.add ((x7_1).toNat * 4)).off + 3, none⟩ = some (.int .i64 ((rd_T48 x6_1 x7_1).f3))) (ds := [16]) #[false, false, false, false, false, false, false, false, false, false, false, false, false, false, false, false, false] (by kernel_rfl) rfl rfl ⟨(blk_cell BK200.out 0).trans rfl, (blk_cell BK200.out 1).trans rfl, (blk_cell BK200.out 2).trans rfl, (blk_cell BK200.out 3).trans rfl, (blk_cell BK200.out 4).trans rfl, (blk_cell BK200.out 5).trans rfl, (blk_cell BK200.out 6).trans rfl, (blk_cell BK200.out 7).trans rfl, hx255_0, hx255_1, hx255_2, hx255_3⟩ (fun hHeld => ?_); refine with_tabW step_do.tab14 step_do.bits14 (fun HT_ HW_ => ?_)
        generalize wr.drew = w60 at HO_6 HO_201006 BK200 HB hx255_0 hx255_1 hx255_2 hx255_3 hHeld ⊢
        refine pure_ (i := 0) (N := some 73) (v := ?_) (a' := ?_) #[true, false, false, false, false, false, false, false, false, false, false, false, false, false, false, false, false] rfl rfl (any_of HT_.out (by kernel_rfl)) (fun _ _ _ h => h) (Or.inl ⟨by rfl, ?_⟩) ?_ ?_
        rotate_left
        ·intro w'
         go_simp
         with_reducible rfl
        rotate_left
        ·simp only [Act.put, sA, sZ, sS, i64_w, i32_w]
         rfl
        refine pure_ (i := 1) (N := some 74) (v := ?_) (a' := ?_) #[true, true, false, false, false, false, false, false, false, false, false, false, false, false, false, false, false] rfl rfl (any_of HT_.out (by kernel_rfl)) (fun _ _ _ h => h) (Or.inl ⟨by rfl, ?_⟩) ?_ ?_
        rotate_left
        ·intro w'
         go_simp
         with_reducible rfl
        rotate_left
        ·simp only [Act.put, sA, sZ, sS, i64_w, i32_w]
         rfl
        refine pure_ (i := 2) (N := some 75) (v := ?_) (a' := ?_) #[true, true, true, false, false, false, false, false, false, false, false, false, false, false, false, false, false] rfl rfl (any_of HT_.out (by kernel_rfl)) (fun _ _ _ h => h) (Or.inl ⟨by rfl, ?_⟩) ?_ ?_
        rotate_left
        ·intro w'
         go_simp
         with_reducible rfl
        rotate_left
        ·simp only [Act.put, sA, sZ, sS, i64_w, i32_w]
         rfl
        refine pure_ (i := 3) (N := some 76) (v := ?_) (a' := ?_) #[true, true, true, true, false, false, false, false, false, false, false, false, false, false, false, false, false] rfl rfl (any_of HT_.out (by kernel_rfl)) (fun _ _ _ h => h) (Or.inl ⟨by rfl, ?_⟩) ?_ ?_
        rotate_left
        ·intro w'
         go_simp
         with_reducible rfl
        rotate_left
        ·simp only [Act.put, sA, sZ, sS, i64_w, i32_w]
         rfl
        refine pure_ (i := 4) (N := some 77) (v := ?_) (a' := ?_) #[true, true, true, true, true, false, false, false, false, false, false, false, false, false, false, false, false] rfl rfl (any_of HT_.out (by kernel_rfl)) (fun _ _ _ h => h) (Or.inl ⟨by rfl, ?_⟩) ?_ ?_
        rotate_left
        ·intro w'
         go_simp
         with_reducible rfl
        rotate_left
        ·simp only [Act.put, sA, sZ, sS, i64_w, i32_w]
         rfl
        refine pure_ (i := 5) (N := some 78) (v := ?_) (a' := ?_) #[true, true, true, true, true, true, false, false, false, false, false, false, false, false, false, false, false] rfl rfl (any_of HT_.out (by kernel_rfl)) (fun _ _ _ h => h) (Or.inl ⟨by rfl, ?_⟩) ?_ ?_
        rotate_left
        ·intro w'
         go_simp
         with_reducible rfl
        rotate_left
        ·simp only [Act.put, sA, sZ, sS, i64_w, i32_w]
         rfl
        refine pure_ (i := 6) (N := some 79) (v := ?_) (a' := ?_) #[true, true, true, true, true, true, true, false, false, false, false, false, false, false, false, false, false] rfl rfl (any_of HT_.out (by kernel_rfl)) (fun _ _ _ h => h) (Or.inl ⟨by rfl, ?_⟩) ?_ ?_
        rotate_left
        ·intro w'
         go_simp
         with_reducible rfl
        rotate_left
        ·simp only [Act.put, sA, sZ, sS, i64_w, i32_w]
         rfl
        refine pure_ (i := 8) (N := some 81) (v := ?_) (a' := ?_) #[true, true, true, true, true, true, true, false, true, false, false, false, false, false, false, false, false] rfl rfl (any_of HT_.out (by kernel_rfl)) (fun _ _ _ h => h) (Or.inl ⟨by rfl, ?_⟩) ?_ ?_
        rotate_left
        ·intro w'
         go_simp
         with_reducible rfl
        rotate_left
        ·simp only [Act.put, sA, sZ, sS, i64_w, i32_w]
         rfl
        refine take_ (i := 7) (N := some 80) (v := ?_) (a' := ?_) #[true, true, true, true, true, true, true, true, true, false, false, false, false, false, false, false, false] rfl rfl (take_ofW HT_.out HW_.out (by kernel_rfl)) (fun _ _ _ h => h) (Or.inl ⟨by rfl, ?_⟩) hHeld ?_ ?_
        rotate_left
        ·rintro w' ⟨s0, s1, s2, s3, s4, s5, s6, s7, s8, s9, s10, s11⟩
         go_simp
         with_reducible rfl
        rotate_left
        ·simp only [Act.put, sA, sZ, sS, i64_w, i32_w]
         rfl
        refine take_ (i := 9) (N := some 82) (v := ?_) (a' := ?_) #[true, true, true, true, true, true, true, true, true, true, false, false, false, false, false, false, false] rfl rfl (take_ofW HT_.out HW_.out (by kernel_rfl)) (fun _ _ _ h => h) (Or.inl ⟨by rfl, ?_⟩) hHeld ?_ ?_
        rotate_left
        ·rintro w' ⟨s0, s1, s2, s3, s4, s5, s6, s7, s8, s9, s10, s11⟩
         go_simp
         with_reducible rfl
        rotate_left
        ·simp only [Act.put, sA, sZ, sS, i64_w, i32_w]
         rfl
        refine one_ (i := 10) (N := some 83) #[true, true, true, true, true, true, true, true, true, true, true, false, false, false, false, false, false] rfl rfl (one_of HT_.out (by kernel_rfl)) (by decide) (fun K hK => ?_)
        refine step_do.goes Tryd.func54 (by kernel_rfl) rfl #[.int .i64 ((rd_T48 x6_1 x7_1).f3), .int .i64 a1_7] (by rfl) rfl rfl rfl (by (try simp only [List.map_toArray, List.map_cons, List.map_nil]); first|done|rfl|(simp only [List.length_drop, List.length_take]; rfl)) ?_
        with_reducible refine (mark_Take.calls k1 ((rd_T48 x6_1 x7_1).f3) a1_7 t256 t257 _ A56.out).mono ?_
        rintro e w' ⟨rfl, ⟨nd, rfl⟩⟩
        refine ⟨_, rfl, ?_⟩
        have p57 : 0 ≤ (x7_1 : Int) := of_decide_eq_true (by assumption)
        have q57 : (x7_1 : Int) < ((x6_1.length : Int) : Int) := of_decide_eq_true (by assumption)
        obtain ⟨go57, co57, eo57, gb57, gl57, cl57, HG57⟩ := Kd.R_form HO_6.out (by omega)
        (first|cases eo57|(injection eo57 with ea_ en_ ec_; (first|subst ea_|(injection ea_ with ea_; subst ea_)); subst ec_; clear en_))
        have GB57 := aM gb57
        have GG57 := aM HG57
        clear gb57 gl57 HG57
        (first|simp only [add_plain] at hx254_0|skip)
        (first|simp only [add_plain] at hx254_1|skip)
        (first|simp only [add_plain] at hx254_2|skip)
        (first|simp only [add_plain] at hx254_3|skip)
        (first|simp only [add_plain] at hx255_0|skip)
        (first|simp only [add_plain] at hx255_1|skip)
        (first|simp only [add_plain] at hx255_2|skip)
        (first|simp only [add_plain] at hx255_3|skip)
        obtain ⟨ce57, hcl57, hM57, hcc57, hfr57⟩ := Kd.R_elem HO_6.out z48 (x7_1 : Int) p57 q57
        obtain rfl := k48_openM hM57
        have hx57_0 : World.cell? _ ⟨go57, (x7_1 : Int).toNat * 4, none⟩ = some (.int .i64 ((rd_T48 x6_1 x7_1).f0)) := hcc57 0 _ rfl
        have hx57_1 : World.cell? _ ⟨go57, (x7_1 : Int).toNat * 4 + 1, none⟩ = some (.int .i64 ((rd_T48 x6_1 x7_1).f1)) := hcc57 1 _ rfl
        have hx57_2 : World.cell? _ ⟨go57, (x7_1 : Int).toNat * 4 + 2, none⟩ = some (.int .i64 ((rd_T48 x6_1 x7_1).f2)) := hcc57 2 _ rfl
        have hx57_3 : World.cell? _ ⟨go57, (x7_1 : Int).toNat * 4 + 3, none⟩ = some (.int .i64 ((rd_T48 x6_1 x7_1).f3)) := hcc57 3 _ rfl
        have hf57_0 : World.frozen? _ ⟨go57, (x7_1 : Int).toNat * 4, none⟩ = false := hfr57 0
        have hf57_1 : World.frozen? _ ⟨go57, (x7_1 : Int).toNat * 4 + 1, none⟩ = false := hfr57 1
        have hf57_2 : World.frozen? _ ⟨go57, (x7_1 : Int).toNat * 4 + 2, none⟩ = false := hfr57 2
        have hf57_3 : World.frozen? _ ⟨go57, (x7_1 : Int).toNat * 4 + 3, none⟩ = false := hfr57 3
        (try clear hM57); clear hcl57 hcc57 hfr57
        replace p57 := eq_true p57
        replace q57 := eq_true q57
        obtain ⟨ce61, hcl61, hM61, hcc61, hfr61⟩ := Kd.R_elem HO_6.out z48 (x7_1 : Int) (of_decide_eq_true (by assumption)) (by have h_ : (x7_1 : Int) < ((x6_1.length : Int) : Int) := of_decide_eq_true (by assumption); first|exact h_|(have e_ := (Kd.R_reads' HO_6.out).1; omega)|simpa using h_)
        obtain rfl := k48_openM hM61
        have HP61 := (Kd.R_seg HO_6.out (x7_1 : Int) (of_decide_eq_true (by assumption)) (by have h_ : (x7_1 : Int) < ((x6_1.length : Int) : Int) := of_decide_eq_true (by assumption); first|exact h_|(have e_ := (Kd.R_reads' HO_6.out).1; omega)|simpa using h_) (seg := [.int .i64 t256]) (j := 3) hcl61 hcc61 (show 4 ≤ 4 from by decide) (x' := (⟨(rd_T48 x6_1 x7_1).f0, (rd_T48 x6_1 x7_1).f1, (rd_T48 x6_1 x7_1).f2, t256⟩ : S48)) (k48_mkM _ _ _ (⟨(rd_T48 x6_1 x7_1).f0, (rd_T48 x6_1 x7_1).f1, (rd_T48 x6_1 x7_1).f2, t256⟩ : S48) ) (fun _ hk => hk)).1
        rw [← Ny258.out] at HP61
        have HQ61 := aM HP61
        (try clear hM61); clear hcl61 hcc61 hfr61 HP61
        refine hK.out _ _ ⟨(blk_cell BK200.out 0).trans rfl, (blk_cell BK200.out 1).trans rfl, (blk_cell BK200.out 2).trans rfl, (blk_cell BK200.out 3).trans rfl, (blk_cell BK200.out 4).trans rfl, (blk_cell BK200.out 5).trans rfl, (blk_cell BK200.out 6).trans rfl, (blk_cell BK200.out 7).trans rfl, hHeld.2.2.2.2.2.2.2.2.1, hHeld.2.2.2.2.2.2.2.2.2.1, hHeld.2.2.2.2.2.2.2.2.2.2.1, hHeld.2.2.2.2.2.2.2.2.2.2.2⟩ (fun hHeld => ?_)
        clear hK K
        refine norm_ (a' := ?_) ?_ ?_
        rotate_left
        ·show Act.put _ (some 83) _ = _
         simp only [Act.put, sA, sZ, sS, i64_w, i32_w]
         rfl
        refine pure_ (i := 11) (N := some 72) (v := ?_) (a' := ?_) #[true, true, true, true, true, true, true, true, true, true, true, true, false, false, false, false, false] rfl rfl (any_of HT_.out (by kernel_rfl)) (fun _ _ _ h => h) (Or.inl ⟨by rfl, ?_⟩) ?_ ?_
        rotate_left
        ·intro w'
         go_simp
         with_reducible rfl
        rotate_left
        ·simp only [Act.put, sA, sZ, sS, i64_w, i32_w]
         rfl
        refine pure_ (i := 12) (N := some 84) (v := ?_) (a' := ?_) #[true, true, true, true, true, true, true, true, true, true, true, true, true, false, false, false, false] rfl rfl (any_of HT_.out (by kernel_rfl)) (fun _ _ _ h => h) (Or.inl ⟨by rfl, ?_⟩) ?_ ?_
        rotate_left
        ·intro w'
         go_simp
         with_reducible rfl
        rotate_left
        ·simp only [Act.put, sA, sZ, sS, i64_w, i32_w]
         rfl
        refine pure_ (i := 13) (N := some 85) (v := ?_) (a' := ?_) #[true, true, true, true, true, true, true, true, true, true, true, true, true, true, false, false, false] rfl rfl (any_of HT_.out (by kernel_rfl)) (fun _ _ _ h => h) (Or.inl ⟨by rfl, ?_⟩) ?_ ?_
        rotate_left
        ·intro w'
         go_simp
         with_reducible rfl
        rotate_left
        ·simp only [Act.put, sA, sZ, sS, i64_w, i32_w]
         rfl
        refine pure_ (i := 14) (N := some 86) (v := ?_) (a' := ?_) #[true, true, true, true, true, true, true, true, true, true, true, true, true, true, true, false, false] rfl rfl (any_of HT_.out (by kernel_rfl)) (fun _ _ _ h => h) (Or.inl ⟨by rfl, ?_⟩) ?_ ?_
        rotate_left
        ·intro w'
         go_simp
         with_reducible rfl
        rotate_left
        ·simp only [Act.put, sA, sZ, sS, i64_w, i32_w]
         rfl
        refine pure_ (i := 15) (N := some 87) (v := ?_) (a' := ?_) #[true, true, true, true, true, true, true, true, true, true, true, true, true, true, true, true, false] rfl rfl (any_of HT_.out (by kernel_rfl)) (fun _ _ _ h => h) (Or.inl ⟨by rfl, ?_⟩) ?_ ?_
        rotate_left
        ·intro w'
         go_simp
         with_reducible rfl
        rotate_left
        ·simp only [Act.put, sA, sZ, sS, i64_w, i32_w]
         rfl
        refine last_ (i := 16) (N := none) #[true, true, true, true, true, true, true, true, true, true, true, true, true, true, true, true, true] rfl rfl (one_of HT_.out (by kernel_rfl)) (by decide) (fun K hK => ?_)
        refine skip_ (w1 := ?_) (by rfl) rfl ?_ ?_
        rotate_left
        ·go_simp
         rfl
        refine hK.out _ _ ?_
        clear hK K
        refine done_ (done_of HT_.out (by kernel_rfl)) ?_
        try go_wp2
        go_roundg k1
        case measure => have := HK1.out; omega
        case rel => exact ⟨(y258), (wrap64 (x7_1 + 1)), (by first|rfl|(simp; done)|(simp [*]; done)), H', ⟨by have := HK1.out; omega⟩, ⟨by (with_reducible repeat (first|apply Kd.R_alloc|apply Kd.R_drewN|apply Kd.R_drew)); exact HQ61.out⟩, ⟨by (with_reducible repeat (first|apply Kd.V_alloc|apply Kd.V_drewN|apply Kd.V_drew)); exact Kd.V_mono (Kd.V_far (p := ⟨go57, (x7_1 : Int).toNat * 4 + 3, none⟩) (Kd.V_mono HO_201006.out (fun k_ hk => (⟨hk, fun e_ => hk.2.1 (by rw [e_]; rfl)⟩ : _ ∧ k_ ≠ go57))) (fun _ hk => hk.2) (.int .i64 t256)) (fun _ hk => ⟨hk.1.1, ⟨hk.1.2.1, hk.1.2.2⟩⟩)⟩, ⟨by (with_reducible repeat (first|refine bN ?_ _|refine bD ?_|refine bA ?_ _)); refine bF ?_ (by have h_ := Kd.R_ne HO_6.out BK200.out (by decide); intro e_; exact h_ (by rw [e_]; rfl)) _; (with_reducible repeat (first|refine bN ?_ _|refine bD ?_|refine bA ?_ _)); exact BK200.out⟩, ⟨by repeat (first|(with_reducible first|exact HB.out|apply lA|apply lN|apply lD|refine lS ?_ GB57.out|refine lS ?_ GE200.out)|exact HB.out)⟩⟩
       ·rw [if_neg c55] at H
        have c55b0 : (((rd_T48 x6_1 x7_1).f0) == 0) = false := beq_eq_false_iff_ne.mpr c55
        have c55b1 : (((rd_T48 x6_1 x7_1).f0) != 0) = true := bne_iff_ne.mpr c55
        have H' := aM H
        clear H
        obtain ⟨hcz62_0, hcz62_1, hcz62_2, hcz62_3, hcz62_4, hcz62_5, hcz62_6, hcz62_7, hfz62_0, hfz62_1, hfz62_2, hfz62_3, hfz62_4, hfz62_5, hfz62_6, hfz62_7⟩ := bx8z BK200.out
        obtain ⟨Ao63, co63, eo63⟩ := Kd.R_slice HO_6.out
        subst eo63
        have p254 : 0 ≤ (x7_1 : Int) := of_decide_eq_true (by assumption)
        have q254 : x7_1 < (x6_1.length : Int) := of_decide_eq_true (by assumption)
        obtain ⟨ad254, e254, hx254_0, hx254_1, hx254_2, hx254_3⟩ := at_T48 (Kd.R_reads' HO_6.out).2.2 x7_1 p254 q254
        cases e254
        replace p254 := eq_true p254
        replace q254 := eq_true q254
        go_wp2
        go_roundg k1
        case measure => have := HK1.out; omega
        case rel => exact ⟨(x6_1), (wrap64 (x7_1 + 1)), (by first|rfl|(simp; done)|(simp [*]; done)), H', ⟨by have := HK1.out; omega⟩, ⟨by (with_reducible repeat (first|apply Kd.R_alloc|apply Kd.R_drewN|apply Kd.R_drew)); exact HO_6.out⟩, ⟨by (with_reducible repeat (first|apply Kd.V_alloc|apply Kd.V_drewN|apply Kd.V_drew)); exact HO_201006.out⟩, ⟨by (with_reducible repeat (first|refine bN ?_ _|refine bD ?_|refine bA ?_ _)); exact BK200.out⟩, ⟨by repeat (first|(with_reducible first|exact HB.out|apply lA|apply lN|apply lD|refine lS ?_ GE200.out)|exact HB.out)⟩⟩
      ·rw [if_neg c52] at H
       have c52b0 : decide (x7_1 < a1_2) = false := decide_eq_false c52
       clear c52
       obtain rfl := Option.some.inj H
       obtain ⟨hcz64_0, hcz64_1, hcz64_2, hcz64_3, hcz64_4, hcz64_5, hcz64_6, hcz64_7, hfz64_0, hfz64_1, hfz64_2, hfz64_3, hfz64_4, hfz64_5, hfz64_6, hfz64_7⟩ := bx8z BK200.out
       go_wp2
       go_ret
       exact ⟨_, by first|rfl|(simp [errW_none, errW_some] <;> rfl)|(simp [*, errW_none, errW_some] <;> rfl), by (with_reducible repeat (first|apply Kd.R_alloc|apply Kd.R_drewN|apply Kd.R_drew)); exact HO_6.out, by repeat (first|(with_reducible first|exact HB.out|apply lA|apply lN|apply lD|refine lS ?_ GE200.out)|exact HB.out)⟩
   ·rw [if_neg c43] at H
    have c43b0 : (a1_0 == 3) = false := beq_eq_false_iff_ne.mpr c43
    have c43b1 : (a1_0 != 3) = true := bne_iff_ne.mpr c43
    obtain ⟨y259, hy259⟩ : ∃ y_ : List (List (S48)), y_ = (([l0] : List (List (S48)))) := ⟨_, rfl⟩
    replace H : ((step_tokens.f y259).bind fun t262 => (step_do.l1 k t262 a1_1 a1_0 a1_1 a1_2 a1_3 a1_4 a1_5 l1_6 a1_7)) = some r := by first|(rw [hy259]; with_reducible exact H)|(have H2_ := (Option.bind_some _ _).symm.trans H; rw [hy259]; with_reducible exact H2_)|(have H2_ := (Option.bind_some _ _).symm.trans H; with_reducible exact H2_)|with_reducible exact H|(rw [hy259]; exact H)|exact H
    have Ny259 := aM hy259
    clear hy259
    replace H := Option.bind_eq_some_iff.mp H
    obtain ⟨t262, A650, H⟩ := H
    replace H : (step_do.l1 k t262 a1_1 a1_0 a1_1 a1_2 a1_3 a1_4 a1_5 l1_6 a1_7) = some r := H
    have A65 := aM A650
    clear A650
    have H' := aM H
    clear H
    go_enter Tryd.func43, Tryd.ntmps43
    go_wp2_with (first|((with_reducible refine gate_dst (N := 3) rfl ?_); refine box_event ?hg (N := 3) ?hd (cs := #[.int .i64 a1_0, .int .i64 a1_1, .int .i64 a1_2, .int .i64 a1_3, .int .i64 a1_4, .int .i64 a1_5, .slice A1_6 l1_6.length c1_6, .int .i64 a1_7]) (t := 45) ?hr ?_; (case hd => rfl); (case hg => rfl); (case hr => first|(go_simp; done)|(go_simp; rfl)); intro gb200 hg w66 hbox hb; replace HO0 := aM (Kd.V_below (Kd.V_elderB (by (with_reducible repeat (first|apply Kd.V_alloc|apply Kd.V_drewN|apply Kd.V_drew)); exact HO0.out) gb200 (Nat.le_of_eq hg.symm)) hb); replace HO1_6 := aM (Kd.V_below (Kd.V_elderB (by (with_reducible repeat (first|apply Kd.V_alloc|apply Kd.V_drewN|apply Kd.V_drew)); exact HO1_6.out) gb200 (Nat.le_of_eq hg.symm)) hb); replace BK200 := aM (hbox); replace GW200 := aM ((by rw [hg]; exact (below_size (by repeat (first|(with_reducible first|exact HB.out|apply lA|apply lN|apply lD)|exact HB.out))) : w.heap.size ≤ gb200)); replace GE200 := aM ((by rw [hg]; exact (below_size (by repeat (first|(with_reducible first|exact HB.out|apply lA|apply lN|apply lD)|exact HB.out))) : w.heap.size ≤ gb200)); replace HB := aM (below_step (by repeat (first|(with_reducible first|exact HB.out|apply lA|apply lN|apply lD)|exact HB.out)) hb); clear hb hbox hg; obtain ⟨hcz67_0, hcz67_1, hcz67_2, hcz67_3, hcz67_4, hcz67_5, hcz67_6, hcz67_7, hfz67_0, hfz67_1, hfz67_2, hfz67_3, hfz67_4, hfz67_5, hfz67_6, hfz67_7⟩ := bx8z BK200.out)|((with_reducible refine gate_dst (N := 56) rfl ?_); refine Kd.N_lit (Kd.slice 48 k48) _ 22 ?hg (N' := 56) ?hd (xs := ([l0] : List (List (S48)))) (inner := [.slice A0 l0.length c0]) (ok := (fun k_ => ((P0_ k_ ∨ P1_6_ k_) ∨ w.heap.size ≤ k_) ∧ k_ ≠ gb200)) (okp := (fun k_ => ((P0_ k_ ∨ P1_6_ k_) ∨ w.heap.size ≤ k_) ∧ k_ ≠ gb200)) ?hr ?hp (fun _ hk => hk) ((show ∀ k_, w66.heap.size ≤ k_ → (fun k_ => ((P0_ k_ ∨ P1_6_ k_) ∨ w.heap.size ≤ k_) ∧ k_ ≠ gb200) k_ from fun k_ hk => ⟨(.inr (Nat.le_trans (below_size (by repeat (first|(with_reducible first|exact HB.out|apply lA|apply lN|apply lD|refine lS ?_ GE200.out)|exact HB.out))) hk)), Kd.freshB (g := gb200) (o := .cells #[.int .i64 a1_0, .int .i64 a1_1, .int .i64 a1_2, .int .i64 a1_3, .int .i64 a1_4, .int .i64 a1_5, .slice A1_6 l1_6.length c1_6, .int .i64 a1_7] 45 (0, 0)) (by (with_reducible repeat (first|refine bN ?_ _|refine bD ?_|refine bA ?_ _)); exact BK200.out) k_ hk⟩) _ (Nat.le_refl _)) (Below.refl _ _) (Nat.le_refl _) (by simp) ?_; (case hd => rfl); (case hg => rfl); (case hr => first|(go_simp; done)|(go_simp; rfl)); (case hp => exact (Reps.one (show Kd.FK (Kd.slice 48 k48) _ _ l0 [.slice A0 l0.length c0] from (Kd.FK_slice_mk (Kd.V_reads' (Kd.V_mono (ok' := (fun k_ => ((P0_ k_ ∨ P1_6_ k_) ∨ w.heap.size ≤ k_) ∧ k_ ≠ gb200)) (HO0.out) (fun k_ hk => ⟨hk.1, hk.2⟩))).2.1 (Kd.V_F (Kd.V_mono (ok' := (fun k_ => ((P0_ k_ ∨ P1_6_ k_) ∨ w.heap.size ≤ k_) ∧ k_ ≠ gb200)) (HO0.out) (fun k_ hk => ⟨hk.1, hk.2⟩))))) (Reps.none _ _))); intro v260 w68 ho69 hb hg_ hnew_; clear hg_ hnew_; (first|rw [← Ny259.out] at ho69|(simp only [Int.reduceToNat] at ho69; rw [← Ny259.out] at ho69)); replace HO0 := aM (Kd.V_elder' (by (with_reducible repeat (first|apply Kd.V_alloc|apply Kd.V_drewN|apply Kd.V_drew)); exact HO0.out) (Kd.N_base ho69) hb); replace HO1_6 := aM (Kd.V_elder' (by (with_reducible repeat (first|apply Kd.V_alloc|apply Kd.V_drewN|apply Kd.V_drew)); exact HO1_6.out) (Kd.N_base ho69) hb); replace HO261 := aM (Kd.N_lower ho69 (below_size (by repeat (first|(with_reducible first|exact HB.out|apply lA|apply lN|apply lD|refine lS ?_ GE200.out)|exact HB.out)))); replace BK200 := aM (blk_below (by (with_reducible repeat (first|refine bN ?_ _|refine bD ?_|refine bA ?_ _)); exact BK200.out) hb); replace HB := aM (below_step (by repeat (first|(with_reducible first|exact HB.out|apply lA|apply lN|apply lD|refine lS ?_ GE200.out)|exact HB.out)) hb); clear hb ho69; obtain ⟨Ao70, co70, eo70⟩ := Kd.N_slice HO261.out; subst eo70)|((with_reducible refine gate_callee (f := 52) rfl ?_); refine goesL_ (some 57) rfl rfl Tryd.func52 (by kernel_rfl) rfl #[.slice Ao70 y259.length co70] rfl (by (try simp only [List.map_toArray, List.map_cons, List.map_nil]); first|done|rfl|(simp only [List.length_drop, List.length_take]; rfl)) ?_; (with_reducible refine (step_tokens.calls _ _ y259 t262 _ ?side1 ?side2 A65.out).mono ?_); (case side1 => repeat (first|exact (Kd.N_reads' HO261.out).2.2|(with_reducible refine Kd.C_alloc ?_ _)|(with_reducible refine Kd.C_drewN ?_ _)|(with_reducible refine Kd.C_drew ?_))); (case side2 => exact (Kd.N_reads' HO261.out).2.1); rintro e w71 ⟨v263, rfl, ho0, hb⟩; refine ⟨_, rfl, ?_⟩; replace HO0 := aM (Kd.V_elder' (by (with_reducible repeat (first|apply Kd.V_alloc|apply Kd.V_drewN|apply Kd.V_drew)); exact HO0.out) (Kd.R_base ho0) hb); replace HO1_6 := aM (Kd.V_elder' (by (with_reducible repeat (first|apply Kd.V_alloc|apply Kd.V_drewN|apply Kd.V_drew)); exact HO1_6.out) (Kd.R_base ho0) hb); replace HO261 := aM (Kd.N_elder' (by (with_reducible repeat (first|apply Kd.N_alloc|apply Kd.N_drewN|apply Kd.N_drew)); exact HO261.out) (Kd.R_base ho0) hb); replace HO264 := aM (Kd.R_lower (Kd.R_newM (M := fun k_ => (w.heap.size ≤ k_)) ho0 (below_size (by repeat (first|(with_reducible first|exact HB.out|apply lA|apply lN|apply lD|refine lS ?_ GE200.out)|exact HB.out))) (fun k_ h_ => h_)) (below_size (by repeat (first|(with_reducible first|exact HB.out|apply lA|apply lN|apply lD|refine lS ?_ GE200.out)|exact HB.out)))); replace BK200 := aM (blk_below (by (with_reducible repeat (first|refine bN ?_ _|refine bD ?_|refine bA ?_ _)); exact BK200.out) hb); replace HB := aM (below_step (by repeat (first|(with_reducible first|exact HB.out|apply lA|apply lN|apply lD|refine lS ?_ GE200.out)|exact HB.out)) hb); (try clear hb); (try clear hb2); (try clear hk); (try clear hi); (try clear ho0); obtain ⟨hcz72_0, hcz72_1, hcz72_2, hcz72_3, hcz72_4, hcz72_5, hcz72_6, hcz72_7, hfz72_0, hfz72_1, hfz72_2, hfz72_3, hfz72_4, hfz72_5, hfz72_6, hfz72_7⟩ := bx8z BK200.out))
    go_loopg [7] k (fun kq v7 w' => ∃ (x6_1 : List (S48)) (x7_1 : Int), v7 = .int .i64 x7_1 ∧ Aside0 (step_do.l1 kq x6_1 x7_1 a1_0 a1_1 a1_2 a1_3 a1_4 a1_5 l1_6 a1_7 = some r) ∧ Aside0 (kq ≤ k) ∧ Aside0 (Kd.R k48 48 w' w.heap.size (fun k_ => (w.heap.size ≤ k_)) v263 x6_1) ∧ Aside0 (Kd.V k48 48 w' w.heap.size (fun k_ => ((P0_ k_ ∨ P1_6_ k_) ∨ w.heap.size ≤ k_) ∧ some k_ ≠ (v263 : Value).ownBlock ∧ k_ ≠ gb200) (.slice A1_6 l1_6.length c1_6) l1_6) ∧ Aside0 (w'.heap[gb200]? = some (.cells #[.int .i64 a1_0, .int .i64 a1_1, .int .i64 a1_2, .int .i64 a1_3, .int .i64 a1_4, .int .i64 a1_5, (.slice A1_6 l1_6.length c1_6), .int .i64 a1_7] 45 (0, 0))) ∧ Aside0 (Below w.heap.size w w'))
    case atStart => exact ⟨(t262), (a1_1), (by first|rfl|(simp; done)|(simp [*]; done)), H', ⟨Nat.le_refl _⟩, ⟨by (with_reducible repeat (first|apply Kd.R_alloc|apply Kd.R_drewN|apply Kd.R_drew)); exact Kd.R_mono HO264.out (fun _ hk => hk.1)⟩, ⟨by (with_reducible repeat (first|apply Kd.V_alloc|apply Kd.V_drewN|apply Kd.V_drew)); exact Kd.V_mono HO1_6.out (fun _ hk => ⟨hk.1.1.1, ⟨hk.2, hk.1.1.2⟩⟩)⟩, ⟨by (with_reducible repeat (first|refine bN ?_ _|refine bD ?_|refine bA ?_ _)); exact BK200.out⟩, ⟨by repeat (first|(with_reducible first|exact HB.out|apply lA|apply lN|apply lD|refine lS ?_ GE200.out)|exact HB.out)⟩⟩
    case round =>
     clear H'
     obtain ⟨x6_1, x7_1, rfl, HA, HK1, HO_6, HO_201006, BK200, HB⟩ := hrel
     cases gk with
    |zero => exact absurd HA.out (by simp [step_do.l1])
    |succ k1 =>
      have H := HA.out
      clear HA
      simp only [step_do.l1] at H
      by_cases c73 : x7_1 < a1_2
      ·rw [if_pos c73] at H
       have c73b0 : decide (x7_1 < a1_2) = true := decide_eq_true c73
       clear c73
       replace H := ifS H; obtain ⟨c74, H⟩ := H
       have c74b0 : decide (0 ≤ x7_1) = true := decide_eq_true c74
       clear c74
       replace H := ifS H; obtain ⟨c75, H⟩ := H
       have c75b0 : decide (x7_1 < (x6_1.length : Int)) = true := decide_eq_true c75
       clear c75
       by_cases c76 : ((rd_T48 x6_1 x7_1).f0) = 0
       ·rw [if_pos c76] at H
        have c76b0 : (((rd_T48 x6_1 x7_1).f0) == 0) = true := beq_iff_eq.mpr c76
        have c76b1 : (((rd_T48 x6_1 x7_1).f0) != 0) = false := bne_eq_false_iff_eq.mpr c76
        clear c76
        replace H := Option.bind_eq_some_iff.mp H
        obtain ⟨⟨t267, t268⟩, A770, H⟩ := H
        replace H : (step_do.l1 k1 (x6_1.set (x7_1 : Int).toNat (⟨(rd_T48 x6_1 x7_1).f0, (rd_T48 x6_1 x7_1).f1, (rd_T48 x6_1 x7_1).f2, t267⟩ : S48)) (wrap64 (x7_1 + 1)) a1_0 a1_1 a1_2 a1_3 a1_4 a1_5 l1_6 a1_7) = some r := H
        have A77 := aM A770
        clear A770
        obtain ⟨y269, hy269⟩ : ∃ y_ : List (S48), y_ = (x6_1.set (x7_1 : Int).toNat (⟨(rd_T48 x6_1 x7_1).f0, (rd_T48 x6_1 x7_1).f1, (rd_T48 x6_1 x7_1).f2, t267⟩ : S48)) := ⟨_, rfl⟩
        replace H : (step_do.l1 k1 y269 (wrap64 (x7_1 + 1)) a1_0 a1_1 a1_2 a1_3 a1_4 a1_5 l1_6 a1_7) = some r := by first|(rw [hy269]; with_reducible exact H)|(have H2_ := (Option.bind_some _ _).symm.trans H; rw [hy269]; with_reducible exact H2_)|(have H2_ := (Option.bind_some _ _).symm.trans H; with_reducible exact H2_)|with_reducible exact H|(rw [hy269]; exact H)|exact H
        have Ny269 := aM hy269
        clear hy269
        have H' := aM H
        clear H
        obtain ⟨hcz79_0, hcz79_1, hcz79_2, hcz79_3, hcz79_4, hcz79_5, hcz79_6, hcz79_7, hfz79_0, hfz79_1, hfz79_2, hfz79_3, hfz79_4, hfz79_5, hfz79_6, hfz79_7⟩ := bx8z BK200.out
        obtain ⟨Ao80, co80, eo80⟩ := Kd.R_slice HO_6.out
        subst eo80
        have p265 : 0 ≤ (x7_1 : Int) := of_decide_eq_true (by assumption)
        have q265 : x7_1 < (x6_1.length : Int) := of_decide_eq_true (by assumption)
        obtain ⟨ad265, e265, hx265_0, hx265_1, hx265_2, hx265_3⟩ := at_T48 (Kd.R_reads' HO_6.out).2.2 x7_1 p265 q265
        cases e265
        replace p265 := eq_true p265
        replace q265 := eq_true q265
        try go_wp2
        have n0_ := aM (Kd.R_drew HO_6.out)
        have n1_ := aM (Kd.V_drew HO_201006.out)
        have n2_ := aM (bD BK200.out)
        have n3_ := aM (lD HB.out)
        clear HO_6
        clear HO_201006
        clear BK200
        clear HB
        have HO_6 := n0_
        have HO_201006 := n1_
        have BK200 := n2_
        have HB := n3_
        clear n0_ n1_ n2_ n3_
        have p266 : 0 ≤ (x7_1 : Int) := of_decide_eq_true (by assumption)
        have q266 : x7_1 < (x6_1.length : Int) := of_decide_eq_true (by assumption)
        obtain ⟨ad266, e266, hx266_0, hx266_1, hx266_2, hx266_3⟩ := at_T48 (Kd.R_reads' HO_6.out).2.2 x7_1 p266 q266
        obtain rfl : ad265 = ad266 := (by injection e266)
        replace p266 := eq_true p266
        replace q266 := eq_true q266
        refine start_ (n := 17) (S := fun w' => w'.cell? ⟨gb200, 0, none⟩ = some (.int .i64 a1_0) ∧ w'.cell? ⟨gb200, 1, none⟩ = some (.int .i64 a1_1) ∧ w'.cell? ⟨gb200, 2, none⟩ = some (.int .i64 a1_2) ∧ w'.cell? ⟨gb200, 3, none⟩ = some (.int .i64 a1_3) ∧ w'.cell? ⟨gb200, 4, none⟩ = some (.int .i64 a1_4) ∧ w'.cell? ⟨gb200, 5, none⟩ = some (.int .i64 a1_5) ∧ w'.cell? ⟨gb200, 6, none⟩ = some (.slice A1_6 l1_6.length c1_6) ∧ w'.cell? ⟨gb200, 7, none⟩ = some (.int .i64 a1_7) ∧ w'.cell? (ad265.add ((x7_1).toNat * 4)) = some (.int .i64 ((rd_T48 x6_1 x7_1).f0)) ∧ w'.cell? ⟨(ad265.add ((x7_1).toNat * 4)).block, (ad265.add ((x7_1).toNat * 4)).off + 1, none⟩ = some (.int .i64 ((rd_T48 x6_1 x7_1).f1)) ∧ w'.cell? ⟨(ad265.add ((x7_1).toNat * 4)).block, (ad265.add ((x7_1).toNat * 4)).off + 2, none⟩ = some (.int .i64 ((rd_T48 x6_1 x7_1).f2)) ∧ w'.cell? ⟨(ad265.add ((x7_1).toNat * 4)).block, (ad265.add ((x7_1).toNat * 4)).off + 3, none⟩ = some (.int .i64 ((rd_T48 x6_1 x7_1).f3))) (ds := [16]) #[false, false, false, false, false, false, false, false, false, false, false, false, false, false, false, false, false] (by kernel_rfl) rfl rfl ⟨(blk_cell BK200.out 0).trans rfl, (blk_cell BK200.out 1).trans rfl, (blk_cell BK200.out 2).trans rfl, (blk_cell BK200.out 3).trans rfl, (blk_cell BK200.out 4).trans rfl, (blk_cell BK200.out 5).trans rfl, (blk_cell BK200.out 6).trans rfl, (blk_cell BK200.out 7).trans rfl, hx266_0, hx266_1, hx266_2, hx266_3⟩ (fun hHeld => ?_); refine with_tabW step_do.tab14 step_do.bits14 (fun HT_ HW_ => ?_)
        generalize wr.drew = w81 at HO_6 HO_201006 BK200 HB hx266_0 hx266_1 hx266_2 hx266_3 hHeld ⊢
        refine pure_ (i := 0) (N := some 73) (v := ?_) (a' := ?_) #[true, false, false, false, false, false, false, false, false, false, false, false, false, false, false, false, false] rfl rfl (any_of HT_.out (by kernel_rfl)) (fun _ _ _ h => h) (Or.inl ⟨by rfl, ?_⟩) ?_ ?_
        rotate_left
        ·intro w'
         go_simp
         with_reducible rfl
        rotate_left
        ·simp only [Act.put, sA, sZ, sS, i64_w, i32_w]
         rfl
        refine pure_ (i := 1) (N := some 74) (v := ?_) (a' := ?_) #[true, true, false, false, false, false, false, false, false, false, false, false, false, false, false, false, false] rfl rfl (any_of HT_.out (by kernel_rfl)) (fun _ _ _ h => h) (Or.inl ⟨by rfl, ?_⟩) ?_ ?_
        rotate_left
        ·intro w'
         go_simp
         with_reducible rfl
        rotate_left
        ·simp only [Act.put, sA, sZ, sS, i64_w, i32_w]
         rfl
        refine pure_ (i := 2) (N := some 75) (v := ?_) (a' := ?_) #[true, true, true, false, false, false, false, false, false, false, false, false, false, false, false, false, false] rfl rfl (any_of HT_.out (by kernel_rfl)) (fun _ _ _ h => h) (Or.inl ⟨by rfl, ?_⟩) ?_ ?_
        rotate_left
        ·intro w'
         go_simp
         with_reducible rfl
        rotate_left
        ·simp only [Act.put, sA, sZ, sS, i64_w, i32_w]
         rfl
        refine pure_ (i := 3) (N := some 76) (v := ?_) (a' := ?_) #[true, true, true, true, false, false, false, false, false, false, false, false, false, false, false, false, false] rfl rfl (any_of HT_.out (by kernel_rfl)) (fun _ _ _ h => h) (Or.inl ⟨by rfl, ?_⟩) ?_ ?_
        rotate_left
        ·intro w'
         go_simp
         with_reducible rfl
        rotate_left
        ·simp only [Act.put, sA, sZ, sS, i64_w, i32_w]
         rfl
        refine pure_ (i := 4) (N := some 77) (v := ?_) (a' := ?_) #[true, true, true, true, true, false, false, false, false, false, false, false, false, false, false, false, false] rfl rfl (any_of HT_.out (by kernel_rfl)) (fun _ _ _ h => h) (Or.inl ⟨by rfl, ?_⟩) ?_ ?_
        rotate_left
        ·intro w'
         go_simp
         with_reducible rfl
        rotate_left
        ·simp only [Act.put, sA, sZ, sS, i64_w, i32_w]
         rfl
        refine pure_ (i := 5) (N := some 78) (v := ?_) (a' := ?_) #[true, true, true, true, true, true, false, false, false, false, false, false, false, false, false, false, false] rfl rfl (any_of HT_.out (by kernel_rfl)) (fun _ _ _ h => h) (Or.inl ⟨by rfl, ?_⟩) ?_ ?_
        rotate_left
        ·intro w'
         go_simp
         with_reducible rfl
        rotate_left
        ·simp only [Act.put, sA, sZ, sS, i64_w, i32_w]
         rfl
        refine pure_ (i := 6) (N := some 79) (v := ?_) (a' := ?_) #[true, true, true, true, true, true, true, false, false, false, false, false, false, false, false, false, false] rfl rfl (any_of HT_.out (by kernel_rfl)) (fun _ _ _ h => h) (Or.inl ⟨by rfl, ?_⟩) ?_ ?_
        rotate_left
        ·intro w'
         go_simp
         with_reducible rfl
        rotate_left
        ·simp only [Act.put, sA, sZ, sS, i64_w, i32_w]
         rfl
        refine pure_ (i := 8) (N := some 81) (v := ?_) (a' := ?_) #[true, true, true, true, true, true, true, false, true, false, false, false, false, false, false, false, false] rfl rfl (any_of HT_.out (by kernel_rfl)) (fun _ _ _ h => h) (Or.inl ⟨by rfl, ?_⟩) ?_ ?_
        rotate_left
        ·intro w'
         go_simp
         with_reducible rfl
        rotate_left
        ·simp only [Act.put, sA, sZ, sS, i64_w, i32_w]
         rfl
        refine take_ (i := 7) (N := some 80) (v := ?_) (a' := ?_) #[true, true, true, true, true, true, true, true, true, false, false, false, false, false, false, false, false] rfl rfl (take_ofW HT_.out HW_.out (by kernel_rfl)) (fun _ _ _ h => h) (Or.inl ⟨by rfl, ?_⟩) hHeld ?_ ?_
        rotate_left
        ·rintro w' ⟨s0, s1, s2, s3, s4, s5, s6, s7, s8, s9, s10, s11⟩
         go_simp
         with_reducible rfl
        rotate_left
        ·simp only [Act.put, sA, sZ, sS, i64_w, i32_w]
         rfl
        refine take_ (i := 9) (N := some 82) (v := ?_) (a' := ?_) #[true, true, true, true, true, true, true, true, true, true, false, false, false, false, false, false, false] rfl rfl (take_ofW HT_.out HW_.out (by kernel_rfl)) (fun _ _ _ h => h) (Or.inl ⟨by rfl, ?_⟩) hHeld ?_ ?_
        rotate_left
        ·rintro w' ⟨s0, s1, s2, s3, s4, s5, s6, s7, s8, s9, s10, s11⟩
         go_simp
         with_reducible rfl
        rotate_left
        ·simp only [Act.put, sA, sZ, sS, i64_w, i32_w]
         rfl
        refine one_ (i := 10) (N := some 83) #[true, true, true, true, true, true, true, true, true, true, true, false, false, false, false, false, false] rfl rfl (one_of HT_.out (by kernel_rfl)) (by decide) (fun K hK => ?_)
        refine step_do.goes Tryd.func53 (by kernel_rfl) rfl #[.int .i64 ((rd_T48 x6_1 x7_1).f3), .int .i64 a1_7] (by rfl) rfl rfl rfl (by (try simp only [List.map_toArray, List.map_cons, List.map_nil]); first|done|rfl|(simp only [List.length_drop, List.length_take]; rfl)) ?_
        with_reducible refine (mark_Add.calls k1 ((rd_T48 x6_1 x7_1).f3) a1_7 t267 t268 _ A77.out).mono ?_
        rintro e w' ⟨rfl, ⟨nd, rfl⟩⟩
        refine ⟨_, rfl, ?_⟩
        have p78 : 0 ≤ (x7_1 : Int) := of_decide_eq_true (by assumption)
        have q78 : (x7_1 : Int) < ((x6_1.length : Int) : Int) := of_decide_eq_true (by assumption)
        obtain ⟨go78, co78, eo78, gb78, gl78, cl78, HG78⟩ := Kd.R_form HO_6.out (by omega)
        (first|cases eo78|(injection eo78 with ea_ en_ ec_; (first|subst ea_|(injection ea_ with ea_; subst ea_)); subst ec_; clear en_))
        have GB78 := aM gb78
        have GG78 := aM HG78
        clear gb78 gl78 HG78
        (first|simp only [add_plain] at hx265_0|skip)
        (first|simp only [add_plain] at hx265_1|skip)
        (first|simp only [add_plain] at hx265_2|skip)
        (first|simp only [add_plain] at hx265_3|skip)
        (first|simp only [add_plain] at hx266_0|skip)
        (first|simp only [add_plain] at hx266_1|skip)
        (first|simp only [add_plain] at hx266_2|skip)
        (first|simp only [add_plain] at hx266_3|skip)
        obtain ⟨ce78, hcl78, hM78, hcc78, hfr78⟩ := Kd.R_elem HO_6.out z48 (x7_1 : Int) p78 q78
        obtain rfl := k48_openM hM78
        have hx78_0 : World.cell? _ ⟨go78, (x7_1 : Int).toNat * 4, none⟩ = some (.int .i64 ((rd_T48 x6_1 x7_1).f0)) := hcc78 0 _ rfl
        have hx78_1 : World.cell? _ ⟨go78, (x7_1 : Int).toNat * 4 + 1, none⟩ = some (.int .i64 ((rd_T48 x6_1 x7_1).f1)) := hcc78 1 _ rfl
        have hx78_2 : World.cell? _ ⟨go78, (x7_1 : Int).toNat * 4 + 2, none⟩ = some (.int .i64 ((rd_T48 x6_1 x7_1).f2)) := hcc78 2 _ rfl
        have hx78_3 : World.cell? _ ⟨go78, (x7_1 : Int).toNat * 4 + 3, none⟩ = some (.int .i64 ((rd_T48 x6_1 x7_1).f3)) := hcc78 3 _ rfl
        have hf78_0 : World.frozen? _ ⟨go78, (x7_1 : Int).toNat * 4, none⟩ = false := hfr78 0
        have hf78_1 : World.frozen? _ ⟨go78, (x7_1 : Int).toNat * 4 + 1, none⟩ = false := hfr78 1
        have hf78_2 : World.frozen? _ ⟨go78, (x7_1 : Int).toNat * 4 + 2, none⟩ = false := hfr78 2
        have hf78_3 : World.frozen? _ ⟨go78, (x7_1 : Int).toNat * 4 + 3, none⟩ = false := hfr78 3
        (try clear hM78); clear hcl78 hcc78 hfr78
        replace p78 := eq_true p78
        replace q78 := eq_true q78
        obtain ⟨ce82, hcl82, hM82, hcc82, hfr82⟩ := Kd.R_elem HO_6.out z48 (x7_1 : Int) (of_decide_eq_true (by assumption)) (by have h_ : (x7_1 : Int) < ((x6_1.length : Int) : Int) := of_decide_eq_true (by assumption); first|exact h_|(have e_ := (Kd.R_reads' HO_6.out).1; omega)|simpa using h_)
        obtain rfl := k48_openM hM82
        have HP82 := (Kd.R_seg HO_6.out (x7_1 : Int) (of_decide_eq_true (by assumption)) (by have h_ : (x7_1 : Int) < ((x6_1.length : Int) : Int) := of_decide_eq_true (by assumption); first|exact h_|(have e_ := (Kd.R_reads' HO_6.out).1; omega)|simpa using h_) (seg := [.int .i64 t267]) (j := 3) hcl82 hcc82 (show 4 ≤ 4 from by decide) (x' := (⟨(rd_T48 x6_1 x7_1).f0, (rd_T48 x6_1 x7_1).f1, (rd_T48 x6_1 x7_1).f2, t267⟩ : S48)) (k48_mkM _ _ _ (⟨(rd_T48 x6_1 x7_1).f0, (rd_T48 x6_1 x7_1).f1, (rd_T48 x6_1 x7_1).f2, t267⟩ : S48) ) (fun _ hk => hk)).1
        rw [← Ny269.out] at HP82
        have HQ82 := aM HP82
        (try clear hM82); clear hcl82 hcc82 hfr82 HP82
        refine hK.out _ _ ⟨(blk_cell BK200.out 0).trans rfl, (blk_cell BK200.out 1).trans rfl, (blk_cell BK200.out 2).trans rfl, (blk_cell BK200.out 3).trans rfl, (blk_cell BK200.out 4).trans rfl, (blk_cell BK200.out 5).trans rfl, (blk_cell BK200.out 6).trans rfl, (blk_cell BK200.out 7).trans rfl, hHeld.2.2.2.2.2.2.2.2.1, hHeld.2.2.2.2.2.2.2.2.2.1, hHeld.2.2.2.2.2.2.2.2.2.2.1, hHeld.2.2.2.2.2.2.2.2.2.2.2⟩ (fun hHeld => ?_)
        clear hK K
        refine norm_ (a' := ?_) ?_ ?_
        rotate_left
        ·show Act.put _ (some 83) _ = _
         simp only [Act.put, sA, sZ, sS, i64_w, i32_w]
         rfl
        refine pure_ (i := 11) (N := some 72) (v := ?_) (a' := ?_) #[true, true, true, true, true, true, true, true, true, true, true, true, false, false, false, false, false] rfl rfl (any_of HT_.out (by kernel_rfl)) (fun _ _ _ h => h) (Or.inl ⟨by rfl, ?_⟩) ?_ ?_
        rotate_left
        ·intro w'
         go_simp
         with_reducible rfl
        rotate_left
        ·simp only [Act.put, sA, sZ, sS, i64_w, i32_w]
         rfl
        refine pure_ (i := 12) (N := some 84) (v := ?_) (a' := ?_) #[true, true, true, true, true, true, true, true, true, true, true, true, true, false, false, false, false] rfl rfl (any_of HT_.out (by kernel_rfl)) (fun _ _ _ h => h) (Or.inl ⟨by rfl, ?_⟩) ?_ ?_
        rotate_left
        ·intro w'
         go_simp
         with_reducible rfl
        rotate_left
        ·simp only [Act.put, sA, sZ, sS, i64_w, i32_w]
         rfl
        refine pure_ (i := 13) (N := some 85) (v := ?_) (a' := ?_) #[true, true, true, true, true, true, true, true, true, true, true, true, true, true, false, false, false] rfl rfl (any_of HT_.out (by kernel_rfl)) (fun _ _ _ h => h) (Or.inl ⟨by rfl, ?_⟩) ?_ ?_
        rotate_left
        ·intro w'
         go_simp
         with_reducible rfl
        rotate_left
        ·simp only [Act.put, sA, sZ, sS, i64_w, i32_w]
         rfl
        refine pure_ (i := 14) (N := some 86) (v := ?_) (a' := ?_) #[true, true, true, true, true, true, true, true, true, true, true, true, true, true, true, false, false] rfl rfl (any_of HT_.out (by kernel_rfl)) (fun _ _ _ h => h) (Or.inl ⟨by rfl, ?_⟩) ?_ ?_
        rotate_left
        ·intro w'
         go_simp
         with_reducible rfl
        rotate_left
        ·simp only [Act.put, sA, sZ, sS, i64_w, i32_w]
         rfl
        refine pure_ (i := 15) (N := some 87) (v := ?_) (a' := ?_) #[true, true, true, true, true, true, true, true, true, true, true, true, true, true, true, true, false] rfl rfl (any_of HT_.out (by kernel_rfl)) (fun _ _ _ h => h) (Or.inl ⟨by rfl, ?_⟩) ?_ ?_
        rotate_left
        ·intro w'
         go_simp
         with_reducible rfl
        rotate_left
        ·simp only [Act.put, sA, sZ, sS, i64_w, i32_w]
         rfl
        refine last_ (i := 16) (N := none) #[true, true, true, true, true, true, true, true, true, true, true, true, true, true, true, true, true] rfl rfl (one_of HT_.out (by kernel_rfl)) (by decide) (fun K hK => ?_)
        refine skip_ (w1 := ?_) (by rfl) rfl ?_ ?_
        rotate_left
        ·go_simp
         rfl
        refine hK.out _ _ ?_
        clear hK K
        refine done_ (done_of HT_.out (by kernel_rfl)) ?_
        try go_wp2
        go_roundg k1
        case measure => have := HK1.out; omega
        case rel => exact ⟨(y269), (wrap64 (x7_1 + 1)), (by first|rfl|(simp; done)|(simp [*]; done)), H', ⟨by have := HK1.out; omega⟩, ⟨by (with_reducible repeat (first|apply Kd.R_alloc|apply Kd.R_drewN|apply Kd.R_drew)); exact HQ82.out⟩, ⟨by (with_reducible repeat (first|apply Kd.V_alloc|apply Kd.V_drewN|apply Kd.V_drew)); exact Kd.V_mono (Kd.V_far (p := ⟨go78, (x7_1 : Int).toNat * 4 + 3, none⟩) (Kd.V_mono HO_201006.out (fun k_ hk => (⟨hk, fun e_ => hk.2.1 (by rw [e_]; rfl)⟩ : _ ∧ k_ ≠ go78))) (fun _ hk => hk.2) (.int .i64 t267)) (fun _ hk => ⟨hk.1.1, ⟨hk.1.2.1, hk.1.2.2⟩⟩)⟩, ⟨by (with_reducible repeat (first|refine bN ?_ _|refine bD ?_|refine bA ?_ _)); refine bF ?_ (by have h_ := Kd.R_ne HO_6.out BK200.out (by decide); intro e_; exact h_ (by rw [e_]; rfl)) _; (with_reducible repeat (first|refine bN ?_ _|refine bD ?_|refine bA ?_ _)); exact BK200.out⟩, ⟨by repeat (first|(with_reducible first|exact HB.out|apply lA|apply lN|apply lD|refine lS ?_ GB78.out|refine lS ?_ GE200.out)|exact HB.out)⟩⟩
       ·rw [if_neg c76] at H
        have c76b0 : (((rd_T48 x6_1 x7_1).f0) == 0) = false := beq_eq_false_iff_ne.mpr c76
        have c76b1 : (((rd_T48 x6_1 x7_1).f0) != 0) = true := bne_iff_ne.mpr c76
        have H' := aM H
        clear H
        obtain ⟨hcz83_0, hcz83_1, hcz83_2, hcz83_3, hcz83_4, hcz83_5, hcz83_6, hcz83_7, hfz83_0, hfz83_1, hfz83_2, hfz83_3, hfz83_4, hfz83_5, hfz83_6, hfz83_7⟩ := bx8z BK200.out
        obtain ⟨Ao84, co84, eo84⟩ := Kd.R_slice HO_6.out
        subst eo84
        have p265 : 0 ≤ (x7_1 : Int) := of_decide_eq_true (by assumption)
        have q265 : x7_1 < (x6_1.length : Int) := of_decide_eq_true (by assumption)
        obtain ⟨ad265, e265, hx265_0, hx265_1, hx265_2, hx265_3⟩ := at_T48 (Kd.R_reads' HO_6.out).2.2 x7_1 p265 q265
        cases e265
        replace p265 := eq_true p265
        replace q265 := eq_true q265
        go_wp2
        go_roundg k1
        case measure => have := HK1.out; omega
        case rel => exact ⟨(x6_1), (wrap64 (x7_1 + 1)), (by first|rfl|(simp; done)|(simp [*]; done)), H', ⟨by have := HK1.out; omega⟩, ⟨by (with_reducible repeat (first|apply Kd.R_alloc|apply Kd.R_drewN|apply Kd.R_drew)); exact HO_6.out⟩, ⟨by (with_reducible repeat (first|apply Kd.V_alloc|apply Kd.V_drewN|apply Kd.V_drew)); exact HO_201006.out⟩, ⟨by (with_reducible repeat (first|refine bN ?_ _|refine bD ?_|refine bA ?_ _)); exact BK200.out⟩, ⟨by repeat (first|(with_reducible first|exact HB.out|apply lA|apply lN|apply lD|refine lS ?_ GE200.out)|exact HB.out)⟩⟩
      ·rw [if_neg c73] at H
       have c73b0 : decide (x7_1 < a1_2) = false := decide_eq_false c73
       clear c73
       obtain rfl := Option.some.inj H
       obtain ⟨hcz85_0, hcz85_1, hcz85_2, hcz85_3, hcz85_4, hcz85_5, hcz85_6, hcz85_7, hfz85_0, hfz85_1, hfz85_2, hfz85_3, hfz85_4, hfz85_5, hfz85_6, hfz85_7⟩ := bx8z BK200.out
       go_wp2
       go_ret
       exact ⟨_, by first|rfl|(simp [errW_none, errW_some] <;> rfl)|(simp [*, errW_none, errW_some] <;> rfl), by (with_reducible repeat (first|apply Kd.R_alloc|apply Kd.R_drewN|apply Kd.R_drew)); exact HO_6.out, by repeat (first|(with_reducible first|exact HB.out|apply lA|apply lN|apply lD|refine lS ?_ GE200.out)|exact HB.out)⟩
end Go.Proofs.YtfcfomconcoimaaDoor.PFa
