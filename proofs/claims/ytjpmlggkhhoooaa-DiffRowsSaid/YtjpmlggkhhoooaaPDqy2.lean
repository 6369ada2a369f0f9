-- Written for this claim by a program (printed texts under one roof).
import Derived.Test.YtjpmlggkhhoooaaPDqx0
import Derived.Test.YtjpmlggkhhoooaaPDqy0
import Derived.Test.YtjpmlggkhhoooaaPDqy1
-- Written for this claim by a program (the kit's print, with hand-made contracts for what it does not take).
namespace Go.Proofs.Ytjpmlggkhhoooaa.PDq
open Go.RowKit Go.Proofs.YtjpmlggkhhoooaaW.PrintWords Go.Proofs.YtjpmlggkhhoooaaW.PrintLast Go.Proofs.YtjpmlggkhhoooaaW.PrintMore
attribute [local go_sem] max2_int min2_int max_two min_two max_three min_three max_four min_four   -- for this text's walks alone
set_option linter.unusedVariables false
set_option linter.unusedSimpArgs false

attribute [local go_sem high] eqA64
def diff_parts.l0 : Nat → List (S64) → List (S86) → List Int → Int → Int → Option ((List (S86)))
|0, _, _, _, _, _ => none
|k + 1, x0, x3, x9, x10, x11 => if x11 < x10 then (if 0 ≤ x11 then (if x11 < (x9.length : Int) then ((flat_Partner.f k x0 (rd x9 x11)).bind fun t176 => (if t176 > (rd x9 x11) then (if 0 ≤ (rd x9 x11) then (if (rd x9 x11) ≤ (wrap64 (t176 + 1)) then (if (wrap64 (t176 + 1)) ≤ (x0.length : Int) then (if x3.length < 4398046511104 then (diff_parts.l0 k x0 (x3 ++ [(⟨rd x9 x11, ((x0.take ((wrap64 (t176 + 1)) : Int).toNat).drop ((rd x9 x11) : Int).toNat)⟩ : S86)]) x9 x10 (wrap64 (x11 + 1))) else (none)) else (none)) else (none)) else (none)) else (if 0 ≤ (rd x9 x11) then (if (rd x9 x11) ≤ (wrap64 ((rd x9 x11) + 1)) then (if (wrap64 ((rd x9 x11) + 1)) ≤ (x0.length : Int) then (if x3.length < 4398046511104 then (diff_parts.l0 k x0 (x3 ++ [(⟨rd x9 x11, ((x0.take ((wrap64 ((rd x9 x11) + 1)) : Int).toNat).drop ((rd x9 x11) : Int).toNat)⟩ : S86)]) x9 x10 (wrap64 (x11 + 1))) else (none)) else (none)) else (none)) else (none)))) else (none)) else (none)) else (some x3)
def diff_parts.f (k : Nat) (l0 : List (S64)) : Option ((List (S86))) := (flat_Kids.f k l0 (-1)).bind fun t172 => (diff_parts.l0 k l0 ([] : List (S86)) t172 (t172.length : Int) 0)
theorem diff_parts.mono_l : ∀ k, (∀ y0 y1 y2 y3 y4, LeO (diff_parts.l0 k y0 y1 y2 y3 y4) (diff_parts.l0 (k + 1) y0 y1 y2 y3 y4))
|0 => fun _ _ _ _ _ r h => by simp [diff_parts.l0] at h
|k + 1 => by
  have ih0 := diff_parts.mono_l k
  ·intro y0 y1 y2 y3 y4
   unfold diff_parts.l0
   repeat' first
  |(with_reducible exact ih0 _ _ _ _ _)
  |(with_reducible exact flat_Kids.mono _ _ _)
  |(with_reducible exact flat_Partner.mono _ _ _)
  |(with_reducible exact LeO.refl _)
  |(with_reducible exact LeO.none _)
  |(with_reducible refine LeO.ite ?_ ?_)
  |(with_reducible refine LeO.bind ?_ (fun _ => ?_))
  |exact ih0 _ _ _ _ _
  |exact flat_Kids.mono _ _ _
  |exact flat_Partner.mono _ _ _
  |exact LeO.none _
  |refine LeO.ite ?_ ?_
  |refine LeO.bind ?_ (fun _ => ?_)
theorem diff_parts.mono : ∀ a0 k, LeO (diff_parts.f k a0) (diff_parts.f (k + 1) a0) := by
 intro a0 k
 have ih0 := diff_parts.mono_l k
 unfold diff_parts.f
 repeat' first
  |(with_reducible exact ih0 _ _ _ _ _)
  |(with_reducible exact flat_Kids.mono _ _ _)
  |(with_reducible exact flat_Partner.mono _ _ _)
  |(with_reducible exact LeO.refl _)
  |(with_reducible exact LeO.none _)
  |(with_reducible refine LeO.ite ?_ ?_)
  |(with_reducible refine LeO.bind ?_ (fun _ => ?_))
  |exact ih0 _ _ _ _ _
  |exact flat_Kids.mono _ _ _
  |exact flat_Partner.mono _ _ _
  |exact LeO.none _
  |refine LeO.ite ?_ ?_
  |refine LeO.bind ?_ (fun _ => ?_)
set_option maxHeartbeats 8000000 in
set_option maxRecDepth 100000 in
theorem diff_parts.calls (k : Nat) (P0_ : Nat → Prop) (A0 : Option Addr) (c0 : Nat) (l0 : List (S64)) (r : List (S86)) (w : World) (hs0 : Kd.V k64 64 w w.heap.size (fun k_ => P0_ k_) (.slice A0 l0.length c0) l0) (h : diff_parts.f k l0 = some r) :
  Calls Try.prog 39 #[.slice A0 l0.length c0] w fun e w' => ∃ v0_ : Value, e = .returned (v0_) ∧ Kd.N k86 86 w' w.heap.size (fun k_ => (P0_ k_ ∨ w.heap.size ≤ k_)) v0_ r ∧ Below w.heap.size w w' := by
 have hu86 := Try.underlying86
 have HO0 := aM (show Kd.V k64 64 w w.heap.size (fun k_ => (P0_ k_ ∨ w.heap.size ≤ k_)) (.slice A0 l0.length c0) l0 from Kd.V_mono hs0 (fun k_ hk => .inl hk))
 have HB := aM (Below.refl w.heap.size w)
 have H : ((flat_Kids.f k l0 (-1)).bind fun t172 => (diff_parts.l0 k l0 ([] : List (S86)) t172 (t172.length : Int) 0)) = some r := h
 clear h
 replace H := Option.bind_eq_some_iff.mp H
 obtain ⟨t172, A20, H⟩ := H
 replace H : (diff_parts.l0 k l0 ([] : List (S86)) t172 (t172.length : Int) 0) = some r := H
 have A2 := aM A20
 clear A20
 have H' := aM H
 clear H
 go_enter Try.func39, Try.ntmps39
 go_wp2_with (first|((with_reducible refine gate_callee (f := 22) rfl ?_); refine goesL_ (some 9) rfl rfl Try.func22 (by kernel_rfl) rfl #[.slice A0 l0.length c0, .int .i64 (-1)] rfl (by (try simp only [List.map_toArray, List.map_cons, List.map_nil]); first|done|rfl|(simp only [List.length_drop, List.length_take]; rfl)) ?_; (with_reducible refine (flat_Kids.calls k _ _ l0 (-1) t172 _ ?side1 ?side2 A2.out).mono ?_); (case side1 => repeat (first|exact (Kd.V_reads' HO0.out).2.2|(with_reducible refine Kd.C_alloc ?_ _)|(with_reducible refine Kd.C_drewN ?_ _)|(with_reducible refine Kd.C_drew ?_))); (case side2 => exact (Kd.V_reads' HO0.out).2.1); rintro e w3 ⟨v173, rfl, ho0, hb⟩; refine ⟨_, rfl, ?_⟩; replace HO0 := aM (Kd.V_elder' (by (with_reducible repeat (first|apply Kd.V_alloc|apply Kd.V_drewN|apply Kd.V_drew)); exact HO0.out) (Kd.R_base ho0) hb); replace HO174 := aM (Kd.R_lower (Kd.R_newM (M := fun k_ => (w.heap.size ≤ k_)) ho0 (below_size (by repeat (first|(with_reducible first|exact HB.out|apply lA|apply lN|apply lD)|exact HB.out))) (fun k_ h_ => h_)) (below_size (by repeat (first|(with_reducible first|exact HB.out|apply lA|apply lN|apply lD)|exact HB.out)))); replace HB := aM (below_step (by repeat (first|(with_reducible first|exact HB.out|apply lA|apply lN|apply lD)|exact HB.out)) hb); (try clear hb); (try clear hb2); (try clear hk); (try clear hi); (try clear ho0); obtain ⟨Ao4, co4, eo4⟩ := Kd.R_slice HO174.out; subst eo4))
 go_loopg [3, 11] k (fun kq v3 v11 w' => ∃ (x3_1 : List (S86)) (x11_1 : Int), v11 = .int .i64 x11_1 ∧ Aside0 (diff_parts.l0 kq l0 x3_1 t172 (t172.length : Int) x11_1 = some r) ∧ Aside0 (kq ≤ k) ∧ Aside0 (Kd.V k64 64 w' w.heap.size (fun k_ => (P0_ k_ ∨ w.heap.size ≤ k_) ∧ some k_ ≠ (v3 : Value).ownBlock ∧ some k_ ≠ ((.slice Ao4 t172.length co4) : Value).ownBlock) (.slice A0 l0.length c0) l0) ∧ Aside0 (Kd.N k86 86 w' w.heap.size (fun k_ => (P0_ k_ ∨ w.heap.size ≤ k_) ∧ some k_ ≠ ((.slice Ao4 t172.length co4) : Value).ownBlock) v3 x3_1) ∧ Aside0 (Kd.R (Kd.int .i64) 3 w' w.heap.size (fun k_ => (w.heap.size ≤ k_)) (.slice Ao4 t172.length co4) t172) ∧ Aside0 (Below w.heap.size w w'))
 case atStart => exact ⟨(([] : List (S86))), (0), (by first|rfl|(simp; done)|(simp [*]; done)), H', ⟨Nat.le_refl _⟩, ⟨by (with_reducible repeat (first|apply Kd.V_alloc|apply Kd.V_drewN|apply Kd.V_drew)); exact Kd.V_mono HO0.out (fun _ hk => ⟨hk.1, ⟨(by simp [Value.ownBlock]), hk.2⟩⟩)⟩, ⟨by first|exact Kd.S_nil _ _ _ _ _|exact Kd.N_nil _ _ _ _ _|exact Kd.V_nil _ _ _ _ _|exact Kd.Q_nil _ _ _ _ _|exact Kd.R_nil _ _ _ _ _⟩, ⟨by (with_reducible repeat (first|apply Kd.R_alloc|apply Kd.R_drewN|apply Kd.R_drew)); exact Kd.R_mono HO174.out (fun _ hk => hk.1)⟩, ⟨by repeat (first|(with_reducible first|exact HB.out|apply lA|apply lN|apply lD)|exact HB.out)⟩⟩
 case round =>
  clear H'
  obtain ⟨x3_1, x11_1, rfl, HA, HK1, HO_0, HO_3, HO_9, HB⟩ := hrel
  cases gk with
 |zero => exact absurd HA.out (by simp [diff_parts.l0])
 |succ k1 =>
   have H := HA.out
   clear HA
   simp only [diff_parts.l0] at H
   by_cases c5 : x11_1 < (t172.length : Int)
   ·rw [if_pos c5] at H
    have c5b0 : decide (x11_1 < (t172.length : Int)) = true := decide_eq_true c5
    clear c5
    replace H := ifS H; obtain ⟨c6, H⟩ := H
    have c6b0 : decide (0 ≤ x11_1) = true := decide_eq_true c6
    clear c6
    replace H := ifS H; obtain ⟨c7, H⟩ := H
    have c7b0 : decide (x11_1 < (t172.length : Int)) = true := decide_eq_true c7
    clear c7
    replace H := Option.bind_eq_some_iff.mp H
    obtain ⟨t176, A80, H⟩ := H
    replace H : (if t176 > (rd t172 x11_1) then (if 0 ≤ (rd t172 x11_1) then (if (rd t172 x11_1) ≤ (wrap64 (t176 + 1)) then (if (wrap64 (t176 + 1)) ≤ (l0.length : Int) then (if x3_1.length < 4398046511104 then (diff_parts.l0 k1 l0 (x3_1 ++ [(⟨rd t172 x11_1, ((l0.take ((wrap64 (t176 + 1)) : Int).toNat).drop ((rd t172 x11_1) : Int).toNat)⟩ : S86)]) t172 (t172.length : Int) (wrap64 (x11_1 + 1))) else (none)) else (none)) else (none)) else (none)) else (if 0 ≤ (rd t172 x11_1) then (if (rd t172 x11_1) ≤ (wrap64 ((rd t172 x11_1) + 1)) then (if (wrap64 ((rd t172 x11_1) + 1)) ≤ (l0.length : Int) then (if x3_1.length < 4398046511104 then (diff_parts.l0 k1 l0 (x3_1 ++ [(⟨rd t172 x11_1, ((l0.take ((wrap64 ((rd t172 x11_1) + 1)) : Int).toNat).drop ((rd t172 x11_1) : Int).toNat)⟩ : S86)]) t172 (t172.length : Int) (wrap64 (x11_1 + 1))) else (none)) else (none)) else (none)) else (none))) = some r := H
    have A8 := aM A80
    clear A80
    by_cases c9 : t176 > (rd t172 x11_1)
    ·rw [if_pos c9] at H
     have c9b0 : decide ((rd t172 x11_1) < t176) = true := decide_eq_true c9
     clear c9
     replace H := ifS H; obtain ⟨c10, H⟩ := H
     have c10b0 := eq_true c10
     have c10b1 : decide (0 ≤ (rd t172 x11_1)) = true := decide_eq_true c10
     clear c10
     replace H := ifS H; obtain ⟨c11, H⟩ := H
     have c11b0 := eq_true c11
     have c11b1 : decide ((rd t172 x11_1) ≤ (wrap64 (t176 + 1))) = true := decide_eq_true c11
     replace H := ifS H; obtain ⟨c12, H⟩ := H
     have c12b0 := eq_true c12
     have c12b1 : decide ((wrap64 (t176 + 1)) ≤ (l0.length : Int)) = true := decide_eq_true c12
     obtain ⟨y177, hy177⟩ : ∃ y_ : List (S64), y_ = ((l0.take ((wrap64 (t176 + 1)) : Int).toNat).drop ((rd t172 x11_1) : Int).toNat) := ⟨_, rfl⟩
     replace H : (if x3_1.length < 4398046511104 then (diff_parts.l0 k1 l0 (x3_1 ++ [(⟨rd t172 x11_1, y177⟩ : S86)]) t172 (t172.length : Int) (wrap64 (x11_1 + 1))) else (none)) = some r := by first|(rw [hy177]; with_reducible exact H)|(have H2_ := (Option.bind_some _ _).symm.trans H; rw [hy177]; with_reducible exact H2_)|(have H2_ := (Option.bind_some _ _).symm.trans H; with_reducible exact H2_)|with_reducible exact H|(rw [hy177]; exact H)|exact H
     have Ny177 := aM hy177
     clear hy177
     replace H := ifS H; obtain ⟨c13, H⟩ := H
     have LMc13 := aM c13
     clear c13
     obtain ⟨y182, hy182⟩ : ∃ y_ : List (S86), y_ = (x3_1 ++ [(⟨rd t172 x11_1, y177⟩ : S86)]) := ⟨_, rfl⟩
     replace H : (diff_parts.l0 k1 l0 y182 t172 (t172.length : Int) (wrap64 (x11_1 + 1))) = some r := by first|(rw [hy182]; with_reducible exact H)|(have H2_ := (Option.bind_some _ _).symm.trans H; rw [hy182]; with_reducible exact H2_)|(have H2_ := (Option.bind_some _ _).symm.trans H; with_reducible exact H2_)|with_reducible exact H|(rw [hy182]; exact H)|exact H
     have Ny182 := aM hy182
     clear hy182
     have H' := aM H
     clear H
     have p175 : 0 ≤ (x11_1 : Int) := of_decide_eq_true (by first|(with_reducible assumption)|assumption)
     have q175 : x11_1 < (t172.length : Int) := of_decide_eq_true (by first|(with_reducible assumption)|assumption)
     obtain ⟨ad175, e175, hx175_0⟩ := Kd.at_int (Kd.R_reads' HO_9.out).2.2 x11_1 p175 q175
     cases e175
     replace p175 := eq_true p175
     replace q175 := eq_true q175
     go_wp2_with (first|((with_reducible refine gate_callee (f := 23) rfl ?_); refine goesL_ (some 18) rfl rfl Try.func23 (by kernel_rfl) rfl #[.slice A0 l0.length c0, .int .i64 (rd t172 x11_1)] rfl (by (try simp only [List.map_toArray, List.map_cons, List.map_nil]); first|done|rfl|(simp only [List.length_drop, List.length_take]; rfl)) ?_; (with_reducible refine (flat_Partner.calls k1 _ _ l0 (rd t172 x11_1) t176 _ ?side1 ?side2 A8.out).mono ?_); (case side1 => repeat (first|exact (Kd.V_reads' HO_0.out).2.2|(with_reducible refine Kd.C_alloc ?_ _)|(with_reducible refine Kd.C_drewN ?_ _)|(with_reducible refine Kd.C_drew ?_))); (case side2 => exact (Kd.V_reads' HO_0.out).2.1); rintro e w14 ⟨rfl, hb⟩; refine ⟨_, rfl, ?_⟩; replace HO_0 := aM (Kd.V_below (by (with_reducible repeat (first|apply Kd.V_alloc|apply Kd.V_drewN|apply Kd.V_drew)); exact HO_0.out) hb); replace HO_3 := aM (Kd.N_below (by (with_reducible repeat (first|apply Kd.N_alloc|apply Kd.N_drewN|apply Kd.N_drew)); exact HO_3.out) hb); replace HO_9 := aM (Kd.R_below (by (with_reducible repeat (first|apply Kd.R_alloc|apply Kd.R_drewN|apply Kd.R_drew)); exact HO_9.out) hb); replace HB := aM (below_step (by repeat (first|(with_reducible first|exact HB.out|apply lA|apply lN|apply lD)|exact HB.out)) hb); (try clear hb); (try clear hb2); (try clear hk); (try clear hi); have q15 : ((wrap64 (t176 + 1)) : Int) ≤ ((l0.length : Int) : Int) := of_decide_eq_true (by first|(with_reducible assumption)|assumption); obtain ⟨i015, hi015, _, hsz15, _⟩ := info_parts info64; have hroom15 : l0.length ≤ c0 := (Kd.V_reads' HO_0.out).2.1; have hC15 : Kd.F k64 _ _ A0 l0.length l0 := (Kd.V_at (base := w.heap.size) HO_0.out).2.2; have ql15 : ((rd t172 x11_1) : Int) ≤ ((wrap64 (t176 + 1)) : Int) := of_decide_eq_true (by first|(with_reducible assumption)|assumption); have q015 : (0 : Int) ≤ ((rd t172 x11_1) : Int) := of_decide_eq_true (by first|(with_reducible assumption)|assumption); have hcut15 := cut_mid (P := Try.prog) 22 64 .i64 .i64 Try.underlying22 hi015 4 hsz15 A0 l0.length c0 (rd t172 x11_1) (wrap64 (t176 + 1)) q015 ql15 q15 hroom15; have hr15 := Kd.F_mid (lo := ((rd t172 x11_1) : Int).toNat) (hi := ((wrap64 (t176 + 1)) : Int).toNat) (c := c0) hC15 (by omega) (by omega) hroom15; obtain ⟨A15, hA15⟩ : ∃ A1, A1 = (if c0 = ((rd t172 x11_1) : Int).toNat then A0 else (A0 : Option Addr).map (·.add (((rd t172 x11_1) : Int).toNat * 4))) := ⟨_, rfl⟩; obtain ⟨c15, hc15⟩ : ∃ c1, c1 = c0 - ((rd t172 x11_1) : Int).toNat := ⟨_, rfl⟩; have hy15 : y177.length = ((wrap64 (t176 + 1)) : Int).toNat - ((rd t172 x11_1) : Int).toNat := (by rw [Ny177.out, List.length_drop, List.length_take] <;> omega); rw [show ((l0).take ((wrap64 (t176 + 1)) : Int).toNat).drop ((rd t172 x11_1) : Int).toNat = y177 from Ny177.out.symm] at hr15; replace hr15 : Kd.F k64 _ _ A15 y177.length y177 := (by rw [hA15]; exact hr15); rw [← hy15, ← hA15, ← hc15] at hcut15; have HO181 := aM (show Kd.V k64 64 _ w.heap.size _ (.slice A15 y177.length c15) y177 from Kd.V_mk (by rw [hy15, hc15]; exact Nat.sub_le_sub_right (Nat.le_trans (by omega) hroom15) _) hr15); have HC181 := aM (show y177.length ≤ c15 from by rw [hy15, hc15]; exact Nat.sub_le_sub_right (Nat.le_trans (by omega) hroom15) _); clear hr15 hC15 hroom15 hi015 hsz15 hc15; have KY15 := aM hy15; have KA15 := aM hA15; clear hy15 hA15; replace q15 := eq_true q15)|((with_reducible refine gate_builtin (b := .append) (xs := #[.tmp 23, .tmp 31]) rfl ?_); at_builtin; refine Kd.N_append k86 (w0 := w) w.heap.size rfl (.tmp 23) (.tmp 31) 83 86 (.agg #[(.int .i64 0), (.slice none 0 0)]) 32 rfl Try.underlying83 info86 rfl (by decide) (by omega) u3 x3_1 (⟨rd t172 x11_1, y177⟩ : S86) [.int .i64 (rd t172 x11_1), .slice A15 y177.length c15] (fun k_ => (P0_ k_ ∨ w.heap.size ≤ k_) ∧ some k_ ≠ (.slice (some ad175) t172.length co4 : Value).ownBlock) (fun k_ => ((fun k_ => (P0_ k_ ∨ w.heap.size ≤ k_) ∧ some k_ ≠ (.slice (some ad175) t172.length co4 : Value).ownBlock)) k_ ∧ some k_ ≠ (u3 : Value).ownBlock) rfl rfl ?aP (fun _ hk => hk) ?aF ?aO ?aB ?aS ?aL ?_; (case aP => exact (k86_mkF _ _ (⟨rd t172 x11_1, y177⟩ : S86) (Kd.V_reads' (Kd.V_mono (ok' := (fun k_ => ((fun k_ => (P0_ k_ ∨ w.heap.size ≤ k_) ∧ some k_ ≠ (.slice (some ad175) t172.length co4 : Value).ownBlock)) k_ ∧ some k_ ≠ (u3 : Value).ownBlock)) (HO181.out) (fun k_ hk => ⟨⟨hk.1, hk.2.2⟩, hk.2.1⟩))).2.1 (Kd.V_F (Kd.V_mono (ok' := (fun k_ => ((fun k_ => (P0_ k_ ∨ w.heap.size ≤ k_) ∧ some k_ ≠ (.slice (some ad175) t172.length co4 : Value).ownBlock)) k_ ∧ some k_ ≠ (u3 : Value).ownBlock)) (HO181.out) (fun k_ hk => ⟨⟨hk.1, hk.2.2⟩, hk.2.1⟩))))); (case aB => exact (by repeat (first|(with_reducible first|exact HB.out|apply lA|apply lN|apply lD)|exact HB.out))); (case aF => exact (fun k_ hk => ⟨(.inr (Nat.le_trans (below_size (by repeat (first|(with_reducible first|exact HB.out|apply lA|apply lN|apply lD)|exact HB.out))) hk)), Kd.fresh' (Kd.R_lt (by (with_reducible repeat (first|apply Kd.R_alloc|apply Kd.R_drewN|apply Kd.R_drew)); exact HO_9.out)) k_ hk⟩)); (case aO => exact (by (with_reducible repeat (first|apply Kd.N_alloc|apply Kd.N_drewN|apply Kd.N_drew)); exact HO_3.out)); (case aS => exact (below_size (by repeat (first|(with_reducible first|exact HB.out|apply lA|apply lN|apply lD)|exact HB.out)))); (case aL => have := LMc13.out; omega); intro v183 w16 ho hb hg hat; rw [← Ny182.out] at ho; have n0_ := aM (Kd.V_afterv (ok := (fun k_ => (P0_ k_ ∨ w.heap.size ≤ k_) ∧ some k_ ≠ (.slice (some ad175) t172.length co4 : Value).ownBlock)) (by (with_reducible repeat (first|apply Kd.V_alloc|apply Kd.V_drewN|apply Kd.V_drew)); exact Kd.V_mono HO_0.out (fun _ hk => ⟨⟨hk.1, hk.2.2⟩, hk.2.1⟩)) hg hat); have n1_ := aM (Kd.R_over' (by (with_reducible repeat (first|apply Kd.R_alloc|apply Kd.R_drewN|apply Kd.R_drew)); exact HO_9.out) (Kd.N_typed (by (with_reducible repeat (first|apply Kd.N_alloc|apply Kd.N_drewN|apply Kd.N_drew)); exact HO_3.out)) (by decide) hg); have n2_ := aM (Kd.V_afterv (ok := (fun k_ => (P0_ k_ ∨ w.heap.size ≤ k_) ∧ some k_ ≠ (.slice (some ad175) t172.length co4 : Value).ownBlock)) (by (with_reducible repeat (first|apply Kd.V_alloc|apply Kd.V_drewN|apply Kd.V_drew)); exact Kd.V_mono HO181.out (fun _ hk => ⟨⟨hk.1, hk.2.2⟩, hk.2.1⟩)) hg hat); have n3_ := aM (hb); have n4_ := aM (ho); clear HO_0; clear HO_9; clear HO181; clear HB; clear HO_3; have HO_0 := n0_; have HO_9 := n1_; have HO181 := n2_; have HB := n3_; have HO184 := n4_; clear n0_ n1_ n2_ n3_ n4_; clear ho hb hg hat))
     go_roundg k1
     case measure => have := HK1.out; omega
     case rel => exact ⟨(y182), (wrap64 (x11_1 + 1)), (by first|rfl|(simp; done)|(simp [*]; done)), H', ⟨by have := HK1.out; omega⟩, ⟨by (with_reducible repeat (first|apply Kd.V_alloc|apply Kd.V_drewN|apply Kd.V_drew)); exact Kd.V_mono HO_0.out (fun _ hk => ⟨hk.1.1, ⟨hk.2, hk.1.2⟩⟩)⟩, ⟨by (with_reducible repeat (first|apply Kd.N_alloc|apply Kd.N_drewN|apply Kd.N_drew)); exact HO184.out⟩, ⟨by (with_reducible repeat (first|apply Kd.R_alloc|apply Kd.R_drewN|apply Kd.R_drew)); exact HO_9.out⟩, ⟨by repeat (first|(with_reducible first|exact HB.out|apply lA|apply lN|apply lD)|exact HB.out)⟩⟩
    ·rw [if_neg c9] at H
     have c9b0 : decide ((rd t172 x11_1) < t176) = false := decide_eq_false c9
     clear c9
     replace H := ifS H; obtain ⟨c17, H⟩ := H
     have c17b0 := eq_true c17
     have c17b1 : decide (0 ≤ (rd t172 x11_1)) = true := decide_eq_true c17
     clear c17
     replace H := ifS H; obtain ⟨c18, H⟩ := H
     have c18b0 := eq_true c18
     have c18b1 : decide ((rd t172 x11_1) ≤ (wrap64 ((rd t172 x11_1) + 1))) = true := decide_eq_true c18
     replace H := ifS H; obtain ⟨c19, H⟩ := H
     have c19b0 := eq_true c19
     have c19b1 : decide ((wrap64 ((rd t172 x11_1) + 1)) ≤ (l0.length : Int)) = true := decide_eq_true c19
     obtain ⟨y185, hy185⟩ : ∃ y_ : List (S64), y_ = ((l0.take ((wrap64 ((rd t172 x11_1) + 1)) : Int).toNat).drop ((rd t172 x11_1) : Int).toNat) := ⟨_, rfl⟩
     replace H : (if x3_1.length < 4398046511104 then (diff_parts.l0 k1 l0 (x3_1 ++ [(⟨rd t172 x11_1, y185⟩ : S86)]) t172 (t172.length : Int) (wrap64 (x11_1 + 1))) else (none)) = some r := by first|(rw [hy185]; with_reducible exact H)|(have H2_ := (Option.bind_some _ _).symm.trans H; rw [hy185]; with_reducible exact H2_)|(have H2_ := (Option.bind_some _ _).symm.trans H; with_reducible exact H2_)|with_reducible exact H|(rw [hy185]; exact H)|exact H
     have Ny185 := aM hy185
     clear hy185
     replace H := ifS H; obtain ⟨c20, H⟩ := H
     have LMc20 := aM c20
     clear c20
     obtain ⟨y190, hy190⟩ : ∃ y_ : List (S86), y_ = (x3_1 ++ [(⟨rd t172 x11_1, y185⟩ : S86)]) := ⟨_, rfl⟩
     replace H : (diff_parts.l0 k1 l0 y190 t172 (t172.length : Int) (wrap64 (x11_1 + 1))) = some r := by first|(rw [hy190]; with_reducible exact H)|(have H2_ := (Option.bind_some _ _).symm.trans H; rw [hy190]; with_reducible exact H2_)|(have H2_ := (Option.bind_some _ _).symm.trans H; with_reducible exact H2_)|with_reducible exact H|(rw [hy190]; exact H)|exact H
     have Ny190 := aM hy190
     clear hy190
     have H' := aM H
     clear H
     have p175 : 0 ≤ (x11_1 : Int) := of_decide_eq_true (by first|(with_reducible assumption)|assumption)
     have q175 : x11_1 < (t172.length : Int) := of_decide_eq_true (by first|(with_reducible assumption)|assumption)
     obtain ⟨ad175, e175, hx175_0⟩ := Kd.at_int (Kd.R_reads' HO_9.out).2.2 x11_1 p175 q175
     cases e175
     replace p175 := eq_true p175
     replace q175 := eq_true q175
     go_wp2_with (first|((with_reducible refine gate_callee (f := 23) rfl ?_); refine goesL_ (some 18) rfl rfl Try.func23 (by kernel_rfl) rfl #[.slice A0 l0.length c0, .int .i64 (rd t172 x11_1)] rfl (by (try simp only [List.map_toArray, List.map_cons, List.map_nil]); first|done|rfl|(simp only [List.length_drop, List.length_take]; rfl)) ?_; (with_reducible refine (flat_Partner.calls k1 _ _ l0 (rd t172 x11_1) t176 _ ?side1 ?side2 A8.out).mono ?_); (case side1 => repeat (first|exact (Kd.V_reads' HO_0.out).2.2|(with_reducible refine Kd.C_alloc ?_ _)|(with_reducible refine Kd.C_drewN ?_ _)|(with_reducible refine Kd.C_drew ?_))); (case side2 => exact (Kd.V_reads' HO_0.out).2.1); rintro e w21 ⟨rfl, hb⟩; refine ⟨_, rfl, ?_⟩; replace HO_0 := aM (Kd.V_below (by (with_reducible repeat (first|apply Kd.V_alloc|apply Kd.V_drewN|apply Kd.V_drew)); exact HO_0.out) hb); replace HO_3 := aM (Kd.N_below (by (with_reducible repeat (first|apply Kd.N_alloc|apply Kd.N_drewN|apply Kd.N_drew)); exact HO_3.out) hb); replace HO_9 := aM (Kd.R_below (by (with_reducible repeat (first|apply Kd.R_alloc|apply Kd.R_drewN|apply Kd.R_drew)); exact HO_9.out) hb); replace HB := aM (below_step (by repeat (first|(with_reducible first|exact HB.out|apply lA|apply lN|apply lD)|exact HB.out)) hb); (try clear hb); (try clear hb2); (try clear hk); (try clear hi); have q22 : ((wrap64 ((rd t172 x11_1) + 1)) : Int) ≤ ((l0.length : Int) : Int) := of_decide_eq_true (by first|(with_reducible assumption)|assumption); obtain ⟨i022, hi022, _, hsz22, _⟩ := info_parts info64; have hroom22 : l0.length ≤ c0 := (Kd.V_reads' HO_0.out).2.1; have hC22 : Kd.F k64 _ _ A0 l0.length l0 := (Kd.V_at (base := w.heap.size) HO_0.out).2.2; have ql22 : ((rd t172 x11_1) : Int) ≤ ((wrap64 ((rd t172 x11_1) + 1)) : Int) := of_decide_eq_true (by first|(with_reducible assumption)|assumption); have q022 : (0 : Int) ≤ ((rd t172 x11_1) : Int) := of_decide_eq_true (by first|(with_reducible assumption)|assumption); have hcut22 := cut_mid (P := Try.prog) 22 64 .i64 .i64 Try.underlying22 hi022 4 hsz22 A0 l0.length c0 (rd t172 x11_1) (wrap64 ((rd t172 x11_1) + 1)) q022 ql22 q22 hroom22; have hr22 := Kd.F_mid (lo := ((rd t172 x11_1) : Int).toNat) (hi := ((wrap64 ((rd t172 x11_1) + 1)) : Int).toNat) (c := c0) hC22 (by omega) (by omega) hroom22; obtain ⟨A22, hA22⟩ : ∃ A1, A1 = (if c0 = ((rd t172 x11_1) : Int).toNat then A0 else (A0 : Option Addr).map (·.add (((rd t172 x11_1) : Int).toNat * 4))) := ⟨_, rfl⟩; obtain ⟨c22, hc22⟩ : ∃ c1, c1 = c0 - ((rd t172 x11_1) : Int).toNat := ⟨_, rfl⟩; have hy22 : y185.length = ((wrap64 ((rd t172 x11_1) + 1)) : Int).toNat - ((rd t172 x11_1) : Int).toNat := (by rw [Ny185.out, List.length_drop, List.length_take] <;> omega); rw [show ((l0).take ((wrap64 ((rd t172 x11_1) + 1)) : Int).toNat).drop ((rd t172 x11_1) : Int).toNat = y185 from Ny185.out.symm] at hr22; replace hr22 : Kd.F k64 _ _ A22 y185.length y185 := (by rw [hA22]; exact hr22); rw [← hy22, ← hA22, ← hc22] at hcut22; have HO189 := aM (show Kd.V k64 64 _ w.heap.size _ (.slice A22 y185.length c22) y185 from Kd.V_mk (by rw [hy22, hc22]; exact Nat.sub_le_sub_right (Nat.le_trans (by omega) hroom22) _) hr22); have HC189 := aM (show y185.length ≤ c22 from by rw [hy22, hc22]; exact Nat.sub_le_sub_right (Nat.le_trans (by omega) hroom22) _); clear hr22 hC22 hroom22 hi022 hsz22 hc22; have KY22 := aM hy22; have KA22 := aM hA22; clear hy22 hA22; replace q22 := eq_true q22)|((with_reducible refine gate_builtin (b := .append) (xs := #[.tmp 23, .tmp 31]) rfl ?_); at_builtin; refine Kd.N_append k86 (w0 := w) w.heap.size rfl (.tmp 23) (.tmp 31) 83 86 (.agg #[(.int .i64 0), (.slice none 0 0)]) 32 rfl Try.underlying83 info86 rfl (by decide) (by omega) u3 x3_1 (⟨rd t172 x11_1, y185⟩ : S86) [.int .i64 (rd t172 x11_1), .slice A22 y185.length c22] (fun k_ => (P0_ k_ ∨ w.heap.size ≤ k_) ∧ some k_ ≠ (.slice (some ad175) t172.length co4 : Value).ownBlock) (fun k_ => ((fun k_ => (P0_ k_ ∨ w.heap.size ≤ k_) ∧ some k_ ≠ (.slice (some ad175) t172.length co4 : Value).ownBlock)) k_ ∧ some k_ ≠ (u3 : Value).ownBlock) rfl rfl ?aP (fun _ hk => hk) ?aF ?aO ?aB ?aS ?aL ?_; (case aP => exact (k86_mkF _ _ (⟨rd t172 x11_1, y185⟩ : S86) (Kd.V_reads' (Kd.V_mono (ok' := (fun k_ => ((fun k_ => (P0_ k_ ∨ w.heap.size ≤ k_) ∧ some k_ ≠ (.slice (some ad175) t172.length co4 : Value).ownBlock)) k_ ∧ some k_ ≠ (u3 : Value).ownBlock)) (HO189.out) (fun k_ hk => ⟨⟨hk.1, hk.2.2⟩, hk.2.1⟩))).2.1 (Kd.V_F (Kd.V_mono (ok' := (fun k_ => ((fun k_ => (P0_ k_ ∨ w.heap.size ≤ k_) ∧ some k_ ≠ (.slice (some ad175) t172.length co4 : Value).ownBlock)) k_ ∧ some k_ ≠ (u3 : Value).ownBlock)) (HO189.out) (fun k_ hk => ⟨⟨hk.1, hk.2.2⟩, hk.2.1⟩))))); (case aB => exact (by repeat (first|(with_reducible first|exact HB.out|apply lA|apply lN|apply lD)|exact HB.out))); (case aF => exact (fun k_ hk => ⟨(.inr (Nat.le_trans (below_size (by repeat (first|(with_reducible first|exact HB.out|apply lA|apply lN|apply lD)|exact HB.out))) hk)), Kd.fresh' (Kd.R_lt (by (with_reducible repeat (first|apply Kd.R_alloc|apply Kd.R_drewN|apply Kd.R_drew)); exact HO_9.out)) k_ hk⟩)); (case aO => exact (by (with_reducible repeat (first|apply Kd.N_alloc|apply Kd.N_drewN|apply Kd.N_drew)); exact HO_3.out)); (case aS => exact (below_size (by repeat (first|(with_reducible first|exact HB.out|apply lA|apply lN|apply lD)|exact HB.out)))); (case aL => have := LMc20.out; omega); intro v191 w23 ho hb hg hat; rw [← Ny190.out] at ho; have n0_ := aM (Kd.V_afterv (ok := (fun k_ => (P0_ k_ ∨ w.heap.size ≤ k_) ∧ some k_ ≠ (.slice (some ad175) t172.length co4 : Value).ownBlock)) (by (with_reducible repeat (first|apply Kd.V_alloc|apply Kd.V_drewN|apply Kd.V_drew)); exact Kd.V_mono HO_0.out (fun _ hk => ⟨⟨hk.1, hk.2.2⟩, hk.2.1⟩)) hg hat); have n1_ := aM (Kd.R_over' (by (with_reducible repeat (first|apply Kd.R_alloc|apply Kd.R_drewN|apply Kd.R_drew)); exact HO_9.out) (Kd.N_typed (by (with_reducible repeat (first|apply Kd.N_alloc|apply Kd.N_drewN|apply Kd.N_drew)); exact HO_3.out)) (by decide) hg); have n2_ := aM (Kd.V_afterv (ok := (fun k_ => (P0_ k_ ∨ w.heap.size ≤ k_) ∧ some k_ ≠ (.slice (some ad175) t172.length co4 : Value).ownBlock)) (by (with_reducible repeat (first|apply Kd.V_alloc|apply Kd.V_drewN|apply Kd.V_drew)); exact Kd.V_mono HO189.out (fun _ hk => ⟨⟨hk.1, hk.2.2⟩, hk.2.1⟩)) hg hat); have n3_ := aM (hb); have n4_ := aM (ho); clear HO_0; clear HO_9; clear HO189; clear HB; clear HO_3; have HO_0 := n0_; have HO_9 := n1_; have HO189 := n2_; have HB := n3_; have HO192 := n4_; clear n0_ n1_ n2_ n3_ n4_; clear ho hb hg hat))
     go_roundg k1
     case measure => have := HK1.out; omega
     case rel => exact ⟨(y190), (wrap64 (x11_1 + 1)), (by first|rfl|(simp; done)|(simp [*]; done)), H', ⟨by have := HK1.out; omega⟩, ⟨by (with_reducible repeat (first|apply Kd.V_alloc|apply Kd.V_drewN|apply Kd.V_drew)); exact Kd.V_mono HO_0.out (fun _ hk => ⟨hk.1.1, ⟨hk.2, hk.1.2⟩⟩)⟩, ⟨by (with_reducible repeat (first|apply Kd.N_alloc|apply Kd.N_drewN|apply Kd.N_drew)); exact HO192.out⟩, ⟨by (with_reducible repeat (first|apply Kd.R_alloc|apply Kd.R_drewN|apply Kd.R_drew)); exact HO_9.out⟩, ⟨by repeat (first|(with_reducible first|exact HB.out|apply lA|apply lN|apply lD)|exact HB.out)⟩⟩
   ·rw [if_neg c5] at H
    have c5b0 : decide (x11_1 < (t172.length : Int)) = false := decide_eq_false c5
    clear c5
    obtain rfl := Option.some.inj H
    go_wp2
    go_ret
    exact ⟨_, by first|rfl|(simp [errW_none, errW_some] <;> rfl)|(simp [*, errW_none, errW_some] <;> rfl), by (with_reducible repeat (first|apply Kd.N_alloc|apply Kd.N_drewN|apply Kd.N_drew)); exact Kd.N_mono HO_3.out (fun _ hk => hk.1), by repeat (first|(with_reducible first|exact HB.out|apply lA|apply lN|apply lD)|exact HB.out)⟩

def flat_Same.l0 : Nat → List (S64) → List (S64) → Int → Int → Option (Bool)
|0, _, _, _, _ => none
|k + 1, x0, x1, x12, x13 => if x13 < x12 then (if 0 ≤ x13 then (if x13 < (x0.length : Int) then (if x13 < (x1.length : Int) then (if (!(((rd_T64 x0 x13).f0) == ((rd_T64 x1 x13).f0)) || (!(((rd_T64 x0 x13).f1) == ((rd_T64 x1 x13).f1)) || (!(((rd_T64 x0 x13).f2) == ((rd_T64 x1 x13).f2)) || (!(((rd_T64 x0 x13).f3) == ((rd_T64 x1 x13).f3)))))) = true then (some false) else (flat_Same.l0 k x0 x1 x12 (wrap64 (x13 + 1)))) else (none)) else (none)) else (none)) else (some true)
def flat_Same.f (k : Nat) (l0 : List (S64)) (l1 : List (S64)) : Option (Bool) := if (l0.length : Int) = (l1.length : Int) then (flat_Same.l0 k l0 l1 (l0.length : Int) 0) else (some false)
theorem flat_Same.mono_l : ∀ k, (∀ y0 y1 y2 y3, LeO (flat_Same.l0 k y0 y1 y2 y3) (flat_Same.l0 (k + 1) y0 y1 y2 y3))
|0 => fun _ _ _ _ r h => by simp [flat_Same.l0] at h
|k + 1 => by
  have ih0 := flat_Same.mono_l k
  ·intro y0 y1 y2 y3
   unfold flat_Same.l0
   repeat' first
  |(with_reducible exact ih0 _ _ _ _)
  |(with_reducible exact LeO.refl _)
  |(with_reducible exact LeO.none _)
  |(with_reducible refine LeO.ite ?_ ?_)
  |(with_reducible refine LeO.bind ?_ (fun _ => ?_))
  |exact ih0 _ _ _ _
  |exact LeO.none _
  |refine LeO.ite ?_ ?_
  |refine LeO.bind ?_ (fun _ => ?_)
theorem flat_Same.mono : ∀ a0 a1 k, LeO (flat_Same.f k a0 a1) (flat_Same.f (k + 1) a0 a1) := by
 intro a0 a1 k
 have ih0 := flat_Same.mono_l k
 unfold flat_Same.f
 repeat' first
  |(with_reducible exact ih0 _ _ _ _)
  |(with_reducible exact LeO.refl _)
  |(with_reducible exact LeO.none _)
  |(with_reducible refine LeO.ite ?_ ?_)
  |(with_reducible refine LeO.bind ?_ (fun _ => ?_))
  |exact ih0 _ _ _ _
  |exact LeO.none _
  |refine LeO.ite ?_ ?_
  |refine LeO.bind ?_ (fun _ => ?_)
set_option maxHeartbeats 8000000 in
set_option maxRecDepth 100000 in
theorem flat_Same.calls (k : Nat) (A0 : Option Addr) (c0 : Nat) (l0 : List (S64)) (A1 : Option Addr) (c1 : Nat) (l1 : List (S64)) (r : Bool) (w : World) (hr0 : Kd.C k64 w A0 l0.length l0) (hc0 : l0.length ≤ c0) (hr1 : Kd.C k64 w A1 l1.length l1) (hc1 : l1.length ≤ c1) (h : flat_Same.f k l0 l1 = some r) :
  Calls Try.prog 41 #[.slice A0 l0.length c0, .slice A1 l1.length c1] w fun e w' => e = .returned (.bool r) ∧ Drawn0 w w' := by
 have hu64 := Try.underlying64
 have HR0 := aM hr0
 have HC0 := aM hc0
 clear hr0 hc0
 have HR1 := aM hr1
 have HC1 := aM hc1
 clear hr1 hc1
 have H : (if (l0.length : Int) = (l1.length : Int) then (flat_Same.l0 k l0 l1 (l0.length : Int) 0) else (some false)) = some r := h
 clear h
 by_cases c3 : (l0.length : Int) = (l1.length : Int)
 ·rw [if_pos c3] at H
  have c3b0 : ((l0.length : Int) == (l1.length : Int)) = true := beq_iff_eq.mpr c3
  have c3b1 : ((l0.length : Int) != (l1.length : Int)) = false := bne_eq_false_iff_eq.mpr c3
  have c3b2 : (l0.length == l1.length) = true := by first|simpa using c3|(simp at c3 ⊢; omega)
  clear c3
  have H' := aM H
  clear H
  go_enter Try.func41, Try.ntmps41
  go_wp2
  repeat (go_quiet (fail); try go_wp2)
  go_loopg [13] k (fun kq v13 w' => ∃ (x13_1 : Int), v13 = .int .i64 x13_1 ∧ Aside0 (flat_Same.l0 kq l0 l1 (l0.length : Int) x13_1 = some r) ∧ Aside0 (kq ≤ k) ∧ Drawn0 w w')
  case atStart => exact ⟨(0), (by first|rfl|(simp; done)|(simp [*]; done)), H', ⟨Nat.le_refl _⟩, by repeat (first|exact Drawn0.refl _|apply Drawn0.step)⟩
  case round =>
   clear H'
   obtain ⟨x13_1, rfl, HA, HK1, ⟨m1, rfl⟩⟩ := hrel
   cases gk with
  |zero => exact absurd HA.out (by simp [flat_Same.l0])
  |succ k1 =>
    have H := HA.out
    clear HA
    simp only [flat_Same.l0] at H
    by_cases c4 : x13_1 < (l0.length : Int)
    ·rw [if_pos c4] at H
     have c4b0 : decide (x13_1 < (l0.length : Int)) = true := decide_eq_true c4
     clear c4
     replace H := ifS H; obtain ⟨c5, H⟩ := H
     have c5b0 : decide (0 ≤ x13_1) = true := decide_eq_true c5
     clear c5
     replace H := ifS H; obtain ⟨c6, H⟩ := H
     have c6b0 : decide (x13_1 < (l0.length : Int)) = true := decide_eq_true c6
     clear c6
     replace H := ifS H; obtain ⟨c7, H⟩ := H
     have c7b0 : decide (x13_1 < (l1.length : Int)) = true := decide_eq_true c7
     clear c7
     by_cases c8 : (!(((rd_T64 l0 x13_1).f0) == ((rd_T64 l1 x13_1).f0)) || (!(((rd_T64 l0 x13_1).f1) == ((rd_T64 l1 x13_1).f1)) || (!(((rd_T64 l0 x13_1).f2) == ((rd_T64 l1 x13_1).f2)) || (!(((rd_T64 l0 x13_1).f3) == ((rd_T64 l1 x13_1).f3)))))) = true
     ·rw [if_pos c8] at H
      have c8b0 : (!(((rd_T64 l0 x13_1).f0) == ((rd_T64 l1 x13_1).f0)) || (!(((rd_T64 l0 x13_1).f1) == ((rd_T64 l1 x13_1).f1)) || (!(((rd_T64 l0 x13_1).f2) == ((rd_T64 l1 x13_1).f2)) || (!(((rd_T64 l0 x13_1).f3) == ((rd_T64 l1 x13_1).f3)))))) = true := c8
      clear c8
      obtain rfl := Option.some.inj H
      have p193 : 0 ≤ (x13_1 : Int) := of_decide_eq_true (by first|(with_reducible assumption)|assumption)
      have q193 : x13_1 < (l0.length : Int) := of_decide_eq_true (by first|(with_reducible assumption)|assumption)
      obtain ⟨ad193, e193, hx193_0, hx193_1, hx193_2, hx193_3⟩ := at_T64 HR0.out x13_1 p193 q193
      cases e193
      replace p193 := eq_true p193
      replace q193 := eq_true q193
      have p194 : 0 ≤ (x13_1 : Int) := of_decide_eq_true (by first|(with_reducible assumption)|assumption)
      have q194 : x13_1 < (l1.length : Int) := of_decide_eq_true (by first|(with_reducible assumption)|assumption)
      obtain ⟨ad194, e194, hx194_0, hx194_1, hx194_2, hx194_3⟩ := at_T64 HR1.out x13_1 p194 q194
      cases e194
      replace p194 := eq_true p194
      replace q194 := eq_true q194
      go_wp2
      repeat (go_quiet (fail); try go_wp2)
      go_ret
      exact ⟨by first|rfl|(simp; done)|(simp [*]; done), by repeat (first|exact Drawn0.refl _|apply Drawn0.step)⟩
     ·rw [if_neg c8] at H
      have c8b0 : (!(((rd_T64 l0 x13_1).f0) == ((rd_T64 l1 x13_1).f0)) || (!(((rd_T64 l0 x13_1).f1) == ((rd_T64 l1 x13_1).f1)) || (!(((rd_T64 l0 x13_1).f2) == ((rd_T64 l1 x13_1).f2)) || (!(((rd_T64 l0 x13_1).f3) == ((rd_T64 l1 x13_1).f3)))))) = false := by simpa using c8
      clear c8
      have H' := aM H
      clear H
      have p193 : 0 ≤ (x13_1 : Int) := of_decide_eq_true (by first|(with_reducible assumption)|assumption)
      have q193 : x13_1 < (l0.length : Int) := of_decide_eq_true (by first|(with_reducible assumption)|assumption)
      obtain ⟨ad193, e193, hx193_0, hx193_1, hx193_2, hx193_3⟩ := at_T64 HR0.out x13_1 p193 q193
      cases e193
      replace p193 := eq_true p193
      replace q193 := eq_true q193
      have p194 : 0 ≤ (x13_1 : Int) := of_decide_eq_true (by first|(with_reducible assumption)|assumption)
      have q194 : x13_1 < (l1.length : Int) := of_decide_eq_true (by first|(with_reducible assumption)|assumption)
      obtain ⟨ad194, e194, hx194_0, hx194_1, hx194_2, hx194_3⟩ := at_T64 HR1.out x13_1 p194 q194
      cases e194
      replace p194 := eq_true p194
      replace q194 := eq_true q194
      go_wp2
      repeat (go_quiet (fail); try go_wp2)
      go_roundg k1
      case measure => have := HK1.out; omega
      case rel => exact ⟨(wrap64 (x13_1 + 1)), (by first|rfl|(simp; done)|(simp [*]; done)), H', ⟨by have := HK1.out; omega⟩, by repeat (first|exact Drawn0.refl _|apply Drawn0.step)⟩
    ·rw [if_neg c4] at H
     have c4b0 : decide (x13_1 < (l0.length : Int)) = false := decide_eq_false c4
     clear c4
     obtain rfl := Option.some.inj H
     go_wp2
     repeat (go_quiet (fail); try go_wp2)
     go_ret
     exact ⟨by first|rfl|(simp; done)|(simp [*]; done), by repeat (first|exact Drawn0.refl _|apply Drawn0.step)⟩
 ·rw [if_neg c3] at H
  have c3b0 : ((l0.length : Int) == (l1.length : Int)) = false := beq_eq_false_iff_ne.mpr c3
  have c3b1 : ((l0.length : Int) != (l1.length : Int)) = true := bne_iff_ne.mpr c3
  have c3b2 : (l0.length == l1.length) = false := by first|simpa using c3|(simp at c3 ⊢; omega)
  obtain rfl := Option.some.inj H
  go_enter Try.func41, Try.ntmps41
  go_wp2
  repeat (go_quiet (fail); try go_wp2)
  go_ret
  exact ⟨by first|rfl|(simp; done)|(simp [*]; done), by repeat (first|exact Drawn0.refl _|apply Drawn0.step)⟩

end Go.Proofs.Ytjpmlggkhhoooaa.PDq
-- Written for this claim by a program (the kit's print, with hand-made contracts for what it does not take).
namespace Go.Proofs.Ytjpmlggkhhoooaa.PDq
open Go.RowKit Go.Proofs.YtjpmlggkhhoooaaW.PrintWords Go.Proofs.YtjpmlggkhhoooaaW.PrintLast Go.Proofs.YtjpmlggkhhoooaaW.PrintMore
attribute [local go_sem] max2_int min2_int max_two min_two max_three min_three max_four min_four   -- for this text's walks alone
set_option linter.unusedVariables false
set_option linter.unusedSimpArgs false

attribute [local go_sem high] eqA64 eqA76
def diff_Rows.k0 (l0 l1 : List S64) : Nat := 4 * (l0.length + l1.length) + 3000
def diff_Rows.like (k : Nat) (xs ys : List S86) (i j : Nat) : Bool := (flat_Same.f k (rd_T86 xs (i : Int)).f1 (rd_T86 ys (j : Int)).f1).getD false
def diff_Rows.ok (k : Nat) (xs ys : List S86) : Bool := xs.all fun x => ys.all fun y => (flat_Same.f k x.f1 y.f1).isSome
theorem diff_Rows.mem {xs : List S86} {i : Nat} (hi : i < xs.length) : rd_T86 xs (i : Int) ∈ xs := by
 have e : rd_T86 xs (i : Int) = xs[i] := by simp [rd_T86, List.getD_eq_getElem?_getD, List.getElem?_eq_getElem hi]
 rw [e]
 exact List.getElem_mem hi
theorem diff_Rows.same {k : Nat} {xs ys : List S86} (h : diff_Rows.ok k xs ys = true) {i j : Nat} (hi : i < xs.length) (hj : j < ys.length) : flat_Same.f k (rd_T86 xs (i : Int)).f1 (rd_T86 ys (j : Int)).f1 = some (diff_Rows.like k xs ys i j) := by
 have h1 := List.all_eq_true.1 (List.all_eq_true.1 h _ (diff_Rows.mem hi)) _ (diff_Rows.mem hj)
 unfold diff_Rows.like
 cases e : flat_Same.f k (rd_T86 xs (i : Int)).f1 (rd_T86 ys (j : Int)).f1 with
|none => rw [e] at h1; cases h1
|some b => rfl
set_option maxRecDepth 100000 in
set_option maxHeartbeats 4000000 in
theorem diff_Rows.one1 (bx bz : Nat) (AX AY : Option Addr) (cx cy : Nat) (xs ys : List S86) (k i j : Nat) (hi : i < xs.length) (hj : j < ys.length) (r : Bool) (hs : flat_Same.f k (rd_T86 xs (i : Int)).f1 (rd_T86 ys (j : Int)).f1 = some r) (w : World)
  (h0 : w.cell? ⟨bx, 0, none⟩ = some (.slice AX xs.length cx)) (h1 : w.cell? ⟨bz, 0, none⟩ = some (.slice AY ys.length cy)) (hX : Kd.C k86 w AX xs.length xs) (hY : Kd.C k86 w AY ys.length ys) :
  Calls Try.prog 40 (#[.int .i64 (i : Int), .int .i64 (j : Int)] ++ #[.pointer (some ⟨bx, 0, none⟩), .pointer (some ⟨bz, 0, none⟩)]) w fun e w' => e = .returned (.bool r) ∧ Below w.heap.size w w' := by
 obtain ⟨x, hx⟩ : ∃ x : Int, x = (i : Int) := ⟨_, rfl⟩
 obtain ⟨y, hy⟩ : ∃ y : Int, y = (j : Int) := ⟨_, rfl⟩
 rw [← hx, ← hy] at hs ⊢
 have q1 : (0 : Int) ≤ x := by omega
 have q2 : x < (xs.length : Int) := by omega
 have q3 : (0 : Int) ≤ y := by omega
 have q4 : y < (ys.length : Int) := by omega
 obtain ⟨ad, A1, c1, rfl, a0, a1, al, aC⟩ := at_T86 hX x q1 q2
 obtain ⟨bd, B1, d1, rfl, b0, b1, bl, bC⟩ := at_T86 hY y q3 q4
 generalize (rd_T86 xs x).f1 = p at hs a1 al aC
 generalize (rd_T86 ys y).f1 = q at hs b1 bl bC
 have HS := aM hs
 have HA := aM aC
 have HB := aM bC
 have HAL := aM al
 have HBL := aM bl
 clear hX hY hx hy hs aC bC al bl hi hj a0 b0
 go_enter Try.func40, Try.ntmps40
 go_wp2
 go_quiet ((go_at_call 41; refine Calls.quiet_of (v := .bool r) ((flat_Same.calls k A1 c1 p B1 d1 q r _ (Kd.C_drewN HA.out _) HAL.out (Kd.C_drewN HB.out _) HBL.out HS.out).mono ?_); rintro e w' ⟨rfl, ⟨nd, rfl⟩⟩; exact ⟨rfl, nd, rfl⟩))
 go_wp2
 go_ret
 exact ⟨rfl, Drawn0.below ⟨⟨_, rfl⟩⟩⟩
def diff_Rows.gone (p : S86) : S55 := ⟨1, p.f0, -1⟩
def diff_Rows.come (p : S86) : S55 := ⟨2, -1, p.f0⟩
def diff_Rows.add (xs ys : List S86) (c : (Int × Int) × (Int × Int) × Bool) : List S55 := ((xs.take c.2.1.1.toNat).drop c.1.1.toNat).map diff_Rows.gone ++ ((ys.take c.2.1.2.toNat).drop c.1.2.toNat).map diff_Rows.come ++ (if c.2.2 = true then [⟨0, (rd_T86 xs c.2.1.1).f0, (rd_T86 ys c.2.1.2).f0⟩] else [])
def diff_Rows.outs (xs ys : List S86) (l : List ((Int × Int) × (Int × Int) × Bool)) : List S55 := l.flatMap (diff_Rows.add xs ys)
def diff_Rows.T12 : Bool × List (List Nat × List Nat) := (true, [([], []), ([], []), ([], []), ([2], [2]), ([1, 3], [1, 3]), ([4], [4]), ([5], [5]), ([], []), ([], []), ([8], [8]), ([7, 9], [7, 9]), ([10], [10]), ([11], [11]), ([6, 12], [6, 12]), ([13], [13]), ([0, 14], [0, 14]), ([15, 15, 0, 1, 2, 3, 4, 5, 6, 7, 8, 9, 10, 11, 12, 13, 14, 15], [15])])
def diff_Rows.B12 : List Nat := [0, 0, 0, 4, 14, 30, 62, 0, 0, 256, 896, 1920, 3968, 8190, 16382, 32767, 65535]
theorem diff_Rows.tab12 : rtab .any (opsOf Try.f42 12) = diff_Rows.T12 := by kernel_rfl
theorem diff_Rows.bits12 : waitsOk diff_Rows.T12.2 diff_Rows.B12 = true := by kernel_rfl
/-- What was found so far. -/
structure diff_Rows.St (bo : Nat) (w0 : World) (out : List S55) (W : World) : Prop where
 ex : ∃ v, W.heap[bo]? = some (.cells #[v] 49 (0, 0)) ∧ Kd.R k55 55 W w0.heap.size (fun _ => True) v out
 below : Below w0.heap.size w0 W
theorem diff_Rows.St.grown {bo : Nat} {w0 W W' : World} {out : List S55} (h : diff_Rows.St bo w0 out W) (hg : W.grownBy W' none) : diff_Rows.St bo w0 out W' := by
 obtain ⟨⟨v, h1, h2⟩, h3⟩ := h
 exact ⟨⟨v, blk_grown h1 hg (by simp), Kd.R_grown h2 hg (fun _ _ => by simp)⟩, h3.grown hg h3.size (fun r e => by cases e)⟩
theorem diff_Rows.St.set {bo : Nat} {w0 W : World} {out : List S55} (h : diff_Rows.St bo w0 out W) {g : Nat} {cs : Array Value} (hg : W.heap[g]? = some (.cells cs 76 (0, 0))) (hB : w0.heap.size ≤ g) (j : Nat) (u : Value) : diff_Rows.St bo w0 out (W.setCell ⟨g, j, none⟩ u) := by
 obtain ⟨⟨v, h1, h2⟩, h3⟩ := h
 exact ⟨⟨v, bF h1 (blk_ne h1 hg (by decide)) u, Kd.R_set h2 hg (by decide) j u⟩, h3.setCell hB _⟩
theorem diff_Rows.snoc (b : List S55) (f : S86 → S55) (l : List S86) {i : Nat} (h : i < l.length) : b ++ (l.take (i + 1)).map f = (b ++ (l.take i).map f) ++ [f (rd_T86 l (i : Int))] := by
 have e : rd_T86 l (i : Int) = l[i] := by simp [rd_T86, List.getD_eq_getElem?_getD, List.getElem?_eq_getElem h]
 rw [e, List.take_succ_eq_append_getElem h, List.map_append, ← List.append_assoc]
 rfl
/-- A block that is neither the box nor the row stays over both stores and the append. -/
theorem diff_Rows.past {w2 w8 : World} {B gp g : Nat} {vo : Value} {cur : List S55} {cs cp : Array Value} {t : TypeId} {u0 u1 : Value} (hR : Kd.R k55 55 w2 B (fun _ => True) vo cur) (hP : w2.heap[gp]? = some (.cells cp 86 (0, 0))) (hg : ((w2.setCell ⟨gp, 0, none⟩ u0).setCell ⟨gp, 1, none⟩ u1).grownBy w8 vo.ownBlock) (h : w2.heap[g]? = some (.cells cs t (0, 0))) (h1 : t ≠ 86) (h2 : 55 ≠ t) : w8.heap[g]? = some (.cells cs t (0, 0)) :=
 blk_grown (bF (bF h (blk_ne h hP h1) _) (blk_ne h hP h1) _) hg (Kd.R_ne hR h h2)
theorem diff_Rows.pastK {w2 w8 : World} {B gp : Nat} {vo : Value} {cur : List S55} {cp : Array Value} {u0 u1 : Value} (hR : Kd.R k55 55 w2 B (fun _ => True) vo cur) (hP : w2.heap[gp]? = some (.cells cp 86 (0, 0))) (hg : ((w2.setCell ⟨gp, 0, none⟩ u0).setCell ⟨gp, 1, none⟩ u1).grownBy w8 vo.ownBlock) : diff_gaps.Keep w2 w8 :=
 fun g cs h => diff_Rows.past hR hP hg h (by decide) (by decide)
set_option maxRecDepth 100000 in
set_option maxHeartbeats 8000000 in
theorem diff_Rows.one2 (bx bo bz : Nat) (w0 : World) (AX AY : Option Addr) (cx cy : Nat) (xs ys : List S86) (h0 : w0.heap[bx]? = some (.cells #[.slice AX xs.length cx] 83 (0, 0))) (h1 : w0.heap[bz]? = some (.cells #[.slice AY ys.length cy] 83 (0, 0))) (hX : Kd.C k86 w0 AX xs.length xs) (hxc : xs.length ≤ cx) (hY : Kd.C k86 w0 AY ys.length ys) (hyc : ys.length ≤ cy)
  (f0 f1 t0 t1 : Int) (b : Bool) (out : List S55) (hlen : out.length ≤ 100000) (hf0 : 0 ≤ f0) (hf0t : f0 ≤ t0) (ht0 : t0 ≤ (xs.length : Int)) (hf1 : 0 ≤ f1) (hf1t : f1 ≤ t1) (ht1 : t1 ≤ (ys.length : Int)) (hxl : xs.length ≤ 200) (hyl : ys.length ≤ 200) (hb : b = true → t0 < (xs.length : Int) ∧ t1 < (ys.length : Int)) (w : World) (hS : diff_Rows.St bo w0 out w) (hBo : w0.heap.size ≤ bo) :
  Calls Try.prog 42 (#[.agg #[.int .i64 f0, .int .i64 f1], .agg #[.int .i64 t0, .int .i64 t1], .bool b] ++ #[.pointer (some ⟨bx, 0, none⟩), .pointer (some ⟨bo, 0, none⟩), .pointer (some ⟨bz, 0, none⟩)]) w fun e W' => (∃ x, e = .returned x) ∧ diff_Rows.St bo w0 (out ++ diff_Rows.add xs ys ((f0, f1), (t0, t1), b)) W' ∧ diff_gaps.Keep w W' := by
 obtain ⟨i86, hi86, _, hsz86, _⟩ := info_parts info86
 have hcutx := cut_mid (P := Try.prog) 83 86 .i64 .i64 Try.underlying83 hi86 2 hsz86 AX xs.length cx f0 t0 hf0 hf0t ht0 hxc
 have hcuty := cut_mid (P := Try.prog) 83 86 .i64 .i64 Try.underlying83 hi86 2 hsz86 AY ys.length cy f1 t1 hf1 hf1t ht1 hyc
 have hCX := Kd.C_mid (lo := f0.toNat) (hi := t0.toNat) (c := cx) hX (by omega) (by omega) hxc
 have hCY := Kd.C_mid (lo := f1.toNat) (hi := t1.toNat) (c := cy) hY (by omega) (by omega) hyc
 have hlx : ((xs.take t0.toNat).drop f0.toNat).length = t0.toNat - f0.toNat := by rw [List.length_drop, List.length_take]; omega
 have hly : ((ys.take t1.toNat).drop f1.toNat).length = t1.toNat - f1.toNat := by rw [List.length_drop, List.length_take]; omega
 have hadd : diff_Rows.add xs ys ((f0, f1), (t0, t1), b) = ((xs.take t0.toNat).drop f0.toNat).map diff_Rows.gone ++ ((ys.take t1.toNat).drop f1.toNat).map diff_Rows.come ++ (if b = true then [⟨0, (rd_T86 xs t0).f0, (rd_T86 ys t1).f0⟩] else []) := rfl
 rw [hadd]
 obtain ⟨px, hpx⟩ : ∃ p, p = (xs.take t0.toNat).drop f0.toNat := ⟨_, rfl⟩
 obtain ⟨py, hpy⟩ : ∃ p, p = (ys.take t1.toNat).drop f1.toNat := ⟨_, rfl⟩
 obtain ⟨DX, hDX⟩ : ∃ A, A = (if cx = f0.toNat then AX else AX.map (·.add (f0.toNat * 2))) := ⟨_, rfl⟩
 obtain ⟨DY, hDY⟩ : ∃ A, A = (if cy = f1.toNat then AY else AY.map (·.add (f1.toNat * 2))) := ⟨_, rfl⟩
 obtain ⟨dx, hdx⟩ : ∃ c, c = cx - f0.toNat := ⟨_, rfl⟩
 obtain ⟨dy, hdy⟩ : ∃ c, c = cy - f1.toNat := ⟨_, rfl⟩
 rw [← hpx] at hlx hCX ⊢
 rw [← hpy] at hly hCY ⊢
 rw [← hlx, ← hDX, ← hdx] at hcutx
 rw [← hly, ← hDY, ← hdy] at hcuty
 have CX := aM (show Kd.C k86 w0 DX px.length px by rw [hDX]; exact hCX)
 have CY := aM (show Kd.C k86 w0 DY py.length py by rw [hDY]; exact hCY)
 have HLX := aM (show px.length ≤ 200 by omega)
 have HLY := aM (show py.length ≤ 200 by omega)
 have HLBX := aM (show out.length ≤ 100000 from hlen)
 have HLBY := aM (show (out ++ px.map diff_Rows.gone).length ≤ 100200 by rw [List.length_append, List.length_map]; omega)
 have HX := aM hX
 have HY := aM hY
 have HBX := aM h0
 have HBZ := aM h1
 have HBO := aM hBo
 have HS := aM hS
 have HBB := aM hb
 have HT := aM (And.intro (show (0 : Int) ≤ t0 by omega) (show (0 : Int) ≤ t1 by omega))
 clear hX hY h0 h1 hBo hS hb hlen hxc hyc hCX hCY hlx hly hpx hpy hDX hDY hdx hdy hadd hi86 hsz86 hf0 hf0t ht0 hf1 hf1t ht1 hxl hyl
 go_enter Try.func42, Try.ntmps42
 go_wp2_with (first|((with_reducible refine gate_dst (N := 6) rfl ?_); refine box_event ?hg (N := 6) ?hd (cs := #[.int .i64 f0, .int .i64 f1]) (t := 76) ?hr ?_; (case hd => rfl); (case hg => rfl); (case hr => first|(go_simp; done)|(go_simp; rfl)); intro ga hg6 w1 hb6x hb6; have n0_ := aM (HS.out.grown (grown_of_below hb6 none)); have n1_ := aM (diff_gaps.Keep.grown (grown_of_below hb6 none)); have BA := aM hb6x; clear HS hg6 hb6x hb6; have HS := n0_; have HK := n1_; clear n0_ n1_)|((with_reducible refine gate_dst (N := 7) rfl ?_); refine box_event ?hg (N := 7) ?hd (cs := #[.int .i64 t0, .int .i64 t1]) (t := 76) ?hr ?_; (case hd => rfl); (case hg => rfl); (case hr => first|(go_simp; done)|(go_simp; rfl)); intro gb hg7 w2 hb7x hb7; have n0_ := aM (HS.out.grown (grown_of_below hb7 none)); have n1_ := aM (HK.out.trans (diff_gaps.Keep.grown (grown_of_below hb7 none))); have n2_ := aM (blk_below BA.out hb7); have BB := aM hb7x; clear HS HK BA hg7 hb7x hb7; have HS := n0_; have HK := n1_; have BA := n2_; clear n0_ n1_ n2_; have hca0 : w2.cell? ⟨ga, 0, none⟩ = some (.int .i64 f0) := (blk_cell BA.out 0).trans rfl; have hcb0 : w2.cell? ⟨gb, 0, none⟩ = some (.int .i64 t0) := (blk_cell BB.out 0).trans rfl; have hcx : w2.cell? ⟨bx, 0, none⟩ = some (.slice AX xs.length cx) := (blk_cell (blk_below HBX.out HS.out.below) 0).trans rfl))
 clear hca0 hcb0 hcx
 go_loopw [20] (fun v20 wr => ∃ (i : Nat), v20 = .int .i64 (i : Int) ∧ Aside0 (i ≤ px.length) ∧ Aside0 (diff_Rows.St bo w0 (out ++ (px.take i).map diff_Rows.gone) wr) ∧ Aside0 (wr.heap[ga]? = some (.cells #[.int .i64 f0, .int .i64 f1] 76 (0, 0))) ∧ Aside0 (wr.heap[gb]? = some (.cells #[.int .i64 t0, .int .i64 t1] 76 (0, 0))) ∧ Aside0 (diff_gaps.Keep w wr)) (fun v20 _ => px.length - (intOf v20).toNat)
 case atStart => exact ⟨0, rfl, ⟨Nat.zero_le _⟩, ⟨by rw [List.take_zero, List.map_nil, List.append_nil]; exact HS.out⟩, BA, BB, HK⟩
 case round =>
  clear HS BA BB HK
  obtain ⟨i, rfl, HI, HS, BA, BB, HK⟩ := hrel
  by_cases hlt : i < px.length
  ·have q1 : decide ((i : Int) < (px.length : Int)) = true := decide_eq_true (by omega)
   have q2 : decide (i < px.length) = true := decide_eq_true hlt
   have q3 : (i : Int) < (px.length : Int) := by omega
   have q4 : (0 : Int) ≤ (i : Int) := by omega
   have q5 : (i : Int) ≤ 9223372036854775806 := by have := HLX.out; omega
   have HLT := aM hlt
   obtain ⟨ad, A1, c1, rfl, x0, x1, xl, xC⟩ := at_T86 (Kd.C_below CX.out HS.out.below) (i : Int) q4 q3
   rw [Int.toNat_natCast] at x0 x1
   have TK := aM (diff_Rows.snoc out diff_Rows.gone px hlt)
   obtain ⟨kk, hkk⟩ : ∃ k, k = (rd_T86 px (i : Int)).f0 := ⟨_, rfl⟩
   obtain ⟨pp, hpp⟩ : ∃ k, k = (rd_T86 px (i : Int)).f1 := ⟨_, rfl⟩
   unfold diff_Rows.gone at TK
   rw [← hkk] at x0 TK
   rw [← hpp] at x1 xl xC
   obtain ⟨cur, hcur⟩ : ∃ c, c = out ++ (px.take i).map diff_Rows.gone := ⟨_, rfl⟩
   have HCL := aM (show cur.length ≤ 150000 by have h1 := HLX.out; have h2 := HLBX.out; rw [hcur, List.length_append, List.length_map, List.length_take]; omega)
   unfold diff_Rows.gone at hcur
   unfold diff_Rows.gone at HS
   rw [← hcur] at HS TK
   clear hkk hpp hcur hlt xl xC
   go_wp2_with (first|((with_reducible refine gate_dst (N := 10) rfl ?_); refine box_event ?hg (N := 10) ?hd (cs := #[.int .i64 0, .slice none 0 0]) (t := 86) ?hr ?_; (case hd => rfl); (case hg => rfl); (case hr => first|(go_simp; done)|(go_simp; rfl)); intro gp hg w2 hbox hb; have n0_ := aM (HS.out.grown (grown_of_below hb none)); have HGP := aM (show w0.heap.size ≤ gp by rw [hg]; exact HS.out.below.size); have n1_ := aM (HK.out.trans (diff_gaps.Keep.grown (grown_of_below hb none))); have n2_ := aM (blk_below BA.out hb); have n3_ := aM (blk_below BB.out hb); have BP := aM hbox; clear HS HK BA BB hg hbox hb x0 x1; have HS := n0_; have HK := n1_; have BA := n2_; have BB := n3_; clear n0_ n1_ n2_ n3_; obtain ⟨⟨vo, hbo_, hro_⟩, hbel_⟩ := HS.out; have BO := aM hbo_; have RO := aM hro_; have BL := aM hbel_; clear HS hbo_ hro_ hbel_; have hco : w2.cell? ⟨bo, 0, none⟩ = some vo := (blk_cell BO.out 0).trans rfl; have hfo := blk_frozen BO.out 0; have hcp0 : w2.cell? ⟨gp, 0, none⟩ = some (.int .i64 0) := (blk_cell BP.out 0).trans rfl; have hcp1 : w2.cell? ⟨gp, 1, none⟩ = some (.slice none 0 0) := (blk_cell BP.out 1).trans rfl; have hfp0 := blk_frozen BP.out 0; have hfp1 := blk_frozen BP.out 1; have hn1 : ¬ (bo = gp) := blk_ne BO.out BP.out (by decide); have hn2 : ¬ (gp = bo) := fun e => hn1 e.symm)|(at_builtin; refine Kd.R_append k55 (w0 := w0) w0.heap.size rfl (.tmp 24) (.tmp 28) 49 55 (.agg #[.int .i64 0, .int .i64 0, .int .i64 0]) 24 rfl Try.underlying49 info55 rfl (by decide) (by decide) vo cur (⟨1, kk, -1⟩ : S55) [.int .i64 1, .int .i64 kk, .int .i64 (-1)] (fun _ => True) (fun _ => False) rfl (by first|(go_simp; done)|(go_simp; rfl)) (k55_mkM _ _ _ _) (fun _ h => h.elim) (fun _ _ => trivial) (Kd.R_set (Kd.R_set RO.out BP.out (by decide) 0 _) (blk_set BP.out 0 _) (by decide) 1 _) ((BL.out.setCell HGP.out _).setCell HGP.out _) ((BL.out.setCell HGP.out _).setCell HGP.out _).size (by have := HCL.out; omega) ?_; intro v1 w8 hR1 hb8 hg1 hat1; obtain ⟨av_, cv_, hv1_⟩ := Kd.R_slice hR1; obtain ⟨nv_, hnv_⟩ : ∃ n, n = (cur ++ [(⟨1, kk, -1⟩ : S55)]).length := ⟨_, rfl⟩; rw [← hnv_] at hv1_; subst hv1_; have R8 := aM hR1; have B8 := aM hb8; have O8 := aM (diff_Rows.past RO.out BP.out hg1 BO.out (by decide) (by decide)); have A8 := aM (diff_Rows.past RO.out BP.out hg1 BA.out (by decide) (by decide)); have BB8 := aM (diff_Rows.past RO.out BP.out hg1 BB.out (by decide) (by decide)); have K8 := aM (HK.out.trans (diff_Rows.pastK RO.out BP.out hg1)); clear hco hfo hcp0 hcp1 hfp0 hfp1 hn1 hn2 hR1 hb8 hg1 hat1 hnv_; have hco : w8.cell? ⟨bo, 0, none⟩ = some vo := (blk_cell O8.out 0).trans rfl; have hfo := blk_frozen O8.out 0))
   go_roundw
   case rel => exact ⟨i + 1, by first|rfl|go_num, ⟨by have := HLT.out; omega⟩, ⟨by unfold diff_Rows.gone; rw [TK.out]; exact ⟨⟨_, (blk_set O8.out 0 _).trans rfl, Kd.R_set R8.out O8.out (by decide) 0 _⟩, B8.out.setCell HBO.out _⟩⟩, ⟨bF A8.out (blk_ne A8.out O8.out (by decide)) _⟩, ⟨bF BB8.out (blk_ne BB8.out O8.out (by decide)) _⟩, ⟨fun g cs hg => bF (K8.out g cs hg) (fun e_ => blk_ne O8.out (K8.out g cs hg) (by decide) e_.symm) _⟩⟩
   case measure => have := HLT.out; simp [intOf]; omega
  ·have q1 : decide ((i : Int) < (px.length : Int)) = false := decide_eq_false (by omega)
   have q2 : decide (i < px.length) = false := decide_eq_false hlt
   have n0_ := aM (show diff_Rows.St bo w0 (out ++ px.map diff_Rows.gone) wr by have h1 := HS.out; rwa [List.take_of_length_le (Nat.le_of_not_lt hlt)] at h1)
   clear HS HI hlt
   have HS := n0_
   clear n0_
   have hca1 : wr.cell? ⟨ga, 1, none⟩ = some (.int .i64 f1) := (blk_cell BA.out 1).trans rfl
   have hcb1 : wr.cell? ⟨gb, 1, none⟩ = some (.int .i64 t1) := (blk_cell BB.out 1).trans rfl
   have hcz : wr.cell? ⟨bz, 0, none⟩ = some (.slice AY ys.length cy) := (blk_cell (blk_below HBZ.out HS.out.below) 0).trans rfl
   go_wp2
   clear hca1 hcb1 hcz q1 q2
   go_loopw [38] (fun v38 wr => ∃ (i : Nat), v38 = .int .i64 (i : Int) ∧ Aside0 (i ≤ py.length) ∧ Aside0 (diff_Rows.St bo w0 ((out ++ px.map diff_Rows.gone) ++ (py.take i).map diff_Rows.come) wr) ∧ Aside0 (wr.heap[ga]? = some (.cells #[.int .i64 f0, .int .i64 f1] 76 (0, 0))) ∧ Aside0 (wr.heap[gb]? = some (.cells #[.int .i64 t0, .int .i64 t1] 76 (0, 0))) ∧ Aside0 (diff_gaps.Keep w wr)) (fun v38 _ => py.length - (intOf v38).toNat)
   case atStart => exact ⟨0, rfl, ⟨Nat.zero_le _⟩, ⟨by rw [List.take_zero, List.map_nil, List.append_nil]; exact HS.out⟩, BA, BB, HK⟩
   case round =>
    clear HS BA BB HK
    obtain ⟨i, rfl, HI, HS, BA, BB, HK⟩ := hrel
    by_cases hlt : i < py.length
    ·have q1 : decide ((i : Int) < (py.length : Int)) = true := decide_eq_true (by omega)
     have q2 : decide (i < py.length) = true := decide_eq_true hlt
     have q3 : (i : Int) < (py.length : Int) := by omega
     have q4 : (0 : Int) ≤ (i : Int) := by omega
     have q5 : (i : Int) ≤ 9223372036854775806 := by have := HLY.out; omega
     have HLT := aM hlt
     obtain ⟨ad, A1, c1, rfl, x0, x1, xl, xC⟩ := at_T86 (Kd.C_below CY.out HS.out.below) (i : Int) q4 q3
     rw [Int.toNat_natCast] at x0 x1
     have TK := aM (diff_Rows.snoc (out ++ px.map diff_Rows.gone) diff_Rows.come py hlt)
     obtain ⟨kk, hkk⟩ : ∃ k, k = (rd_T86 py (i : Int)).f0 := ⟨_, rfl⟩
     obtain ⟨pp, hpp⟩ : ∃ k, k = (rd_T86 py (i : Int)).f1 := ⟨_, rfl⟩
     unfold diff_Rows.come at TK
     rw [← hkk] at x0 TK
     rw [← hpp] at x1 xl xC
     obtain ⟨cur, hcur⟩ : ∃ c, c = (out ++ px.map diff_Rows.gone) ++ (py.take i).map diff_Rows.come := ⟨_, rfl⟩
     have HCL := aM (show cur.length ≤ 150000 by have h1 := HLY.out; have h2 := HLBY.out; rw [hcur, List.length_append, List.length_map, List.length_take]; omega)
     unfold diff_Rows.come at hcur
     unfold diff_Rows.come at HS
     rw [← hcur] at HS TK
     clear hkk hpp hcur hlt xl xC
     go_wp2_with (first|((with_reducible refine gate_dst (N := 12) rfl ?_); refine box_event ?hg (N := 12) ?hd (cs := #[.int .i64 0, .slice none 0 0]) (t := 86) ?hr ?_; (case hd => rfl); (case hg => rfl); (case hr => first|(go_simp; done)|(go_simp; rfl)); intro gp hg w2 hbox hb; have n0_ := aM (HS.out.grown (grown_of_below hb none)); have HGP := aM (show w0.heap.size ≤ gp by rw [hg]; exact HS.out.below.size); have n1_ := aM (HK.out.trans (diff_gaps.Keep.grown (grown_of_below hb none))); have n2_ := aM (blk_below BA.out hb); have n3_ := aM (blk_below BB.out hb); have BP := aM hbox; clear HS HK BA BB hg hbox hb x0 x1; have HS := n0_; have HK := n1_; have BA := n2_; have BB := n3_; clear n0_ n1_ n2_ n3_; obtain ⟨⟨vo, hbo_, hro_⟩, hbel_⟩ := HS.out; have BO := aM hbo_; have RO := aM hro_; have BL := aM hbel_; clear HS hbo_ hro_ hbel_; have hco : w2.cell? ⟨bo, 0, none⟩ = some vo := (blk_cell BO.out 0).trans rfl; have hfo := blk_frozen BO.out 0; have hcp0 : w2.cell? ⟨gp, 0, none⟩ = some (.int .i64 0) := (blk_cell BP.out 0).trans rfl; have hcp1 : w2.cell? ⟨gp, 1, none⟩ = some (.slice none 0 0) := (blk_cell BP.out 1).trans rfl; have hfp0 := blk_frozen BP.out 0; have hfp1 := blk_frozen BP.out 1; have hn1 : ¬ (bo = gp) := blk_ne BO.out BP.out (by decide); have hn2 : ¬ (gp = bo) := fun e => hn1 e.symm)|(at_builtin; refine Kd.R_append k55 (w0 := w0) w0.heap.size rfl (.tmp 42) (.tmp 46) 49 55 (.agg #[.int .i64 0, .int .i64 0, .int .i64 0]) 24 rfl Try.underlying49 info55 rfl (by decide) (by decide) vo cur (⟨2, -1, kk⟩ : S55) [.int .i64 2, .int .i64 (-1), .int .i64 kk] (fun _ => True) (fun _ => False) rfl (by first|(go_simp; done)|(go_simp; rfl)) (k55_mkM _ _ _ _) (fun _ h => h.elim) (fun _ _ => trivial) (Kd.R_set (Kd.R_set RO.out BP.out (by decide) 0 _) (blk_set BP.out 0 _) (by decide) 1 _) ((BL.out.setCell HGP.out _).setCell HGP.out _) ((BL.out.setCell HGP.out _).setCell HGP.out _).size (by have := HCL.out; omega) ?_; intro v1 w8 hR1 hb8 hg1 hat1; obtain ⟨av_, cv_, hv1_⟩ := Kd.R_slice hR1; obtain ⟨nv_, hnv_⟩ : ∃ n, n = (cur ++ [(⟨2, -1, kk⟩ : S55)]).length := ⟨_, rfl⟩; rw [← hnv_] at hv1_; subst hv1_; have R8 := aM hR1; have B8 := aM hb8; have O8 := aM (diff_Rows.past RO.out BP.out hg1 BO.out (by decide) (by decide)); have A8 := aM (diff_Rows.past RO.out BP.out hg1 BA.out (by decide) (by decide)); have BB8 := aM (diff_Rows.past RO.out BP.out hg1 BB.out (by decide) (by decide)); have K8 := aM (HK.out.trans (diff_Rows.pastK RO.out BP.out hg1)); clear hco hfo hcp0 hcp1 hfp0 hfp1 hn1 hn2 hR1 hb8 hg1 hat1 hnv_; have hco : w8.cell? ⟨bo, 0, none⟩ = some vo := (blk_cell O8.out 0).trans rfl; have hfo := blk_frozen O8.out 0))
     go_roundw
     case rel => exact ⟨i + 1, by first|rfl|go_num, ⟨by have := HLT.out; omega⟩, ⟨by unfold diff_Rows.come; rw [TK.out]; exact ⟨⟨_, (blk_set O8.out 0 _).trans rfl, Kd.R_set R8.out O8.out (by decide) 0 _⟩, B8.out.setCell HBO.out _⟩⟩, ⟨bF A8.out (blk_ne A8.out O8.out (by decide)) _⟩, ⟨bF BB8.out (blk_ne BB8.out O8.out (by decide)) _⟩, ⟨fun g cs hg => bF (K8.out g cs hg) (fun e_ => blk_ne O8.out (K8.out g cs hg) (by decide) e_.symm) _⟩⟩
     case measure => have := HLT.out; simp [intOf]; omega
    ·have q1 : decide ((i : Int) < (py.length : Int)) = false := decide_eq_false (by omega)
     have q2 : decide (i < py.length) = false := decide_eq_false hlt
     have n0_ := aM (show diff_Rows.St bo w0 ((out ++ px.map diff_Rows.gone) ++ py.map diff_Rows.come) wr by have h1 := HS.out; rwa [List.take_of_length_le (Nat.le_of_not_lt hlt)] at h1)
     clear HS HI hlt
     have HS := n0_
     clear n0_
     cases b with
    |false =>
      go_wp2
      go_end0
      exact ⟨⟨_, rfl⟩, by simpa using HS.out, HK.out⟩
    |true =>
      obtain ⟨qx, qy⟩ := HBB.out rfl
      obtain ⟨ux, uy⟩ := HT.out
      obtain ⟨ax, A1, c1, eX, x0, x1, xl, xC⟩ := at_T86 (Kd.C_below HX.out HS.out.below) t0 ux qx
      obtain ⟨ay, A2, c2, eY, y0, y1, yl, yC⟩ := at_T86 (Kd.C_below HY.out HS.out.below) t1 uy qy
      subst eX
      subst eY
      obtain ⟨kx, hkx⟩ : ∃ k, k = (rd_T86 xs t0).f0 := ⟨_, rfl⟩
      obtain ⟨ky, hky⟩ : ∃ k, k = (rd_T86 ys t1).f0 := ⟨_, rfl⟩
      rw [← hkx] at x0
      rw [← hky] at y0
      have HKX := aM hkx
      have HKY := aM hky
      obtain ⟨cur, hcur⟩ : ∃ c, c = out ++ px.map diff_Rows.gone ++ py.map diff_Rows.come := ⟨_, rfl⟩
      have HCL := aM (show cur.length ≤ 150000 by have h1 := HLX.out; have h2 := HLY.out; have h3 := HLBX.out; rw [hcur, List.length_append, List.length_append, List.length_map, List.length_map]; omega)
      rw [← hcur] at HS
      have HCUR := aM hcur
      obtain ⟨⟨vo, hbo_, hro_⟩, hbel_⟩ := HS.out
      have s0 : wr.cell? ⟨bo, 0, none⟩ = some vo := (blk_cell hbo_ 0).trans rfl
      have s1 : wr.cell? ⟨bx, 0, none⟩ = some (.slice (some ax) xs.length cx) := (blk_cell (blk_below HBX.out hbel_) 0).trans rfl
      have s2 : wr.cell? ⟨gb, 0, none⟩ = some (.int .i64 t0) := (blk_cell BB.out 0).trans rfl
      have s4 : wr.cell? ⟨bz, 0, none⟩ = some (.slice (some ay) ys.length cy) := (blk_cell (blk_below HBZ.out hbel_) 0).trans rfl
      have s5 : wr.cell? ⟨gb, 1, none⟩ = some (.int .i64 t1) := (blk_cell BB.out 1).trans rfl
      go_wp2
      refine start_ (n := 17) (S := fun w' => w'.cell? ⟨bo, 0, none⟩ = some vo ∧ w'.cell? ⟨bx, 0, none⟩ = some (.slice (some ax) xs.length cx) ∧ w'.cell? ⟨gb, 0, none⟩ = some (.int .i64 t0) ∧ w'.cell? (ax.add (t0.toNat * 2)) = some (.int .i64 kx) ∧ w'.cell? ⟨bz, 0, none⟩ = some (.slice (some ay) ys.length cy) ∧ w'.cell? ⟨gb, 1, none⟩ = some (.int .i64 t1) ∧ w'.cell? (ay.add (t1.toNat * 2)) = some (.int .i64 ky)) (ds := [15, 16]) #[false, false, false, false, false, false, false, false, false, false, false, false, false, false, false, false, false] (by kernel_rfl) rfl rfl ⟨s0, s1, s2, x0, s4, s5, y0⟩ (fun hHeld => ?_); refine with_tabW diff_Rows.tab12 diff_Rows.bits12 (fun HT_ HW_ => ?_)
      have BO := aM (bD hbo_)
      have RO := aM (Kd.R_drew hro_)
      have BL := aM (lD hbel_)
      have n0_ := aM (show diff_gaps.Keep w wr.drew from fun g cs h => bD (HK.out g cs h))
      clear HK HS BA BB s0 s1 s2 s4 s5 x0 x1 y0 y1 xl yl xC yC hbo_ hro_ hbel_ hkx hky hcur
      have HK := n0_
      clear n0_
      generalize wr.drew = w13 at BO RO BL HK hHeld ⊢
      have qx1 := eq_true qx
      have qy1 := eq_true qy
      have ux1 := eq_true ux
      have uy1 := eq_true uy
      refine take_ (i := 0) (N := some 50) (v := ?_) (a' := ?_) #[true, false, false, false, false, false, false, false, false, false, false, false, false, false, false, false, false] rfl rfl (take_ofW HT_.out HW_.out (by kernel_rfl)) (fun _ _ _ h => h) (Or.inl ⟨by rfl, ?_⟩) hHeld ?_ ?_
      rotate_left
      ·rintro w' ⟨s0, s1, s2, s3, s4, s5, s6⟩
       go_simp
       with_reducible rfl
      rotate_left
      ·simp only [Act.put, List.setIfInBounds_toArray, List.set_cons_zero, List.set_cons_succ, i64_w, i32_w]
       rfl
      refine take_ (i := 1) (N := some 51) (v := ?_) (a' := ?_) #[true, true, false, false, false, false, false, false, false, false, false, false, false, false, false, false, false] rfl rfl (take_ofW HT_.out HW_.out (by kernel_rfl)) (fun _ _ _ h => h) (Or.inl ⟨by rfl, ?_⟩) hHeld ?_ ?_
      rotate_left
      ·rintro w' ⟨s0, s1, s2, s3, s4, s5, s6⟩
       go_simp
       with_reducible rfl
      rotate_left
      ·simp only [Act.put, List.setIfInBounds_toArray, List.set_cons_zero, List.set_cons_succ, i64_w, i32_w]
       rfl
      refine pure_ (i := 2) (N := some 52) (v := ?_) (a' := ?_) #[true, true, true, false, false, false, false, false, false, false, false, false, false, false, false, false, false] rfl rfl (any_of HT_.out (by kernel_rfl)) (fun _ _ _ h => h) (Or.inl ⟨by rfl, ?_⟩) ?_ ?_
      rotate_left
      ·intro w'
       go_simp
       with_reducible rfl
      rotate_left
      ·simp only [Act.put, List.setIfInBounds_toArray, List.set_cons_zero, List.set_cons_succ, i64_w, i32_w]
       rfl
      refine take_ (i := 3) (N := some 53) (v := ?_) (a' := ?_) #[true, true, true, true, false, false, false, false, false, false, false, false, false, false, false, false, false] rfl rfl (take_ofW HT_.out HW_.out (by kernel_rfl)) (fun _ _ _ h => h) (Or.inl ⟨by rfl, ?_⟩) hHeld ?_ ?_
      rotate_left
      ·rintro w' ⟨s0, s1, s2, s3, s4, s5, s6⟩
       go_simp
       with_reducible rfl
      rotate_left
      ·simp only [Act.put, List.setIfInBounds_toArray, List.set_cons_zero, List.set_cons_succ, i64_w, i32_w]
       rfl
      refine pure_ (i := 4) (N := some 54) (v := ?_) (a' := ?_) #[true, true, true, true, true, false, false, false, false, false, false, false, false, false, false, false, false] rfl rfl (any_of HT_.out (by kernel_rfl)) (fun _ _ _ h => h) (Or.inl ⟨by rfl, ?_⟩) ?_ ?_
      rotate_left
      ·intro w'
       go_simp
       with_reducible rfl
      rotate_left
      ·simp only [Act.put, List.setIfInBounds_toArray, List.set_cons_zero, List.set_cons_succ, i64_w, i32_w]
       rfl
      refine pure_ (i := 5) (N := some 55) (v := ?_) (a' := ?_) #[true, true, true, true, true, true, false, false, false, false, false, false, false, false, false, false, false] rfl rfl (any_of HT_.out (by kernel_rfl)) (fun _ _ _ h => h) (Or.inl ⟨by rfl, ?_⟩) ?_ ?_
      rotate_left
      ·intro w'
       go_simp
       with_reducible rfl
      rotate_left
      ·simp only [Act.put, List.setIfInBounds_toArray, List.set_cons_zero, List.set_cons_succ, i64_w, i32_w]
       rfl
      refine take_ (i := 6) (N := some 56) (v := ?_) (a' := ?_) #[true, true, true, true, true, true, true, false, false, false, false, false, false, false, false, false, false] rfl rfl (take_ofW HT_.out HW_.out (by kernel_rfl)) (fun _ _ _ h => h) (Or.inl ⟨by rfl, ?_⟩) hHeld ?_ ?_
      rotate_left
      ·rintro w' ⟨s0, s1, s2, s3, s4, s5, s6⟩
       go_simp
       with_reducible rfl
      rotate_left
      ·simp only [Act.put, List.setIfInBounds_toArray, List.set_cons_zero, List.set_cons_succ, i64_w, i32_w]
       rfl
      refine take_ (i := 7) (N := some 57) (v := ?_) (a' := ?_) #[true, true, true, true, true, true, true, true, false, false, false, false, false, false, false, false, false] rfl rfl (take_ofW HT_.out HW_.out (by kernel_rfl)) (fun _ _ _ h => h) (Or.inl ⟨by rfl, ?_⟩) hHeld ?_ ?_
      rotate_left
      ·rintro w' ⟨s0, s1, s2, s3, s4, s5, s6⟩
       go_simp
       with_reducible rfl
      rotate_left
      ·simp only [Act.put, List.setIfInBounds_toArray, List.set_cons_zero, List.set_cons_succ, i64_w, i32_w]
       rfl
      refine pure_ (i := 8) (N := some 58) (v := ?_) (a' := ?_) #[true, true, true, true, true, true, true, true, true, false, false, false, false, false, false, false, false] rfl rfl (any_of HT_.out (by kernel_rfl)) (fun _ _ _ h => h) (Or.inl ⟨by rfl, ?_⟩) ?_ ?_
      rotate_left
      ·intro w'
       go_simp
       with_reducible rfl
      rotate_left
      ·simp only [Act.put, List.setIfInBounds_toArray, List.set_cons_zero, List.set_cons_succ, i64_w, i32_w]
       rfl
      refine take_ (i := 9) (N := some 59) (v := ?_) (a' := ?_) #[true, true, true, true, true, true, true, true, true, true, false, false, false, false, false, false, false] rfl rfl (take_ofW HT_.out HW_.out (by kernel_rfl)) (fun _ _ _ h => h) (Or.inl ⟨by rfl, ?_⟩) hHeld ?_ ?_
      rotate_left
      ·rintro w' ⟨s0, s1, s2, s3, s4, s5, s6⟩
       go_simp
       with_reducible rfl
      rotate_left
      ·simp only [Act.put, List.setIfInBounds_toArray, List.set_cons_zero, List.set_cons_succ, i64_w, i32_w]
       rfl
      refine pure_ (i := 10) (N := some 60) (v := ?_) (a' := ?_) #[true, true, true, true, true, true, true, true, true, true, true, false, false, false, false, false, false] rfl rfl (any_of HT_.out (by kernel_rfl)) (fun _ _ _ h => h) (Or.inl ⟨by rfl, ?_⟩) ?_ ?_
      rotate_left
      ·intro w'
       go_simp
       with_reducible rfl
      rotate_left
      ·simp only [Act.put, List.setIfInBounds_toArray, List.set_cons_zero, List.set_cons_succ, i64_w, i32_w]
       rfl
      refine pure_ (i := 11) (N := some 61) (v := ?_) (a' := ?_) #[true, true, true, true, true, true, true, true, true, true, true, true, false, false, false, false, false] rfl rfl (any_of HT_.out (by kernel_rfl)) (fun _ _ _ h => h) (Or.inl ⟨by rfl, ?_⟩) ?_ ?_
      rotate_left
      ·intro w'
       go_simp
       with_reducible rfl
      rotate_left
      ·simp only [Act.put, List.setIfInBounds_toArray, List.set_cons_zero, List.set_cons_succ, i64_w, i32_w]
       rfl
      refine take_ (i := 12) (N := some 62) (v := ?_) (a' := ?_) #[true, true, true, true, true, true, true, true, true, true, true, true, true, false, false, false, false] rfl rfl (take_ofW HT_.out HW_.out (by kernel_rfl)) (fun _ _ _ h => h) (Or.inl ⟨by rfl, ?_⟩) hHeld ?_ ?_
      rotate_left
      ·rintro w' ⟨s0, s1, s2, s3, s4, s5, s6⟩
       go_simp
       with_reducible rfl
      rotate_left
      ·simp only [Act.put, List.setIfInBounds_toArray, List.set_cons_zero, List.set_cons_succ, i64_w, i32_w]
       rfl
      refine pure_ (i := 13) (N := some 63) (v := ?_) (a' := ?_) #[true, true, true, true, true, true, true, true, true, true, true, true, true, true, false, false, false] rfl rfl (any_of HT_.out (by kernel_rfl)) (fun _ _ _ h => h) (Or.inl ⟨by rfl, ?_⟩) ?_ ?_
      rotate_left
      ·intro w'
       go_simp
       with_reducible rfl
      rotate_left
      ·simp only [Act.put, List.setIfInBounds_toArray, List.set_cons_zero, List.set_cons_succ, i64_w, i32_w]
       rfl
      refine one_ (i := 14) (N := some 64) #[true, true, true, true, true, true, true, true, true, true, true, true, true, true, true, false, false] rfl rfl (one_of HT_.out (by kernel_rfl)) (by decide) (fun K hK => ?_)
      refine value_ (w1 := ?_) (v := ?_) (by rfl) rfl ?_ ?_
      rotate_left 2
      ·go_simp
       constructor
       ·rfl
       ·rfl
      refine hK.out _ _ ⟨cell_grown (World.grownBy_alloc w13 (.cells #[.int .i64 0, .int .i64 kx, .int .i64 ky] 55 (0, 0)) none) hHeld.1 (by simp), cell_grown (World.grownBy_alloc w13 (.cells #[.int .i64 0, .int .i64 kx, .int .i64 ky] 55 (0, 0)) none) hHeld.2.1 (by simp), cell_grown (World.grownBy_alloc w13 (.cells #[.int .i64 0, .int .i64 kx, .int .i64 ky] 55 (0, 0)) none) hHeld.2.2.1 (by simp), cell_grown (World.grownBy_alloc w13 (.cells #[.int .i64 0, .int .i64 kx, .int .i64 ky] 55 (0, 0)) none) hHeld.2.2.2.1 (by simp), cell_grown (World.grownBy_alloc w13 (.cells #[.int .i64 0, .int .i64 kx, .int .i64 ky] 55 (0, 0)) none) hHeld.2.2.2.2.1 (by simp), cell_grown (World.grownBy_alloc w13 (.cells #[.int .i64 0, .int .i64 kx, .int .i64 ky] 55 (0, 0)) none) hHeld.2.2.2.2.2.1 (by simp), cell_grown (World.grownBy_alloc w13 (.cells #[.int .i64 0, .int .i64 kx, .int .i64 ky] 55 (0, 0)) none) hHeld.2.2.2.2.2.2 (by simp)⟩ (fun hHeld => ?_)
      clear hK K
      refine norm_ (a' := ?_) ?_ ?_
      rotate_left
      ·show Act.put _ (some 64) _ = _
       simp only [Act.put, List.setIfInBounds_toArray, List.set_cons_zero, List.set_cons_succ, i64_w, i32_w]
       rfl
      refine last_ (i := 15) (N := some 65) #[true, true, true, true, true, true, true, true, true, true, true, true, true, true, true, true, false] rfl rfl (one_of HT_.out (by kernel_rfl)) (by decide) (fun K hK => ?_)
      refine Kd.R_append_step k55 (w0 := w0) w0.heap.size (by rfl) (.tmp 50) (.tmp 64) 49 55 (.agg #[.int .i64 0, .int .i64 0, .int .i64 0]) 24 rfl Try.underlying49 info55 rfl (by decide) (by omega) vo cur (⟨0, kx, ky⟩ : S55) [.int .i64 0, .int .i64 kx, .int .i64 ky] (fun _ => True) (fun _ => False) rfl rfl (k55_mkM _ _ _ _) (fun _ hk => hk.elim) (fun _ _ => trivial) RO.out BL.out BL.out.size (by have := HCL.out; omega) ?_
      intro v1 w8 hR1 hb8 hg1 hat1
      obtain ⟨av_, cv_, hv1_⟩ := Kd.R_slice hR1
      obtain ⟨nv_, hnv_⟩ : ∃ n, n = (cur ++ [(⟨0, kx, ky⟩ : S55)]).length := ⟨_, rfl⟩
      rw [← hnv_] at hv1_
      subst hv1_
      have R8 := aM hR1
      have B8 := aM hb8
      have O8 := aM (blk_grown BO.out hg1 (Kd.R_ne RO.out BO.out (by decide)))
      have K8 := aM (show diff_gaps.Keep w13 w8 from fun g cs hg => blk_grown hg hg1 (Kd.R_ne RO.out hg (by decide)))
      clear hR1 hb8 hg1 hat1 hnv_
      have hco : w8.cell? ⟨bo, 0, none⟩ = some vo := (blk_cell O8.out 0).trans rfl
      have hfo := blk_frozen O8.out 0
      refine hK.out _ _ ?_
      clear hK K
      refine norm_ (a' := ?_) ?_ ?_
      rotate_left
      ·show Act.put _ (some 65) _ = _
       simp only [Act.put, List.setIfInBounds_toArray, List.set_cons_zero, List.set_cons_succ, i64_w, i32_w]
       rfl
      refine last_ (i := 16) (N := none) #[true, true, true, true, true, true, true, true, true, true, true, true, true, true, true, true, true] rfl rfl (one_of HT_.out (by kernel_rfl)) (by decide) (fun K hK => ?_)
      refine skip_ (w1 := ?_) (by rfl) rfl ?_ ?_
      rotate_left
      ·go_simp
       rfl
      refine hK.out _ _ ?_
      clear hK K
      refine done_ (done_of HT_.out (by kernel_rfl)) ?_
      go_wp2
      go_end0
      rw [← HKX.out, ← HKY.out]
      refine ⟨⟨_, rfl⟩, ⟨⟨_, (blk_set O8.out 0 _).trans rfl, ?_⟩, B8.out.setCell HBO.out _⟩, fun g cs hg => ?_⟩
      ·have h1 := Kd.R_set R8.out O8.out (by decide) 0 (.slice av_ nv_ cv_)
       rw [HCUR.out] at h1
       simpa [List.append_assoc] using h1
      ·exact bF (K8.out g cs (HK.out g cs hg)) (fun e_ => blk_ne O8.out (K8.out g cs (HK.out g cs hg)) (by decide) e_.symm) _
def diff_Rows.f (l0 l1 : List S64) : Option (List S55 × Int) := (diff_both.f l0 l1).bind fun e => if e = 0 then ((diff_parts.f (diff_Rows.k0 l0 l1) l0).bind fun xs => (diff_parts.f (diff_Rows.k0 l0 l1) l1).bind fun ys => if xs.length > 200 ∨ ys.length > 200 then some ([], 2) else if diff_Rows.ok (diff_Rows.k0 l0 l1) xs ys = true then some (diff_Rows.outs xs ys (diff_gaps.trace xs.length ys.length (0, 0) (diff_grid.enc (DiffT.P (diff_Rows.like (diff_Rows.k0 l0 l1) xs ys) xs.length ys.length xs.length 0 0))), 0) else none) else some ([], e)
theorem diff_Rows.mono : ∀ a0 a1, LeO (diff_Rows.f a0 a1) (diff_Rows.f a0 a1) := fun _ _ => LeO.refl _
theorem diff_Rows.outs_len (xs ys : List S86) (h1 : xs.length ≤ 200) (h2 : ys.length ≤ 200) : ∀ l : List ((Int × Int) × (Int × Int) × Bool), (diff_Rows.outs xs ys l).length ≤ 401 * l.length
|[] => by simp [diff_Rows.outs]
|c :: r => by
  have := diff_Rows.outs_len xs ys h1 h2 r
  have h : (diff_Rows.add xs ys c).length ≤ 401 := by
   unfold diff_Rows.add
   rw [List.length_append, List.length_append, List.length_map, List.length_map, List.length_drop, List.length_drop, List.length_take, List.length_take]
   split <;> simp <;> omega
  simp only [diff_Rows.outs, List.flatMap_cons, List.length_append, List.length_cons] at this ⊢
  omega
/-- The places that 'gaps' calls with rise. -/
theorem diff_Rows.trace_rise {like : Nat → Nat → Bool} {n m : Nat} : ∀ {i j : Nat} {l : List (Nat × Nat)}, DiffT.Rise like n m i j l → i ≤ n → j ≤ m → ∀ c ∈ diff_gaps.trace (n : Int) (m : Int) ((i : Int), (j : Int)) (diff_grid.enc l),
  (0 ≤ c.1.1 ∧ c.1.1 ≤ c.2.1.1 ∧ c.2.1.1 ≤ (n : Int)) ∧ (0 ≤ c.1.2 ∧ c.1.2 ≤ c.2.1.2 ∧ c.2.1.2 ≤ (m : Int)) ∧ (c.2.2 = true → c.2.1.1 < (n : Int) ∧ c.2.1.2 < (m : Int)) := by
 intro i j l h
 induction h with
|nil i j =>
  intro hi hj c hc
  simp only [diff_grid.enc, List.map_nil, diff_gaps.trace, List.mem_singleton] at hc
  subst hc
  exact ⟨⟨by simp <;> omega, by simp <;> omega, by simp⟩, ⟨by simp <;> omega, by simp <;> omega, by simp⟩, fun h => by cases h⟩
|cons i j p q l h1 h2 h3 h4 h5 h ih =>
  intro hi hj c hc
  simp only [diff_grid.enc, List.map_cons, diff_gaps.trace, List.mem_cons] at hc
  rcases hc with rfl|hc
  ·exact ⟨⟨by simp <;> omega, by simp <;> omega, by simp <;> omega⟩, ⟨by simp <;> omega, by simp <;> omega, by simp <;> omega⟩, fun _ => ⟨by simp <;> omega, by simp <;> omega⟩⟩
  ·exact ih (by omega) (by omega) c hc
set_option maxRecDepth 100000 in
set_option maxHeartbeats 8000000 in
theorem diff_Rows.calls (A0 : Option Addr) (c0 : Nat) (l0 : List S64) (A1 : Option Addr) (c1 : Nat) (l1 : List S64) (r1 : List S55) (r2 : Int) (w : World) (hr0 : Kd.C k64 w A0 l0.length l0) (hc0 : l0.length ≤ c0) (hr1 : Kd.C k64 w A1 l1.length l1) (hc1 : l1.length ≤ c1) (h : diff_Rows.f l0 l1 = some (r1, r2)) :
  Calls Try.prog 21 #[.slice A0 l0.length c0, .slice A1 l1.length c1] w fun e w' => ∃ v0_ : Value, e = .returned (.tuple #[v0_, .int .i64 r2]) ∧ Kd.R k55 55 w' w.heap.size (fun _ => True) v0_ r1 ∧ Below w.heap.size w w' := by
 have HR0 := aM hr0
 have HR1 := aM hr1
 have HC0 := aM hc0
 have HC1 := aM hc1
 clear hr0 hr1 hc0 hc1
 unfold diff_Rows.f at h
 obtain ⟨e0, he, h⟩ := Option.bind_eq_some_iff.mp h
 by_cases ce : e0 = 0
 ·rw [if_pos ce] at h
  subst ce
  have HE0 := aM he
  obtain ⟨xs, hxs, h⟩ := Option.bind_eq_some_iff.mp h
  obtain ⟨ys, hys, h⟩ := Option.bind_eq_some_iff.mp h
  have HXS := aM hxs
  have HYS := aM hys
  obtain ⟨kf, hkf⟩ : ∃ k, k = diff_Rows.k0 l0 l1 := ⟨_, rfl⟩
  rw [← hkf] at HXS HYS h
  clear he hxs hys hkf
  have hx : xs.length < ys.length ∨ ¬ xs.length < ys.length := Decidable.em _
  by_cases hbig : xs.length > 200 ∨ ys.length > 200
  ·rw [if_pos hbig] at h
   simp only [Option.some.injEq, Prod.mk.injEq] at h
   obtain ⟨rfl, rfl⟩ := h
   rcases hx with hx|hx
   ·have q1 := eq_true hx
    have q2 : decide (200 < (ys.length : Int)) = true := decide_eq_true (by omega)
    have q3 : decide (200 < ys.length) = true := decide_eq_true (by omega)
    have q4 : decide (xs.length < ys.length) = true := decide_eq_true hx
    have q5 : ((xs.length : Int) < (ys.length : Int)) = True := eq_true (by omega)
    clear hx hbig
    go_enter Try.func21, Try.ntmps21
    go_wp2_with (first|(go_at_call 35; refine (diff_both.calls A0 c0 l0 A1 c1 l1 0 w HR0.out HC0.out HR1.out HC1.out HE0.out).mono ?_; rintro e w1 ⟨rfl, hb⟩; have HB1 := aM hb; clear hb)|(go_at_call_of 39 (Value.slice A0 l0.length c0); refine (diff_parts.calls kf (fun k_ => k_ < w.heap.size) A0 c0 l0 xs w1 (Kd.V_below (w1 := w1) (Kd.V_mk HC0.out (Kd.C_F k64_heap HR0.out)) HB1.out) HXS.out).mono ?_; rintro e w2 ⟨v0, rfl, hN, hb⟩; obtain ⟨AX, cx, rfl, hle, hC⟩ := Kd.N_reads hN; have CX := aM hC; have LX := aM hle; have HB2 := aM (below_step HB1.out hb); clear hN hb hle hC)|(go_at_call_of 39 (Value.slice A1 l1.length c1); refine (diff_parts.calls kf (fun k_ => k_ < w.heap.size) A1 c1 l1 ys w2 (Kd.V_below (w1 := w2) (Kd.V_mk HC1.out (Kd.C_F k64_heap HR1.out)) HB2.out) HYS.out).mono ?_; rintro e w3 ⟨v1, rfl, hN, hb⟩; obtain ⟨AY, cy, rfl, hle, hC⟩ := Kd.N_reads hN; have CY := aM hC; have LY := aM hle; have n0_ := aM (Kd.C_below CX.out hb); have HB3 := aM (below_step HB2.out hb); clear CX hN hb hle hC; have CX := n0_; clear n0_)|((with_reducible refine gate_dst (N := 7) rfl ?_); refine box_event ?hg (N := 7) ?hd (cs := #[.slice none 0 0]) (t := 83) ?hr ?_; (case hd => rfl); (case hg => rfl); (case hr => first|(go_simp; done)|(go_simp; rfl)); intro bx hg w4 hbox hb; have BX := aM hbox; have GX := aM (show w3.heap.size ≤ bx by rw [hg]; exact Nat.le_refl _); have H34 := aM hb; clear hbox hb hg)|((with_reducible refine gate_dst (N := 8) rfl ?_); refine box_event ?hg (N := 8) ?hd (cs := #[.slice none 0 0]) (t := 83) ?hr ?_; (case hd => rfl); (case hg => rfl); (case hr => first|(go_simp; done)|(go_simp; rfl)); intro bz hg w5 hbox hb; have BZ := aM hbox; have NXZ := aM (show bx ≠ bz by rw [hg]; exact Nat.ne_of_lt (blk_lt BX.out)); have n0_ := aM (blk_below BX.out hb); have H35 := aM (below_step H34.out hb); have GZ := aM (show w3.heap.size ≤ bz by rw [hg]; exact H34.out.size); clear BX hbox hb hg; have BX := n0_; clear n0_; have hx0 : w5.cell? ⟨bx, 0, none⟩ = some (.slice none 0 0) := (blk_cell BX.out 0).trans rfl; have hz0 : w5.cell? ⟨bz, 0, none⟩ = some (.slice none 0 0) := (blk_cell BZ.out 0).trans rfl; have hfx0 := blk_frozen BX.out 0; have hfz0 := blk_frozen BZ.out 0; have hn1 : ¬ (bx = bz) := NXZ.out; have hn2 : ¬ (bz = bx) := fun e => NXZ.out e.symm))
    go_ret2
    exact ⟨_, rfl, Kd.R_nil _ _ _ _ _, (below_step HB3.out ((H35.out.setCell GX.out _).setCell GZ.out _))⟩
   ·have q1 := eq_false hx
    have q2 : decide (200 < (xs.length : Int)) = true := decide_eq_true (by omega)
    have q3 : decide (200 < xs.length) = true := decide_eq_true (by omega)
    have q4 : decide (xs.length < ys.length) = false := decide_eq_false hx
    have q5 : ((xs.length : Int) < (ys.length : Int)) = False := eq_false (by omega)
    clear hx hbig
    go_enter Try.func21, Try.ntmps21
    go_wp2_with (first|(go_at_call 35; refine (diff_both.calls A0 c0 l0 A1 c1 l1 0 w HR0.out HC0.out HR1.out HC1.out HE0.out).mono ?_; rintro e w1 ⟨rfl, hb⟩; have HB1 := aM hb; clear hb)|(go_at_call_of 39 (Value.slice A0 l0.length c0); refine (diff_parts.calls kf (fun k_ => k_ < w.heap.size) A0 c0 l0 xs w1 (Kd.V_below (w1 := w1) (Kd.V_mk HC0.out (Kd.C_F k64_heap HR0.out)) HB1.out) HXS.out).mono ?_; rintro e w2 ⟨v0, rfl, hN, hb⟩; obtain ⟨AX, cx, rfl, hle, hC⟩ := Kd.N_reads hN; have CX := aM hC; have LX := aM hle; have HB2 := aM (below_step HB1.out hb); clear hN hb hle hC)|(go_at_call_of 39 (Value.slice A1 l1.length c1); refine (diff_parts.calls kf (fun k_ => k_ < w.heap.size) A1 c1 l1 ys w2 (Kd.V_below (w1 := w2) (Kd.V_mk HC1.out (Kd.C_F k64_heap HR1.out)) HB2.out) HYS.out).mono ?_; rintro e w3 ⟨v1, rfl, hN, hb⟩; obtain ⟨AY, cy, rfl, hle, hC⟩ := Kd.N_reads hN; have CY := aM hC; have LY := aM hle; have n0_ := aM (Kd.C_below CX.out hb); have HB3 := aM (below_step HB2.out hb); clear CX hN hb hle hC; have CX := n0_; clear n0_)|((with_reducible refine gate_dst (N := 7) rfl ?_); refine box_event ?hg (N := 7) ?hd (cs := #[.slice none 0 0]) (t := 83) ?hr ?_; (case hd => rfl); (case hg => rfl); (case hr => first|(go_simp; done)|(go_simp; rfl)); intro bx hg w4 hbox hb; have BX := aM hbox; have GX := aM (show w3.heap.size ≤ bx by rw [hg]; exact Nat.le_refl _); have H34 := aM hb; clear hbox hb hg)|((with_reducible refine gate_dst (N := 8) rfl ?_); refine box_event ?hg (N := 8) ?hd (cs := #[.slice none 0 0]) (t := 83) ?hr ?_; (case hd => rfl); (case hg => rfl); (case hr => first|(go_simp; done)|(go_simp; rfl)); intro bz hg w5 hbox hb; have BZ := aM hbox; have NXZ := aM (show bx ≠ bz by rw [hg]; exact Nat.ne_of_lt (blk_lt BX.out)); have n0_ := aM (blk_below BX.out hb); have H35 := aM (below_step H34.out hb); have GZ := aM (show w3.heap.size ≤ bz by rw [hg]; exact H34.out.size); clear BX hbox hb hg; have BX := n0_; clear n0_; have hx0 : w5.cell? ⟨bx, 0, none⟩ = some (.slice none 0 0) := (blk_cell BX.out 0).trans rfl; have hz0 : w5.cell? ⟨bz, 0, none⟩ = some (.slice none 0 0) := (blk_cell BZ.out 0).trans rfl; have hfx0 := blk_frozen BX.out 0; have hfz0 := blk_frozen BZ.out 0; have hn1 : ¬ (bx = bz) := NXZ.out; have hn2 : ¬ (bz = bx) := fun e => NXZ.out e.symm))
    go_ret2
    exact ⟨_, rfl, Kd.R_nil _ _ _ _ _, (below_step HB3.out ((H35.out.setCell GX.out _).setCell GZ.out _))⟩
  ·rw [if_neg hbig] at h
   by_cases hok : diff_Rows.ok kf xs ys = true
   ·rw [if_pos hok] at h
    simp only [Option.some.injEq, Prod.mk.injEq] at h
    obtain ⟨rfl, rfl⟩ := h
    have HOK := aM hok
    have HN := aM (show xs.length ≤ 200 by omega)
    have HM := aM (show ys.length ≤ 200 by omega)
    have HE := aM (fun x W => enters_ (P := Try.prog) Try.func40 (by kernel_rfl) rfl x W)
    have HG := aM (fun x W => enters_ (P := Try.prog) Try.func42 (by kernel_rfl) rfl x W)
    have FIN := aM (fun (AX AY : Option Addr) (cx cy bx bz : Nat) (w5 : World) (k0 : w5.heap[bx]? = some (.cells #[.slice AX xs.length cx] 83 (0, 0))) (k1 : w5.heap[bz]? = some (.cells #[.slice AY ys.length cy] 83 (0, 0))) (hX : Kd.C k86 w5 AX xs.length xs) (hY : Kd.C k86 w5 AY ys.length ys) (W : World) (hb : Below w5.heap.size w5 W) (i j : Nat) (hi : i < xs.length) (hj : j < ys.length) =>
     diff_Rows.one1 bx bz AX AY cx cy xs ys kf i j hi hj (diff_Rows.like kf xs ys i j) (diff_Rows.same HOK.out hi hj) W ((blk_cell (blk_below k0 hb) 0).trans rfl) ((blk_cell (blk_below k1 hb) 0).trans rfl) (Kd.C_below hX hb) (Kd.C_below hY hb))
    have RISE := aM (DiffT.P_rise (like := diff_Rows.like kf xs ys) (n := xs.length) (m := ys.length) xs.length 0 0)
    have HLB := aM (diff_grid.enc_bound (show xs.length ≤ 400 by omega) (show ys.length ≤ 400 by omega) RISE.out)
    have HTR := aM (show ∀ c ∈ diff_gaps.trace (xs.length : Int) (ys.length : Int) (0, 0) (diff_grid.enc (DiffT.P (diff_Rows.like kf xs ys) xs.length ys.length xs.length 0 0)), (0 ≤ c.1.1 ∧ c.1.1 ≤ c.2.1.1 ∧ c.2.1.1 ≤ (xs.length : Int)) ∧ (0 ≤ c.1.2 ∧ c.1.2 ≤ c.2.1.2 ∧ c.2.1.2 ≤ (ys.length : Int)) ∧ (c.2.2 = true → c.2.1.1 < (xs.length : Int) ∧ c.2.1.2 < (ys.length : Int)) from diff_Rows.trace_rise RISE.out (Nat.zero_le _) (Nat.zero_le _))
    have HPL := aM (show (diff_grid.enc (DiffT.P (diff_Rows.like kf xs ys) xs.length ys.length xs.length 0 0)).length ≤ 200 by
     have h1 := DiffT.T_le (like := diff_Rows.like kf xs ys) (n := xs.length) (m := ys.length) _ 0 0 rfl
     have h2 := DiffT.P_length (like := diff_Rows.like kf xs ys) (n := xs.length) (m := ys.length) xs.length 0 0 (by omega)
     simp only [diff_grid.enc, List.length_map]
     omega)
    obtain ⟨LK, hLK⟩ : ∃ L, L = diff_Rows.like kf xs ys := ⟨_, rfl⟩
    rw [← hLK] at FIN RISE HLB HTR HPL ⊢
    obtain ⟨L, hL⟩ : ∃ L, L = diff_grid.enc (DiffT.P LK xs.length ys.length xs.length 0 0) := ⟨_, rfl⟩
    have HL := aM hL
    rw [← hL] at HLB HTR HPL ⊢
    clear hok RISE hLK hL
    rcases hx with hx|hx
    ·have q1 := eq_true hx
     have q2 : decide (200 < (ys.length : Int)) = false := decide_eq_false (by omega)
     have q3 : decide (200 < ys.length) = false := decide_eq_false (by omega)
     have q4 : decide (xs.length < ys.length) = true := decide_eq_true hx
     have q5 : ((xs.length : Int) < (ys.length : Int)) = True := eq_true (by omega)
     clear hx hbig
     go_enter Try.func21, Try.ntmps21
     go_wp2_with (first|(go_at_call 35; refine (diff_both.calls A0 c0 l0 A1 c1 l1 0 w HR0.out HC0.out HR1.out HC1.out HE0.out).mono ?_; rintro e w1 ⟨rfl, hb⟩; have HB1 := aM hb; clear hb)|(go_at_call_of 39 (Value.slice A0 l0.length c0); refine (diff_parts.calls kf (fun k_ => k_ < w.heap.size) A0 c0 l0 xs w1 (Kd.V_below (w1 := w1) (Kd.V_mk HC0.out (Kd.C_F k64_heap HR0.out)) HB1.out) HXS.out).mono ?_; rintro e w2 ⟨v0, rfl, hN, hb⟩; obtain ⟨AX, cx, rfl, hle, hC⟩ := Kd.N_reads hN; have CX := aM hC; have LX := aM hle; have HB2 := aM (below_step HB1.out hb); clear hN hb hle hC)|(go_at_call_of 39 (Value.slice A1 l1.length c1); refine (diff_parts.calls kf (fun k_ => k_ < w.heap.size) A1 c1 l1 ys w2 (Kd.V_below (w1 := w2) (Kd.V_mk HC1.out (Kd.C_F k64_heap HR1.out)) HB2.out) HYS.out).mono ?_; rintro e w3 ⟨v1, rfl, hN, hb⟩; obtain ⟨AY, cy, rfl, hle, hC⟩ := Kd.N_reads hN; have CY := aM hC; have LY := aM hle; have n0_ := aM (Kd.C_below CX.out hb); have HB3 := aM (below_step HB2.out hb); clear CX hN hb hle hC; have CX := n0_; clear n0_)|((with_reducible refine gate_dst (N := 7) rfl ?_); refine box_event ?hg (N := 7) ?hd (cs := #[.slice none 0 0]) (t := 83) ?hr ?_; (case hd => rfl); (case hg => rfl); (case hr => first|(go_simp; done)|(go_simp; rfl)); intro bx hg w4 hbox hb; have BX := aM hbox; have GX := aM (show w3.heap.size ≤ bx by rw [hg]; exact Nat.le_refl _); have H34 := aM hb; clear hbox hb hg)|((with_reducible refine gate_dst (N := 8) rfl ?_); refine box_event ?hg (N := 8) ?hd (cs := #[.slice none 0 0]) (t := 83) ?hr ?_; (case hd => rfl); (case hg => rfl); (case hr => first|(go_simp; done)|(go_simp; rfl)); intro bz hg w5 hbox hb; have BZ := aM hbox; have NXZ := aM (show bx ≠ bz by rw [hg]; exact Nat.ne_of_lt (blk_lt BX.out)); have n0_ := aM (blk_below BX.out hb); have H35 := aM (below_step H34.out hb); have GZ := aM (show w3.heap.size ≤ bz by rw [hg]; exact H34.out.size); clear BX hbox hb hg; have BX := n0_; clear n0_; have hx0 : w5.cell? ⟨bx, 0, none⟩ = some (.slice none 0 0) := (blk_cell BX.out 0).trans rfl; have hz0 : w5.cell? ⟨bz, 0, none⟩ = some (.slice none 0 0) := (blk_cell BZ.out 0).trans rfl; have hfx0 := blk_frozen BX.out 0; have hfz0 := blk_frozen BZ.out 0; have hn1 : ¬ (bx = bz) := NXZ.out; have hn2 : ¬ (bz = bx) := fun e => NXZ.out e.symm))
     have n0_ := aM (show ((w5.setCell ⟨bx, 0, none⟩ (.slice AX xs.length cx)).setCell ⟨bz, 0, none⟩ (.slice AY ys.length cy)).heap[bx]? = some (.cells #[.slice AX xs.length cx] 83 (0, 0)) from bF (blk_put BX.out 0 _ rfl) NXZ.out _)
     have n1_ := aM (show ((w5.setCell ⟨bx, 0, none⟩ (.slice AX xs.length cx)).setCell ⟨bz, 0, none⟩ (.slice AY ys.length cy)).heap[bz]? = some (.cells #[.slice AY ys.length cy] 83 (0, 0)) from blk_put (bF BZ.out (fun e => NXZ.out e.symm) _) 0 _ rfl)
     have n2_ := aM (show Below w3.heap.size w3 ((w5.setCell ⟨bx, 0, none⟩ (.slice AX xs.length cx)).setCell ⟨bz, 0, none⟩ (.slice AY ys.length cy)) from (H35.out.setCell GX.out _).setCell GZ.out _)
     clear BX BZ hx0 hz0 hfx0 hfz0 hn1 hn2 H34 H35
     generalize (w5.setCell ⟨bx, 0, none⟩ (.slice AX xs.length cx)).setCell ⟨bz, 0, none⟩ (.slice AY ys.length cy) = w6 at n0_ n1_ n2_ ⊢
     have BX := n0_
     have BZ := n1_
     have X6 := aM (Kd.C_below CX.out n2_.out)
     have Y6 := aM (Kd.C_below CY.out n2_.out)
     have HB6 := aM (below_step HB3.out n2_.out)
     clear n0_ n1_ n2_ CX CY HB3 HB2 HB1
     refine (diff_filled.calls xs.length ys.length (by have := HN.out; omega) (by have := HM.out; omega) 40 #[.pointer (some ⟨bx, 0, none⟩), .pointer (some ⟨bz, 0, none⟩)] HE.out LK w6 (FIN.out AX AY cx cy bx bz w6 BX.out BZ.out X6.out Y6.out)).mono ?_
     rintro e w7 ⟨gb, rb, cap, best, rfl, hge, hblk, hC, hlen, hT, hb3⟩
     have G := aM (And.intro hblk (And.intro hC (And.intro hlen (And.intro hT hb3))))
     clear hge hblk hC hlen hT hb3
     go_wp2_with fail
     refine (diff_pairs.calls xs.length ys.length (by have := HN.out; omega) (by have := HM.out; omega) 40 #[.pointer (some ⟨bx, 0, none⟩), .pointer (some ⟨bz, 0, none⟩)] HE.out LK w7 (fun W hb i j hi hj => FIN.out AX AY cx cy bx bz w6 BX.out BZ.out X6.out Y6.out W (below_step G.out.2.2.2.2 hb) i j hi hj) gb rb cap best ⟨G.out.1, G.out.2.1, Below.refl _ _⟩ G.out.2.2.1 G.out.2.2.2.1).mono ?_
     rintro e w8 ⟨v, rfl, hR, hb4⟩
     rw [← HL.out] at hR
     have HR := aM hR
     have H68 := aM (below_step G.out.2.2.2.2 hb4)
     have BX8 := aM (blk_below BX.out H68.out)
     have BZ8 := aM (blk_below BZ.out H68.out)
     have X8 := aM (Kd.C_below X6.out H68.out)
     have Y8 := aM (Kd.C_below Y6.out H68.out)
     have HB8 := aM (below_step HB6.out H68.out)
     clear hR hb4 G BX BZ X6 Y6 H68 HB6 FIN
     have hx8 : w8.cell? ⟨bx, 0, none⟩ = some (.slice AX xs.length cx) := (blk_cell BX8.out 0).trans rfl
     have hz8 : w8.cell? ⟨bz, 0, none⟩ = some (.slice AY ys.length cy) := (blk_cell BZ8.out 0).trans rfl
     go_wp2_with ((with_reducible refine gate_dst (N := 10) rfl ?_); refine box_event ?hg (N := 10) ?hd (cs := #[.slice none 0 0]) (t := 49) ?hr ?_; (case hd => rfl); (case hg => rfl); (case hr => first|(go_simp; done)|(go_simp; rfl)); intro bo hg w9 hbox hb; have n0_ := aM (Kd.R_below HR.out hb); have ST := aM (show diff_Rows.St bo w8 [] w9 from ⟨⟨_, hbox, Kd.R_nil _ _ _ _ _⟩, hb⟩); have HBO := aM (show w8.heap.size ≤ bo by rw [hg]; exact Nat.le_refl _); clear HR hg hbox hx8 hz8; have HR := n0_; clear n0_; have hx9 : w9.cell? ⟨bx, 0, none⟩ = some (.slice AX xs.length cx) := (blk_cell (blk_below BX8.out hb) 0).trans rfl; have hz9 : w9.cell? ⟨bz, 0, none⟩ = some (.slice AY ys.length cy) := (blk_cell (blk_below BZ8.out hb) 0).trans rfl; clear hb)
     refine (diff_gaps.calls 42 #[.pointer (some ⟨bx, 0, none⟩), .pointer (some ⟨bo, 0, none⟩), .pointer (some ⟨bz, 0, none⟩)] HG.out v L (xs.length : Int) (ys.length : Int) w7.heap.size w9 HR.out ⟨by omega, by have := HN.out; omega⟩ ⟨by omega, by have := HM.out; omega⟩ HLB.out (fun pre W => diff_Rows.St bo w8 (diff_Rows.outs xs ys pre) W) ST.out (fun pre W W' hj hg => hj.grown hg) (fun pre W g cs j u hj hg hle => hj.set hg (Nat.le_trans ST.out.below.size hle) j u) ?_).mono ?_
     ·intro pre rest f t b W htr hj
      have hm := HTR.out (f, t, b) (by rw [htr]; simp)
      have hpl : pre.length ≤ 201 := by
       have h1 := diff_gaps.trace_len (xs.length : Int) (ys.length : Int) L (0, 0)
       rw [htr] at h1
       simp only [List.length_append, List.length_cons] at h1
       have := HPL.out
       omega
      have hol := diff_Rows.outs_len xs ys HN.out HM.out pre
      simp only at hm
      refine (diff_Rows.one2 bx bo bz w8 AX AY cx cy xs ys BX8.out BZ8.out X8.out LX.out Y8.out LY.out f.1 f.2 t.1 t.2 b (diff_Rows.outs xs ys pre) (by omega) hm.1.1 hm.1.2.1 hm.1.2.2 hm.2.1.1 hm.2.1.2.1 hm.2.1.2.2 HN.out HM.out hm.2.2 W hj HBO.out).mono ?_
      rintro e W' ⟨h1, h2, h3⟩
      refine ⟨h1, ?_, h3⟩
      have e1 : diff_Rows.outs xs ys (pre ++ [(f, t, b)]) = diff_Rows.outs xs ys pre ++ diff_Rows.add xs ys ((f.1, f.2), (t.1, t.2), b) := by simp [diff_Rows.outs]
      rw [e1]
      exact h2
     ·rintro e w10 ⟨⟨x, rfl⟩, hj⟩
      obtain ⟨⟨vo, hbo, hro⟩, hbel⟩ := hj
      have RO := aM hro
      have BL := aM hbel
      have hco : w10.cell? ⟨bo, 0, none⟩ = some vo := (blk_cell hbo 0).trans rfl
      clear hbo hro hbel
      go_wp2
      go_ret2
      exact ⟨_, rfl, Kd.R_lower RO.out HB8.out.size, below_step HB8.out BL.out⟩
    ·have q1 := eq_false hx
     have q2 : decide (200 < (xs.length : Int)) = false := decide_eq_false (by omega)
     have q3 : decide (200 < xs.length) = false := decide_eq_false (by omega)
     have q4 : decide (xs.length < ys.length) = false := decide_eq_false hx
     have q5 : ((xs.length : Int) < (ys.length : Int)) = False := eq_false (by omega)
     clear hx hbig
     go_enter Try.func21, Try.ntmps21
     go_wp2_with (first|(go_at_call 35; refine (diff_both.calls A0 c0 l0 A1 c1 l1 0 w HR0.out HC0.out HR1.out HC1.out HE0.out).mono ?_; rintro e w1 ⟨rfl, hb⟩; have HB1 := aM hb; clear hb)|(go_at_call_of 39 (Value.slice A0 l0.length c0); refine (diff_parts.calls kf (fun k_ => k_ < w.heap.size) A0 c0 l0 xs w1 (Kd.V_below (w1 := w1) (Kd.V_mk HC0.out (Kd.C_F k64_heap HR0.out)) HB1.out) HXS.out).mono ?_; rintro e w2 ⟨v0, rfl, hN, hb⟩; obtain ⟨AX, cx, rfl, hle, hC⟩ := Kd.N_reads hN; have CX := aM hC; have LX := aM hle; have HB2 := aM (below_step HB1.out hb); clear hN hb hle hC)|(go_at_call_of 39 (Value.slice A1 l1.length c1); refine (diff_parts.calls kf (fun k_ => k_ < w.heap.size) A1 c1 l1 ys w2 (Kd.V_below (w1 := w2) (Kd.V_mk HC1.out (Kd.C_F k64_heap HR1.out)) HB2.out) HYS.out).mono ?_; rintro e w3 ⟨v1, rfl, hN, hb⟩; obtain ⟨AY, cy, rfl, hle, hC⟩ := Kd.N_reads hN; have CY := aM hC; have LY := aM hle; have n0_ := aM (Kd.C_below CX.out hb); have HB3 := aM (below_step HB2.out hb); clear CX hN hb hle hC; have CX := n0_; clear n0_)|((with_reducible refine gate_dst (N := 7) rfl ?_); refine box_event ?hg (N := 7) ?hd (cs := #[.slice none 0 0]) (t := 83) ?hr ?_; (case hd => rfl); (case hg => rfl); (case hr => first|(go_simp; done)|(go_simp; rfl)); intro bx hg w4 hbox hb; have BX := aM hbox; have GX := aM (show w3.heap.size ≤ bx by rw [hg]; exact Nat.le_refl _); have H34 := aM hb; clear hbox hb hg)|((with_reducible refine gate_dst (N := 8) rfl ?_); refine box_event ?hg (N := 8) ?hd (cs := #[.slice none 0 0]) (t := 83) ?hr ?_; (case hd => rfl); (case hg => rfl); (case hr => first|(go_simp; done)|(go_simp; rfl)); intro bz hg w5 hbox hb; have BZ := aM hbox; have NXZ := aM (show bx ≠ bz by rw [hg]; exact Nat.ne_of_lt (blk_lt BX.out)); have n0_ := aM (blk_below BX.out hb); have H35 := aM (below_step H34.out hb); have GZ := aM (show w3.heap.size ≤ bz by rw [hg]; exact H34.out.size); clear BX hbox hb hg; have BX := n0_; clear n0_; have hx0 : w5.cell? ⟨bx, 0, none⟩ = some (.slice none 0 0) := (blk_cell BX.out 0).trans rfl; have hz0 : w5.cell? ⟨bz, 0, none⟩ = some (.slice none 0 0) := (blk_cell BZ.out 0).trans rfl; have hfx0 := blk_frozen BX.out 0; have hfz0 := blk_frozen BZ.out 0; have hn1 : ¬ (bx = bz) := NXZ.out; have hn2 : ¬ (bz = bx) := fun e => NXZ.out e.symm))
     have n0_ := aM (show ((w5.setCell ⟨bx, 0, none⟩ (.slice AX xs.length cx)).setCell ⟨bz, 0, none⟩ (.slice AY ys.length cy)).heap[bx]? = some (.cells #[.slice AX xs.length cx] 83 (0, 0)) from bF (blk_put BX.out 0 _ rfl) NXZ.out _)
     have n1_ := aM (show ((w5.setCell ⟨bx, 0, none⟩ (.slice AX xs.length cx)).setCell ⟨bz, 0, none⟩ (.slice AY ys.length cy)).heap[bz]? = some (.cells #[.slice AY ys.length cy] 83 (0, 0)) from blk_put (bF BZ.out (fun e => NXZ.out e.symm) _) 0 _ rfl)
     have n2_ := aM (show Below w3.heap.size w3 ((w5.setCell ⟨bx, 0, none⟩ (.slice AX xs.length cx)).setCell ⟨bz, 0, none⟩ (.slice AY ys.length cy)) from (H35.out.setCell GX.out _).setCell GZ.out _)
     clear BX BZ hx0 hz0 hfx0 hfz0 hn1 hn2 H34 H35
     generalize (w5.setCell ⟨bx, 0, none⟩ (.slice AX xs.length cx)).setCell ⟨bz, 0, none⟩ (.slice AY ys.length cy) = w6 at n0_ n1_ n2_ ⊢
     have BX := n0_
     have BZ := n1_
     have X6 := aM (Kd.C_below CX.out n2_.out)
     have Y6 := aM (Kd.C_below CY.out n2_.out)
     have HB6 := aM (below_step HB3.out n2_.out)
     clear n0_ n1_ n2_ CX CY HB3 HB2 HB1
     refine (diff_filled.calls xs.length ys.length (by have := HN.out; omega) (by have := HM.out; omega) 40 #[.pointer (some ⟨bx, 0, none⟩), .pointer (some ⟨bz, 0, none⟩)] HE.out LK w6 (FIN.out AX AY cx cy bx bz w6 BX.out BZ.out X6.out Y6.out)).mono ?_
     rintro e w7 ⟨gb, rb, cap, best, rfl, hge, hblk, hC, hlen, hT, hb3⟩
     have G := aM (And.intro hblk (And.intro hC (And.intro hlen (And.intro hT hb3))))
     clear hge hblk hC hlen hT hb3
     go_wp2_with fail
     refine (diff_pairs.calls xs.length ys.length (by have := HN.out; omega) (by have := HM.out; omega) 40 #[.pointer (some ⟨bx, 0, none⟩), .pointer (some ⟨bz, 0, none⟩)] HE.out LK w7 (fun W hb i j hi hj => FIN.out AX AY cx cy bx bz w6 BX.out BZ.out X6.out Y6.out W (below_step G.out.2.2.2.2 hb) i j hi hj) gb rb cap best ⟨G.out.1, G.out.2.1, Below.refl _ _⟩ G.out.2.2.1 G.out.2.2.2.1).mono ?_
     rintro e w8 ⟨v, rfl, hR, hb4⟩
     rw [← HL.out] at hR
     have HR := aM hR
     have H68 := aM (below_step G.out.2.2.2.2 hb4)
     have BX8 := aM (blk_below BX.out H68.out)
     have BZ8 := aM (blk_below BZ.out H68.out)
     have X8 := aM (Kd.C_below X6.out H68.out)
     have Y8 := aM (Kd.C_below Y6.out H68.out)
     have HB8 := aM (below_step HB6.out H68.out)
     clear hR hb4 G BX BZ X6 Y6 H68 HB6 FIN
     have hx8 : w8.cell? ⟨bx, 0, none⟩ = some (.slice AX xs.length cx) := (blk_cell BX8.out 0).trans rfl
     have hz8 : w8.cell? ⟨bz, 0, none⟩ = some (.slice AY ys.length cy) := (blk_cell BZ8.out 0).trans rfl
     go_wp2_with ((with_reducible refine gate_dst (N := 10) rfl ?_); refine box_event ?hg (N := 10) ?hd (cs := #[.slice none 0 0]) (t := 49) ?hr ?_; (case hd => rfl); (case hg => rfl); (case hr => first|(go_simp; done)|(go_simp; rfl)); intro bo hg w9 hbox hb; have n0_ := aM (Kd.R_below HR.out hb); have ST := aM (show diff_Rows.St bo w8 [] w9 from ⟨⟨_, hbox, Kd.R_nil _ _ _ _ _⟩, hb⟩); have HBO := aM (show w8.heap.size ≤ bo by rw [hg]; exact Nat.le_refl _); clear HR hg hbox hx8 hz8; have HR := n0_; clear n0_; have hx9 : w9.cell? ⟨bx, 0, none⟩ = some (.slice AX xs.length cx) := (blk_cell (blk_below BX8.out hb) 0).trans rfl; have hz9 : w9.cell? ⟨bz, 0, none⟩ = some (.slice AY ys.length cy) := (blk_cell (blk_below BZ8.out hb) 0).trans rfl; clear hb)
     refine (diff_gaps.calls 42 #[.pointer (some ⟨bx, 0, none⟩), .pointer (some ⟨bo, 0, none⟩), .pointer (some ⟨bz, 0, none⟩)] HG.out v L (xs.length : Int) (ys.length : Int) w7.heap.size w9 HR.out ⟨by omega, by have := HN.out; omega⟩ ⟨by omega, by have := HM.out; omega⟩ HLB.out (fun pre W => diff_Rows.St bo w8 (diff_Rows.outs xs ys pre) W) ST.out (fun pre W W' hj hg => hj.grown hg) (fun pre W g cs j u hj hg hle => hj.set hg (Nat.le_trans ST.out.below.size hle) j u) ?_).mono ?_
     ·intro pre rest f t b W htr hj
      have hm := HTR.out (f, t, b) (by rw [htr]; simp)
      have hpl : pre.length ≤ 201 := by
       have h1 := diff_gaps.trace_len (xs.length : Int) (ys.length : Int) L (0, 0)
       rw [htr] at h1
       simp only [List.length_append, List.length_cons] at h1
       have := HPL.out
       omega
      have hol := diff_Rows.outs_len xs ys HN.out HM.out pre
      simp only at hm
      refine (diff_Rows.one2 bx bo bz w8 AX AY cx cy xs ys BX8.out BZ8.out X8.out LX.out Y8.out LY.out f.1 f.2 t.1 t.2 b (diff_Rows.outs xs ys pre) (by omega) hm.1.1 hm.1.2.1 hm.1.2.2 hm.2.1.1 hm.2.1.2.1 hm.2.1.2.2 HN.out HM.out hm.2.2 W hj HBO.out).mono ?_
      rintro e W' ⟨h1, h2, h3⟩
      refine ⟨h1, ?_, h3⟩
      have e1 : diff_Rows.outs xs ys (pre ++ [(f, t, b)]) = diff_Rows.outs xs ys pre ++ diff_Rows.add xs ys ((f.1, f.2), (t.1, t.2), b) := by simp [diff_Rows.outs]
      rw [e1]
      exact h2
     ·rintro e w10 ⟨⟨x, rfl⟩, hj⟩
      obtain ⟨⟨vo, hbo, hro⟩, hbel⟩ := hj
      have RO := aM hro
      have BL := aM hbel
      have hco : w10.cell? ⟨bo, 0, none⟩ = some vo := (blk_cell hbo 0).trans rfl
      clear hbo hro hbel
      go_wp2
      go_ret2
      exact ⟨_, rfl, Kd.R_lower RO.out HB8.out.size, below_step HB8.out BL.out⟩
   ·rw [if_neg hok] at h
    cases h
 ·rw [if_neg ce] at h
  simp only [Option.some.injEq, Prod.mk.injEq] at h
  obtain ⟨rfl, rfl⟩ := h
  have HE0 := aM he
  have b0 : (e0 != 0) = true := bne_iff_ne.mpr ce
  have b1 : (e0 == 0) = false := beq_eq_false_iff_ne.mpr ce
  clear he ce
  go_enter Try.func21, Try.ntmps21
  go_wp2_with (go_at_call 35; refine (diff_both.calls A0 c0 l0 A1 c1 l1 e0 w HR0.out HC0.out HR1.out HC1.out HE0.out).mono ?_; rintro e w1 ⟨rfl, hb⟩; have HB := aM hb; clear hb)
  go_ret2
  exact ⟨_, rfl, Kd.R_nil _ _ _ _ _, HB.out⟩

end Go.Proofs.Ytjpmlggkhhoooaa.PDq
-- Written for this claim by a program (the kit's print, with hand-made contracts for what it does not take).
namespace Go.Proofs.Ytjpmlggkhhoooaa.PDq
open Go.RowKit Go.Proofs.YtjpmlggkhhoooaaW.PrintWords Go.Proofs.YtjpmlggkhhoooaaW.PrintLast Go.Proofs.YtjpmlggkhhoooaaW.PrintMore
attribute [local go_sem] max2_int min2_int max_two min_two max_three min_three max_four min_four   -- for this text's walks alone
set_option linter.unusedVariables false
set_option linter.unusedSimpArgs false

attribute [local go_sem high] eqA64
def emenderlaw23_alike.l0 : Nat → List (S64) → List (S64) → Int → Option (Bool)
|0, _, _, _ => none
|k + 1, x0, x1, x5 => if x5 < (x0.length : Int) then (if 0 ≤ x5 then (if x5 < (x1.length : Int) then (if (!(((rd_T64 x0 x5).f0) == ((rd_T64 x1 x5).f0)) || (!(((rd_T64 x0 x5).f1) == ((rd_T64 x1 x5).f1)) || (!(((rd_T64 x0 x5).f2) == ((rd_T64 x1 x5).f2)) || (!(((rd_T64 x0 x5).f3) == ((rd_T64 x1 x5).f3)))))) = true then (some false) else (emenderlaw23_alike.l0 k x0 x1 (wrap64 (x5 + 1)))) else (none)) else (none)) else (some true)
def emenderlaw23_alike.f (k : Nat) (l0 : List (S64)) (l1 : List (S64)) : Option (Bool) := if (l0.length : Int) = (l1.length : Int) then (emenderlaw23_alike.l0 k l0 l1 0) else (some false)
theorem emenderlaw23_alike.mono_l : ∀ k, (∀ y0 y1 y2, LeO (emenderlaw23_alike.l0 k y0 y1 y2) (emenderlaw23_alike.l0 (k + 1) y0 y1 y2))
|0 => fun _ _ _ r h => by simp [emenderlaw23_alike.l0] at h
|k + 1 => by
  have ih0 := emenderlaw23_alike.mono_l k
  ·intro y0 y1 y2
   unfold emenderlaw23_alike.l0
   repeat' first
  |(with_reducible exact ih0 _ _ _)
  |(with_reducible exact LeO.refl _)
  |(with_reducible exact LeO.none _)
  |(with_reducible refine LeO.ite ?_ ?_)
  |(with_reducible refine LeO.bind ?_ (fun _ => ?_))
  |exact ih0 _ _ _
  |exact LeO.none _
  |refine LeO.ite ?_ ?_
  |refine LeO.bind ?_ (fun _ => ?_)
theorem emenderlaw23_alike.mono : ∀ a0 a1 k, LeO (emenderlaw23_alike.f k a0 a1) (emenderlaw23_alike.f (k + 1) a0 a1) := by
 intro a0 a1 k
 have ih0 := emenderlaw23_alike.mono_l k
 unfold emenderlaw23_alike.f
 repeat' first
  |(with_reducible exact ih0 _ _ _)
  |(with_reducible exact LeO.refl _)
  |(with_reducible exact LeO.none _)
  |(with_reducible refine LeO.ite ?_ ?_)
  |(with_reducible refine LeO.bind ?_ (fun _ => ?_))
  |exact ih0 _ _ _
  |exact LeO.none _
  |refine LeO.ite ?_ ?_
  |refine LeO.bind ?_ (fun _ => ?_)
set_option maxHeartbeats 8000000 in
set_option maxRecDepth 100000 in
theorem emenderlaw23_alike.calls (k : Nat) (A0 : Option Addr) (c0 : Nat) (l0 : List (S64)) (A1 : Option Addr) (c1 : Nat) (l1 : List (S64)) (r : Bool) (w : World) (hr0 : Kd.C k64 w A0 l0.length l0) (hc0 : l0.length ≤ c0) (hr1 : Kd.C k64 w A1 l1.length l1) (hc1 : l1.length ≤ c1) (h : emenderlaw23_alike.f k l0 l1 = some r) :
  Calls Try.prog 17 #[.slice A0 l0.length c0, .slice A1 l1.length c1] w fun e w' => e = .returned (.bool r) ∧ Drawn0 w w' := by
 have hu64 := Try.underlying64
 have HR0 := aM hr0
 have HC0 := aM hc0
 clear hr0 hc0
 have HR1 := aM hr1
 have HC1 := aM hc1
 clear hr1 hc1
 have H : (if (l0.length : Int) = (l1.length : Int) then (emenderlaw23_alike.l0 k l0 l1 0) else (some false)) = some r := h
 clear h
 by_cases c3 : (l0.length : Int) = (l1.length : Int)
 ·rw [if_pos c3] at H
  have c3b0 : ((l0.length : Int) == (l1.length : Int)) = true := beq_iff_eq.mpr c3
  have c3b1 : ((l0.length : Int) != (l1.length : Int)) = false := bne_eq_false_iff_eq.mpr c3
  have c3b2 : (l0.length == l1.length) = true := by first|simpa using c3|(simp at c3 ⊢; omega)
  clear c3
  have H' := aM H
  clear H
  go_enter Try.func17, Try.ntmps17
  go_wp2
  repeat (go_quiet (fail); try go_wp2)
  go_loopg [5] k (fun kq v5 w' => ∃ (x5_1 : Int), v5 = .int .i64 x5_1 ∧ Aside0 (emenderlaw23_alike.l0 kq l0 l1 x5_1 = some r) ∧ Aside0 (kq ≤ k) ∧ Drawn0 w w')
  case atStart => exact ⟨(0), (by first|rfl|(simp; done)|(simp [*]; done)), H', ⟨Nat.le_refl _⟩, by repeat (first|exact Drawn0.refl _|apply Drawn0.step)⟩
  case round =>
   clear H'
   obtain ⟨x5_1, rfl, HA, HK1, ⟨m1, rfl⟩⟩ := hrel
   cases gk with
  |zero => exact absurd HA.out (by simp [emenderlaw23_alike.l0])
  |succ k1 =>
    have H := HA.out
    clear HA
    simp only [emenderlaw23_alike.l0] at H
    by_cases c4 : x5_1 < (l0.length : Int)
    ·rw [if_pos c4] at H
     have c4b0 : decide (x5_1 < (l0.length : Int)) = true := decide_eq_true c4
     clear c4
     replace H := ifS H; obtain ⟨c5, H⟩ := H
     have c5b0 : decide (0 ≤ x5_1) = true := decide_eq_true c5
     clear c5
     replace H := ifS H; obtain ⟨c6, H⟩ := H
     have c6b0 : decide (x5_1 < (l1.length : Int)) = true := decide_eq_true c6
     clear c6
     by_cases c7 : (!(((rd_T64 l0 x5_1).f0) == ((rd_T64 l1 x5_1).f0)) || (!(((rd_T64 l0 x5_1).f1) == ((rd_T64 l1 x5_1).f1)) || (!(((rd_T64 l0 x5_1).f2) == ((rd_T64 l1 x5_1).f2)) || (!(((rd_T64 l0 x5_1).f3) == ((rd_T64 l1 x5_1).f3)))))) = true
     ·rw [if_pos c7] at H
      have c7b0 : (!(((rd_T64 l0 x5_1).f0) == ((rd_T64 l1 x5_1).f0)) || (!(((rd_T64 l0 x5_1).f1) == ((rd_T64 l1 x5_1).f1)) || (!(((rd_T64 l0 x5_1).f2) == ((rd_T64 l1 x5_1).f2)) || (!(((rd_T64 l0 x5_1).f3) == ((rd_T64 l1 x5_1).f3)))))) = true := c7
      clear c7
      obtain rfl := Option.some.inj H
      have p139 : 0 ≤ (x5_1 : Int) := of_decide_eq_true (by first|(with_reducible assumption)|assumption)
      have q139 : x5_1 < (l0.length : Int) := of_decide_eq_true (by first|(with_reducible assumption)|assumption)
      obtain ⟨ad139, e139, hx139_0, hx139_1, hx139_2, hx139_3⟩ := at_T64 HR0.out x5_1 p139 q139
      cases e139
      replace p139 := eq_true p139
      replace q139 := eq_true q139
      have p140 : 0 ≤ (x5_1 : Int) := of_decide_eq_true (by first|(with_reducible assumption)|assumption)
      have q140 : x5_1 < (l1.length : Int) := of_decide_eq_true (by first|(with_reducible assumption)|assumption)
      obtain ⟨ad140, e140, hx140_0, hx140_1, hx140_2, hx140_3⟩ := at_T64 HR1.out x5_1 p140 q140
      cases e140
      replace p140 := eq_true p140
      replace q140 := eq_true q140
      go_wp2
      repeat (go_quiet (fail); try go_wp2)
      go_ret
      exact ⟨by first|rfl|(simp; done)|(simp [*]; done), by repeat (first|exact Drawn0.refl _|apply Drawn0.step)⟩
     ·rw [if_neg c7] at H
      have c7b0 : (!(((rd_T64 l0 x5_1).f0) == ((rd_T64 l1 x5_1).f0)) || (!(((rd_T64 l0 x5_1).f1) == ((rd_T64 l1 x5_1).f1)) || (!(((rd_T64 l0 x5_1).f2) == ((rd_T64 l1 x5_1).f2)) || (!(((rd_T64 l0 x5_1).f3) == ((rd_T64 l1 x5_1).f3)))))) = false := by simpa using c7
      clear c7
      have H' := aM H
      clear H
      have p139 : 0 ≤ (x5_1 : Int) := of_decide_eq_true (by first|(with_reducible assumption)|assumption)
      have q139 : x5_1 < (l0.length : Int) := of_decide_eq_true (by first|(with_reducible assumption)|assumption)
      obtain ⟨ad139, e139, hx139_0, hx139_1, hx139_2, hx139_3⟩ := at_T64 HR0.out x5_1 p139 q139
      cases e139
      replace p139 := eq_true p139
      replace q139 := eq_true q139
      have p140 : 0 ≤ (x5_1 : Int) := of_decide_eq_true (by first|(with_reducible assumption)|assumption)
      have q140 : x5_1 < (l1.length : Int) := of_decide_eq_true (by first|(with_reducible assumption)|assumption)
      obtain ⟨ad140, e140, hx140_0, hx140_1, hx140_2, hx140_3⟩ := at_T64 HR1.out x5_1 p140 q140
      cases e140
      replace p140 := eq_true p140
      replace q140 := eq_true q140
      go_wp2
      repeat (go_quiet (fail); try go_wp2)
      go_roundg k1
      case measure => have := HK1.out; omega
      case rel => exact ⟨(wrap64 (x5_1 + 1)), (by first|rfl|(simp; done)|(simp [*]; done)), H', ⟨by have := HK1.out; omega⟩, by repeat (first|exact Drawn0.refl _|apply Drawn0.step)⟩
    ·rw [if_neg c4] at H
     have c4b0 : decide (x5_1 < (l0.length : Int)) = false := decide_eq_false c4
     clear c4
     obtain rfl := Option.some.inj H
     go_wp2
     repeat (go_quiet (fail); try go_wp2)
     go_ret
     exact ⟨by first|rfl|(simp; done)|(simp [*]; done), by repeat (first|exact Drawn0.refl _|apply Drawn0.step)⟩
 ·rw [if_neg c3] at H
  have c3b0 : ((l0.length : Int) == (l1.length : Int)) = false := beq_eq_false_iff_ne.mpr c3
  have c3b1 : ((l0.length : Int) != (l1.length : Int)) = true := bne_iff_ne.mpr c3
  have c3b2 : (l0.length == l1.length) = false := by first|simpa using c3|(simp at c3 ⊢; omega)
  obtain rfl := Option.some.inj H
  go_enter Try.func17, Try.ntmps17
  go_wp2
  repeat (go_quiet (fail); try go_wp2)
  go_ret
  exact ⟨by first|rfl|(simp; done)|(simp [*]; done), by repeat (first|exact Drawn0.refl _|apply Drawn0.step)⟩

end Go.Proofs.Ytjpmlggkhhoooaa.PDq
