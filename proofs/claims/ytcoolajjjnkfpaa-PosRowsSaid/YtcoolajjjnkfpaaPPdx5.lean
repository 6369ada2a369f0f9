-- Written for this claim by a program (the kit's print, with hand-made contracts for what it does not take).
import Derived.Test.YtcoolajjjnkfpaaPPdx0
import Derived.Test.YtcoolajjjnkfpaaPPdx1
import Derived.Test.YtcoolajjjnkfpaaPPdx4
namespace Go.Proofs.Ytcoolajjjnkfpaa.PPd
open Go.RowKit Go.Proofs.YtcoolajjjnkfpaaW.PrintWords Go.Proofs.YtcoolajjjnkfpaaW.PrintLast Go.Proofs.YtcoolajjjnkfpaaW.PrintMore
attribute [local go_sem] max2_int min2_int max_two min_two max_three min_three max_four min_four   -- for this text's walks alone
set_option linter.unusedVariables false
set_option linter.unusedSimpArgs false

/-! ### emenderlaw08_awake: function 16 -/
def emenderlaw08_awake.f (k : Nat)  : Option (Bool) := (pos_Map.f k (([(⟨1, 0, 2⟩ : S37)] : List (S37))) 5 1).bind fun bt106 => (if bt106.2.2.2.2 = 0 then (some (bt106.1 == 7)) else (some false))
theorem emenderlaw08_awake.mono : ∀ k, LeO (emenderlaw08_awake.f k ) (emenderlaw08_awake.f (k + 1) ) := by
  intro  k
  unfold emenderlaw08_awake.f
  repeat' first
      | (with_reducible exact pos_Map.mono _ _ _ _)
      | (with_reducible exact LeO.refl _)
      | (with_reducible exact LeO.none _)
      | (with_reducible refine LeO.ite ?_ ?_)
      | (with_reducible refine LeO.bind ?_ (fun _ => ?_))
      | exact pos_Map.mono _ _ _ _
      | exact LeO.none _
      | refine LeO.ite ?_ ?_
      | refine LeO.bind ?_ (fun _ => ?_)
set_option maxHeartbeats 8000000 in
set_option maxRecDepth 100000 in
theorem emenderlaw08_awake.calls (k : Nat)  (r : Bool) (w : World) (h : emenderlaw08_awake.f k  = some r) :
    Calls Try.prog 16 #[] w fun e w' => e = .returned (.bool r) ∧ Below w.heap.size w w' := by
  have hu37 := Try.underlying37
  have hu24 := Try.underlying24
  have HB := Aside0.mk (Below.refl w.heap.size w)
  have H : ((pos_Map.f k (([(⟨1, 0, 2⟩ : S37)] : List (S37))) 5 1).bind fun bt106 => (if bt106.2.2.2.2 = 0 then (some (bt106.1 == 7)) else (some false))) = some r := h
  clear h
  obtain ⟨y103, hy103⟩ : ∃ y_ : List (S37), y_ = (([(⟨1, 0, 2⟩ : S37)] : List (S37))) := ⟨_, rfl⟩
  replace H : ((pos_Map.f k y103 5 1).bind fun bt106 => (if bt106.2.2.2.2 = 0 then (some (bt106.1 == 7)) else (some false))) = some r := by first | (rw [hy103]; with_reducible exact H) | (have H2_ := (Option.bind_some _ _).symm.trans H; rw [hy103]; with_reducible exact H2_) | (have H2_ := (Option.bind_some _ _).symm.trans H; with_reducible exact H2_) | with_reducible exact H | (rw [hy103]; exact H) | exact H
  have Ny103 := Aside0.mk hy103
  clear hy103
  replace H := Option.bind_eq_some_iff.mp H
  obtain ⟨⟨t106, t107, t108, t109, t110⟩, A10, H⟩ := H
  replace H : (if t110 = 0 then (some (t106 == 7)) else (some false)) = some r := H
  have A1 := Aside0.mk A10
  clear A10
  by_cases c2 : t110 = 0
  · rw [if_pos c2] at H
    have c2b0 : (t110 == 0) = true := beq_iff_eq.mpr c2
    have c2b1 : (t110 != 0) = false := bne_eq_false_iff_eq.mpr c2
    clear c2
    obtain rfl := Option.some.inj H
    go_enter Try.func16, Try.ntmps16
    go_wp2_with (first | ((with_reducible refine gate_dst (N := 5) rfl ?_); refine Kd.R_lit k37 _ 37 ?hg (N := 5) ?hd (xs := ([(⟨1, 0, 2⟩ : S37)] : List (S37))) (inner := [.int .i64 1, .int .i64 0, .int .i64 2]) (ok := fun _ => True) (okp := fun _ => True) ?hr ?hp (fun _ hk => hk) trivial (Below.refl _ _) (Nat.le_refl _) (by simp) ?_; (case hd => rfl); (case hg => rfl); (case hr => first | (go_simp; done) | (go_simp; rfl)); (case hp => exact (Reps.c3 (show Kd.M k37 _ _ _ (⟨1, 0, 2⟩ : S37) [.int .i64 1, .int .i64 0, .int .i64 2] from (k37_mkM _ _ _ (⟨1, 0, 2⟩ : S37) )) (Reps.none _ _))); intro v104 w3 ho4 hb hg_ hnew_; clear hg_ hnew_; (first | rw [← Ny103.out] at ho4 | (simp only [Int.reduceToNat] at ho4; rw [← Ny103.out] at ho4)); have n0_ := Aside0.mk (Kd.R_lower ho4 (below_size (by repeat (first | (with_reducible first | exact HB.out | apply below_alloc | apply pw_below_drewN | apply below_drew1) | exact HB.out)))); have n1_ := Aside0.mk (below_step (by repeat (first | (with_reducible first | exact HB.out | apply below_alloc | apply pw_below_drewN | apply below_drew1) | exact HB.out)) hb); clear HB; have HO105 := n0_; have HB := n1_; clear n0_ n1_; clear hb ho4; obtain ⟨Ao5, co5, eo5⟩ := Kd.R_slice HO105.out; subst eo5) | ((with_reducible refine gate_callee (f := 12) rfl ?_); refine goesL_ (some 6) rfl rfl Try.func12 (by kernel_rfl) rfl #[.slice Ao5 y103.length co5, .int .i64 5, .int .i64 1] rfl (by (try simp only [List.map_toArray, List.map_cons, List.map_nil]); first | done | rfl | (simp only [List.length_drop, List.length_take]; rfl)) ?_; (with_reducible refine (pos_Map.calls k _ _ y103 5 1 t106 t107 t108 t109 t110 _ ?side1 ?side2 A1.out).mono ?_); (case side1 => repeat (first | exact (Kd.R_reads' HO105.out).2.2 | (with_reducible refine Kd.C_alloc ?_ _) | (with_reducible refine Kd.C_drewN ?_ _) | (with_reducible refine Kd.C_drew ?_))); (case side2 => exact (Kd.R_reads' HO105.out).2.1); rintro e w6 ⟨rfl, hb⟩; refine ⟨_, rfl, ?_⟩; have n0_ := Aside0.mk (Kd.R_below (by (with_reducible repeat (first | apply Kd.R_alloc | apply Kd.R_drewN | apply Kd.R_drew)); exact HO105.out) hb); have n1_ := Aside0.mk (below_step (by repeat (first | (with_reducible first | exact HB.out | apply below_alloc | apply pw_below_drewN | apply below_drew1) | exact HB.out)) hb); clear HO105; clear HB; have HO105 := n0_; have HB := n1_; clear n0_ n1_; (try clear hb); (try clear hb2); (try clear hk); (try clear hi)) | ((with_reducible refine gate_dst (N := 1) rfl ?_); refine box_event ?hg (N := 1) ?hd (cs := #[.int .i64 0, .bool false, .int .i64 0, .int .i64 0]) (t := 24) ?hr ?_; (case hd => rfl); (case hg => rfl); (case hr => first | (go_simp; done) | (go_simp; rfl)); intro gb111 hg w7 hbox hb; have n0_ := Aside0.mk (Kd.R_below (by (with_reducible repeat (first | apply Kd.R_alloc | apply Kd.R_drewN | apply Kd.R_drew)); exact HO105.out) hb); have n1_ := Aside0.mk (below_step (by repeat (first | (with_reducible first | exact HB.out | apply below_alloc | apply pw_below_drewN | apply below_drew1) | exact HB.out)) hb); have n2_ := Aside0.mk (hbox); have n3_ := Aside0.mk ((by rw [hg]; exact (below_size (by repeat (first | (with_reducible first | exact HB.out | apply below_alloc | apply pw_below_drewN | apply below_drew1) | exact HB.out))) : w.heap.size ≤ gb111)); have n4_ := Aside0.mk ((by rw [hg]; exact (below_size (by repeat (first | (with_reducible first | exact HB.out | apply below_alloc | apply pw_below_drewN | apply below_drew1) | exact HB.out))) : w.heap.size ≤ gb111)); clear HO105; clear HB; have HO105 := n0_; have HB := n1_; have BK111 := n2_; have GW111 := n3_; have GE111 := n4_; clear n0_ n1_ n2_ n3_ n4_; clear hb hbox hg; have hcz8_0 : w7.cell? ⟨gb111, 0, none⟩ = some (.int .i64 0) := (blk_cell BK111.out 0).trans rfl; have hcz8_1 : w7.cell? ⟨gb111, 1, none⟩ = some (.bool false) := (blk_cell BK111.out 1).trans rfl; have hcz8_2 : w7.cell? ⟨gb111, 2, none⟩ = some (.int .i64 0) := (blk_cell BK111.out 2).trans rfl; have hcz8_3 : w7.cell? ⟨gb111, 3, none⟩ = some (.int .i64 0) := (blk_cell BK111.out 3).trans rfl; have hfz8_0 := blk_frozen BK111.out 0; have hfz8_1 := blk_frozen BK111.out 1; have hfz8_2 := blk_frozen BK111.out 2; have hfz8_3 := blk_frozen BK111.out 3))
    go_ret
    exact ⟨by first | rfl | (simp [errW_none, errW_some] <;> rfl) | (simp [*, errW_none, errW_some] <;> rfl), by repeat (first | (with_reducible first | exact HB.out | apply below_alloc | apply pw_below_drewN | apply below_drew1 | refine below_set ?_ GE111.out) | exact HB.out)⟩
  · rw [if_neg c2] at H
    have c2b0 : (t110 == 0) = false := beq_eq_false_iff_ne.mpr c2
    have c2b1 : (t110 != 0) = true := bne_iff_ne.mpr c2
    obtain rfl := Option.some.inj H
    go_enter Try.func16, Try.ntmps16
    go_wp2_with (first | ((with_reducible refine gate_dst (N := 5) rfl ?_); refine Kd.R_lit k37 _ 37 ?hg (N := 5) ?hd (xs := ([(⟨1, 0, 2⟩ : S37)] : List (S37))) (inner := [.int .i64 1, .int .i64 0, .int .i64 2]) (ok := fun _ => True) (okp := fun _ => True) ?hr ?hp (fun _ hk => hk) trivial (Below.refl _ _) (Nat.le_refl _) (by simp) ?_; (case hd => rfl); (case hg => rfl); (case hr => first | (go_simp; done) | (go_simp; rfl)); (case hp => exact (Reps.c3 (show Kd.M k37 _ _ _ (⟨1, 0, 2⟩ : S37) [.int .i64 1, .int .i64 0, .int .i64 2] from (k37_mkM _ _ _ (⟨1, 0, 2⟩ : S37) )) (Reps.none _ _))); intro v104 w9 ho10 hb hg_ hnew_; clear hg_ hnew_; (first | rw [← Ny103.out] at ho10 | (simp only [Int.reduceToNat] at ho10; rw [← Ny103.out] at ho10)); have n0_ := Aside0.mk (Kd.R_lower ho10 (below_size (by repeat (first | (with_reducible first | exact HB.out | apply below_alloc | apply pw_below_drewN | apply below_drew1) | exact HB.out)))); have n1_ := Aside0.mk (below_step (by repeat (first | (with_reducible first | exact HB.out | apply below_alloc | apply pw_below_drewN | apply below_drew1) | exact HB.out)) hb); clear HB; have HO105 := n0_; have HB := n1_; clear n0_ n1_; clear hb ho10; obtain ⟨Ao11, co11, eo11⟩ := Kd.R_slice HO105.out; subst eo11) | ((with_reducible refine gate_callee (f := 12) rfl ?_); refine goesL_ (some 6) rfl rfl Try.func12 (by kernel_rfl) rfl #[.slice Ao11 y103.length co11, .int .i64 5, .int .i64 1] rfl (by (try simp only [List.map_toArray, List.map_cons, List.map_nil]); first | done | rfl | (simp only [List.length_drop, List.length_take]; rfl)) ?_; (with_reducible refine (pos_Map.calls k _ _ y103 5 1 t106 t107 t108 t109 t110 _ ?side1 ?side2 A1.out).mono ?_); (case side1 => repeat (first | exact (Kd.R_reads' HO105.out).2.2 | (with_reducible refine Kd.C_alloc ?_ _) | (with_reducible refine Kd.C_drewN ?_ _) | (with_reducible refine Kd.C_drew ?_))); (case side2 => exact (Kd.R_reads' HO105.out).2.1); rintro e w12 ⟨rfl, hb⟩; refine ⟨_, rfl, ?_⟩; have n0_ := Aside0.mk (Kd.R_below (by (with_reducible repeat (first | apply Kd.R_alloc | apply Kd.R_drewN | apply Kd.R_drew)); exact HO105.out) hb); have n1_ := Aside0.mk (below_step (by repeat (first | (with_reducible first | exact HB.out | apply below_alloc | apply pw_below_drewN | apply below_drew1) | exact HB.out)) hb); clear HO105; clear HB; have HO105 := n0_; have HB := n1_; clear n0_ n1_; (try clear hb); (try clear hb2); (try clear hk); (try clear hi)) | ((with_reducible refine gate_dst (N := 1) rfl ?_); refine box_event ?hg (N := 1) ?hd (cs := #[.int .i64 0, .bool false, .int .i64 0, .int .i64 0]) (t := 24) ?hr ?_; (case hd => rfl); (case hg => rfl); (case hr => first | (go_simp; done) | (go_simp; rfl)); intro gb111 hg w13 hbox hb; have n0_ := Aside0.mk (Kd.R_below (by (with_reducible repeat (first | apply Kd.R_alloc | apply Kd.R_drewN | apply Kd.R_drew)); exact HO105.out) hb); have n1_ := Aside0.mk (below_step (by repeat (first | (with_reducible first | exact HB.out | apply below_alloc | apply pw_below_drewN | apply below_drew1) | exact HB.out)) hb); have n2_ := Aside0.mk (hbox); have n3_ := Aside0.mk ((by rw [hg]; exact (below_size (by repeat (first | (with_reducible first | exact HB.out | apply below_alloc | apply pw_below_drewN | apply below_drew1) | exact HB.out))) : w.heap.size ≤ gb111)); have n4_ := Aside0.mk ((by rw [hg]; exact (below_size (by repeat (first | (with_reducible first | exact HB.out | apply below_alloc | apply pw_below_drewN | apply below_drew1) | exact HB.out))) : w.heap.size ≤ gb111)); clear HO105; clear HB; have HO105 := n0_; have HB := n1_; have BK111 := n2_; have GW111 := n3_; have GE111 := n4_; clear n0_ n1_ n2_ n3_ n4_; clear hb hbox hg; have hcz14_0 : w13.cell? ⟨gb111, 0, none⟩ = some (.int .i64 0) := (blk_cell BK111.out 0).trans rfl; have hcz14_1 : w13.cell? ⟨gb111, 1, none⟩ = some (.bool false) := (blk_cell BK111.out 1).trans rfl; have hcz14_2 : w13.cell? ⟨gb111, 2, none⟩ = some (.int .i64 0) := (blk_cell BK111.out 2).trans rfl; have hcz14_3 : w13.cell? ⟨gb111, 3, none⟩ = some (.int .i64 0) := (blk_cell BK111.out 3).trans rfl; have hfz14_0 := blk_frozen BK111.out 0; have hfz14_1 := blk_frozen BK111.out 1; have hfz14_2 := blk_frozen BK111.out 2; have hfz14_3 := blk_frozen BK111.out 3))
    go_ret
    exact ⟨by first | rfl | (simp [errW_none, errW_some] <;> rfl) | (simp [*, errW_none, errW_some] <;> rfl), by repeat (first | (with_reducible first | exact HB.out | apply below_alloc | apply pw_below_drewN | apply below_drew1 | refine below_set ?_ GE111.out) | exact HB.out)⟩

/-! ### pos_New: function 22 -/

/-! ### pos_Mapping_none: function 33 -/
/-! ### A mapping: what it holds -/
structure MapOne where
  m : List S37
  mirror : Int
def kOne : Kd MapOne := Kd.iso (Kd.pair (Kd.slice 37 k37) (Kd.int .i64)) (fun x : MapOne => (x.m, x.mirror))
theorem kOne_open {w : World} {x : MapOne} {cs : List Value} (h : kOne.K w x cs) : ∃ A c, cs = [.slice A x.m.length c, .int .i64 x.mirror] ∧ x.m.length ≤ c ∧ k37.C w A x.m.length x.m := by
  obtain ⟨_, _, rfl, ⟨A, c, rfl, l1, g1⟩, rfl⟩ := h
  exact ⟨A, c, rfl, l1, g1⟩
theorem kOne_mkM (w : World) (base : Nat) (ok : Nat → Prop) (x : MapOne) {v : Value} (g : k37.R 37 w base ok v x.m) : kOne.M w base ok x [v, .int .i64 x.mirror] := ⟨[v], [.int .i64 x.mirror], rfl, ⟨v, rfl, g⟩, rfl⟩
theorem info76 : (Try.prog.info? 76).map (fun i => (i.zero, i.size, i.bytes)) = some (some (.agg #[.slice none 0 0, .int .i64 0]), 2, 32) := by kernel_rfl
def zOne : MapOne := ⟨[], 0⟩
def oneAt (l : List MapOne) (i : Int) : MapOne := l.getD i.toNat zOne
/-- A mapping at a place: its maps. -/
structure pos_M (B b : Nat) (l : List MapOne) (W : World) : Prop where
  ex : ∃ v, W.heap[b]? = some (.cells #[v, .bool true] 56 (0, 0)) ∧ Kd.R kOne 76 W B (fun _ => True) v l
  base : B ≤ b
theorem pos_M.below {B b : Nat} {l : List MapOne} {W W1 : World} (h : pos_M B b l W) (hb : Below W.heap.size W W1) : pos_M B b l W1 := by
  obtain ⟨⟨v, h1, h2⟩, h3⟩ := h
  exact ⟨⟨v, blk_below h1 hb, Kd.R_below h2 hb⟩, h3⟩
/-- Blocks that are neither mappings nor rows of maps stay. -/
def pos_Keep (w w' : World) : Prop := ∀ (g : Nat) (cs : Array Value) (t : TypeId), t ≠ 76 → t ≠ 56 → w.heap[g]? = some (.cells cs t (0, 0)) → w'.heap[g]? = some (.cells cs t (0, 0))
theorem pos_Keep.refl (w : World) : pos_Keep w w := fun _ _ _ _ _ h => h
theorem pos_Keep.of_below {w w' : World} (hb : Below w.heap.size w w') : pos_Keep w w' := fun _ _ _ _ _ h => blk_below h hb
theorem pos_Keep.trans {a b c : World} (h : pos_Keep a b) (k : pos_Keep b c) : pos_Keep a c := fun g cs t h1 h2 h3 => k g cs t h1 h2 (h g cs t h1 h2 h3)
theorem pos_Keep.set {w w' : World} (h : pos_Keep w w') {b q : Nat} {cs : Array Value} (hb : w'.heap[b]? = some (.cells cs q (0, 0))) (hq : q = 76 ∨ q = 56) (j : Nat) (u : Value) : pos_Keep w (w'.setCell ⟨b, j, none⟩ u) :=
  fun g cs t h1 h2 h3 => blk_far (h g cs t h1 h2 h3) (fun e => blk_ne hb (h g cs t h1 h2 h3) (fun e2 => hq.elim (fun z => h1 (by rw [← e2, z])) (fun z => h2 (by rw [← e2, z]))) e.symm) u
set_option maxRecDepth 100000 in
theorem pos_New.calls (w : World) : Calls Try.prog 22 #[] w fun e w' => ∃ b, e = .returned (.pointer (some ⟨b, 0, none⟩)) ∧ pos_M w.heap.size b [] w' ∧ Below w.heap.size w w' := by
  have hu56 := Try.underlying56
  have HB := Aside0.mk (Below.refl w.heap.size w)
  go_enter Try.func22, Try.ntmps22
  go_wp2_with (first | ((with_reducible refine gate_dst (N := 2) rfl ?_); refine box_event ?hg (N := 2) ?hd (cs := #[.slice none 0 0, .bool true]) (t := 56) ?hr ?_; (case hd => rfl); (case hg => rfl); (case hr => first | (go_simp; done) | (go_simp; rfl)); intro b hg w3 hbox hb; have n0_ := Aside0.mk (below_step HB.out hb); have HM := Aside0.mk (show pos_M w.heap.size b [] w3 from ⟨⟨_, hbox, Kd.R_nil _ _ _ _ _⟩, by rw [hg]; exact below_size HB.out⟩); clear hb hbox hg))
  go_ret
  exact ⟨_, rfl, HM.out, n0_.out⟩
theorem pos_none.calls (B b : Nat) (l : List MapOne) (w : World) (h : pos_M B b l w) : Calls Try.prog 33 #[.pointer (some ⟨b, 0, none⟩)] w fun e w' => e = .returned (.bool false) ∧ w' = w := by
  have hu56 := Try.underlying56
  obtain ⟨⟨v, h1, h2⟩, h3⟩ := h
  have hc : w.cell? ⟨b, 1, none⟩ = some (.bool true) := (blk_cell h1 1).trans rfl
  clear h1 h2 h3
  go_enter Try.func33, Try.ntmps33
  go_wp2
  go_ret
  exact ⟨rfl, rfl⟩
set_option maxRecDepth 100000 in
theorem pos_Len.calls (B b : Nat) (l : List MapOne) (w : World) (h : pos_M B b l w) : Calls Try.prog 26 #[.pointer (some ⟨b, 0, none⟩)] w fun e w' => e = .returned (.int .i64 (l.length : Int)) ∧ w' = w := by
  have hu56 := Try.underlying56
  have HM := Aside0.mk h
  obtain ⟨⟨v, h1, h2⟩, h3⟩ := h
  obtain ⟨A, c, rfl⟩ := Kd.R_slice h2
  have hc : w.cell? ⟨b, 0, none⟩ = some (.slice A l.length c) := (blk_cell h1 0).trans rfl
  clear h1 h2 h3
  go_enter Try.func26, Try.ntmps26
  go_wp2_with ((with_reducible refine gate_callee (f := 33) rfl ?_); refine goesL_ (some 4) rfl rfl Try.func33 (by kernel_rfl) rfl #[.pointer (some ⟨b, 0, none⟩)] rfl (by (try simp only [List.map_toArray, List.map_cons, List.map_nil]); first | done | rfl) ?_; refine (pos_none.calls B b l w HM.out).mono ?_; rintro e w1 ⟨rfl, rfl⟩; refine ⟨_, rfl, ?_⟩)
  go_ret
  exact ⟨rfl, rfl⟩

/-! ### pos_Mapping_Add: function 23 -/

def pos_Add.T6 : Bool × List (List Nat × List Nat) := (true, [([], []), ([], []), ([1], [1]), ([2], [2]), ([3], [3]), ([], []), ([5], [5]), ([6], [6]), ([7], [7]), ([4, 8, 6], [4, 8]), ([0, 0, 1, 2, 3, 4, 5, 6, 7, 8, 9], [0]), ([10, 0, 1, 2, 3, 4, 5, 6, 7, 8, 9], [10]), ([11, 9, 9, 0, 1, 2, 3, 4, 5, 6, 7, 8, 9], [9, 11])])
def pos_Add.B6 : List Nat := [0, 0, 2, 6, 14, 0, 32, 96, 224, 510, 1023, 2047, 4095]
theorem pos_Add.tab6 : rtab .any (opsOf Try.f23 6) = pos_Add.T6 := by kernel_rfl
theorem pos_Add.bits6 : waitsOk pos_Add.T6.2 pos_Add.B6 = true := by kernel_rfl
def pos_Add.ok (q : Bool) (l : List MapOne) : Bool := q && decide (l.length < 4096)
def pos_Add.e (q : Bool) (l : List MapOne) : Int := if pos_Add.ok q l = true then 0 else 4
def pos_Add.l (q : Bool) (l : List MapOne) (r : List S37) : List MapOne := if pos_Add.ok q l = true then l ++ [⟨r, -1⟩] else l
def pos_Add.St (B b : Nat) (q : Bool) (l : List MapOne) (r : List S37) (w0 w' : World) : Prop := pos_M B b (pos_Add.l q l r) w' ∧ Below B w0 w'
set_option maxHeartbeats 8000000 in
set_option maxRecDepth 100000 in
theorem pos_Add.calls (k B b : Nat) (l : List MapOne) (A0 : Option Addr) (c0 : Nat) (r : List S37) (q : Bool) (w0 w : World) (h : pos_M B b l w) (hB : Below B w0 w) (hBw : B ≤ w.heap.size) (hr : Kd.C k37 w A0 r.length r) (hc : r.length ≤ c0) (hsz : q = true → r.length * 24 ≤ 140737488351232) (hq : pos_Right.f k r = some q) :
    Calls Try.prog 23 #[.pointer (some ⟨b, 0, none⟩), .slice A0 r.length c0] w fun e w' => e = .returned (.int .i64 (pos_Add.e q l)) ∧ pos_Add.St B b q l r w0 w' ∧ pos_Keep w w' := by
  have hu56 := Try.underlying56
  have hu76 := Try.underlying76
  have HM := Aside0.mk h
  have HBL := Aside0.mk hB
  have HBW := Aside0.mk hBw
  have HR := Aside0.mk hr
  have HC := Aside0.mk hc
  have HSZ := Aside0.mk hsz
  have HQ := Aside0.mk hq
  clear h hB hBw hr hc hsz hq
  go_enter Try.func23, Try.ntmps23
  go_wp2_with ((with_reducible refine gate_callee (f := 33) rfl ?_); refine goesL_ (some 7) rfl rfl Try.func33 (by kernel_rfl) rfl #[.pointer (some ⟨b, 0, none⟩)] rfl (by (try simp only [List.map_toArray, List.map_cons, List.map_nil]); first | done | rfl) ?_; refine (pos_none.calls B b l _ HM.out).mono ?_; rintro e w1 ⟨rfl, hw1⟩; subst w1; refine ⟨_, rfl, ?_⟩)
  cases q with
  | false =>
    go_wp2_with fail
    refine (pos_Right.calls k A0 c0 r false _ HR.out HC.out HQ.out).mono ?_
    rintro e w1 ⟨rfl, hb⟩
    have HB1 := Aside0.mk hb
    clear hb
    go_wp2
    go_ret
    exact ⟨rfl, ⟨HM.out.below HB1.out, HBL.out.trans (HB1.out.mono HBW.out)⟩, pos_Keep.of_below HB1.out⟩
  | true =>
    go_wp2_with fail
    refine (pos_Right.calls k A0 c0 r true _ HR.out HC.out HQ.out).mono ?_
    rintro e w1 ⟨rfl, hb⟩
    have HB1 := Aside0.mk hb
    have HM1 := Aside0.mk (HM.out.below hb)
    have HR1 := Aside0.mk (Kd.C_below HR.out hb)
    have HBL1 := Aside0.mk (HBL.out.trans (hb.mono HBW.out))
    have HBW1 := Aside0.mk (Nat.le_trans HBW.out hb.size)
    have HK1 := Aside0.mk (pos_Keep.of_below hb)
    clear hb HM HR HBL HBW HQ HB1
    have hm := HM1.out
    obtain ⟨⟨v, h1, h2⟩, h3⟩ := hm
    obtain ⟨A, c, hv⟩ := Kd.R_slice h2
    subst hv
    have s0 : w1.cell? ⟨b, 0, none⟩ = some (.slice A l.length c) := (blk_cell h1 0).trans rfl
    have HBO := Aside0.mk h1
    have HRO := Aside0.mk h2
    have HBB := Aside0.mk h3
    clear h1 h2 h3
    by_cases hl : l.length < 4096
    · have hl1 : decide ((l.length : Int) ≥ 4096) = false := decide_eq_false (by omega)
      have hl2 : decide ((4096 : Int) ≤ (l.length : Int)) = false := decide_eq_false (by omega)
      have E1 : pos_Add.e true l = 0 := by unfold pos_Add.e pos_Add.ok; rw [if_pos (by simpa using hl)]
      have E2 : pos_Add.l true l r = l ++ [⟨r, -1⟩] := by unfold pos_Add.l pos_Add.ok; rw [if_pos (by simpa using hl)]
      have HL := Aside0.mk hl
      have HE := Aside0.mk (And.intro E1 E2)
      clear hl E1 E2
      go_wp2
      refine start_ (n := 13) (S := fun w' => w'.cell? ⟨b, 0, none⟩ = some (.slice A l.length c) ∧ True) (ds := [9, 12]) #[false, false, false, false, false, false, false, false, false, false, false, false, false] (by kernel_rfl) rfl rfl ⟨s0, trivial⟩ (fun hHeld => ?_)
      refine with_tabW pos_Add.tab6 pos_Add.bits6 (fun HT_ HW_ => ?_)
      have BO := Aside0.mk (blk_drew HBO.out)
      have RO := Aside0.mk (Kd.R_drew HRO.out)
      have RC := Aside0.mk (Kd.C_drew HR1.out)
      have BL := Aside0.mk (show Below B w0 w1.drew from Below.drew HBL1.out)
      have BS := Aside0.mk (show B ≤ w1.drew.heap.size from HBW1.out)
      have HK := Aside0.mk (show pos_Keep w w1.drew from HK1.out.trans fun g cs t _ _ h => blk_drew h)
      clear HK1 HBO HRO HBL1 HBW1 HM1 HR1 s0
      generalize w1.drew = w13 at BO RO RC BL BS HK hHeld ⊢
      refine pure_ (i := 0) (N := some 18) (v := ?_) (a' := ?_) #[true, false, false, false, false, false, false, false, false, false, false, false, false] rfl rfl (any_of HT_.out (by kernel_rfl)) (fun _ _ _ h => h) (Or.inl ⟨by rfl, ?_⟩) ?_ ?_
      rotate_left
      · intro w'
        go_simp
        with_reducible rfl
      rotate_left
      · simp only [Act.put, List.setIfInBounds_toArray, List.set_cons_zero, List.set_cons_succ, i64_w, i32_w]
        rfl
      refine pure_ (i := 1) (N := some 19) (v := ?_) (a' := ?_) #[true, true, false, false, false, false, false, false, false, false, false, false, false] rfl rfl (any_of HT_.out (by kernel_rfl)) (fun _ _ _ h => h) (Or.inl ⟨by rfl, ?_⟩) ?_ ?_
      rotate_left
      · intro w'
        go_simp
        with_reducible rfl
      rotate_left
      · simp only [Act.put, List.setIfInBounds_toArray, List.set_cons_zero, List.set_cons_succ, i64_w, i32_w]
        rfl
      refine pure_ (i := 2) (N := some 20) (v := ?_) (a' := ?_) #[true, true, true, false, false, false, false, false, false, false, false, false, false] rfl rfl (any_of HT_.out (by kernel_rfl)) (fun _ _ _ h => h) (Or.inl ⟨by rfl, ?_⟩) ?_ ?_
      rotate_left
      · intro w'
        go_simp
        with_reducible rfl
      rotate_left
      · simp only [Act.put, List.setIfInBounds_toArray, List.set_cons_zero, List.set_cons_succ, i64_w, i32_w]
        rfl
      refine pure_ (i := 3) (N := some 21) (v := ?_) (a' := ?_) #[true, true, true, true, false, false, false, false, false, false, false, false, false] rfl rfl (any_of HT_.out (by kernel_rfl)) (fun _ _ _ h => h) (Or.inl ⟨by rfl, ?_⟩) ?_ ?_
      rotate_left
      · intro w'
        go_simp
        with_reducible rfl
      rotate_left
      · simp only [Act.put, List.setIfInBounds_toArray, List.set_cons_zero, List.set_cons_succ, i64_w, i32_w]
        rfl
      refine take_ (i := 4) (N := some 22) (v := ?_) (a' := ?_) #[true, true, true, true, true, false, false, false, false, false, false, false, false] rfl rfl (take_ofW HT_.out HW_.out (by kernel_rfl)) (fun _ _ _ h => h) (Or.inl ⟨by rfl, ?_⟩) hHeld ?_ ?_
      rotate_left
      · rintro w' ⟨s0, s1⟩
        go_simp
        with_reducible rfl
      rotate_left
      · simp only [Act.put, List.setIfInBounds_toArray, List.set_cons_zero, List.set_cons_succ, i64_w, i32_w]
        rfl
      refine pure_ (i := 5) (N := some 23) (v := ?_) (a' := ?_) #[true, true, true, true, true, true, false, false, false, false, false, false, false] rfl rfl (any_of HT_.out (by kernel_rfl)) (fun _ _ _ h => h) (Or.inl ⟨by rfl, ?_⟩) ?_ ?_
      rotate_left
      · intro w'
        go_simp
        with_reducible rfl
      rotate_left
      · simp only [Act.put, List.setIfInBounds_toArray, List.set_cons_zero, List.set_cons_succ, i64_w, i32_w]
        rfl
      refine one_ (i := 6) (N := some 24) #[true, true, true, true, true, true, true, false, false, false, false, false, false] rfl rfl (one_of HT_.out (by kernel_rfl)) (by decide) (fun K hK => ?_)
      refine Kd.R_append_rows_step k37 (w0 := w0) B (by rfl) (.const (.slice none 0 0)) (.tmp 23) 22 37 (.agg #[.int .i64 0, .int .i64 0, .int .i64 0]) 24 rfl Try.underlying22 info37 rfl (by decide) (by decide) (.slice none 0 0) [] r A0 r.length c0 (fun k => w13.heap.size ≤ k) (fun _ => False) rfl rfl (Kd.R_nil _ _ _ _ _) RC.out (fun _ _ h => h) (fun _ h => h.elim) (fun _ h => h) BL.out BS.out (by have := HSZ.out (by trivial); simp only [List.length_nil]; omega) ?_
      intro v1 w8 ho hb hg hat
      rw [List.nil_append] at ho
      obtain ⟨A8, c8, hv8⟩ := Kd.R_slice ho
      obtain ⟨n8, hn8⟩ : ∃ n, n = r.length := ⟨_, rfl⟩
      rw [← hn8] at hv8
      subst hv8
      have V8 := Aside0.mk ho
      have B8 := Aside0.mk hb
      have O8 := Aside0.mk (blk_grown BO.out hg (by simp [Value.ownBlock]))
      have RO8 := Aside0.mk (Kd.R_grown RO.out hg (fun k _ => by simp [Value.ownBlock]))
      have S8 := Aside0.mk (Nat.le_trans BS.out hg.size)
      have hs8 : w8.cell? ⟨b, 0, none⟩ = some (.slice A l.length c) := (blk_cell O8.out 0).trans rfl
      have OK8 := Aside0.mk (fun j => Kd.R_ne_new RO.out j)
      have K8 := Aside0.mk (show pos_Keep w w8 from HK.out.trans fun g cs t h1 h2 h => blk_grown h hg (by simp [Value.ownBlock]))
      clear ho hb hg hat hn8
      refine hK.out _ _ ⟨hs8, trivial⟩ (fun hHeld => ?_)
      clear hK K
      refine norm_ (a' := ?_) ?_ ?_
      rotate_left
      · show Act.put _ (some 24) _ = _
        simp only [Act.put, List.setIfInBounds_toArray, List.set_cons_zero, List.set_cons_succ, i64_w, i32_w]
        rfl
      refine pure_ (i := 7) (N := some 25) (v := ?_) (a' := ?_) #[true, true, true, true, true, true, true, true, false, false, false, false, false] rfl rfl (any_of HT_.out (by kernel_rfl)) (fun _ _ _ h => h) (Or.inl ⟨by rfl, ?_⟩) ?_ ?_
      rotate_left
      · intro w'
        go_simp
        with_reducible rfl
      rotate_left
      · simp only [Act.put, List.setIfInBounds_toArray, List.set_cons_zero, List.set_cons_succ, i64_w, i32_w]
        rfl
      refine one_ (i := 8) (N := some 26) #[true, true, true, true, true, true, true, true, true, false, false, false, false] rfl rfl (one_of HT_.out (by kernel_rfl)) (by decide) (fun K hK => ?_)
      refine value_ (w1 := ?_) (v := ?_) (by rfl) rfl ?_ ?_
      rotate_left 2
      · go_simp
        constructor
        · rfl
        · rfl
      refine hK.out _ _ ⟨cell_grown (World.grownBy_alloc w8 (.cells #[.slice A8 n8 c8, .int .i64 (-1)] 76 (0, 0)) none) hHeld.1 (by simp), trivial⟩ (fun hHeld => ?_)
      clear hK K
      refine norm_ (a' := ?_) ?_ ?_
      rotate_left
      · show Act.put _ (some 26) _ = _
        simp only [Act.put, List.setIfInBounds_toArray, List.set_cons_zero, List.set_cons_succ, i64_w, i32_w]
        rfl
      refine last_ (i := 9) (N := some 27) #[true, true, true, true, true, true, true, true, true, true, false, false, false] rfl rfl (one_of HT_.out (by kernel_rfl)) (by decide) (fun K hK => ?_)
      refine Kd.R_append_step kOne (w0 := w0) B (by rfl) (.tmp 22) (.tmp 26) 54 76 (.agg #[.slice none 0 0, .int .i64 0]) 32 rfl Try.underlying54 info76 rfl (by decide) (by omega) (.slice A l.length c) l (⟨r, -1⟩ : MapOne) [.slice A8 n8 c8, .int .i64 (-1)] (fun _ => True) (fun k => w13.heap.size ≤ k) rfl rfl (kOne_mkM w8 B _ ⟨r, -1⟩ V8.out) (fun k hk => ⟨trivial, by obtain ⟨j, rfl⟩ : ∃ j, k = w13.heap.size + j := ⟨k - w13.heap.size, by omega⟩; exact OK8.out j⟩) (fun _ _ => trivial) RO8.out B8.out S8.out (by have := HL.out; omega) ?_
      intro v2 w9 hR1 hb9 hg1 hat1
      obtain ⟨A9, c9, hv9⟩ := Kd.R_slice hR1
      obtain ⟨n9, hn9⟩ : ∃ n, n = (l ++ [(⟨r, -1⟩ : MapOne)]).length := ⟨_, rfl⟩
      rw [← hn9] at hv9
      subst hv9
      have R9 := Aside0.mk hR1
      have B9 := Aside0.mk hb9
      have O9 := Aside0.mk (blk_grown O8.out hg1 (Kd.R_ne RO8.out O8.out (by decide)))
      have K9 := Aside0.mk (show pos_Keep w w9 from K8.out.trans fun g cs t h1 h2 h => blk_grown h hg1 (Kd.R_ne RO8.out h (fun e => h1 e.symm)))
      clear hR1 hb9 hg1 hat1 hn9
      have hco : w9.cell? ⟨b, 0, none⟩ = some (.slice A l.length c) := (blk_cell O9.out 0).trans rfl
      have hfo := blk_frozen O9.out 0
      refine hK.out _ _ ?_
      clear hK K
      refine norm_ (a' := ?_) ?_ ?_
      rotate_left
      · show Act.put _ (some 27) _ = _
        simp only [Act.put, List.setIfInBounds_toArray, List.set_cons_zero, List.set_cons_succ, i64_w, i32_w]
        rfl
      refine pure_ (i := 10) (N := some 28) (v := ?_) (a' := ?_) #[true, true, true, true, true, true, true, true, true, true, true, false, false] rfl rfl (any_of HT_.out (by kernel_rfl)) (fun _ _ _ h => h) (Or.inl ⟨by rfl, ?_⟩) ?_ ?_
      rotate_left
      · intro w'
        go_simp
        with_reducible rfl
      rotate_left
      · simp only [Act.put, List.setIfInBounds_toArray, List.set_cons_zero, List.set_cons_succ, i64_w, i32_w]
        rfl
      refine pure_ (i := 11) (N := some 29) (v := ?_) (a' := ?_) #[true, true, true, true, true, true, true, true, true, true, true, true, false] rfl rfl (any_of HT_.out (by kernel_rfl)) (fun _ _ _ h => h) (Or.inl ⟨by rfl, ?_⟩) ?_ ?_
      rotate_left
      · intro w'
        go_simp
        with_reducible rfl
      rotate_left
      · simp only [Act.put, List.setIfInBounds_toArray, List.set_cons_zero, List.set_cons_succ, i64_w, i32_w]
        rfl
      refine last_ (i := 12) (N := none) #[true, true, true, true, true, true, true, true, true, true, true, true, true] rfl rfl (one_of HT_.out (by kernel_rfl)) (by decide) (fun K hK => ?_)
      refine skip_ (w1 := ?_) (by rfl) rfl ?_ ?_
      rotate_left
      · go_simp
        rfl
      refine hK.out _ _ ?_
      clear hK K
      refine done_ (done_of HT_.out (by kernel_rfl)) ?_
      go_wp2
      go_ret
      refine ⟨by rw [HE.out.1]; rfl, ⟨?_, B9.out.setCell HBB.out _⟩, K9.out.set O9.out (.inr rfl) 0 _⟩
      rw [HE.out.2]
      exact ⟨⟨_, (blk_set O9.out 0 _).trans rfl, Kd.R_set R9.out O9.out (by decide) 0 _⟩, HBB.out⟩
    · have hl1 : decide ((l.length : Int) ≥ 4096) = true := decide_eq_true (by omega)
      have hl2 : decide ((4096 : Int) ≤ (l.length : Int)) = true := decide_eq_true (by omega)
      have E1 : pos_Add.e true l = 4 := by unfold pos_Add.e pos_Add.ok; rw [if_neg (by simpa using hl)]
      have E2 : pos_Add.l true l r = l := by unfold pos_Add.l pos_Add.ok; rw [if_neg (by simpa using hl)]
      have HL := Aside0.mk hl
      have HE := Aside0.mk (And.intro E1 E2)
      clear hl E1 E2
      go_wp2
      go_ret
      refine ⟨by rw [HE.out.1]; rfl, ⟨?_, HBL1.out⟩, HK1.out⟩
      rw [HE.out.2]
      exact HM1.out

end Go.Proofs.Ytcoolajjjnkfpaa.PPd
