-- Written for this claim by a program (the kit's print, with hand-made contracts for what it does not take).
import Derived.Test.YtgafgkojbbndmaaPAzx0
namespace Go.Proofs.Ytgafgkojbbndmaa.PAz
open Go.RowKit Go.Proofs.YtgafgkojbbndmaaW.PrintWords Go.Proofs.YtgafgkojbbndmaaW.PrintLast Go.Proofs.YtgafgkojbbndmaaW.PrintMore
attribute [local go_sem] max2_int min2_int max_two min_two max_three min_three max_four min_four   -- for this text's walks alone
set_option linter.unusedVariables false
set_option linter.unusedSimpArgs false

/-! ### emenderlaw25_AnchorZero: function 6 -/
/-! ### A set that nobody made -/
/-- No set, or one whose cell is zero. -/
def emenderlaw25_AnchorZero.Z (w : World) (v : Value) : Prop := v = .pointer none ∨ ∃ g : Nat, v = .pointer (some ⟨g, 0, none⟩) ∧ w.heap[g]? = some (.cells #[.map none] 46 (0, 0))
theorem emenderlaw25_AnchorZero.isNil (v : Value) (w : World) (hz : emenderlaw25_AnchorZero.Z w v) : Calls Try.prog 20 #[v] w fun e w' => e = .returned (.bool true) ∧ Below w.heap.size w w' := by
  have hu46 := Try.underlying46
  have hq : ∀ (W : World), (binOp .eql 44 (.map none) (.map none)).run Try.prog W = .ok (.bool true) W := fun W => run_eql_map_nil W _ _ _ none Try.underlying44
  rcases hz with rfl | ⟨g, rfl, hg⟩
  · go_enter Try.func20, Try.ntmps20
    go_wp2
    go_ret
    exact ⟨rfl, Below.refl _ _⟩
  · have hc : w.cell? ⟨g, 0, none⟩ = some (.map none) := (blk_cell hg 0).trans rfl
    clear hg
    go_enter Try.func20, Try.ntmps20
    go_wp2
    go_ret
    exact ⟨rfl, Below.refl _ _⟩
theorem emenderlaw25_AnchorZero.list (v : Value) (w : World) (hz : emenderlaw25_AnchorZero.Z w v) : Calls Try.prog 12 #[v] w fun e w' => e = .returned (.slice none 0 0) ∧ Below w.heap.size w w' := by
  have H := Aside0.mk (emenderlaw25_AnchorZero.isNil v w hz)
  clear hz
  go_enter Try.func12, Try.ntmps12
  go_wp2_with ((with_reducible refine gate_callee (f := 20) rfl ?_); refine goesL_ (some 7) rfl rfl Try.func20 (by kernel_rfl) rfl #[v] rfl (by (try simp only [List.map_toArray, List.map_cons, List.map_nil]); first | done | rfl) ?_; refine H.out.mono ?_; rintro e w1 ⟨rfl, hb⟩; refine ⟨_, rfl, ?_⟩)
  go_ret
  exact ⟨rfl, hb⟩
theorem emenderlaw25_AnchorZero.add (v : Value) (i j k : Int) (w : World) (hz : emenderlaw25_AnchorZero.Z w v) : Calls Try.prog 9 #[v, .int .i64 i, .int .i64 j, .int .i64 k] w fun e w' => e = .returned (.int .i64 7) ∧ Below w.heap.size w w' := by
  have H := Aside0.mk (emenderlaw25_AnchorZero.isNil v w hz)
  clear hz
  go_enter Try.func9, Try.ntmps9
  go_wp2_with ((with_reducible refine gate_callee (f := 20) rfl ?_); refine goesL_ (some 13) rfl rfl Try.func20 (by kernel_rfl) rfl #[v] rfl (by (try simp only [List.map_toArray, List.map_cons, List.map_nil]); first | done | rfl) ?_; refine H.out.mono ?_; rintro e w1 ⟨rfl, hb⟩; refine ⟨_, rfl, ?_⟩)
  go_ret
  exact ⟨rfl, hb⟩
theorem emenderlaw25_AnchorZero.take (v : Value) (i : Int) (w : World) (hz : emenderlaw25_AnchorZero.Z w v) : Calls Try.prog 15 #[v, .int .i64 i] w fun e w' => e = .returned (.int .i64 7) ∧ Below w.heap.size w w' := by
  have H := Aside0.mk (emenderlaw25_AnchorZero.isNil v w hz)
  clear hz
  go_enter Try.func15, Try.ntmps15
  go_wp2_with ((with_reducible refine gate_callee (f := 20) rfl ?_); refine goesL_ (some 8) rfl rfl Try.func20 (by kernel_rfl) rfl #[v] rfl (by (try simp only [List.map_toArray, List.map_cons, List.map_nil]); first | done | rfl) ?_; refine H.out.mono ?_; rintro e w1 ⟨rfl, hb⟩; refine ⟨_, rfl, ?_⟩)
  go_ret
  exact ⟨rfl, hb⟩
theorem emenderlaw25_AnchorZero.send (v m : Value) (w : World) (hz : emenderlaw25_AnchorZero.Z w v) : Calls Try.prog 11 #[v, m] w fun e w' => e = .returned (.tuple #[.int .i64 0, .int .i64 7]) ∧ Below w.heap.size w w' := by
  have H := Aside0.mk (emenderlaw25_AnchorZero.isNil v w hz)
  clear hz
  go_enter Try.func11, Try.ntmps11
  go_wp2_with ((with_reducible refine gate_callee (f := 20) rfl ?_); refine goesL_ (some 16) rfl rfl Try.func20 (by kernel_rfl) rfl #[v] rfl (by (try simp only [List.map_toArray, List.map_cons, List.map_nil]); first | done | rfl) ?_; refine H.out.mono ?_; rintro e w1 ⟨rfl, hb⟩; refine ⟨_, rfl, ?_⟩)
  go_ret2
  exact ⟨rfl, hb⟩
theorem emenderlaw25_AnchorZero.Z_below {w w' : World} {v : Value} (h : emenderlaw25_AnchorZero.Z w v) (hb : Below w.heap.size w w') : emenderlaw25_AnchorZero.Z w' v := by
  rcases h with h | ⟨g, h, hg⟩
  · exact .inl h
  · exact .inr ⟨g, h, blk_below hg hb⟩
/-! The order of no numbers. -/
set_option maxRecDepth 100000 in
theorem emenderlaw25_AnchorZero.len64 (w : World) : Calls Try.prog 53 #[.int .u64 0] w fun e w' => e = .returned (.int .i64 0) ∧ Below w.heap.size w w' := by
  go_enter Try.func53, Try.ntmps53
  go_wp2
  go_ret
  exact ⟨by first | kernel_rfl | (simp [wrap64]; kernel_rfl), Below.refl _ _⟩
theorem emenderlaw25_AnchorZero.len0 (w : World) : Calls Try.prog 37 #[.int .u64 0] w fun e w' => e = .returned (.int .i64 0) ∧ Below w.heap.size w w' := by
  have H := Aside0.mk (emenderlaw25_AnchorZero.len64 w)
  go_enter Try.func37, Try.ntmps37
  go_wp2_with ((with_reducible refine gate_callee (f := 53) rfl ?_); refine goesL_ (some 7) rfl rfl Try.func53 (by kernel_rfl) rfl #[.int .u64 0] rfl (by (try simp only [List.map_toArray, List.map_cons, List.map_nil]); first | done | rfl) ?_; refine H.out.mono ?_; rintro e w1 ⟨rfl, hb⟩; refine ⟨_, rfl, ?_⟩)
  go_ret
  exact ⟨rfl, hb⟩
set_option maxRecDepth 100000 in
theorem emenderlaw25_AnchorZero.insertion (w : World) : Calls Try.prog 54 #[.slice none 0 0, .int .i64 0, .int .i64 0] w fun e w' => e = .returned (.tuple #[]) ∧ Below w.heap.size w w' := by
  go_enter Try.func54, Try.ntmps54
  go_wp2_with fail
  refine wp_loop_rounds 1 ?_
  rw [rounds_succ]
  go_wp2
  first | go_end0 | ((try simp only [Exit.inBlock, Exit.then]); refine bodyPost_ret (results_none rfl _ _ _) rfl ?_)
  exact ⟨rfl, Below.refl _ _⟩
set_option maxRecDepth 100000 in
theorem emenderlaw25_AnchorZero.pdq (n : Int) (w : World) : Calls Try.prog 39 #[.slice none 0 0, .int .i64 0, .int .i64 0, .int .i64 n] w fun e w' => e = .returned (.tuple #[]) ∧ Below w.heap.size w w' := by
  have H := Aside0.mk (emenderlaw25_AnchorZero.insertion w)
  go_enter Try.func39, Try.ntmps39
  go_wp2_with fail
  refine wp_loop_rounds 1 ?_
  rw [rounds_succ]
  go_wp2_with ((with_reducible refine gate_callee (f := 54) rfl ?_); refine goesL_ (some 27) rfl rfl Try.func54 (by kernel_rfl) rfl #[.slice none 0 0, .int .i64 0, .int .i64 0] rfl (by (try simp only [List.map_toArray, List.map_cons, List.map_nil]); first | done | rfl) ?_; refine H.out.mono ?_; rintro e w1 ⟨rfl, hb⟩; refine ⟨_, rfl, ?_⟩)
  first | go_end0 | ((try simp only [Exit.inBlock, Exit.then]); refine bodyPost_ret (results_none rfl _ _ _) rfl ?_)
  exact ⟨rfl, hb⟩
set_option maxRecDepth 100000 in
theorem emenderlaw25_AnchorZero.sort (w : World) : Calls Try.prog 27 #[.slice none 0 0] w fun e w' => e = .returned (.tuple #[]) ∧ Below w.heap.size w w' := by
  have HB := Aside0.mk (Below.refl w.heap.size w)
  go_enter Try.func27, Try.ntmps27
  go_wp2_with (first
    | ((with_reducible refine gate_callee (f := 37) rfl ?_); refine goesL_ (some 9) rfl rfl Try.func37 (by kernel_rfl) rfl #[.int .u64 0] rfl (by (try simp only [List.map_toArray, List.map_cons, List.map_nil]); first | done | rfl) ?_; refine (emenderlaw25_AnchorZero.len0 _).mono ?_; rintro e w1 ⟨rfl, hb⟩; refine ⟨_, rfl, ?_⟩; have n0_ := Aside0.mk (below_step HB.out hb); clear hb HB; have HB := n0_; clear n0_)
    | ((with_reducible refine gate_callee (f := 39) rfl ?_); refine goesL_ (some 10) rfl rfl Try.func39 (by kernel_rfl) rfl #[.slice none 0 0, .int .i64 0, .int .i64 0, .int .i64 0] rfl (by (try simp only [List.map_toArray, List.map_cons, List.map_nil]); first | done | rfl) ?_; refine (emenderlaw25_AnchorZero.pdq _ _).mono ?_; rintro e w1 ⟨rfl, hb⟩; refine ⟨_, rfl, ?_⟩; have n0_ := Aside0.mk (below_step HB.out hb); clear hb HB; have HB := n0_; clear n0_))
  first | go_end0 | ((try simp only [Exit.inBlock, Exit.then]); refine bodyPost_ret (results_none rfl _ _ _) rfl ?_)
  exact ⟨rfl, HB.out⟩
set_option maxRecDepth 100000 in
theorem emenderlaw25_AnchorZero.at_ (v : Value) (i : Int) (w : World) (hz : emenderlaw25_AnchorZero.Z w v) : Calls Try.prog 14 #[v, .int .i64 i] w fun e w' => e = .returned (.slice none 0 0) ∧ Below w.heap.size w w' := by
  have H := Aside0.mk (emenderlaw25_AnchorZero.list v w hz)
  clear hz
  go_enter Try.func14, Try.ntmps14
  go_wp2_with ((with_reducible refine gate_callee (f := 12) rfl ?_); refine goesL_ (some 9) rfl rfl Try.func12 (by kernel_rfl) rfl #[v] rfl (by (try simp only [List.map_toArray, List.map_cons, List.map_nil]); first | done | rfl) ?_; refine H.out.mono ?_; rintro e w1 ⟨rfl, hb⟩; refine ⟨_, rfl, ?_⟩)
  refine wp_loop_rounds 1 ?_
  rw [rounds_succ]
  have HB := Aside0.mk hb
  clear hb
  go_wp2_with ((with_reducible refine gate_callee (f := 27) rfl ?_); refine goesL_ (some 32) rfl rfl Try.func27 (by kernel_rfl) rfl #[.slice none 0 0] rfl (by (try simp only [List.map_toArray, List.map_cons, List.map_nil]); first | done | rfl) ?_; refine (emenderlaw25_AnchorZero.sort _).mono ?_; rintro e w2 ⟨rfl, hb2⟩; refine ⟨_, rfl, ?_⟩; have n0_ := Aside0.mk (below_step HB.out hb2); clear hb2 HB; have HB := n0_; clear n0_)
  go_ret
  exact ⟨rfl, HB.out⟩
set_option maxRecDepth 100000 in
theorem emenderlaw25_AnchorZero.spans (v : Value) (w : World) (hz : emenderlaw25_AnchorZero.Z w v) : Calls Try.prog 13 #[v] w fun e w' => e = .returned (.slice none 0 0) ∧ Below w.heap.size w w' := by
  have H := Aside0.mk (emenderlaw25_AnchorZero.list v w hz)
  clear hz
  go_enter Try.func13, Try.ntmps13
  go_wp2_with ((with_reducible refine gate_callee (f := 12) rfl ?_); refine goesL_ (some 8) rfl rfl Try.func12 (by kernel_rfl) rfl #[v] rfl (by (try simp only [List.map_toArray, List.map_cons, List.map_nil]); first | done | rfl) ?_; refine H.out.mono ?_; rintro e w1 ⟨rfl, hb⟩; refine ⟨_, rfl, ?_⟩)
  refine wp_loop_rounds 1 ?_
  rw [rounds_succ]
  go_wp2
  go_ret
  exact ⟨rfl, hb⟩
def emenderlaw25_AnchorZero.f (l0 : List S23) : Option Bool := some true
theorem emenderlaw25_AnchorZero.mono : ∀ a0, LeO (emenderlaw25_AnchorZero.f a0) (emenderlaw25_AnchorZero.f a0) := fun _ => LeO.refl _
theorem emenderlaw25_AnchorZero.zn (w : World) : emenderlaw25_AnchorZero.Z w (.pointer none) := .inl rfl
set_option maxRecDepth 100000 in
set_option maxHeartbeats 8000000 in
theorem emenderlaw25_AnchorZero.calls (A0 : Option Addr) (c0 : Nat) (l0 : List S23) (r : Bool) (w : World) (hr0 : Kd.C k23 w A0 l0.length l0) (hc0 : l0.length ≤ c0) (h : emenderlaw25_AnchorZero.f l0 = some r) :
    Calls Try.prog 6 #[.slice A0 l0.length c0] w fun e w' => e = .returned (.bool r) ∧ Below w.heap.size w w' := by
  obtain rfl := Option.some.inj h
  clear h hr0 hc0
  have hu46 := Try.underlying46
  have hZ1 : emenderlaw25_AnchorZero.Z (w.alloc (.cells #[.map none] 46)) (.pointer (some ⟨w.heap.size, 0, none⟩)) := .inr ⟨_, rfl, blk_new _ _⟩
  have Z1 := Aside0.mk hZ1
  have HB := Aside0.mk (Below.refl (w.alloc (.cells #[.map none] 46)).heap.size (w.alloc (.cells #[.map none] 46)))
  clear hZ1
  go_enter Try.func6, Try.ntmps6
  go_wp2_with (first
    | ((with_reducible refine gate_callee (f := 11) rfl ?_); refine goesL_ (some 13) rfl rfl Try.func11 (by kernel_rfl) rfl #[.pointer none, .slice A0 l0.length c0] rfl (by (try simp only [List.map_toArray, List.map_cons, List.map_nil]); first | done | rfl) ?_; refine (emenderlaw25_AnchorZero.send _ _ _ (emenderlaw25_AnchorZero.zn _)).mono ?_; rintro e w1 ⟨rfl, hb⟩; refine ⟨_, rfl, ?_⟩; have n0_ := Aside0.mk (below_step HB.out hb); clear hb HB; have HB := n0_; clear n0_)
    | ((with_reducible refine gate_callee (f := 11) rfl ?_); refine goesL_ (some 18) rfl rfl Try.func11 (by kernel_rfl) rfl #[Value.pointer (some ⟨w.heap.size, 0, none⟩), .slice A0 l0.length c0] rfl (by (try simp only [List.map_toArray, List.map_cons, List.map_nil]); first | done | rfl) ?_; refine (emenderlaw25_AnchorZero.send _ _ _ (emenderlaw25_AnchorZero.Z_below Z1.out HB.out)).mono ?_; rintro e w1 ⟨rfl, hb⟩; refine ⟨_, rfl, ?_⟩; have n0_ := Aside0.mk (below_step HB.out hb); clear hb HB; have HB := n0_; clear n0_)
    | (go_at_call_of 9 (Value.pointer none); refine (emenderlaw25_AnchorZero.add _ _ _ _ _ (emenderlaw25_AnchorZero.zn _)).mono ?_; rintro e w1 ⟨rfl, hb⟩; have n0_ := Aside0.mk (below_step HB.out hb); clear hb HB; have HB := n0_; clear n0_)
    | (go_at_call_of 15 (Value.pointer (some ⟨w.heap.size, 0, none⟩)); refine (emenderlaw25_AnchorZero.take _ _ _ (emenderlaw25_AnchorZero.Z_below Z1.out HB.out)).mono ?_; rintro e w1 ⟨rfl, hb⟩; have n0_ := Aside0.mk (below_step HB.out hb); clear hb HB; have HB := n0_; clear n0_)
    | (go_at_call_of 14 (Value.pointer none); refine (emenderlaw25_AnchorZero.at_ _ _ _ (emenderlaw25_AnchorZero.zn _)).mono ?_; rintro e w1 ⟨rfl, hb⟩; have n0_ := Aside0.mk (below_step HB.out hb); clear hb HB; have HB := n0_; clear n0_)
    | (go_at_call_of 12 (Value.pointer (some ⟨w.heap.size, 0, none⟩)); refine (emenderlaw25_AnchorZero.list _ _ (emenderlaw25_AnchorZero.Z_below Z1.out HB.out)).mono ?_; rintro e w1 ⟨rfl, hb⟩; have n0_ := Aside0.mk (below_step HB.out hb); clear hb HB; have HB := n0_; clear n0_)
    | (go_at_call_of 13 (Value.pointer none); refine (emenderlaw25_AnchorZero.spans _ _ (emenderlaw25_AnchorZero.zn _)).mono ?_; rintro e w1 ⟨rfl, hb⟩; have n0_ := Aside0.mk (below_step HB.out hb); clear hb HB; have HB := n0_; clear n0_))
  go_ret
  exact ⟨rfl, below_step (below_alloc (Below.refl _ _) _) HB.out⟩

end Go.Proofs.Ytgafgkojbbndmaa.PAz
