-- Written for this claim by a program (the kit's print, with hand-made contracts for what it does not take).
import Derived.Test.YtcoolajjjnkfpaaPPzx0
namespace Go.Proofs.Ytcoolajjjnkfpaa.PPz
open Go.RowKit Go.Proofs.YtcoolajjjnkfpaaW.PrintWords Go.Proofs.YtcoolajjjnkfpaaW.PrintLast Go.Proofs.YtcoolajjjnkfpaaW.PrintMore
attribute [local go_sem] max2_int min2_int max_two min_two max_three min_three max_four min_four   -- for this text's walks alone
set_option linter.unusedVariables false
set_option linter.unusedSimpArgs false

/-! ### emenderlaw08_PosZero: function 9 -/
/-! ### A mapping that nobody made -/
/-- No mapping, or one whose cells are zero. -/
def emenderlaw08_PosZero.Z (w : World) (v : Value) : Prop := v = .pointer none ∨ ∃ g : Nat, v = .pointer (some ⟨g, 0, none⟩) ∧ w.heap[g]? = some (.cells #[.slice none 0 0, .bool false] 56 (0, 0))
theorem emenderlaw08_PosZero.isNil (v : Value) (w : World) (hz : emenderlaw08_PosZero.Z w v) : Calls Try.prog 33 #[v] w fun e w' => e = .returned (.bool true) ∧ Below w.heap.size w w' := by
  have hu56 := Try.underlying56
  rcases hz with rfl | ⟨g, rfl, hg⟩
  · go_enter Try.func33, Try.ntmps33
    go_wp2
    go_ret
    exact ⟨rfl, Below.refl _ _⟩
  · have hc : w.cell? ⟨g, 1, none⟩ = some (.bool false) := (blk_cell hg 1).trans rfl
    clear hg
    go_enter Try.func33, Try.ntmps33
    go_wp2
    go_ret
    exact ⟨rfl, Below.refl _ _⟩
theorem emenderlaw08_PosZero.len (v : Value) (w : World) (hz : emenderlaw08_PosZero.Z w v) : Calls Try.prog 26 #[v] w fun e w' => e = .returned (.int .i64 0) ∧ Below w.heap.size w w' := by
  have H := Aside0.mk (emenderlaw08_PosZero.isNil v w hz)
  clear hz
  go_enter Try.func26, Try.ntmps26
  go_wp2_with ((with_reducible refine gate_callee (f := 33) rfl ?_); refine goesL_ (some 4) rfl rfl Try.func33 (by kernel_rfl) rfl #[v] rfl (by (try simp only [List.map_toArray, List.map_cons, List.map_nil]); first | done | rfl) ?_; refine H.out.mono ?_; rintro e w1 ⟨rfl, hb⟩; refine ⟨_, rfl, ?_⟩)
  go_ret
  exact ⟨rfl, hb⟩
theorem emenderlaw08_PosZero.add (v s : Value) (w : World) (hz : emenderlaw08_PosZero.Z w v) : Calls Try.prog 23 #[v, s] w fun e w' => e = .returned (.int .i64 7) ∧ Below w.heap.size w w' := by
  have H := Aside0.mk (emenderlaw08_PosZero.isNil v w hz)
  clear hz
  go_enter Try.func23, Try.ntmps23
  go_wp2_with ((with_reducible refine gate_callee (f := 33) rfl ?_); refine goesL_ (some 7) rfl rfl Try.func33 (by kernel_rfl) rfl #[v] rfl (by (try simp only [List.map_toArray, List.map_cons, List.map_nil]); first | done | rfl) ?_; refine H.out.mono ?_; rintro e w1 ⟨rfl, hb⟩; refine ⟨_, rfl, ?_⟩)
  go_ret
  exact ⟨rfl, hb⟩
theorem emenderlaw08_PosZero.mirror (v : Value) (i j : Int) (w : World) (hz : emenderlaw08_PosZero.Z w v) : Calls Try.prog 25 #[v, .int .i64 i, .int .i64 j] w fun e w' => e = .returned (.int .i64 7) ∧ Below w.heap.size w w' := by
  have H := Aside0.mk (emenderlaw08_PosZero.isNil v w hz)
  clear hz
  go_enter Try.func25, Try.ntmps25
  go_wp2_with ((with_reducible refine gate_callee (f := 33) rfl ?_); refine goesL_ (some 9) rfl rfl Try.func33 (by kernel_rfl) rfl #[v] rfl (by (try simp only [List.map_toArray, List.map_cons, List.map_nil]); first | done | rfl) ?_; refine H.out.mono ?_; rintro e w1 ⟨rfl, hb⟩; refine ⟨_, rfl, ?_⟩)
  go_ret
  exact ⟨rfl, hb⟩
theorem emenderlaw08_PosZero.Z_below {w w' : World} {v : Value} (h : emenderlaw08_PosZero.Z w v) (hb : Below w.heap.size w w') : emenderlaw08_PosZero.Z w' v := by
  rcases h with h | ⟨g, h, hg⟩
  · exact .inl h
  · exact .inr ⟨g, h, blk_below hg hb⟩
theorem emenderlaw08_PosZero.res {tmps : Array Value} {W : World} {g : Nat} {v0 v1 v2 v3 e : Value} (p8 : tmps.getD 8 undef = .pointer (some ⟨g, 0, none⟩)) (p9 : tmps.getD 9 undef = e) (h3 : W.heap[g]? = some (.cells #[v0, v1, v2, v3] 24 (0, 0))) :
    (results Try.f24 tmps).run Try.prog W = .ok (.tuple #[.agg #[v0, v1, v2, v3], e]) W := by
  have h1 : tmps[8]?.getD undef = .pointer (some ⟨g, 0, none⟩) := by simpa using p8
  have h2 : tmps[9]?.getD undef = e := by simpa using p9
  have hc0 : W.cell? ⟨g, 0, none⟩ = some v0 := (blk_cell h3 0).trans rfl
  have hc1 : W.cell? ⟨g, 1, none⟩ = some v1 := (blk_cell h3 1).trans rfl
  have hc2 : W.cell? ⟨g, 2, none⟩ = some v2 := (blk_cell h3 2).trans rfl
  have hc3 : W.cell? ⟨g, 3, none⟩ = some v3 := (blk_cell h3 3).trans rfl
  have hr : Try.f24.results = #[.cell 8 24, .tmp 9] := rfl
  simp [results, hr, h1, h2, asAddr, go_sem, hc0, hc1, hc2, hc3]
set_option maxRecDepth 100000 in
theorem emenderlaw08_PosZero.map (v : Value) (i p s : Int) (w : World) (hz : emenderlaw08_PosZero.Z w v) : Calls Try.prog 24 #[v, .int .i64 i, .int .i64 p, .int .i64 s] w fun e w' => e = .returned (.tuple #[.agg #[.int .i64 0, .bool false, .int .i64 0, .int .i64 0], .int .i64 7]) ∧ Below w.heap.size w w' := by
  have hu24 := Try.underlying24
  have hB0 : Below w.heap.size w (w.alloc (.cells #[.int .i64 0, .bool false, .int .i64 0, .int .i64 0] 24)) := below_alloc (Below.refl _ _) _
  have hz' := emenderlaw08_PosZero.Z_below hz hB0
  have H := Aside0.mk (emenderlaw08_PosZero.isNil v _ hz')
  have HB0 := Aside0.mk hB0
  clear hz hz' hB0
  go_enter Try.func24, Try.ntmps24
  go_wp2_with ((with_reducible refine gate_callee (f := 33) rfl ?_); refine goesL_ (some 17) rfl rfl Try.func33 (by kernel_rfl) rfl #[v] rfl (by (try simp only [List.map_toArray, List.map_cons, List.map_nil]); first | done | rfl) ?_; refine H.out.mono ?_; rintro e w1 ⟨rfl, hb⟩; refine ⟨_, rfl, ?_⟩; have z3 : w1.heap[w.heap.size]? = some (.cells #[.int .i64 0, .bool false, .int .i64 0, .int .i64 0] 24 (0, 0)) := blk_below (blk_new _ _) hb; have hc0 : w1.cell? ⟨w.heap.size, 0, none⟩ = some (.int .i64 0) := (blk_cell z3 0).trans rfl; have hc1 : w1.cell? ⟨w.heap.size, 1, none⟩ = some (.bool false) := (blk_cell z3 1).trans rfl; have hc2 : w1.cell? ⟨w.heap.size, 2, none⟩ = some (.int .i64 0) := (blk_cell z3 2).trans rfl; have hc3 : w1.cell? ⟨w.heap.size, 3, none⟩ = some (.int .i64 0) := (blk_cell z3 3).trans rfl; have hf0 := blk_frozen z3 0; have hf1 := blk_frozen z3 1; have hf2 := blk_frozen z3 2; have hf3 := blk_frozen z3 3; have Z3 := Aside0.mk z3; have HB := Aside0.mk hb; clear z3 hb)
  have w0 := blk_put (blk_put (blk_put (blk_put Z3.out 0 (.int .i64 0) rfl) 1 (.bool false) rfl) 2 (.int .i64 0) rfl) 3 (.int .i64 0) rfl
  refine bodyPost_ret (emenderlaw08_PosZero.res rfl rfl w0) rfl ?_
  exact ⟨rfl, below_set (below_set (below_set (below_set (below_step HB0.out HB.out) (Nat.le_refl _)) (Nat.le_refl _)) (Nat.le_refl _)) (Nat.le_refl _)⟩
def emenderlaw08_PosZero.f (l0 : List S37) (a1 : Int) : Option Bool := some true
theorem emenderlaw08_PosZero.mono : ∀ a0 a1, LeO (emenderlaw08_PosZero.f a0 a1) (emenderlaw08_PosZero.f a0 a1) := fun _ _ => LeO.refl _
theorem emenderlaw08_PosZero.zn (w : World) : emenderlaw08_PosZero.Z w (.pointer none) := .inl rfl
set_option maxRecDepth 100000 in
set_option maxHeartbeats 4000000 in
theorem emenderlaw08_PosZero.calls (A0 : Option Addr) (c0 : Nat) (l0 : List S37) (a1 : Int) (r : Bool) (w : World) (hr0 : Kd.C k37 w A0 l0.length l0) (hc0 : l0.length ≤ c0) (h : emenderlaw08_PosZero.f l0 a1 = some r) :
    Calls Try.prog 9 #[.slice A0 l0.length c0, .int .i64 a1] w fun e w' => e = .returned (.bool r) ∧ Below w.heap.size w w' := by
  obtain rfl := Option.some.inj h
  clear h hr0 hc0
  have hu24 := Try.underlying24
  have hu56 := Try.underlying56
  have hZ1 : emenderlaw08_PosZero.Z (w.alloc (.cells #[.slice none 0 0, .bool false] 56)) (.pointer (some ⟨w.heap.size, 0, none⟩)) := .inr ⟨_, rfl, blk_new _ _⟩
  have Z1 := Aside0.mk hZ1
  have HB := Aside0.mk (Below.refl (w.alloc (.cells #[.slice none 0 0, .bool false] 56)).heap.size (w.alloc (.cells #[.slice none 0 0, .bool false] 56)))
  clear hZ1
  go_enter Try.func9, Try.ntmps9
  go_wp2_with (first
    | ((with_reducible refine gate_callee (f := 24) rfl ?_); refine goesL_ (some 15) rfl rfl Try.func24 (by kernel_rfl) rfl #[.pointer none, .int .i64 0, .int .i64 a1, .int .i64 1] rfl (by (try simp only [List.map_toArray, List.map_cons, List.map_nil]); first | done | rfl) ?_; refine (emenderlaw08_PosZero.map _ _ _ _ _ (emenderlaw08_PosZero.zn _)).mono ?_; rintro e w1 ⟨rfl, hb⟩; refine ⟨_, rfl, ?_⟩; have n0_ := Aside0.mk (below_step (by repeat (first | exact HB.out | apply below_alloc)) hb); clear hb HB; have HB := n0_; clear n0_)
    | ((with_reducible refine gate_callee (f := 24) rfl ?_); refine goesL_ (some 20) rfl rfl Try.func24 (by kernel_rfl) rfl #[Value.pointer (some ⟨w.heap.size, 0, none⟩), .int .i64 0, .int .i64 a1, .int .i64 1] rfl (by (try simp only [List.map_toArray, List.map_cons, List.map_nil]); first | done | rfl) ?_; refine (emenderlaw08_PosZero.map _ _ _ _ _ (emenderlaw08_PosZero.Z_below Z1.out (by repeat (first | exact HB.out | apply below_alloc)))).mono ?_; rintro e w1 ⟨rfl, hb⟩; refine ⟨_, rfl, ?_⟩; have n0_ := Aside0.mk (below_step (by repeat (first | exact HB.out | apply below_alloc)) hb); clear hb HB; have HB := n0_; clear n0_)
    | (go_at_call_of 23 (Value.pointer none); refine (emenderlaw08_PosZero.add _ _ _ (emenderlaw08_PosZero.zn _)).mono ?_; rintro e w1 ⟨rfl, hb⟩; have n0_ := Aside0.mk (below_step (by repeat (first | exact HB.out | apply below_alloc)) hb); clear hb HB; have HB := n0_; clear n0_)
    | (go_at_call_of 23 (Value.pointer (some ⟨w.heap.size, 0, none⟩)); refine (emenderlaw08_PosZero.add _ _ _ (emenderlaw08_PosZero.Z_below Z1.out (by repeat (first | exact HB.out | apply below_alloc)))).mono ?_; rintro e w1 ⟨rfl, hb⟩; have n0_ := Aside0.mk (below_step (by repeat (first | exact HB.out | apply below_alloc)) hb); clear hb HB; have HB := n0_; clear n0_)
    | (go_at_call_of 25 (Value.pointer none); refine (emenderlaw08_PosZero.mirror _ _ _ _ (emenderlaw08_PosZero.zn _)).mono ?_; rintro e w1 ⟨rfl, hb⟩; have n0_ := Aside0.mk (below_step (by repeat (first | exact HB.out | apply below_alloc)) hb); clear hb HB; have HB := n0_; clear n0_)
    | (go_at_call_of 25 (Value.pointer (some ⟨w.heap.size, 0, none⟩)); refine (emenderlaw08_PosZero.mirror _ _ _ _ (emenderlaw08_PosZero.Z_below Z1.out (by repeat (first | exact HB.out | apply below_alloc)))).mono ?_; rintro e w1 ⟨rfl, hb⟩; have n0_ := Aside0.mk (below_step (by repeat (first | exact HB.out | apply below_alloc)) hb); clear hb HB; have HB := n0_; clear n0_)
    | (go_at_call_of 26 (Value.pointer none); refine (emenderlaw08_PosZero.len _ _ (emenderlaw08_PosZero.zn _)).mono ?_; rintro e w1 ⟨rfl, hb⟩; have n0_ := Aside0.mk (below_step (by repeat (first | exact HB.out | apply below_alloc)) hb); clear hb HB; have HB := n0_; clear n0_)
    | (go_at_call_of 26 (Value.pointer (some ⟨w.heap.size, 0, none⟩)); refine (emenderlaw08_PosZero.len _ _ (emenderlaw08_PosZero.Z_below Z1.out (by repeat (first | exact HB.out | apply below_alloc)))).mono ?_; rintro e w1 ⟨rfl, hb⟩; have n0_ := Aside0.mk (below_step (by repeat (first | exact HB.out | apply below_alloc)) hb); clear hb HB; have HB := n0_; clear n0_))
  go_ret
  exact ⟨rfl, below_step (below_alloc (Below.refl _ _) _) (by repeat (first | exact HB.out | apply below_alloc))⟩

end Go.Proofs.Ytcoolajjjnkfpaa.PPz
