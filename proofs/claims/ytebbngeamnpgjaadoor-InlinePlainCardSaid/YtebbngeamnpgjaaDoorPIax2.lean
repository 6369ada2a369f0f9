-- Written for this claim by a program (the kit's print, with hand-made contracts for what it does not take).
import Derived.Test.YtebbngeamnpgjaaDoorPIax0
namespace Go.Proofs.YtebbngeamnpgjaaDoor.PIa
open Go.RowKit Go.Proofs.YtebbngeamnpgjaaDoorW.PrintWords Go.Proofs.YtebbngeamnpgjaaDoorW.PrintLast Go.Proofs.YtebbngeamnpgjaaDoorW.PrintMore
attribute [local go_sem] max2_int min2_int max_two min_two max_three min_three max_four min_four   -- for this text's walks alone
set_option linter.unusedVariables false
set_option linter.unusedSimpArgs false

/-! ### inline_line_put: function 22 -/

/-- A line that is read: its tokens, the set, what it was ahead of code. -/
structure inline_L (B b : Nat) (out : List S36) (set old : Int) (W : World) : Prop where
  ex : ∃ v, W.heap[b]? = some (.cells #[v, .int .i64 set, .int .i64 old] 46 (0, 0)) ∧ Kd.R k36 36 W B (fun _ => True) v out
  base : B ≤ b
/-- Blocks that are neither lines nor rows of tokens stay. -/
def inline_Keep (w w' : World) : Prop := ∀ (g : Nat) (cs : Array Value) (t : TypeId), t ≠ 36 → t ≠ 46 → w.heap[g]? = some (.cells cs t (0, 0)) → w'.heap[g]? = some (.cells cs t (0, 0))
theorem inline_Keep.refl (w : World) : inline_Keep w w := fun _ _ _ _ _ h => h
theorem inline_Keep.trans {a b c : World} (h : inline_Keep a b) (k : inline_Keep b c) : inline_Keep a c := fun g cs t h1 h2 h3 => k g cs t h1 h2 (h g cs t h1 h2 h3)
theorem inline_Keep.set {w w' : World} (h : inline_Keep w w') {b : Nat} {cs : Array Value} (hb : w'.heap[b]? = some (.cells cs 46 (0, 0))) (j : Nat) (u : Value) : inline_Keep w (w'.setCell ⟨b, j, none⟩ u) :=
  fun g cs t h1 h2 h3 => blk_far (h g cs t h1 h2 h3) (fun e => blk_ne hb (h g cs t h1 h2 h3) (fun e2 => h2 e2.symm) e.symm) u
theorem inline_L.set {B b : Nat} {out : List S36} {set old : Int} {W : World} (h : inline_L B b out set old W) (x : Int) : inline_L B b out x old (W.setCell ⟨b, 1, none⟩ (.int .i64 x)) := by
  obtain ⟨⟨v, h1, h2⟩, h3⟩ := h
  exact ⟨⟨v, (blk_set h1 1 _).trans rfl, Kd.R_set h2 h1 (by decide) 1 _⟩, h3⟩
theorem inline_L.sold {B b : Nat} {out : List S36} {set old : Int} {W : World} (h : inline_L B b out set old W) (x : Int) : inline_L B b out set x (W.setCell ⟨b, 2, none⟩ (.int .i64 x)) := by
  obtain ⟨⟨v, h1, h2⟩, h3⟩ := h
  exact ⟨⟨v, (blk_set h1 2 _).trans rfl, Kd.R_set h2 h1 (by decide) 2 _⟩, h3⟩
theorem inline_L.cells {B b : Nat} {out : List S36} {set old : Int} {W : World} (h : inline_L B b out set old W) : W.cell? ⟨b, 1, none⟩ = some (.int .i64 set) ∧ W.cell? ⟨b, 2, none⟩ = some (.int .i64 old) ∧ W.frozen? ⟨b, 1, none⟩ = false ∧ W.frozen? ⟨b, 2, none⟩ = false := by
  obtain ⟨⟨v, h1, h2⟩, h3⟩ := h
  exact ⟨(blk_cell h1 1).trans rfl, (blk_cell h1 2).trans rfl, blk_frozen h1 1, blk_frozen h1 2⟩
theorem inline_L.keepset {B b : Nat} {out : List S36} {set old : Int} {w W : World} (h : inline_L B b out set old W) (hk : inline_Keep w W) (j : Nat) (u : Value) : inline_Keep w (W.setCell ⟨b, j, none⟩ u) := by
  obtain ⟨⟨v, h1, h2⟩, h3⟩ := h
  exact hk.set h1 j u
def inline_put.T0 : Bool × List (List Nat × List Nat) := (true, [([], []), ([], []), ([1], [1]), ([2], [2]), ([3], [3]), ([], []), ([5], [5]), ([], []), ([7], [7]), ([8], [8]), ([9], [9]), ([6, 10], [6, 10]), ([11], [11]), ([4, 12], [4, 12]), ([0, 0, 1, 2, 3, 4, 5, 6, 7, 8, 9, 10, 11, 12, 13], [0]), ([14, 0, 1, 2, 3, 4, 5, 6, 7, 8, 9, 10, 11, 12, 13], [14]), ([15, 13, 13, 0, 1, 2, 3, 4, 5, 6, 7, 8, 9, 10, 11, 12, 13], [13, 15])])
def inline_put.B0 : List Nat := [0, 0, 2, 6, 14, 0, 32, 0, 128, 384, 896, 2016, 4064, 8190, 16383, 32767, 65535]
theorem inline_put.tab0 : rtab .any (opsOf Tryd.f22 0) = inline_put.T0 := by kernel_rfl
theorem inline_put.bits0 : waitsOk inline_put.T0.2 inline_put.B0 = true := by kernel_rfl
set_option maxHeartbeats 8000000 in
set_option maxRecDepth 100000 in
theorem inline_put.calls (B b : Nat) (out : List S36) (set old : Int) (c : Int) (hc0 : 0 ≤ c) (hc1 : c ≤ 2147483647) (w0 w : World) (h : inline_L B b out set old w) (hB : Below B w0 w) (hBw : B ≤ w.heap.size) (hlen : out.length ≤ 100000) :
    Calls Tryd.prog 22 #[.pointer (some ⟨b, 0, none⟩), .int .i32 c] w fun e w' => e = .returned (.tuple #[]) ∧ inline_L B b (out ++ [⟨0, 0, c, set⟩]) set old w' ∧ Below B w0 w' ∧ inline_Keep w w' := by
  obtain ⟨⟨vo, hbo_, hro_⟩, hbase⟩ := h
  have HL := Aside0.mk hlen
  have hw1 : wrap64 c = c := by unfold wrap64; omega
  have hw2 : IntKind.i64.wrap c = c := (i64_w _).trans hw1
  have s0 : w.cell? ⟨b, 0, none⟩ = some vo := (blk_cell hbo_ 0).trans rfl
  have s1 : w.cell? ⟨b, 1, none⟩ = some (.int .i64 set) := (blk_cell hbo_ 1).trans rfl
  have HBB := Aside0.mk hbase
  have HBL := Aside0.mk hB
  have HBW := Aside0.mk hBw
  have HBO := Aside0.mk hbo_
  have HRO := Aside0.mk hro_
  have HC := Aside0.mk (And.intro hc0 hc1)
  clear hlen hbase hB hBw hbo_ hro_ hw1
  go_enter Tryd.func22, Tryd.ntmps22
  go_wp2
  refine start_ (n := 17) (S := fun w' => w'.cell? ⟨b, 0, none⟩ = some vo ∧ w'.cell? ⟨b, 1, none⟩ = some (.int .i64 set)) (ds := [13, 16]) #[false, false, false, false, false, false, false, false, false, false, false, false, false, false, false, false, false] (by kernel_rfl) rfl rfl ⟨s0, s1⟩ (fun hHeld => ?_)
  refine with_tabW inline_put.tab0 inline_put.bits0 (fun HT_ HW_ => ?_)
  have BO := Aside0.mk (blk_drew HBO.out)
  have RO := Aside0.mk (Kd.R_drew HRO.out)
  have BL := Aside0.mk (show Below B w0 w.drew from Below.drew HBL.out)
  have BS := Aside0.mk (show B ≤ w.drew.heap.size from HBW.out)
  have HK := Aside0.mk (show inline_Keep w w.drew from fun g cs t _ _ h => blk_drew h)
  clear HBO HRO HBL HBW s0 s1
  generalize w.drew = w13 at BO RO BL BS HK hHeld ⊢
  refine pure_ (i := 0) (N := some 4) (v := ?_) (a' := ?_) #[true, false, false, false, false, false, false, false, false, false, false, false, false, false, false, false, false] rfl rfl (any_of HT_.out (by kernel_rfl)) (fun _ _ _ h => h) (Or.inl ⟨by rfl, ?_⟩) ?_ ?_
  rotate_left
  · intro w'
    go_simp
    with_reducible rfl
  rotate_left
  · simp only [Act.put, List.setIfInBounds_toArray, List.set_cons_zero, List.set_cons_succ, i64_w, i32_w]
    rfl
  refine pure_ (i := 1) (N := some 5) (v := ?_) (a' := ?_) #[true, true, false, false, false, false, false, false, false, false, false, false, false, false, false, false, false] rfl rfl (any_of HT_.out (by kernel_rfl)) (fun _ _ _ h => h) (Or.inl ⟨by rfl, ?_⟩) ?_ ?_
  rotate_left
  · intro w'
    go_simp
    with_reducible rfl
  rotate_left
  · simp only [Act.put, List.setIfInBounds_toArray, List.set_cons_zero, List.set_cons_succ, i64_w, i32_w]
    rfl
  refine pure_ (i := 2) (N := some 6) (v := ?_) (a' := ?_) #[true, true, true, false, false, false, false, false, false, false, false, false, false, false, false, false, false] rfl rfl (any_of HT_.out (by kernel_rfl)) (fun _ _ _ h => h) (Or.inl ⟨by rfl, ?_⟩) ?_ ?_
  rotate_left
  · intro w'
    go_simp
    with_reducible rfl
  rotate_left
  · simp only [Act.put, List.setIfInBounds_toArray, List.set_cons_zero, List.set_cons_succ, i64_w, i32_w]
    rfl
  refine pure_ (i := 3) (N := some 7) (v := ?_) (a' := ?_) #[true, true, true, true, false, false, false, false, false, false, false, false, false, false, false, false, false] rfl rfl (any_of HT_.out (by kernel_rfl)) (fun _ _ _ h => h) (Or.inl ⟨by rfl, ?_⟩) ?_ ?_
  rotate_left
  · intro w'
    go_simp
    with_reducible rfl
  rotate_left
  · simp only [Act.put, List.setIfInBounds_toArray, List.set_cons_zero, List.set_cons_succ, i64_w, i32_w]
    rfl
  refine take_ (i := 4) (N := some 8) (v := ?_) (a' := ?_) #[true, true, true, true, true, false, false, false, false, false, false, false, false, false, false, false, false] rfl rfl (take_ofW HT_.out HW_.out (by kernel_rfl)) (fun _ _ _ h => h) (Or.inl ⟨by rfl, ?_⟩) hHeld ?_ ?_
  rotate_left
  · rintro w' ⟨s0, s1⟩
    go_simp
    with_reducible rfl
  rotate_left
  · simp only [Act.put, List.setIfInBounds_toArray, List.set_cons_zero, List.set_cons_succ, i64_w, i32_w]
    rfl
  refine pure_ (i := 5) (N := some 9) (v := ?_) (a' := ?_) #[true, true, true, true, true, true, false, false, false, false, false, false, false, false, false, false, false] rfl rfl (any_of HT_.out (by kernel_rfl)) (fun _ _ _ h => h) (Or.inl ⟨by rfl, ?_⟩) ?_ ?_
  rotate_left
  · intro w'
    go_simp
    with_reducible rfl
  rotate_left
  · simp only [Act.put, List.setIfInBounds_toArray, List.set_cons_zero, List.set_cons_succ, i64_w, i32_w]
    rfl
  refine pure_ (i := 6) (N := some 10) (v := ?_) (a' := ?_) #[true, true, true, true, true, true, true, false, false, false, false, false, false, false, false, false, false] rfl rfl (any_of HT_.out (by kernel_rfl)) (fun _ _ _ h => h) (Or.inl ⟨by rfl, ?_⟩) ?_ ?_
  rotate_left
  · intro w'
    go_simp
    with_reducible rfl
  rotate_left
  · simp only [Act.put, List.setIfInBounds_toArray, List.set_cons_zero, List.set_cons_succ, i64_w, i32_w]
    rfl
  refine pure_ (i := 7) (N := some 11) (v := ?_) (a' := ?_) #[true, true, true, true, true, true, true, true, false, false, false, false, false, false, false, false, false] rfl rfl (any_of HT_.out (by kernel_rfl)) (fun _ _ _ h => h) (Or.inl ⟨by rfl, ?_⟩) ?_ ?_
  rotate_left
  · intro w'
    go_simp
    with_reducible rfl
  rotate_left
  · simp only [Act.put, List.setIfInBounds_toArray, List.set_cons_zero, List.set_cons_succ, i64_w, i32_w]
    rfl
  refine pure_ (i := 8) (N := some 12) (v := ?_) (a' := ?_) #[true, true, true, true, true, true, true, true, true, false, false, false, false, false, false, false, false] rfl rfl (any_of HT_.out (by kernel_rfl)) (fun _ _ _ h => h) (Or.inl ⟨by rfl, ?_⟩) ?_ ?_
  rotate_left
  · intro w'
    go_simp
    with_reducible rfl
  rotate_left
  · simp only [Act.put, List.setIfInBounds_toArray, List.set_cons_zero, List.set_cons_succ, i64_w, i32_w]
    rfl
  refine pure_ (i := 9) (N := some 13) (v := ?_) (a' := ?_) #[true, true, true, true, true, true, true, true, true, true, false, false, false, false, false, false, false] rfl rfl (any_of HT_.out (by kernel_rfl)) (fun _ _ _ h => h) (Or.inl ⟨by rfl, ?_⟩) ?_ ?_
  rotate_left
  · intro w'
    go_simp
    with_reducible rfl
  rotate_left
  · simp only [Act.put, List.setIfInBounds_toArray, List.set_cons_zero, List.set_cons_succ, i64_w, i32_w]
    rfl
  refine take_ (i := 10) (N := some 14) (v := ?_) (a' := ?_) #[true, true, true, true, true, true, true, true, true, true, true, false, false, false, false, false, false] rfl rfl (take_ofW HT_.out HW_.out (by kernel_rfl)) (fun _ _ _ h => h) (Or.inl ⟨by rfl, ?_⟩) hHeld ?_ ?_
  rotate_left
  · rintro w' ⟨s0, s1⟩
    go_simp
    with_reducible rfl
  rotate_left
  · simp only [Act.put, List.setIfInBounds_toArray, List.set_cons_zero, List.set_cons_succ, i64_w, i32_w]
    rfl
  refine pure_ (i := 11) (N := some 15) (v := ?_) (a' := ?_) #[true, true, true, true, true, true, true, true, true, true, true, true, false, false, false, false, false] rfl rfl (any_of HT_.out (by kernel_rfl)) (fun _ _ _ h => h) (Or.inl ⟨by rfl, ?_⟩) ?_ ?_
  rotate_left
  · intro w'
    go_simp
    with_reducible rfl
  rotate_left
  · simp only [Act.put, List.setIfInBounds_toArray, List.set_cons_zero, List.set_cons_succ, i64_w, i32_w]
    rfl
  refine one_ (i := 12) (N := some 16) #[true, true, true, true, true, true, true, true, true, true, true, true, true, false, false, false, false] rfl rfl (one_of HT_.out (by kernel_rfl)) (by decide) (fun K hK => ?_)
  refine value_ (w1 := ?_) (v := ?_) (by rfl) rfl ?_ ?_
  rotate_left 2
  · go_simp
    constructor
    · rfl
    · rfl
  refine hK.out _ _ ⟨cell_grown (World.grownBy_alloc w13 (.cells #[.int .i64 0, .int .i64 0, .int .i64 c, .int .i64 set] 36 (0, 0)) none) hHeld.1 (by simp), cell_grown (World.grownBy_alloc w13 (.cells #[.int .i64 0, .int .i64 0, .int .i64 c, .int .i64 set] 36 (0, 0)) none) hHeld.2 (by simp)⟩ (fun hHeld => ?_)
  clear hK K
  refine norm_ (a' := ?_) ?_ ?_
  rotate_left
  · show Act.put _ (some 16) _ = _
    simp only [Act.put, List.setIfInBounds_toArray, List.set_cons_zero, List.set_cons_succ, i64_w, i32_w]
    rfl
  refine last_ (i := 13) (N := some 17) #[true, true, true, true, true, true, true, true, true, true, true, true, true, true, false, false, false] rfl rfl (one_of HT_.out (by kernel_rfl)) (by decide) (fun K hK => ?_)
  refine Kd.R_append_step k36 (w0 := w0) B (by rfl) (.tmp 8) (.tmp 16) 22 36 (.agg #[.int .i64 0, .int .i64 0, .int .i64 0, .int .i64 0]) 32 rfl Tryd.underlying22 info36 rfl (by decide) (by omega) vo out (⟨0, 0, c, set⟩ : S36) [.int .i64 0, .int .i64 0, .int .i64 c, .int .i64 set] (fun _ => True) (fun _ => False) rfl rfl (k36_mkM _ _ _ _) (fun _ hk => hk.elim) (fun _ _ => trivial) RO.out BL.out BS.out (by have := HL.out; omega) ?_
  intro v1 w8 hR1 hb8 hg1 hat1
  obtain ⟨av_, cv_, hv1_⟩ := Kd.R_slice hR1
  obtain ⟨nv_, hnv_⟩ : ∃ n, n = (out ++ [(⟨0, 0, c, set⟩ : S36)]).length := ⟨_, rfl⟩
  rw [← hnv_] at hv1_
  subst hv1_
  have R8 := Aside0.mk hR1
  have B8 := Aside0.mk hb8
  have O8 := Aside0.mk (blk_grown BO.out hg1 (Kd.R_ne RO.out BO.out (by decide)))
  have K8 := Aside0.mk (show inline_Keep w w8 from HK.out.trans fun g cs t h1 h2 hg => blk_grown hg hg1 (Kd.R_ne RO.out hg (fun e => h1 (e.symm))))
  clear hR1 hb8 hg1 hat1 hnv_
  have hco : w8.cell? ⟨b, 0, none⟩ = some vo := (blk_cell O8.out 0).trans rfl
  have hfo := blk_frozen O8.out 0
  refine hK.out _ _ ?_
  clear hK K
  refine norm_ (a' := ?_) ?_ ?_
  rotate_left
  · show Act.put _ (some 17) _ = _
    simp only [Act.put, List.setIfInBounds_toArray, List.set_cons_zero, List.set_cons_succ, i64_w, i32_w]
    rfl
  refine pure_ (i := 14) (N := some 18) (v := ?_) (a' := ?_) #[true, true, true, true, true, true, true, true, true, true, true, true, true, true, true, false, false] rfl rfl (any_of HT_.out (by kernel_rfl)) (fun _ _ _ h => h) (Or.inl ⟨by rfl, ?_⟩) ?_ ?_
  rotate_left
  · intro w'
    go_simp
    with_reducible rfl
  rotate_left
  · simp only [Act.put, List.setIfInBounds_toArray, List.set_cons_zero, List.set_cons_succ, i64_w, i32_w]
    rfl
  refine pure_ (i := 15) (N := some 19) (v := ?_) (a' := ?_) #[true, true, true, true, true, true, true, true, true, true, true, true, true, true, true, true, false] rfl rfl (any_of HT_.out (by kernel_rfl)) (fun _ _ _ h => h) (Or.inl ⟨by rfl, ?_⟩) ?_ ?_
  rotate_left
  · intro w'
    go_simp
    with_reducible rfl
  rotate_left
  · simp only [Act.put, List.setIfInBounds_toArray, List.set_cons_zero, List.set_cons_succ, i64_w, i32_w]
    rfl
  refine last_ (i := 16) (N := none) #[true, true, true, true, true, true, true, true, true, true, true, true, true, true, true, true, true] rfl rfl (one_of HT_.out (by kernel_rfl)) (by decide) (fun K hK => ?_)
  refine skip_ (w1 := ?_) (by rfl) rfl ?_ ?_
  rotate_left
  · go_simp
    rfl
  refine hK.out _ _ ?_
  clear hK K
  refine done_ (done_of HT_.out (by kernel_rfl)) ?_
  go_wp2
  go_end0
  refine ⟨rfl, ⟨⟨_, (blk_set O8.out 0 _).trans rfl, Kd.R_set R8.out O8.out (by decide) 0 _⟩, HBB.out⟩, B8.out.setCell HBB.out _, K8.out.set O8.out 0 _⟩

/-! ### inline_line_take: function 15 -/

def inline_take.x (s m : Int) : Int := Go.bits .xor .i64 s m
/-- A code point is taken: was the next one taken, too; what is put; the set, what it was ahead of code. -/
def inline_take.step (c next set old : Int) : Bool × List S36 × Int × Int :=
  if c = 92 then (true, if next ≥ 0 then [⟨0, 0, next, set⟩] else [], set, old)
  else if c = 96 then (if set = 4 then (false, [], old, old) else (false, [], 4, set))
  else if set = 4 then (false, [⟨0, 0, c, set⟩], set, old)
  else if c = 42 ∧ next = 42 then (true, [], inline_take.x set 1, old)
  else if c = 95 then (false, [], inline_take.x set 2, old)
  else (false, [⟨0, 0, c, set⟩], set, old)
structure inline_take.St (B b : Nat) (out : List S36) (r : Bool × List S36 × Int × Int) (w0 w w' : World) : Prop where
  line : inline_L B b (out ++ r.2.1) r.2.2.1 r.2.2.2 w'
  below : Below B w0 w'
  keep : inline_Keep w w'
set_option maxHeartbeats 8000000 in
set_option maxRecDepth 100000 in
theorem inline_take.calls (B b : Nat) (out : List S36) (set old : Int) (c next : Int) (hc0 : 0 ≤ c) (hc1 : c ≤ 1114111) (hn0 : -1 ≤ next) (hn1 : next ≤ 1114111) (w0 w : World) (h : inline_L B b out set old w) (hB : Below B w0 w) (hBw : B ≤ w.heap.size) (hlen : out.length ≤ 100000) :
    Calls Tryd.prog 15 #[.pointer (some ⟨b, 0, none⟩), .int .i32 c, .int .i32 next] w fun e w' => e = .returned (.bool (inline_take.step c next set old).1) ∧ inline_take.St B b out (inline_take.step c next set old) w0 w w' := by
  obtain ⟨d1, d2, f1, f2⟩ := h.cells
  have HC := Aside0.mk (And.intro hc0 hc1)
  have HN := Aside0.mk (And.intro hn0 hn1)
  have HL := Aside0.mk hlen
  have HBB := Aside0.mk h.base
  have H := Aside0.mk h
  have HB := Aside0.mk hB
  have HBW := Aside0.mk hBw
  have fin : ∀ (x y : Int) (W : World), inline_L B b out x y W → Below B w0 W → inline_Keep w W → ∀ q, inline_take.St B b out (q, [], x, y) w0 w W := fun x y W h1 h2 h3 q => ⟨by rw [List.append_nil]; exact h1, h2, h3⟩
  have FIN := Aside0.mk fin
  clear hc0 hc1 hn0 hn1 hlen h hB hBw fin
  by_cases c1 : c = 92
  · have c1b : (c == 92) = true := beq_iff_eq.mpr c1
    by_cases c2 : next ≥ 0
    · have E := Aside0.mk (show inline_take.step c next set old = (true, [⟨0, 0, next, set⟩], set, old) from by unfold inline_take.step; rw [if_pos c1, if_pos c2])
      have c2b : decide (0 ≤ next) = true := decide_eq_true c2
      have C2 := Aside0.mk c2
      rw [E.out]
      clear c1 c2 E
      go_enter Tryd.func15, Tryd.ntmps15
      go_wp2_with fail
      refine (inline_put.calls B b out set old next C2.out (by have := HN.out; omega) w0 _ H.out HB.out HBW.out HL.out).mono ?_
      rintro e w1 ⟨rfl, h1, h2, h3⟩
      have S := Aside0.mk (show inline_take.St B b out (true, [⟨0, 0, next, set⟩], set, old) w0 w w1 from ⟨h1, h2, h3⟩)
      clear h1 h2 h3 d1 d2 f1 f2
      go_wp2
      go_ret
      exact ⟨rfl, S.out⟩
    · have E := Aside0.mk (show inline_take.step c next set old = (true, [], set, old) from by unfold inline_take.step; rw [if_pos c1, if_neg c2])
      have c2b : decide (0 ≤ next) = false := decide_eq_false c2
      rw [E.out]
      clear c1 c2 E
      go_enter Tryd.func15, Tryd.ntmps15
      go_wp2
      go_ret
      exact ⟨rfl, FIN.out _ _ _ H.out HB.out (inline_Keep.refl _) _⟩
  · have c1b : (c == 92) = false := beq_eq_false_iff_ne.mpr c1
    by_cases c3 : c = 96
    · have c3b : (c == 96) = true := beq_iff_eq.mpr c3
      by_cases c4 : set = 4
      · have c4b : (set == 4) = true := beq_iff_eq.mpr c4
        have E := Aside0.mk (show inline_take.step c next set old = (false, [], old, old) from by unfold inline_take.step; rw [if_neg c1, if_pos c3, if_pos c4])
        rw [E.out]
        clear c1 c3 c4 E
        go_enter Tryd.func15, Tryd.ntmps15
        go_wp2
        go_ret
        exact ⟨rfl, FIN.out _ _ _ (H.out.set old) (HB.out.setCell HBB.out _) (H.out.keepset (inline_Keep.refl _) _ _) _⟩
      · have c4b : (set == 4) = false := beq_eq_false_iff_ne.mpr c4
        have E := Aside0.mk (show inline_take.step c next set old = (false, [], 4, set) from by unfold inline_take.step; rw [if_neg c1, if_pos c3, if_neg c4])
        rw [E.out]
        clear c1 c3 c4 E
        go_enter Tryd.func15, Tryd.ntmps15
        go_wp2
        go_ret
        exact ⟨rfl, FIN.out _ _ _ ((H.out.sold set).set 4) ((HB.out.setCell HBB.out _).setCell HBB.out _) ((H.out.sold set).keepset (H.out.keepset (inline_Keep.refl _) _ _) _ _) _⟩
    · have c3b : (c == 96) = false := beq_eq_false_iff_ne.mpr c3
      by_cases c4 : set = 4
      · have c4b : (set == 4) = true := beq_iff_eq.mpr c4
        have E := Aside0.mk (show inline_take.step c next set old = (false, [⟨0, 0, c, set⟩], set, old) from by unfold inline_take.step; rw [if_neg c1, if_neg c3, if_pos c4])
        rw [E.out]
        clear c1 c3 c4 E
        go_enter Tryd.func15, Tryd.ntmps15
        go_wp2_with fail
        refine (inline_put.calls B b out set old c HC.out.1 (by have := HC.out; omega) w0 _ H.out HB.out HBW.out HL.out).mono ?_
        rintro e w1 ⟨rfl, h1, h2, h3⟩
        have S := Aside0.mk (show inline_take.St B b out (false, [⟨0, 0, c, set⟩], set, old) w0 w w1 from ⟨h1, h2, h3⟩)
        clear h1 h2 h3 d1 d2 f1 f2
        go_wp2
        go_ret
        exact ⟨rfl, S.out⟩
      · have c4b : (set == 4) = false := beq_eq_false_iff_ne.mpr c4
        by_cases c5 : c = 42 ∧ next = 42
        · have c5b : (c == 42) = true := beq_iff_eq.mpr c5.1
          have c5c : (next == 42) = true := beq_iff_eq.mpr c5.2
          have E := Aside0.mk (show inline_take.step c next set old = (true, [], inline_take.x set 1, old) from by unfold inline_take.step; rw [if_neg c1, if_neg c3, if_neg c4, if_pos c5])
          rw [E.out]
          clear c1 c3 c4 c5 E
          go_enter Tryd.func15, Tryd.ntmps15
          go_wp2
          go_ret
          exact ⟨rfl, FIN.out _ _ _ (H.out.set (inline_take.x set 1)) (HB.out.setCell HBB.out _) (H.out.keepset (inline_Keep.refl _) _ _) _⟩
        · by_cases c6 : c = 95
          · have c6b : (c == 95) = true := beq_iff_eq.mpr c6
            have c5b : (c == 42) = false := beq_eq_false_iff_ne.mpr (by omega)
            have E := Aside0.mk (show inline_take.step c next set old = (false, [], inline_take.x set 2, old) from by unfold inline_take.step; rw [if_neg c1, if_neg c3, if_neg c4, if_neg c5, if_pos c6])
            rw [E.out]
            clear c1 c3 c4 c5 c6 E
            go_enter Tryd.func15, Tryd.ntmps15
            go_wp2
            go_ret
            exact ⟨rfl, FIN.out _ _ _ (H.out.set (inline_take.x set 2)) (HB.out.setCell HBB.out _) (H.out.keepset (inline_Keep.refl _) _ _) _⟩
          · have c6b : (c == 95) = false := beq_eq_false_iff_ne.mpr c6
            have E := Aside0.mk (show inline_take.step c next set old = (false, [⟨0, 0, c, set⟩], set, old) from by unfold inline_take.step; rw [if_neg c1, if_neg c3, if_neg c4, if_neg c5, if_neg c6])
            rw [E.out]
            by_cases c7 : c = 42
            · have c7b : (c == 42) = true := beq_iff_eq.mpr c7
              have c7c : (next == 42) = false := beq_eq_false_iff_ne.mpr (fun e => c5 ⟨c7, e⟩)
              clear c1 c3 c4 c5 c6 c7 E
              go_enter Tryd.func15, Tryd.ntmps15
              go_wp2_with fail
              refine (inline_put.calls B b out set old c HC.out.1 (by have := HC.out; omega) w0 _ H.out HB.out HBW.out HL.out).mono ?_
              rintro e w1 ⟨rfl, h1, h2, h3⟩
              have S := Aside0.mk (show inline_take.St B b out (false, [⟨0, 0, c, set⟩], set, old) w0 w w1 from ⟨h1, h2, h3⟩)
              clear h1 h2 h3 d1 d2 f1 f2
              go_wp2
              go_ret
              exact ⟨rfl, S.out⟩
            · have c7b : (c == 42) = false := beq_eq_false_iff_ne.mpr c7
              clear c1 c3 c4 c5 c6 c7 E
              go_enter Tryd.func15, Tryd.ntmps15
              go_wp2_with fail
              refine (inline_put.calls B b out set old c HC.out.1 (by have := HC.out; omega) w0 _ H.out HB.out HBW.out HL.out).mono ?_
              rintro e w1 ⟨rfl, h1, h2, h3⟩
              have S := Aside0.mk (show inline_take.St B b out (false, [⟨0, 0, c, set⟩], set, old) w0 w w1 from ⟨h1, h2, h3⟩)
              clear h1 h2 h3 d1 d2 f1 f2
              go_wp2
              go_ret
              exact ⟨rfl, S.out⟩

end Go.Proofs.YtebbngeamnpgjaaDoor.PIa
