-- Written for this claim by a program (the kit's print, with hand-made contracts for what it does not take).
import Derived.Test.YtcoolajjjnkfpaaPPdx0
import Derived.Test.YtcoolajjjnkfpaaPPdx1
import Derived.Test.YtcoolajjjnkfpaaPPdx2
import Derived.Test.YtcoolajjjnkfpaaPPdx4
namespace Go.Proofs.Ytcoolajjjnkfpaa.PPd
open Go.RowKit Go.Proofs.YtcoolajjjnkfpaaW.PrintWords Go.Proofs.YtcoolajjjnkfpaaW.PrintLast Go.Proofs.YtcoolajjjnkfpaaW.PrintMore
attribute [local go_sem] max2_int min2_int max_two min_two max_three min_three max_four min_four   -- for this text's walks alone
set_option linter.unusedVariables false
set_option linter.unusedSimpArgs false

/-! ### pos_Recover: function 20 -/
/-! ### pos.Recover -/
def pos_Recover.run (zs : List S37) (inn off : Int) : List (Fin zs.length) → Int × Int
  | [] => (0, 1)
  | x :: xs => if ((x.val : Nat) : Int) = inn ∧ 0 ≤ off ∧ off ≤ (rd_T37 zs ((x.val : Nat) : Int)).f2 then (pos_each.beg zs x.val + off, 0) else pos_Recover.run zs inn off xs
def pos_Recover.f (k : Nat) (l0 : List S37) (a1 a2 : Int) : Option (Int × Int) :=
  (pos_Right.f k l0).bind fun b => if b = true then some (pos_Recover.run l0 a1 a2 (List.finRange l0.length)) else some (0, 4)
theorem pos_Recover.mono : ∀ a0 a1 a2 k, LeO (pos_Recover.f k a0 a1 a2) (pos_Recover.f (k + 1) a0 a1 a2) := by
  intro a0 a1 a2 k
  unfold pos_Recover.f
  exact LeO.bind (pos_Right.mono _ _) (fun _ => LeO.refl _)
theorem pos_Recover.wrote {w W : World} {g3 g4 : Nat} {q z : Value} (h3 : W.heap[g3]? = some (.cells #[q] 3 (0, 0))) (h4 : W.heap[g4]? = some (.cells #[z] 25 (0, 0))) (hne : g3 ≠ g4) (hB : Below w.heap.size w W) (l3 : w.heap.size ≤ g3) (l4 : w.heap.size ≤ g4) (v e : Value) :
    let Wf := (W.setCell ⟨g3, 0, none⟩ v).setCell ⟨g4, 0, none⟩ e
    Wf.heap[g3]? = some (.cells #[v] 3 (0, 0)) ∧ Wf.heap[g4]? = some (.cells #[e] 25 (0, 0)) ∧ Below w.heap.size w Wf ∧ KeepsOthers W Wf :=
  ⟨blk_far (blk_put h3 0 v rfl) hne _, blk_put (blk_far h4 (Ne.symm hne) _) 0 e rfl, below_set (below_set hB l3) l4, (KeepsOthers.setCell _ _ _).trans (KeepsOthers.setCell _ _ _)⟩
theorem pos_Recover.res {tmps : Array Value} {W : World} {g3 g4 : Nat} {v e : Value} (p3 : tmps.getD 6 undef = .pointer (some ⟨g3, 0, none⟩)) (p4 : tmps.getD 7 undef = .pointer (some ⟨g4, 0, none⟩)) (h3 : W.heap[g3]? = some (.cells #[v] 3 (0, 0))) (h4 : W.heap[g4]? = some (.cells #[e] 25 (0, 0))) :
    (results Try.f20 tmps).run Try.prog W = .ok (.tuple #[v, e]) W := by
  have h1 : tmps[6]?.getD undef = .pointer (some ⟨g3, 0, none⟩) := by simpa using p3
  have h2 : tmps[7]?.getD undef = .pointer (some ⟨g4, 0, none⟩) := by simpa using p4
  have hc : W.cell? ⟨g4, 0, none⟩ = some e := (blk_cell h4 0).trans rfl
  have hc0 : W.cell? ⟨g3, 0, none⟩ = some v := (blk_cell h3 0).trans rfl
  have hr : Try.f20.results = #[.cell 6 3, .cell 7 25] := rfl
  simp [results, hr, h1, h2, asAddr, go_sem, hc, hc0]
def pos_Recover.keep (w w1 : World) (A0 : Option Addr) (c0 : Nat) (l0 : List S37) (a1 a2 : Int) (W : World) : Prop := ((W.heap[w.heap.size]? = some (.cells #[.slice A0 l0.length c0] 22 (0, 0)) ∧ W.heap[w.heap.size + 1]? = some (.cells #[.int .i64 a1] 3 (0, 0)) ∧ W.heap[w.heap.size + 1 + 1]? = some (.cells #[.int .i64 a2] 3 (0, 0))) ∧ W.heap[w.heap.size + 1 + 1 + 1]? = some (.cells #[.int .i64 0] 3 (0, 0)) ∧ W.heap[w.heap.size + 1 + 1 + 1 + 1]? = some (.cells #[.int .i64 0] 25 (0, 0))) ∧ Below w1.heap.size w1 W
theorem pos_Recover.keeps_drew {n₀ : Nat} (W : World) (hn : n₀ ≤ W.heap.size) : pos_each.Keeps n₀ (fun _ _ => False) W W.drew :=
  ⟨pw_below_drewN (Below.refl _ _) 1, Nat.le_refl _, fun k cs t fr h _ => blk_drew h, fun _ k hk => hk.elim, fun _ h => .inl h⟩
def pos_Recover.Inv (w w1 : World) (A0 : Option Addr) (c0 : Nat) (l0 : List S37) (a1 a2 : Int) (pre : List (Fin l0.length)) (W : World) : Prop := ((W.heap[w.heap.size]? = some (.cells #[.slice A0 l0.length c0] 22 (0, 0)) ∧ W.heap[w.heap.size + 1]? = some (.cells #[.int .i64 a1] 3 (0, 0)) ∧ W.heap[w.heap.size + 1 + 1]? = some (.cells #[.int .i64 a2] 3 (0, 0))) ∧ (W.heap[w.heap.size + 1 + 1 + 1]? = some (.cells #[.int .i64 0] 3 (0, 0)) ∧ W.heap[w.heap.size + 1 + 1 + 1 + 1]? = some (.cells #[.int .i64 0] 25 (0, 0)))) ∧ (∀ rest, pos_Recover.run l0 a1 a2 (pre ++ rest) = pos_Recover.run l0 a1 a2 rest) ∧ Below w1.heap.size w1 W
def pos_Recover.Exi (w : World) (l0 : List S37) (a1 a2 : Int) (c : Code) (pre : List (Fin l0.length)) (W : World) : Prop := c = .ret ∧ (∃ v : Int, (W.heap[w.heap.size + 1 + 1 + 1]? = some (.cells #[.int .i64 v] 3 (0, 0)) ∧ W.heap[w.heap.size + 1 + 1 + 1 + 1]? = some (.cells #[.int .i64 0] 25 (0, 0))) ∧ (∀ rest, pos_Recover.run l0 a1 a2 (pre ++ rest) = (v, 0))) ∧ Below w.heap.size w W
section
attribute [local go_sem] Oper.semAt_some
set_option maxRecDepth 100000 in
set_option maxHeartbeats 16000000 in
theorem pos_Recover.regA {l : Nat} {Q : Exit → Act → World → Prop} {WD : World} {g3 g4 g5 x len : Nat} {ad : Addr} {c0 : Nat} {a1 a2 f2 : Int} {u0 u1 u2 u6 u7 u9 u10 u11 u12 u13 u14 u15 u16 u17 u18 u19 u20 u21 u22 u23 u24 u25 u26 u27 u28 u29 u30 u31 u32 u33 u34 u35 : Value}
    (hd3 : WD.cell? ⟨g3, 0, none⟩ = some (.slice (some ad) len c0)) (hd4 : WD.cell? ⟨g4, 0, none⟩ = some (.int .i64 a1)) (hd5 : WD.cell? ⟨g5, 0, none⟩ = some (.int .i64 a2)) (hx2 : WD.cell? ⟨(ad.add (x * 3)).block, (ad.add (x * 3)).off + 2, none⟩ = some (.int .i64 f2)) (hxl : x < len) (n1 : ((x : Nat) : Int) ≠ a1)
    (hQ : ∀ W', W' = WD.drew → Q .normal { tmps := #[u0, u1, u2, .pointer (some ⟨g3, 0, none⟩), .pointer (some ⟨g4, 0, none⟩), .pointer (some ⟨g5, 0, none⟩), u6, u7, .int .i64 ((x : Nat) : Int), u9, u10, u11, u12, u13, u14, u15, u16, .int .i64 ((x : Nat) : Int), .int .i64 a1, .bool false, .bool false, undef, undef, .bool false, .bool false, undef, undef, undef, undef, undef, undef, undef, .bool false, u33, u34, u35], defers := [] } W') :
    (Code.region 6 #[{ dst := some 17, op := Go.Op.move (Go.Operand.tmp 8), type := 3, pos := "pos.go:105", after := #[], guard := none }, { dst := some 18, op := Go.Op.load 3 (Go.Operand.tmp 4), type := 3, pos := "pos.go:105", after := #[], guard := none }, { dst := some 19, op := Go.Op.binOp Go.BinOp.eql 3 (Go.Operand.tmp 17) (Go.Operand.tmp 18) 3, type := 4, pos := "pos.go:105", after := #[{ on := 0, ground := Go.Ground.data }, { on := 1, ground := Go.Ground.data }], guard := none }, { dst := some 20, op := Go.Op.move (Go.Operand.tmp 19), type := 4, pos := "pos.go:105", after := #[{ on := 2, ground := Go.Ground.data }], guard := none }, { dst := some 21, op := Go.Op.load 3 (Go.Operand.tmp 5), type := 3, pos := "pos.go:105", after := #[{ on := 3, ground := Go.Ground.guard }], guard := some (3, true) }, { dst := some 22, op := Go.Op.binOp Go.BinOp.geq 3 (Go.Operand.tmp 21) (Go.Operand.const (Value.int IntKind.i64 0)) 3, type := 4, pos := "pos.go:105", after := #[{ on := 4, ground := Go.Ground.data }, { on := 3, ground := Go.Ground.guard }], guard := some (3, true) }, { dst := some 23, op := Go.Op.pick (Go.Operand.tmp 20) (Go.Operand.tmp 22) (Go.Operand.const (Value.bool false)), type := 4, pos := "pos.go:105", after := #[{ on := 3, ground := Go.Ground.data }, { on := 5, ground := Go.Ground.data }], guard := none }, { dst := some 24, op := Go.Op.move (Go.Operand.tmp 23), type := 4, pos := "pos.go:105", after := #[{ on := 6, ground := Go.Ground.data }, { on := 3, ground := Go.Ground.chain }], guard := none }, { dst := some 25, op := Go.Op.load 3 (Go.Operand.tmp 5), type := 3, pos := "pos.go:105", after := #[{ on := 7, ground := Go.Ground.guard }], guard := some (7, true) }, { dst := some 26, op := Go.Op.load 22 (Go.Operand.tmp 3), type := 22, pos := "pos.go:105", after := #[{ on := 7, ground := Go.Ground.guard }], guard := some (7, true) }, { dst := some 27, op := Go.Op.move (Go.Operand.tmp 8), type := 3, pos := "pos.go:105", after := #[{ on := 7, ground := Go.Ground.guard }], guard := some (7, true) }, { dst := some 28, op := Go.Op.indexAddr 22 (Go.Operand.tmp 26) (Go.Operand.tmp 27), type := 0, pos := "pos.go:105", after := #[{ on := 9, ground := Go.Ground.data }, { on := 10, ground := Go.Ground.data }, { on := 7, ground := Go.Ground.guard }], guard := some (7, true) }, { dst := some 29, op := Go.Op.fieldAddr 37 (Go.Operand.tmp 28) 2, type := 0, pos := "pos.go:105", after := #[{ on := 11, ground := Go.Ground.data }, { on := 7, ground := Go.Ground.guard }], guard := some (7, true) }, { dst := some 30, op := Go.Op.load 3 (Go.Operand.tmp 29), type := 3, pos := "pos.go:105", after := #[{ on := 12, ground := Go.Ground.data }, { on := 7, ground := Go.Ground.guard }], guard := some (7, true) }, { dst := some 31, op := Go.Op.binOp Go.BinOp.leq 3 (Go.Operand.tmp 25) (Go.Operand.tmp 30) 3, type := 4, pos := "pos.go:105", after := #[{ on := 8, ground := Go.Ground.data }, { on := 13, ground := Go.Ground.data }, { on := 7, ground := Go.Ground.guard }], guard := some (7, true) }, { dst := some 32, op := Go.Op.pick (Go.Operand.tmp 24) (Go.Operand.tmp 31) (Go.Operand.const (Value.bool false)), type := 4, pos := "pos.go:105", after := #[{ on := 7, ground := Go.Ground.data }, { on := 14, ground := Go.Ground.data }], guard := none }] true).wpIn (Fence.wide.inRound l) 1 Try.prog Q { tmps := #[u0, u1, u2, .pointer (some ⟨g3, 0, none⟩), .pointer (some ⟨g4, 0, none⟩), .pointer (some ⟨g5, 0, none⟩), u6, u7, .int .i64 ((x : Nat) : Int), u9, u10, u11, u12, u13, u14, u15, u16, u17, u18, u19, u20, u21, u22, u23, u24, u25, u26, u27, u28, u29, u30, u31, u32, u33, u34, u35], defers := [] } WD := by
  have hMix : Try.prog.follows .mixedOrders = true := by kernel_rfl
  have hu37 := Try.underlying37
  have hx0 : (0 : Int) ≤ ((x : Nat) : Int) := by omega
  have hx1 : ((x : Nat) : Int) < (len : Int) := by omega
  have n1b : (((x : Nat) : Int) == a1) = false := beq_eq_false_iff_ne.2 n1
  refine RoundRegion.rule 16 hMix (by kernel_rfl) (fun w' => w'.cell? ⟨g3, 0, none⟩ = some (.slice (some ad) len c0) ∧ w'.cell? ⟨g4, 0, none⟩ = some (.int .i64 a1) ∧ w'.cell? ⟨g5, 0, none⟩ = some (.int .i64 a2) ∧ w'.cell? ⟨(ad.add (x * 3)).block, (ad.add (x * 3)).off + 2, none⟩ = some (.int .i64 f2)) ⟨hd3, hd4, hd5, hx2⟩ ?_
  refine RoundRegion.step (.int .i64 ((x : Nat) : Int)) rfl (fun w' hI => ?_) ?_
  · obtain ⟨h1, h2, h3, h4⟩ := hI
    simp [go_sem, h1, h2, h3, h4, hx0, hx1, hu37, n1b, n1]
  simp only [Act.put, List.setIfInBounds_toArray, List.set_cons_zero, List.set_cons_succ]
  refine RoundRegion.step (.int .i64 a1) rfl (fun w' hI => ?_) ?_
  · obtain ⟨h1, h2, h3, h4⟩ := hI
    simp [go_sem, h1, h2, h3, h4, hx0, hx1, hu37, n1b, n1]
  simp only [Act.put, List.setIfInBounds_toArray, List.set_cons_zero, List.set_cons_succ]
  refine RoundRegion.step (.bool false) rfl (fun w' hI => ?_) ?_
  · obtain ⟨h1, h2, h3, h4⟩ := hI
    simp [go_sem, h1, h2, h3, h4, hx0, hx1, hu37, n1b, n1]
  simp only [Act.put, List.setIfInBounds_toArray, List.set_cons_zero, List.set_cons_succ]
  refine RoundRegion.step (.bool false) rfl (fun w' hI => ?_) ?_
  · obtain ⟨h1, h2, h3, h4⟩ := hI
    simp [go_sem, h1, h2, h3, h4, hx0, hx1, hu37, n1b, n1]
  simp only [Act.put, List.setIfInBounds_toArray, List.set_cons_zero, List.set_cons_succ]
  refine RoundRegion.skip rfl ?_
  simp only [Act.put, List.setIfInBounds_toArray, List.set_cons_zero, List.set_cons_succ]
  refine RoundRegion.skip rfl ?_
  simp only [Act.put, List.setIfInBounds_toArray, List.set_cons_zero, List.set_cons_succ]
  refine RoundRegion.step (.bool false) rfl (fun w' hI => ?_) ?_
  · obtain ⟨h1, h2, h3, h4⟩ := hI
    simp [go_sem, h1, h2, h3, h4, hx0, hx1, hu37, n1b, n1]
  simp only [Act.put, List.setIfInBounds_toArray, List.set_cons_zero, List.set_cons_succ]
  refine RoundRegion.step (.bool false) rfl (fun w' hI => ?_) ?_
  · obtain ⟨h1, h2, h3, h4⟩ := hI
    simp [go_sem, h1, h2, h3, h4, hx0, hx1, hu37, n1b, n1]
  simp only [Act.put, List.setIfInBounds_toArray, List.set_cons_zero, List.set_cons_succ]
  refine RoundRegion.skip rfl ?_
  simp only [Act.put, List.setIfInBounds_toArray, List.set_cons_zero, List.set_cons_succ]
  refine RoundRegion.skip rfl ?_
  simp only [Act.put, List.setIfInBounds_toArray, List.set_cons_zero, List.set_cons_succ]
  refine RoundRegion.skip rfl ?_
  simp only [Act.put, List.setIfInBounds_toArray, List.set_cons_zero, List.set_cons_succ]
  refine RoundRegion.skip rfl ?_
  simp only [Act.put, List.setIfInBounds_toArray, List.set_cons_zero, List.set_cons_succ]
  refine RoundRegion.skip rfl ?_
  simp only [Act.put, List.setIfInBounds_toArray, List.set_cons_zero, List.set_cons_succ]
  refine RoundRegion.skip rfl ?_
  simp only [Act.put, List.setIfInBounds_toArray, List.set_cons_zero, List.set_cons_succ]
  refine RoundRegion.skip rfl ?_
  simp only [Act.put, List.setIfInBounds_toArray, List.set_cons_zero, List.set_cons_succ]
  refine RoundRegion.step (.bool false) rfl (fun w' hI => ?_) ?_
  · obtain ⟨h1, h2, h3, h4⟩ := hI
    simp [go_sem, h1, h2, h3, h4, hx0, hx1, hu37, n1b, n1]
  simp only [Act.put, List.setIfInBounds_toArray, List.set_cons_zero, List.set_cons_succ]
  exact RoundRegion.walk_tail (hQ _ rfl)
end
section
attribute [local go_sem] Oper.semAt_some
set_option maxRecDepth 100000 in
set_option maxHeartbeats 16000000 in
theorem pos_Recover.regB {l : Nat} {Q : Exit → Act → World → Prop} {WD : World} {g3 g4 g5 x len : Nat} {ad : Addr} {c0 : Nat} {a1 a2 f2 : Int} {u0 u1 u2 u6 u7 u9 u10 u11 u12 u13 u14 u15 u16 u17 u18 u19 u20 u21 u22 u23 u24 u25 u26 u27 u28 u29 u30 u31 u32 u33 u34 u35 : Value}
    (hd3 : WD.cell? ⟨g3, 0, none⟩ = some (.slice (some ad) len c0)) (hd4 : WD.cell? ⟨g4, 0, none⟩ = some (.int .i64 a1)) (hd5 : WD.cell? ⟨g5, 0, none⟩ = some (.int .i64 a2)) (hx2 : WD.cell? ⟨(ad.add (x * 3)).block, (ad.add (x * 3)).off + 2, none⟩ = some (.int .i64 f2)) (hxl : x < len) (n1 : ((x : Nat) : Int) = a1) (n2 : a2 < 0)
    (hQ : ∀ W', W' = WD.drew → Q .normal { tmps := #[u0, u1, u2, .pointer (some ⟨g3, 0, none⟩), .pointer (some ⟨g4, 0, none⟩), .pointer (some ⟨g5, 0, none⟩), u6, u7, .int .i64 ((x : Nat) : Int), u9, u10, u11, u12, u13, u14, u15, u16, .int .i64 ((x : Nat) : Int), .int .i64 a1, .bool true, .bool true, .int .i64 a2, .bool false, .bool false, .bool false, undef, undef, undef, undef, undef, undef, undef, .bool false, u33, u34, u35], defers := [] } W') :
    (Code.region 6 #[{ dst := some 17, op := Go.Op.move (Go.Operand.tmp 8), type := 3, pos := "pos.go:105", after := #[], guard := none }, { dst := some 18, op := Go.Op.load 3 (Go.Operand.tmp 4), type := 3, pos := "pos.go:105", after := #[], guard := none }, { dst := some 19, op := Go.Op.binOp Go.BinOp.eql 3 (Go.Operand.tmp 17) (Go.Operand.tmp 18) 3, type := 4, pos := "pos.go:105", after := #[{ on := 0, ground := Go.Ground.data }, { on := 1, ground := Go.Ground.data }], guard := none }, { dst := some 20, op := Go.Op.move (Go.Operand.tmp 19), type := 4, pos := "pos.go:105", after := #[{ on := 2, ground := Go.Ground.data }], guard := none }, { dst := some 21, op := Go.Op.load 3 (Go.Operand.tmp 5), type := 3, pos := "pos.go:105", after := #[{ on := 3, ground := Go.Ground.guard }], guard := some (3, true) }, { dst := some 22, op := Go.Op.binOp Go.BinOp.geq 3 (Go.Operand.tmp 21) (Go.Operand.const (Value.int IntKind.i64 0)) 3, type := 4, pos := "pos.go:105", after := #[{ on := 4, ground := Go.Ground.data }, { on := 3, ground := Go.Ground.guard }], guard := some (3, true) }, { dst := some 23, op := Go.Op.pick (Go.Operand.tmp 20) (Go.Operand.tmp 22) (Go.Operand.const (Value.bool false)), type := 4, pos := "pos.go:105", after := #[{ on := 3, ground := Go.Ground.data }, { on := 5, ground := Go.Ground.data }], guard := none }, { dst := some 24, op := Go.Op.move (Go.Operand.tmp 23), type := 4, pos := "pos.go:105", after := #[{ on := 6, ground := Go.Ground.data }, { on := 3, ground := Go.Ground.chain }], guard := none }, { dst := some 25, op := Go.Op.load 3 (Go.Operand.tmp 5), type := 3, pos := "pos.go:105", after := #[{ on := 7, ground := Go.Ground.guard }], guard := some (7, true) }, { dst := some 26, op := Go.Op.load 22 (Go.Operand.tmp 3), type := 22, pos := "pos.go:105", after := #[{ on := 7, ground := Go.Ground.guard }], guard := some (7, true) }, { dst := some 27, op := Go.Op.move (Go.Operand.tmp 8), type := 3, pos := "pos.go:105", after := #[{ on := 7, ground := Go.Ground.guard }], guard := some (7, true) }, { dst := some 28, op := Go.Op.indexAddr 22 (Go.Operand.tmp 26) (Go.Operand.tmp 27), type := 0, pos := "pos.go:105", after := #[{ on := 9, ground := Go.Ground.data }, { on := 10, ground := Go.Ground.data }, { on := 7, ground := Go.Ground.guard }], guard := some (7, true) }, { dst := some 29, op := Go.Op.fieldAddr 37 (Go.Operand.tmp 28) 2, type := 0, pos := "pos.go:105", after := #[{ on := 11, ground := Go.Ground.data }, { on := 7, ground := Go.Ground.guard }], guard := some (7, true) }, { dst := some 30, op := Go.Op.load 3 (Go.Operand.tmp 29), type := 3, pos := "pos.go:105", after := #[{ on := 12, ground := Go.Ground.data }, { on := 7, ground := Go.Ground.guard }], guard := some (7, true) }, { dst := some 31, op := Go.Op.binOp Go.BinOp.leq 3 (Go.Operand.tmp 25) (Go.Operand.tmp 30) 3, type := 4, pos := "pos.go:105", after := #[{ on := 8, ground := Go.Ground.data }, { on := 13, ground := Go.Ground.data }, { on := 7, ground := Go.Ground.guard }], guard := some (7, true) }, { dst := some 32, op := Go.Op.pick (Go.Operand.tmp 24) (Go.Operand.tmp 31) (Go.Operand.const (Value.bool false)), type := 4, pos := "pos.go:105", after := #[{ on := 7, ground := Go.Ground.data }, { on := 14, ground := Go.Ground.data }], guard := none }] true).wpIn (Fence.wide.inRound l) 1 Try.prog Q { tmps := #[u0, u1, u2, .pointer (some ⟨g3, 0, none⟩), .pointer (some ⟨g4, 0, none⟩), .pointer (some ⟨g5, 0, none⟩), u6, u7, .int .i64 ((x : Nat) : Int), u9, u10, u11, u12, u13, u14, u15, u16, u17, u18, u19, u20, u21, u22, u23, u24, u25, u26, u27, u28, u29, u30, u31, u32, u33, u34, u35], defers := [] } WD := by
  have hMix : Try.prog.follows .mixedOrders = true := by kernel_rfl
  have hu37 := Try.underlying37
  have hx0 : (0 : Int) ≤ ((x : Nat) : Int) := by omega
  have hx1 : ((x : Nat) : Int) < (len : Int) := by omega
  have n1b : (((x : Nat) : Int) == a1) = true := beq_iff_eq.2 n1
  have n2b : ¬ (0 ≤ a2) := by omega
  refine RoundRegion.rule 16 hMix (by kernel_rfl) (fun w' => w'.cell? ⟨g3, 0, none⟩ = some (.slice (some ad) len c0) ∧ w'.cell? ⟨g4, 0, none⟩ = some (.int .i64 a1) ∧ w'.cell? ⟨g5, 0, none⟩ = some (.int .i64 a2) ∧ w'.cell? ⟨(ad.add (x * 3)).block, (ad.add (x * 3)).off + 2, none⟩ = some (.int .i64 f2)) ⟨hd3, hd4, hd5, hx2⟩ ?_
  refine RoundRegion.step (.int .i64 ((x : Nat) : Int)) rfl (fun w' hI => ?_) ?_
  · obtain ⟨h1, h2, h3, h4⟩ := hI
    simp [go_sem, h1, h2, h3, h4, hx0, hx1, hu37, n1b, n2b, n2]
  simp only [Act.put, List.setIfInBounds_toArray, List.set_cons_zero, List.set_cons_succ]
  refine RoundRegion.step (.int .i64 a1) rfl (fun w' hI => ?_) ?_
  · obtain ⟨h1, h2, h3, h4⟩ := hI
    simp [go_sem, h1, h2, h3, h4, hx0, hx1, hu37, n1b, n2b, n2]
  simp only [Act.put, List.setIfInBounds_toArray, List.set_cons_zero, List.set_cons_succ]
  refine RoundRegion.step (.bool true) rfl (fun w' hI => ?_) ?_
  · obtain ⟨h1, h2, h3, h4⟩ := hI
    simp [go_sem, h1, h2, h3, h4, hx0, hx1, hu37, n1b, n2b, n2]
  simp only [Act.put, List.setIfInBounds_toArray, List.set_cons_zero, List.set_cons_succ]
  refine RoundRegion.step (.bool true) rfl (fun w' hI => ?_) ?_
  · obtain ⟨h1, h2, h3, h4⟩ := hI
    simp [go_sem, h1, h2, h3, h4, hx0, hx1, hu37, n1b, n2b, n2]
  simp only [Act.put, List.setIfInBounds_toArray, List.set_cons_zero, List.set_cons_succ]
  refine RoundRegion.step (.int .i64 a2) rfl (fun w' hI => ?_) ?_
  · obtain ⟨h1, h2, h3, h4⟩ := hI
    simp [go_sem, h1, h2, h3, h4, hx0, hx1, hu37, n1b, n2b, n2]
  simp only [Act.put, List.setIfInBounds_toArray, List.set_cons_zero, List.set_cons_succ]
  refine RoundRegion.step (.bool false) rfl (fun w' hI => ?_) ?_
  · obtain ⟨h1, h2, h3, h4⟩ := hI
    simp [go_sem, h1, h2, h3, h4, hx0, hx1, hu37, n1b, n2b, n2]
  simp only [Act.put, List.setIfInBounds_toArray, List.set_cons_zero, List.set_cons_succ]
  refine RoundRegion.step (.bool false) rfl (fun w' hI => ?_) ?_
  · obtain ⟨h1, h2, h3, h4⟩ := hI
    simp [go_sem, h1, h2, h3, h4, hx0, hx1, hu37, n1b, n2b, n2]
  simp only [Act.put, List.setIfInBounds_toArray, List.set_cons_zero, List.set_cons_succ]
  refine RoundRegion.step (.bool false) rfl (fun w' hI => ?_) ?_
  · obtain ⟨h1, h2, h3, h4⟩ := hI
    simp [go_sem, h1, h2, h3, h4, hx0, hx1, hu37, n1b, n2b, n2]
  simp only [Act.put, List.setIfInBounds_toArray, List.set_cons_zero, List.set_cons_succ]
  refine RoundRegion.skip rfl ?_
  simp only [Act.put, List.setIfInBounds_toArray, List.set_cons_zero, List.set_cons_succ]
  refine RoundRegion.skip rfl ?_
  simp only [Act.put, List.setIfInBounds_toArray, List.set_cons_zero, List.set_cons_succ]
  refine RoundRegion.skip rfl ?_
  simp only [Act.put, List.setIfInBounds_toArray, List.set_cons_zero, List.set_cons_succ]
  refine RoundRegion.skip rfl ?_
  simp only [Act.put, List.setIfInBounds_toArray, List.set_cons_zero, List.set_cons_succ]
  refine RoundRegion.skip rfl ?_
  simp only [Act.put, List.setIfInBounds_toArray, List.set_cons_zero, List.set_cons_succ]
  refine RoundRegion.skip rfl ?_
  simp only [Act.put, List.setIfInBounds_toArray, List.set_cons_zero, List.set_cons_succ]
  refine RoundRegion.skip rfl ?_
  simp only [Act.put, List.setIfInBounds_toArray, List.set_cons_zero, List.set_cons_succ]
  refine RoundRegion.step (.bool false) rfl (fun w' hI => ?_) ?_
  · obtain ⟨h1, h2, h3, h4⟩ := hI
    simp [go_sem, h1, h2, h3, h4, hx0, hx1, hu37, n1b, n2b, n2]
  simp only [Act.put, List.setIfInBounds_toArray, List.set_cons_zero, List.set_cons_succ]
  exact RoundRegion.walk_tail (hQ _ rfl)
end
section
attribute [local go_sem] Oper.semAt_some
set_option maxRecDepth 100000 in
set_option maxHeartbeats 16000000 in
theorem pos_Recover.regC {l : Nat} {Q : Exit → Act → World → Prop} {WD : World} {g3 g4 g5 x len : Nat} {ad : Addr} {c0 : Nat} {a1 a2 f2 : Int} {u0 u1 u2 u6 u7 u9 u10 u11 u12 u13 u14 u15 u16 u17 u18 u19 u20 u21 u22 u23 u24 u25 u26 u27 u28 u29 u30 u31 u32 u33 u34 u35 : Value}
    (hd3 : WD.cell? ⟨g3, 0, none⟩ = some (.slice (some ad) len c0)) (hd4 : WD.cell? ⟨g4, 0, none⟩ = some (.int .i64 a1)) (hd5 : WD.cell? ⟨g5, 0, none⟩ = some (.int .i64 a2)) (hx2 : WD.cell? ⟨(ad.add (x * 3)).block, (ad.add (x * 3)).off + 2, none⟩ = some (.int .i64 f2)) (hxl : x < len) {b : Bool} (n1 : ((x : Nat) : Int) = a1) (n2 : 0 ≤ a2) (hb : decide (a2 ≤ f2) = b)
    (hQ : ∀ W', W' = WD.drew → Q .normal { tmps := #[u0, u1, u2, .pointer (some ⟨g3, 0, none⟩), .pointer (some ⟨g4, 0, none⟩), .pointer (some ⟨g5, 0, none⟩), u6, u7, .int .i64 ((x : Nat) : Int), u9, u10, u11, u12, u13, u14, u15, u16, .int .i64 ((x : Nat) : Int), .int .i64 a1, .bool true, .bool true, .int .i64 a2, .bool true, .bool true, .bool true, .int .i64 a2, .slice (some ad) len c0, .int .i64 ((x : Nat) : Int), .pointer (some (ad.add (x * 3))), .pointer (some ⟨(ad.add (x * 3)).block, (ad.add (x * 3)).off + 2, none⟩), .int .i64 f2, .bool b, .bool b, u33, u34, u35], defers := [] } W') :
    (Code.region 6 #[{ dst := some 17, op := Go.Op.move (Go.Operand.tmp 8), type := 3, pos := "pos.go:105", after := #[], guard := none }, { dst := some 18, op := Go.Op.load 3 (Go.Operand.tmp 4), type := 3, pos := "pos.go:105", after := #[], guard := none }, { dst := some 19, op := Go.Op.binOp Go.BinOp.eql 3 (Go.Operand.tmp 17) (Go.Operand.tmp 18) 3, type := 4, pos := "pos.go:105", after := #[{ on := 0, ground := Go.Ground.data }, { on := 1, ground := Go.Ground.data }], guard := none }, { dst := some 20, op := Go.Op.move (Go.Operand.tmp 19), type := 4, pos := "pos.go:105", after := #[{ on := 2, ground := Go.Ground.data }], guard := none }, { dst := some 21, op := Go.Op.load 3 (Go.Operand.tmp 5), type := 3, pos := "pos.go:105", after := #[{ on := 3, ground := Go.Ground.guard }], guard := some (3, true) }, { dst := some 22, op := Go.Op.binOp Go.BinOp.geq 3 (Go.Operand.tmp 21) (Go.Operand.const (Value.int IntKind.i64 0)) 3, type := 4, pos := "pos.go:105", after := #[{ on := 4, ground := Go.Ground.data }, { on := 3, ground := Go.Ground.guard }], guard := some (3, true) }, { dst := some 23, op := Go.Op.pick (Go.Operand.tmp 20) (Go.Operand.tmp 22) (Go.Operand.const (Value.bool false)), type := 4, pos := "pos.go:105", after := #[{ on := 3, ground := Go.Ground.data }, { on := 5, ground := Go.Ground.data }], guard := none }, { dst := some 24, op := Go.Op.move (Go.Operand.tmp 23), type := 4, pos := "pos.go:105", after := #[{ on := 6, ground := Go.Ground.data }, { on := 3, ground := Go.Ground.chain }], guard := none }, { dst := some 25, op := Go.Op.load 3 (Go.Operand.tmp 5), type := 3, pos := "pos.go:105", after := #[{ on := 7, ground := Go.Ground.guard }], guard := some (7, true) }, { dst := some 26, op := Go.Op.load 22 (Go.Operand.tmp 3), type := 22, pos := "pos.go:105", after := #[{ on := 7, ground := Go.Ground.guard }], guard := some (7, true) }, { dst := some 27, op := Go.Op.move (Go.Operand.tmp 8), type := 3, pos := "pos.go:105", after := #[{ on := 7, ground := Go.Ground.guard }], guard := some (7, true) }, { dst := some 28, op := Go.Op.indexAddr 22 (Go.Operand.tmp 26) (Go.Operand.tmp 27), type := 0, pos := "pos.go:105", after := #[{ on := 9, ground := Go.Ground.data }, { on := 10, ground := Go.Ground.data }, { on := 7, ground := Go.Ground.guard }], guard := some (7, true) }, { dst := some 29, op := Go.Op.fieldAddr 37 (Go.Operand.tmp 28) 2, type := 0, pos := "pos.go:105", after := #[{ on := 11, ground := Go.Ground.data }, { on := 7, ground := Go.Ground.guard }], guard := some (7, true) }, { dst := some 30, op := Go.Op.load 3 (Go.Operand.tmp 29), type := 3, pos := "pos.go:105", after := #[{ on := 12, ground := Go.Ground.data }, { on := 7, ground := Go.Ground.guard }], guard := some (7, true) }, { dst := some 31, op := Go.Op.binOp Go.BinOp.leq 3 (Go.Operand.tmp 25) (Go.Operand.tmp 30) 3, type := 4, pos := "pos.go:105", after := #[{ on := 8, ground := Go.Ground.data }, { on := 13, ground := Go.Ground.data }, { on := 7, ground := Go.Ground.guard }], guard := some (7, true) }, { dst := some 32, op := Go.Op.pick (Go.Operand.tmp 24) (Go.Operand.tmp 31) (Go.Operand.const (Value.bool false)), type := 4, pos := "pos.go:105", after := #[{ on := 7, ground := Go.Ground.data }, { on := 14, ground := Go.Ground.data }], guard := none }] true).wpIn (Fence.wide.inRound l) 1 Try.prog Q { tmps := #[u0, u1, u2, .pointer (some ⟨g3, 0, none⟩), .pointer (some ⟨g4, 0, none⟩), .pointer (some ⟨g5, 0, none⟩), u6, u7, .int .i64 ((x : Nat) : Int), u9, u10, u11, u12, u13, u14, u15, u16, u17, u18, u19, u20, u21, u22, u23, u24, u25, u26, u27, u28, u29, u30, u31, u32, u33, u34, u35], defers := [] } WD := by
  have hMix : Try.prog.follows .mixedOrders = true := by kernel_rfl
  have hu37 := Try.underlying37
  have hx0 : (0 : Int) ≤ ((x : Nat) : Int) := by omega
  have hx1 : ((x : Nat) : Int) < (len : Int) := by omega
  have n1b : (((x : Nat) : Int) == a1) = true := beq_iff_eq.2 n1
  refine RoundRegion.rule 16 hMix (by kernel_rfl) (fun w' => w'.cell? ⟨g3, 0, none⟩ = some (.slice (some ad) len c0) ∧ w'.cell? ⟨g4, 0, none⟩ = some (.int .i64 a1) ∧ w'.cell? ⟨g5, 0, none⟩ = some (.int .i64 a2) ∧ w'.cell? ⟨(ad.add (x * 3)).block, (ad.add (x * 3)).off + 2, none⟩ = some (.int .i64 f2)) ⟨hd3, hd4, hd5, hx2⟩ ?_
  refine RoundRegion.step (.int .i64 ((x : Nat) : Int)) rfl (fun w' hI => ?_) ?_
  · obtain ⟨h1, h2, h3, h4⟩ := hI
    simp [go_sem, h1, h2, h3, h4, hx0, hx1, hu37, n1b, n2, hb]
  simp only [Act.put, List.setIfInBounds_toArray, List.set_cons_zero, List.set_cons_succ]
  refine RoundRegion.step (.int .i64 a1) rfl (fun w' hI => ?_) ?_
  · obtain ⟨h1, h2, h3, h4⟩ := hI
    simp [go_sem, h1, h2, h3, h4, hx0, hx1, hu37, n1b, n2, hb]
  simp only [Act.put, List.setIfInBounds_toArray, List.set_cons_zero, List.set_cons_succ]
  refine RoundRegion.step (.bool true) rfl (fun w' hI => ?_) ?_
  · obtain ⟨h1, h2, h3, h4⟩ := hI
    simp [go_sem, h1, h2, h3, h4, hx0, hx1, hu37, n1b, n2, hb]
  simp only [Act.put, List.setIfInBounds_toArray, List.set_cons_zero, List.set_cons_succ]
  refine RoundRegion.step (.bool true) rfl (fun w' hI => ?_) ?_
  · obtain ⟨h1, h2, h3, h4⟩ := hI
    simp [go_sem, h1, h2, h3, h4, hx0, hx1, hu37, n1b, n2, hb]
  simp only [Act.put, List.setIfInBounds_toArray, List.set_cons_zero, List.set_cons_succ]
  refine RoundRegion.step (.int .i64 a2) rfl (fun w' hI => ?_) ?_
  · obtain ⟨h1, h2, h3, h4⟩ := hI
    simp [go_sem, h1, h2, h3, h4, hx0, hx1, hu37, n1b, n2, hb]
  simp only [Act.put, List.setIfInBounds_toArray, List.set_cons_zero, List.set_cons_succ]
  refine RoundRegion.step (.bool true) rfl (fun w' hI => ?_) ?_
  · obtain ⟨h1, h2, h3, h4⟩ := hI
    simp [go_sem, h1, h2, h3, h4, hx0, hx1, hu37, n1b, n2, hb]
  simp only [Act.put, List.setIfInBounds_toArray, List.set_cons_zero, List.set_cons_succ]
  refine RoundRegion.step (.bool true) rfl (fun w' hI => ?_) ?_
  · obtain ⟨h1, h2, h3, h4⟩ := hI
    simp [go_sem, h1, h2, h3, h4, hx0, hx1, hu37, n1b, n2, hb]
  simp only [Act.put, List.setIfInBounds_toArray, List.set_cons_zero, List.set_cons_succ]
  refine RoundRegion.step (.bool true) rfl (fun w' hI => ?_) ?_
  · obtain ⟨h1, h2, h3, h4⟩ := hI
    simp [go_sem, h1, h2, h3, h4, hx0, hx1, hu37, n1b, n2, hb]
  simp only [Act.put, List.setIfInBounds_toArray, List.set_cons_zero, List.set_cons_succ]
  refine RoundRegion.step (.int .i64 a2) rfl (fun w' hI => ?_) ?_
  · obtain ⟨h1, h2, h3, h4⟩ := hI
    simp [go_sem, h1, h2, h3, h4, hx0, hx1, hu37, n1b, n2, hb]
  simp only [Act.put, List.setIfInBounds_toArray, List.set_cons_zero, List.set_cons_succ]
  refine RoundRegion.step (.slice (some ad) len c0) rfl (fun w' hI => ?_) ?_
  · obtain ⟨h1, h2, h3, h4⟩ := hI
    simp [go_sem, h1, h2, h3, h4, hx0, hx1, hu37, n1b, n2, hb]
  simp only [Act.put, List.setIfInBounds_toArray, List.set_cons_zero, List.set_cons_succ]
  refine RoundRegion.step (.int .i64 ((x : Nat) : Int)) rfl (fun w' hI => ?_) ?_
  · obtain ⟨h1, h2, h3, h4⟩ := hI
    simp [go_sem, h1, h2, h3, h4, hx0, hx1, hu37, n1b, n2, hb]
  simp only [Act.put, List.setIfInBounds_toArray, List.set_cons_zero, List.set_cons_succ]
  refine RoundRegion.step (.pointer (some (ad.add (x * 3)))) rfl (fun w' hI => ?_) ?_
  · obtain ⟨h1, h2, h3, h4⟩ := hI
    simp [go_sem, h1, h2, h3, h4, hx0, hx1, hu37, n1b, n2, hb]
  simp only [Act.put, List.setIfInBounds_toArray, List.set_cons_zero, List.set_cons_succ]
  refine RoundRegion.step (.pointer (some ⟨(ad.add (x * 3)).block, (ad.add (x * 3)).off + 2, none⟩)) rfl (fun w' hI => ?_) ?_
  · obtain ⟨h1, h2, h3, h4⟩ := hI
    simp [go_sem, h1, h2, h3, h4, hx0, hx1, hu37, n1b, n2, hb]
  simp only [Act.put, List.setIfInBounds_toArray, List.set_cons_zero, List.set_cons_succ]
  refine RoundRegion.step (.int .i64 f2) rfl (fun w' hI => ?_) ?_
  · obtain ⟨h1, h2, h3, h4⟩ := hI
    simp [go_sem, h1, h2, h3, h4, hx0, hx1, hu37, n1b, n2, hb]
  simp only [Act.put, List.setIfInBounds_toArray, List.set_cons_zero, List.set_cons_succ]
  refine RoundRegion.step (.bool b) rfl (fun w' hI => ?_) ?_
  · obtain ⟨h1, h2, h3, h4⟩ := hI
    simp [go_sem, h1, h2, h3, h4, hx0, hx1, hu37, n1b, n2, hb]
  simp only [Act.put, List.setIfInBounds_toArray, List.set_cons_zero, List.set_cons_succ]
  refine RoundRegion.step (.bool b) rfl (fun w' hI => ?_) ?_
  · obtain ⟨h1, h2, h3, h4⟩ := hI
    simp [go_sem, h1, h2, h3, h4, hx0, hx1, hu37, n1b, n2, hb]
  simp only [Act.put, List.setIfInBounds_toArray, List.set_cons_zero, List.set_cons_succ]
  exact RoundRegion.walk_tail (hQ _ rfl)
end
section
attribute [local go_sem] Oper.semAt_some
set_option maxRecDepth 100000 in
set_option maxHeartbeats 8000000 in
theorem pos_Recover.calls (k : Nat) (A0 : Option Addr) (c0 : Nat) (l0 : List S37) (a1 a2 r1 r2 : Int) (w : World) (hr0 : Kd.C k37 w A0 l0.length l0) (hc0 : l0.length ≤ c0) (h : pos_Recover.f k l0 a1 a2 = some (r1, r2)) :
    Calls Try.prog 20 #[.slice A0 l0.length c0, .int .i64 a1, .int .i64 a2] w fun e w' => e = .returned (.tuple #[.int .i64 r1, .int .i64 r2]) ∧ Below w.heap.size w w' := by
  have hu37 := Try.underlying37
  unfold pos_Recover.f at h
  obtain ⟨b, hb, H⟩ := Option.bind_eq_some_iff.1 h
  clear h
  have HB := Aside0.mk hb
  have HR0 := Aside0.mk hr0
  have HC0 := Aside0.mk hc0
  clear hb hr0 hc0
  refine (callsIn_wide (n := 3)).1 ?_
  have g14 : Fence.wide.fn 14 := trivial
  have g30 : Fence.wide.fn 30 := trivial
  have hMix : Try.prog.follows .mixedOrders = true := by kernel_rfl
  generalize hW0 : (((((w.alloc (.cells #[.slice A0 l0.length c0] 22)).alloc (.cells #[.int .i64 a1] 3)).alloc (.cells #[.int .i64 a2] 3)).alloc (.cells #[.int .i64 0] 3)).alloc (.cells #[.int .i64 0] 25)) = W0
  have hB0 : Below w.heap.size w W0 := by rw [← hW0]; exact below_alloc (below_alloc (below_alloc (below_alloc (below_alloc (Below.refl _ _) _) _) _) _) _
  have hz0 : W0.heap[w.heap.size]? = some (.cells #[.slice A0 l0.length c0] 22 (0, 0)) := by rw [← hW0]; exact blk_alloc (blk_alloc (blk_alloc (blk_alloc (blk_new _ _) _) _) _) _
  have hz1 : W0.heap[w.heap.size + 1]? = some (.cells #[.int .i64 a1] 3 (0, 0)) := by rw [← hW0]; refine blk_alloc (blk_alloc (blk_alloc ?_ _) _) _; have := blk_new (w.alloc (.cells #[.slice A0 l0.length c0] 22)) (.cells #[.int .i64 a1] 3); rwa [World.size_alloc] at this
  have hz2 : W0.heap[w.heap.size + 1 + 1]? = some (.cells #[.int .i64 a2] 3 (0, 0)) := by rw [← hW0]; refine blk_alloc (blk_alloc ?_ _) _; have := blk_new ((w.alloc (.cells #[.slice A0 l0.length c0] 22)).alloc (.cells #[.int .i64 a1] 3)) (.cells #[.int .i64 a2] 3); rwa [World.size_alloc, World.size_alloc] at this
  have hz3 : W0.heap[w.heap.size + 1 + 1 + 1]? = some (.cells #[.int .i64 0] 3 (0, 0)) := by rw [← hW0]; refine blk_alloc ?_ _; have := blk_new (((w.alloc (.cells #[.slice A0 l0.length c0] 22)).alloc (.cells #[.int .i64 a1] 3)).alloc (.cells #[.int .i64 a2] 3)) (.cells #[.int .i64 0] 3); rwa [World.size_alloc, World.size_alloc, World.size_alloc] at this
  have hz4 : W0.heap[w.heap.size + 1 + 1 + 1 + 1]? = some (.cells #[.int .i64 0] 25 (0, 0)) := by rw [← hW0]; have := blk_new ((((w.alloc (.cells #[.slice A0 l0.length c0] 22)).alloc (.cells #[.int .i64 a1] 3)).alloc (.cells #[.int .i64 a2] 3)).alloc (.cells #[.int .i64 0] 3)) (.cells #[.int .i64 0] 25); rwa [World.size_alloc, World.size_alloc, World.size_alloc, World.size_alloc] at this
  have HR1 := Aside0.mk (Kd.C_below HR0.out hB0)
  have HZ := Aside0.mk (And.intro hB0 (And.intro hz0 (And.intro hz1 (And.intro hz2 (And.intro hz3 hz4)))))
  clear hB0 hz0 hz1 hz2 hz3 hz4
  have HW0 := Aside0.mk hW0
  clear hW0
  have h14 : ∀ (Q : Ending → World → Prop), (∀ w1, Below w.heap.size w w1 → w1.heap[w.heap.size]? = some (.cells #[.slice A0 l0.length c0] 22 (0, 0)) → w1.heap[w.heap.size + 1]? = some (.cells #[.int .i64 a1] 3 (0, 0)) → w1.heap[w.heap.size + 1 + 1]? = some (.cells #[.int .i64 a2] 3 (0, 0)) → w1.heap[w.heap.size + 1 + 1 + 1]? = some (.cells #[.int .i64 0] 3 (0, 0)) → w1.heap[w.heap.size + 1 + 1 + 1 + 1]? = some (.cells #[.int .i64 0] 25 (0, 0)) → Kd.C k37 w1 A0 l0.length l0 → Q (.returned (.bool b)) w1) → CallsIn Fence.wide 2 Try.prog 14 #[.slice A0 l0.length c0] (((((w.alloc (.cells #[.slice A0 l0.length c0] 22)).alloc (.cells #[.int .i64 a1] 3)).alloc (.cells #[.int .i64 a2] 3)).alloc (.cells #[.int .i64 0] 3)).alloc (.cells #[.int .i64 0] 25)) Q := by
    intro Q hQ
    rw [HW0.out]
    refine (callsIn_wide.2 (pos_Right.calls k A0 c0 l0 b W0 HR1.out HC0.out HB.out)).mono ?_
    rintro e w1 ⟨rfl, hB1⟩
    obtain ⟨y, y0, y1, y2, y3, y4⟩ := HZ.out
    exact hQ w1 (below_step y hB1) (blk_below y0 hB1) (blk_below y1 hB1) (blk_below y2 hB1) (blk_below y3 hB1) (blk_below y4 hB1) (Kd.C_below HR1.out hB1)
  have H14 := Aside0.mk h14
  clear h14 HZ HR1 HW0
  cases b with
  | false =>
    simp only [Bool.false_eq_true, if_false, Option.some.injEq, Prod.mk.injEq] at H
    obtain ⟨rfl, rfl⟩ := H
    refine callsIn_of_wp_marks Try.func20 rfl trivial ?_ rfl
    simp only [Try.ntmps20, List.size_toArray, List.length_cons, List.length_nil, Nat.reduceAdd, Nat.reduceSub, Array.replicate_succ, Array.replicate_zero, List.push_toArray, List.append_toArray, List.nil_append, List.cons_append]
    gi_wp2_with (gi_at_call 14; refine H14.out _ ?_; intro w1 hB1 z0 z1 z2 z3 z4 hR1; have hc3 : w1.cell? ⟨w.heap.size + 1 + 1 + 1, 0, none⟩ = some (.int .i64 0) := (blk_cell z3 0).trans rfl; have hc4 : w1.cell? ⟨w.heap.size + 1 + 1 + 1 + 1, 0, none⟩ = some (.int .i64 0) := (blk_cell z4 0).trans rfl; have hf3 := blk_frozen z3 0; have hf4 := blk_frozen z4 0; have HB1 := Aside0.mk hB1; have Z3 := Aside0.mk z3; have Z4 := Aside0.mk z4; clear hB1 z0 z1 z2 z3 z4 hR1)
    obtain ⟨w3, w4, w5, -⟩ := pos_Recover.wrote Z3.out Z4.out (by omega) HB1.out (by omega) (by omega) (.int .i64 0) (.int .i64 4)
    exact ⟨_, pos_Recover.res rfl rfl w3 w4, rfl, w5⟩
  | true =>
    have hok := pos_Right.ok_true HB.out
    rw [if_pos rfl] at H
    refine callsIn_of_wp_marks Try.func20 rfl trivial ?_ rfl
    simp only [Try.ntmps20, List.size_toArray, List.length_cons, List.length_nil, Nat.reduceAdd, Nat.reduceSub, Array.replicate_succ, Array.replicate_zero, List.push_toArray, List.append_toArray, List.nil_append, List.cons_append]
    gi_wp2_with (first | (gi_at_call 14; refine H14.out _ ?_; intro w1 hB1 z0 z1 z2 z3 z4 hR1; have hc0 : w1.cell? ⟨w.heap.size, 0, none⟩ = some (.slice A0 l0.length c0) := (blk_cell z0 0).trans rfl; have HB1 := Aside0.mk hB1; have Z0 := Aside0.mk z0; have Z1 := Aside0.mk z1; have Z2 := Aside0.mk z2; have Z3 := Aside0.mk z3; have Z4 := Aside0.mk z4; have HR1 := Aside0.mk hR1; clear hB1 z0 z1 z2 z3 z4 hR1) | (gi_at_call 30; refine (pos_each.calls_in Fence.wide 2 g30 rfl _ _ _ _).mono ?_; rintro e w' ⟨rfl, rfl⟩))
    have hK0 : Below w1.heap.size w1 (w1.alloc (.cells #[.slice A0 l0.length c0] 22)) := below_alloc (Below.refl _ _) _
    have hbox : (w1.alloc (.cells #[.slice A0 l0.length c0] 22)).cell? ⟨w1.heap.size, 0, none⟩ = some (.slice A0 l0.length c0) := (blk_cell (blk_new w1 (.cells #[.slice A0 l0.length c0] 22)) 0).trans rfl
    have hloc : ∀ A B : World, (∀ k, k < 0 → B.heap[k]? = A.heap[k]?) → ∀ k : Nat, False → False := fun _ _ _ _ h => h
    refine wpIn_rangeFunc_ownF (F := Fence.wide) rfl (by omega) (gf := 34) (lb := #[.pointer (some ⟨w1.heap.size, 0, none⟩)]) rfl trivial (enters_of Try.func34 (by kernel_rfl) rfl)
      (pos_each.stops Fence.wide 2 trivial rfl (by omega) w1.heap.size 0 A0 c0 l0 hok w1 HR1.out (fun _ _ => False) hloc _ hbox hK0 (Nat.zero_le _) (fun k hk => hk.elim))
      pos_each.Keeps.trans (pos_each.Keeps.putObj hloc (by simp) (Nat.zero_le _)) (Below.refl _ _) (fun _ => rfl)
      (pos_Recover.Inv w w1 A0 c0 l0 a1 a2) (pos_Recover.Exi w l0 a1 a2)
      ?hI ?hIx ?h0 (fun x => { tmps := #[.slice A0 l0.length c0, .int .i64 a1, .int .i64 a2, .pointer (some ⟨w.heap.size, 0, none⟩), .pointer (some ⟨w.heap.size + 1, 0, none⟩), .pointer (some ⟨w.heap.size + 1 + 1, 0, none⟩), .pointer (some ⟨w.heap.size + 1 + 1 + 1, 0, none⟩), .pointer (some ⟨w.heap.size + 1 + 1 + 1 + 1, 0, none⟩), .int .i64 ((x.val : Nat) : Int), .int .i64 (pos_each.beg l0 x.val), .slice A0 l0.length c0, .bool true, .bool false, .slice A0 l0.length c0, .func (.func 34) #[] #[.pointer (some ⟨w1.heap.size, 0, none⟩)], .int .i64 ((x.val : Nat) : Int), .int .i64 (pos_each.beg l0 x.val), undef, undef, undef, undef, undef, undef, undef, undef, undef, undef, undef, undef, undef, undef, undef, undef, undef, undef, undef], defers := [] }) ?assign ?body ?done ?stop
    case hI =>
      rintro s A B row ⟨⟨⟨y0, y1, y2⟩, ⟨y3, y4⟩⟩, hrun, hb⟩ hg hr
      have hr' : ∀ r, row = some r → ∃ o : Obj, A.heap[r]? = some o ∧ o.isCells = false := fun r e => (hr r e).2
      exact ⟨⟨⟨pos_each.blk_own y0 hg hr', pos_each.blk_own y1 hg hr', pos_each.blk_own y2 hg hr'⟩, ⟨pos_each.blk_own y3 hg hr', pos_each.blk_own y4 hg hr'⟩⟩, hrun, ownFrom_below (β := Unit) (Nat.le_refl _) (by simp) () _ _ _ hb hg hr⟩
    case hIx =>
      rintro c s A B row ⟨rfl, ⟨v, ⟨y3, y4⟩, hrun⟩, hb⟩ hg hr
      have hr' : ∀ r, row = some r → ∃ o : Obj, A.heap[r]? = some o ∧ o.isCells = false := fun r e => (hr r e).2
      exact ⟨rfl, ⟨v, ⟨pos_each.blk_own y3 hg hr', pos_each.blk_own y4 hg hr'⟩, hrun⟩, ownFrom_below (β := Unit) (Nat.le_refl _) (by have := HB1.out.size; simp; omega) () _ _ _ hb hg hr⟩
    case h0 => exact ⟨⟨⟨blk_alloc Z0.out _, blk_alloc Z1.out _, blk_alloc Z2.out _⟩, ⟨blk_alloc Z3.out _, blk_alloc Z4.out _⟩⟩, fun _ => rfl, hK0⟩
    case assign =>
      intro l x W K hK
      gi_wp2
      exact hK
    case body =>
      rintro l pre x W ⟨⟨⟨y0, y1, y2⟩, ⟨y3, y4⟩⟩, hrun, hb⟩ hlen
      clear H hloc hbox hK0 hlen
      have hxl := x.isLt
      obtain ⟨ad, e_, hx0, hx1, hx2⟩ := at_T37 (Kd.C_below HR1.out hb) ((x.val : Nat) : Int) (by omega) (by omega)
      rw [Int.toNat_natCast] at hx0 hx1 hx2
      obtain ⟨⟨b1, b2⟩, ⟨b3, b4⟩, ⟨b5, b6⟩⟩ := hok.get ((x.val : Nat) : Int) (by omega)
      have hbg := pos_each.sh_bound hok x.val (by omega)
      have hbe : pos_each.beg l0 x.val = (rd_T37 l0 ((x.val : Nat) : Int)).f0 + pos_each.sh l0 x.val := rfl
      have h4 := hok.1
      have hq1 : -300000 ≤ pos_each.beg l0 x.val := by omega
      have hq2 : pos_each.beg l0 x.val ≤ 400000 := by omega
      have hstep : ∀ rest, pos_Recover.run l0 a1 a2 ((pre ++ [x]) ++ rest) = pos_Recover.run l0 a1 a2 (x :: rest) := fun rest => by rw [List.append_assoc]; exact hrun _
      clear hrun hbg hbe h4 hok
      generalize hf0 : (rd_T37 l0 ((x.val : Nat) : Int)).f0 = f0 at *
      generalize hf1 : (rd_T37 l0 ((x.val : Nat) : Int)).f1 = f1 at *
      generalize hf2 : (rd_T37 l0 ((x.val : Nat) : Int)).f2 = f2 at *
      generalize hbg : pos_each.beg l0 x.val = bg at *
      have hc0 : W.cell? ⟨w.heap.size, 0, none⟩ = some (.slice A0 l0.length c0) := (blk_cell y0 0).trans rfl
      have hr1 : W.cell? ⟨w.heap.size + 1, 0, none⟩ = some (.int .i64 a1) := (blk_cell y1 0).trans rfl
      have hr2 : W.cell? ⟨w.heap.size + 1 + 1, 0, none⟩ = some (.int .i64 a2) := (blk_cell y2 0).trans rfl
      have hz3 : W.cell? ⟨w.heap.size + 1 + 1 + 1, 0, none⟩ = some (.int .i64 0) := (blk_cell y3 0).trans rfl
      have hz4 : W.cell? ⟨w.heap.size + 1 + 1 + 1 + 1, 0, none⟩ = some (.int .i64 0) := (blk_cell y4 0).trans rfl
      have hy3 := blk_frozen y3 0
      have hy4 := blk_frozen y4 0
      subst e_
      have Y0 := Aside0.mk y0
      have Y1 := Aside0.mk y1
      have Y2 := Aside0.mk y2
      have Y3 := Aside0.mk y3
      have Y4 := Aside0.mk y4
      have HBW := Aside0.mk hb
      have HST := Aside0.mk hstep
      clear y0 y1 y2 y3 y4 hb hstep
      have after : ∀ W', W' = W.drew → Below w.heap.size w W' ∧ KeepsOthers W W' ∧ pos_each.Keeps w1.heap.size (fun _ _ => False) W W' ∧ pos_Recover.keep w w1 (some ad) c0 l0 a1 a2 W' := by
        rintro W' rfl
        exact ⟨pw_below_drewN (below_step HB1.out HBW.out) 1, KeepsOthers.drew _, pos_Recover.keeps_drew W HBW.out.size, ⟨⟨⟨blk_drew Y0.out, blk_drew Y1.out, blk_drew Y2.out⟩, blk_drew Y3.out, blk_drew Y4.out⟩, pw_below_drewN HBW.out 1⟩⟩
      have AF := Aside0.mk after
      clear after
      gi_wp2
      by_cases n1 : ((x.val : Nat) : Int) = a1
      · by_cases n2 : 0 ≤ a2
        · have n2' : ¬ (a2 < 0) := by omega
          by_cases n3 : a2 ≤ f2
          · refine pos_Recover.regC hc0 hr1 hr2 hx2 hxl n1 n2 (decide_eq_true n3) ?_
            intro W' hW'
            obtain ⟨hbW, hkW, hks, ⟨⟨z0, z1, z2⟩, z3, z4⟩, hb1⟩ := AF.out W' hW'
            clear hW'
            have hc2 : W'.cell? ⟨w.heap.size + 1 + 1, 0, none⟩ = some (.int .i64 a2) := (blk_cell z2 0).trans rfl
            have hc3 : W'.cell? ⟨w.heap.size + 1 + 1 + 1, 0, none⟩ = some (.int .i64 0) := (blk_cell z3 0).trans rfl
            have hc4 : W'.cell? ⟨w.heap.size + 1 + 1 + 1 + 1, 0, none⟩ = some (.int .i64 0) := (blk_cell z4 0).trans rfl
            have hf3 := blk_frozen z3 0
            have hf4 := blk_frozen z4 0
            have Z := Aside0.mk (And.intro hbW (And.intro hkW (And.intro z3 z4)))
            have N := Aside0.mk (And.intro n1 (And.intro n2 n3))
            clear hbW hkW hks z0 z1 z2 z3 z4 hb1 n1 n2 n2' n3 hz3 hz4 hy3 hy4
            gi_wp2
            obtain ⟨hN1, hN2, hN3⟩ := N.out
            obtain ⟨hbW, hkW, z3, z4⟩ := Z.out
            rw [pos_Right.w64 (bg + a2) (by omega)]
            obtain ⟨x3, x4, x5, x6⟩ := pos_Recover.wrote (w := w) z3 z4 (by omega) hbW (by omega) (by omega) (.int .i64 (bg + a2)) (.int .i64 0)
            refine ⟨hkW.trans x6, rfl, ⟨bg + a2, ⟨x3, x4⟩, fun rest => ?_⟩, x5⟩
            rw [HST.out rest, pos_Recover.run, hf2, hbg, if_pos ⟨hN1, hN2, hN3⟩]
          · refine pos_Recover.regC hc0 hr1 hr2 hx2 hxl n1 n2 (decide_eq_false n3) ?_
            intro W' hW'
            have Z := Aside0.mk (AF.out W' hW')
            clear hW'
            gi_wp2
            obtain ⟨hbW, hkW, hks, ⟨⟨z0, z1, z2⟩, z3, z4⟩, hb1⟩ := Z.out
            refine ⟨hkW, hks, ⟨⟨z0, z1, z2⟩, ⟨z3, z4⟩⟩, fun rest => ?_, hb1⟩
            rw [HST.out rest, pos_Recover.run, hf2, hbg, if_neg (by omega)]
        · refine pos_Recover.regB hc0 hr1 hr2 hx2 hxl n1 (by omega) ?_
          intro W' hW'
          have Z := Aside0.mk (AF.out W' hW')
          clear hW'
          gi_wp2
          obtain ⟨hbW, hkW, hks, ⟨⟨z0, z1, z2⟩, z3, z4⟩, hb1⟩ := Z.out
          refine ⟨hkW, hks, ⟨⟨z0, z1, z2⟩, ⟨z3, z4⟩⟩, fun rest => ?_, hb1⟩
          rw [HST.out rest, pos_Recover.run, hf2, hbg, if_neg (by omega)]
      · refine pos_Recover.regA hc0 hr1 hr2 hx2 hxl n1 ?_
        intro W' hW'
        have Z := Aside0.mk (AF.out W' hW')
        clear hW'
        gi_wp2
        obtain ⟨hbW, hkW, hks, ⟨⟨z0, z1, z2⟩, z3, z4⟩, hb1⟩ := Z.out
        refine ⟨hkW, hks, ⟨⟨z0, z1, z2⟩, ⟨z3, z4⟩⟩, fun rest => ?_, hb1⟩
        rw [HST.out rest, pos_Recover.run, hf2, hbg, if_neg (by omega)]
    case done =>
      rintro D xs W hD hS ⟨⟨⟨y0, y1, y2⟩, ⟨y3, y4⟩⟩, hrun, hb⟩ hK
      subst hS
      have hfin : pos_Recover.run l0 a1 a2 (List.finRange l0.length) = (0, 1) := by
        have := hrun []
        rw [List.append_nil, pos_each.upto_all] at this
        exact this
      simp only [Option.some.injEq] at H
      rw [hfin] at H
      simp only [Prod.mk.injEq] at H
      obtain ⟨rfl, rfl⟩ := H
      have hc3 : W.cell? ⟨w.heap.size + 1 + 1 + 1, 0, none⟩ = some (.int .i64 0) := (blk_cell y3 0).trans rfl
      have hc4 : W.cell? ⟨w.heap.size + 1 + 1 + 1 + 1, 0, none⟩ = some (.int .i64 0) := (blk_cell y4 0).trans rfl
      have hf3 := blk_frozen y3 0
      have hf4 := blk_frozen y4 0
      gi_wp2
      obtain ⟨w3, w4, w5, w6⟩ := pos_Recover.wrote y3 y4 (by omega) (below_step HB1.out hb) (by omega) (by omega) (.int .i64 0) (.int .i64 1)
      have hK' := w6.same D _ hK rfl
      refine ⟨by simp, .inl ⟨_, _, rfl, run_takeDeferred hK', ?_⟩⟩
      have hd : w.heap.size ≤ D := by have := HB1.out.size; simp at hD; omega
      exact ⟨_, pos_Recover.res rfl rfl (pos_each.blk_own w3 (grownBy_putObj' _ D (.deferred none)) (fun r e => by cases e; exact ⟨_, hK', rfl⟩)) (pos_each.blk_own w4 (grownBy_putObj' _ D (.deferred none)) (fun r e => by cases e; exact ⟨_, hK', rfl⟩)), rfl, w5.trans (belowK_b (w := w) (Nat.le_refl _) _ D _ _ hd hK' rfl rfl)⟩
    case stop =>
      rintro D c pre W hD ⟨k, hk, rfl⟩ ⟨rfl, ⟨v, ⟨y3, y4⟩, hrun⟩, hb⟩ hK
      obtain ⟨rest, hrest⟩ := pos_each.upto_rest l0 k
      have hfin : pos_Recover.run l0 a1 a2 (List.finRange l0.length) = (v, 0) := by rw [← hrest]; exact hrun rest
      simp only [Option.some.injEq] at H
      rw [hfin] at H
      simp only [Prod.mk.injEq] at H
      obtain ⟨rfl, rfl⟩ := H
      gi_wp2
      refine ⟨by simp, .inl ⟨_, _, rfl, run_takeDeferred hK, ?_⟩⟩
      have hd : w.heap.size ≤ D := by have := HB1.out.size; simp at hD; omega
      exact ⟨_, pos_Recover.res rfl rfl (pos_each.blk_own y3 (grownBy_putObj' _ D (.deferred none)) (fun r e => by cases e; exact ⟨_, hK, rfl⟩)) (pos_each.blk_own y4 (grownBy_putObj' _ D (.deferred none)) (fun r e => by cases e; exact ⟨_, hK, rfl⟩)), rfl, hb.trans (belowK_b (w := w) (Nat.le_refl _) _ D _ _ hd hK rfl rfl)⟩
end

end Go.Proofs.Ytcoolajjjnkfpaa.PPd
