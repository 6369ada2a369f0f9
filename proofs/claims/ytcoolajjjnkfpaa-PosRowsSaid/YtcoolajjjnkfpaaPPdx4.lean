-- Written for this claim by a program (the kit's print, with hand-made contracts for what it does not take).
import Derived.Test.YtcoolajjjnkfpaaPPdx0
import Derived.Test.YtcoolajjjnkfpaaPPdx1
import Derived.Test.YtcoolajjjnkfpaaPPdx2
import Derived.Test.YtcoolajjjnkfpaaPPdx3
namespace Go.Proofs.Ytcoolajjjnkfpaa.PPd
open Go.RowKit Go.Proofs.YtcoolajjjnkfpaaW.PrintWords Go.Proofs.YtcoolajjjnkfpaaW.PrintLast Go.Proofs.YtcoolajjjnkfpaaW.PrintMore
attribute [local go_sem] max2_int min2_int max_two min_two max_three min_three max_four min_four   -- for this text's walks alone
set_option linter.unusedVariables false
set_option linter.unusedSimpArgs false

/-! ### pos_Map: function 12 -/
/-! ### pos.Map -/
def pos_Map.spot (zs : List S37) (p side : Int) (x : Fin zs.length) : Int × Bool × Int × Int × Int :=
  let r := rd_T37 zs ((x.val : Nat) : Int)
  let s := (pos_within.f r.f0 r.f1 r.f2 (pos_each.beg zs x.val) p side).getD (0, false, 0, 0)
  if side < 0 ∧ p ≠ r.f0 ∨ 0 ≤ side ∧ p ≠ r.f0 + r.f1 then (s.1, s.2.1, ((x.val : Nat) : Int), p - r.f0, 0) else (s.1, s.2.1, s.2.2.1, s.2.2.2, 0)
def pos_Map.run (zs : List S37) (p side : Int) : List (Fin zs.length) → Int → Int × Bool × Int × Int × Int
  | [], at_ => (at_, false, -1, 0, 0)
  | x :: xs, at_ =>
    if p < (rd_T37 zs ((x.val : Nat) : Int)).f0 then (at_, false, -1, 0, 0)
    else if p ≤ (rd_T37 zs ((x.val : Nat) : Int)).f0 + (rd_T37 zs ((x.val : Nat) : Int)).f1 then pos_Map.spot zs p side x
    else pos_Map.run zs p side xs (p + pos_each.beg zs x.val - (rd_T37 zs ((x.val : Nat) : Int)).f0 + (rd_T37 zs ((x.val : Nat) : Int)).f2 - (rd_T37 zs ((x.val : Nat) : Int)).f1)
def pos_Map.f (k : Nat) (l0 : List S37) (a1 a2 : Int) : Option (Int × Bool × Int × Int × Int) :=
  (pos_Right.f k l0).bind fun b => if b = true then (if a1 < 0 then some (0, false, 0, 0, 1) else if a1 > 65536 then some (0, false, 0, 0, 1) else some (pos_Map.run l0 a1 a2 (List.finRange l0.length) a1)) else some (0, false, 0, 0, 4)
theorem pos_Map.mono : ∀ a0 a1 a2 k, LeO (pos_Map.f k a0 a1 a2) (pos_Map.f (k + 1) a0 a1 a2) := by
  intro a0 a1 a2 k
  unfold pos_Map.f
  exact LeO.bind (pos_Right.mono _ _) (fun _ => LeO.refl _)
theorem pos_within.some (a b c d e g : Int) : ∃ s, pos_within.f a b c d e g = some s := by
  unfold pos_within.f
  repeat' split
  all_goals exact ⟨_, rfl⟩

theorem pos_each.blk_own {W W' : World} {row : Option Nat} {g : Nat} {cs : Array Value} {t : TypeId} {fr : Nat × Nat} (h : W.heap[g]? = some (.cells cs t fr)) (hg : W.grownBy W' row) (hr : ∀ r, row = some r → ∃ o : Obj, W.heap[r]? = some o ∧ o.isCells = false) : W'.heap[g]? = some (.cells cs t fr) :=
  (grownBy_keeps_cells hg hr h rfl).trans h
theorem pos_each.others_below {W W' : World} (h : Below W.heap.size W W') : KeepsOthers W W' := ⟨h.size, fun k o hk _ => (h.block k (Array.getElem?_eq_some_iff.1 hk).1).trans hk⟩
theorem pos_each.Keeps.refl (n₀ : Nat) (Own : World → Nat → Prop) (A : World) : pos_each.Keeps n₀ Own A A := ⟨Below.refl _ _, Nat.le_refl _, fun _ _ _ _ h _ => h, fun h => h, fun _ h => .inl h⟩

theorem pos_Map.wrote {w W : World} {g3 g4 : Nat} {q0 q1 q2 q3 z : Value} (h3 : W.heap[g3]? = some (.cells #[q0, q1, q2, q3] 24 (0, 0))) (h4 : W.heap[g4]? = some (.cells #[z] 25 (0, 0))) (hB : Below w.heap.size w W) (l3 : w.heap.size ≤ g3) (l4 : w.heap.size ≤ g4) (v0 v1 v2 v3 e : Value) :
    let Wf := ((((W.setCell ⟨g3, 0, none⟩ v0).setCell ⟨g3, 1, none⟩ v1).setCell ⟨g3, 2, none⟩ v2).setCell ⟨g3, 3, none⟩ v3).setCell ⟨g4, 0, none⟩ e
    Wf.heap[g3]? = some (.cells #[v0, v1, v2, v3] 24 (0, 0)) ∧ Wf.heap[g4]? = some (.cells #[e] 25 (0, 0)) ∧ Below w.heap.size w Wf ∧ KeepsOthers W Wf := by
  have hne : g3 ≠ g4 := blk_ne h3 h4 (by decide)
  refine ⟨blk_far (blk_put (blk_put (blk_put (blk_put h3 0 v0 rfl) 1 v1 rfl) 2 v2 rfl) 3 v3 rfl) hne _, blk_put (blk_far (blk_far (blk_far (blk_far h4 (Ne.symm hne) _) (Ne.symm hne) _) (Ne.symm hne) _) (Ne.symm hne) _) 0 e rfl, below_set (below_set (below_set (below_set (below_set hB l3) l3) l3) l3) l4, ?_⟩
  exact ((((KeepsOthers.setCell _ _ _).trans (KeepsOthers.setCell _ _ _)).trans (KeepsOthers.setCell _ _ _)).trans (KeepsOthers.setCell _ _ _)).trans (KeepsOthers.setCell _ _ _)
theorem pos_Map.res {tmps : Array Value} {W : World} {g3 g4 : Nat} {v0 v1 v2 v3 e : Value} (p3 : tmps.getD 6 undef = .pointer (some ⟨g3, 0, none⟩)) (p4 : tmps.getD 7 undef = .pointer (some ⟨g4, 0, none⟩)) (h3 : W.heap[g3]? = some (.cells #[v0, v1, v2, v3] 24 (0, 0))) (h4 : W.heap[g4]? = some (.cells #[e] 25 (0, 0))) :
    (results Try.f12 tmps).run Try.prog W = .ok (.tuple #[.agg #[v0, v1, v2, v3], e]) W := by
  have h1 : tmps[6]?.getD undef = .pointer (some ⟨g3, 0, none⟩) := by simpa using p3
  have h2 : tmps[7]?.getD undef = .pointer (some ⟨g4, 0, none⟩) := by simpa using p4
  have hc : W.cell? ⟨g4, 0, none⟩ = some e := (blk_cell h4 0).trans rfl
  have hc0 : W.cell? ⟨g3, 0, none⟩ = some v0 := (blk_cell h3 0).trans rfl
  have hc1 : W.cell? ⟨g3, 1, none⟩ = some v1 := (blk_cell h3 1).trans rfl
  have hc2 : W.cell? ⟨g3, 2, none⟩ = some v2 := (blk_cell h3 2).trans rfl
  have hc3 : W.cell? ⟨g3, 3, none⟩ = some v3 := (blk_cell h3 3).trans rfl
  have hr : Try.f12.results = #[.cell 6 24, .cell 7 25] := rfl
  simp [results, hr, h1, h2, asAddr, go_sem, hc, hc0, hc1, hc2, hc3]
theorem pos_Map.keeps_alloc {m : Nat} {n₀ : Nat} (W : World) (o : Obj) (hn : n₀ ≤ W.heap.size) : pos_each.Keeps n₀ (fun _ k => k = m) W (W.alloc o) :=
  ⟨(Below.refl _ _).alloc hn _, by simp, fun k cs t fr h _ => blk_alloc h _, fun h k hk => by have := h k hk; simp; omega, fun _ h => .inl h⟩
theorem pos_Map.keeps_set {m : Nat} {n₀ : Nat} (W : World) (v : Value) (hn : n₀ ≤ m) : pos_each.Keeps n₀ (fun _ k => k = m) W (W.setCell ⟨m, 0, none⟩ v) :=
  ⟨(Below.refl _ _).setCell (p := ⟨m, 0, none⟩) hn _, Nat.le_of_eq (by simp), fun k cs t fr h hk => (Below.heap_setCell W ⟨m, 0, none⟩ v k hk).trans h, fun h k hk => by have := h k hk; simpa using this, fun _ h => .inl h⟩
def pos_Map.Inv (w w1 : World) (A0 : Option Addr) (c0 : Nat) (l0 : List S37) (a1 a2 : Int) (pre : List (Fin l0.length)) (W : World) : Prop := ∃ v : Int, ((W.heap[w.heap.size]? = some (.cells #[.slice A0 l0.length c0] 22 (0, 0)) ∧ W.heap[w.heap.size + 1]? = some (.cells #[.int .i64 a1] 3 (0, 0)) ∧ W.heap[w.heap.size + 1 + 1]? = some (.cells #[.int .i64 a2] 3 (0, 0))) ∧ (W.heap[w.heap.size + 1 + 1 + 1]? = some (.cells #[.int .i64 0, .bool false, .int .i64 0, .int .i64 0] 24 (0, 0)) ∧ W.heap[w.heap.size + 1 + 1 + 1 + 1]? = some (.cells #[.int .i64 0] 25 (0, 0))) ∧ W.heap[w1.heap.size]? = some (.cells #[.int .i64 v] 3 (0, 0))) ∧ (∀ rest, pos_Map.run l0 a1 a2 (pre ++ rest) a1 = pos_Map.run l0 a1 a2 rest v) ∧ (-1000000 ≤ v ∧ v ≤ 1000000) ∧ Below w1.heap.size w1 W
def pos_Map.Exi (w w1 : World) (l0 : List S37) (a1 a2 : Int) (c : Code) (pre : List (Fin l0.length)) (W : World) : Prop := (c = .exit 4 ∧ (∃ v : Int, ((W.heap[w.heap.size + 1 + 1 + 1]? = some (.cells #[.int .i64 0, .bool false, .int .i64 0, .int .i64 0] 24 (0, 0)) ∧ W.heap[w.heap.size + 1 + 1 + 1 + 1]? = some (.cells #[.int .i64 0] 25 (0, 0))) ∧ W.heap[w1.heap.size]? = some (.cells #[.int .i64 v] 3 (0, 0))) ∧ (∀ rest, pos_Map.run l0 a1 a2 (pre ++ rest) a1 = (v, false, -1, 0, 0))) ∨
        c = .ret ∧ (∃ (v : Int) (g : Bool) (i o : Int), (W.heap[w.heap.size + 1 + 1 + 1]? = some (.cells #[.int .i64 v, .bool g, .int .i64 i, .int .i64 o] 24 (0, 0)) ∧ W.heap[w.heap.size + 1 + 1 + 1 + 1]? = some (.cells #[.int .i64 0] 25 (0, 0))) ∧ (∀ rest, pos_Map.run l0 a1 a2 (pre ++ rest) a1 = (v, g, i, o, 0)))) ∧ Below w.heap.size w W
theorem pos_Map.spot_in {zs : List S37} {p side : Int} {x : Fin zs.length} {r0 r1 r2 bg s1 s3 s4 : Int} {s2 : Bool} (e0 : (rd_T37 zs ((x.val : Nat) : Int)).f0 = r0) (e1 : (rd_T37 zs ((x.val : Nat) : Int)).f1 = r1) (e2 : (rd_T37 zs ((x.val : Nat) : Int)).f2 = r2) (eb : pos_each.beg zs x.val = bg)
    (h : pos_within.f r0 r1 r2 bg p side = some (s1, s2, s3, s4)) (c : side < 0 ∧ p ≠ r0 ∨ 0 ≤ side ∧ p ≠ r0 + r1) : pos_Map.spot zs p side x = (s1, s2, ((x.val : Nat) : Int), p - r0, 0) := by
  subst e0 e1 e2 eb
  simp only [pos_Map.spot, h, Option.getD_some]
  rw [if_pos c]
theorem pos_Map.spot_out {zs : List S37} {p side : Int} {x : Fin zs.length} {r0 r1 r2 bg s1 s3 s4 : Int} {s2 : Bool} (e0 : (rd_T37 zs ((x.val : Nat) : Int)).f0 = r0) (e1 : (rd_T37 zs ((x.val : Nat) : Int)).f1 = r1) (e2 : (rd_T37 zs ((x.val : Nat) : Int)).f2 = r2) (eb : pos_each.beg zs x.val = bg)
    (h : pos_within.f r0 r1 r2 bg p side = some (s1, s2, s3, s4)) (c : ¬ (side < 0 ∧ p ≠ r0 ∨ 0 ≤ side ∧ p ≠ r0 + r1)) : pos_Map.spot zs p side x = (s1, s2, s3, s4, 0) := by
  subst e0 e1 e2 eb
  simp only [pos_Map.spot, h, Option.getD_some]
  rw [if_neg c]
section
attribute [local go_sem] Oper.semAt_some
set_option maxRecDepth 100000 in
set_option maxHeartbeats 16000000 in
theorem pos_Map.reg {l : Nat} {Q : Exit → Act → World → Prop} {WD : World} {g1 gr gs : Nat} {x a1 f0 : Int} {v2 v3 : Value} {u0 u1 u2 u3 u5 u6 u7 u8 u10 u13 u14 u15 u16 u17 u18 u19 u20 u21 u22 u23 u24 u25 u26 u27 u28 u29 u30 u31 u32 u33 u34 u35 u36 u37 u38 u39 u40 u41 u42 u43 u44 u45 u46 u47 u48 u49 u50 u51 u52 u53 u54 u55 u56 u57 u58 u59 u60 u61 u62 u63 u64 u65 u66 u67 u68 u69 u70 u71 u72 u73 u74 u75 u76 u77 u78 u79 u80 u81 u82 u83 u84 u85 u86 u87 u88 u89 u90 u91 u92 : Value}
    (hd1 : WD.cell? ⟨g1, 0, none⟩ = some (.int .i64 a1)) (hd3 : WD.cell? ⟨gr, 0, none⟩ = some (.int .i64 f0)) (hs2 : WD.cell? ⟨gs, 2, none⟩ = some v2) (hs3 : WD.cell? ⟨gs, 3, none⟩ = some v3) (hs2f : WD.frozen? ⟨gs, 2, none⟩ = false) (hs3f : WD.frozen? ⟨gs, 3, none⟩ = false)
    (h1 : g1 ≠ gs) (hr : gr ≠ gs) (hQ : ∀ W', W' = ((WD.setCell ⟨gs, 2, none⟩ (.int .i64 x)).setCell ⟨gs, 3, none⟩ (.int .i64 (IntKind.i64.wrap (a1 - f0)))).drew → Q .normal { tmps := #[u0, u1, u2, u3, .pointer (some ⟨g1, 0, none⟩), u5, u6, u7, u8, .int .i64 x, u10, .pointer (some ⟨gr, 0, none⟩), .pointer (some ⟨gs, 0, none⟩), u13, u14, u15, u16, u17, u18, u19, u20, u21, u22, u23, u24, u25, u26, u27, u28, u29, u30, u31, u32, u33, u34, u35, u36, u37, u38, u39, u40, u41, u42, u43, u44, u45, u46, u47, u48, u49, u50, u51, u52, u53, u54, u55, u56, u57, u58, u59, u60, u61, u62, u63, u64, u65, u66, u67, u68, u69, u70, .int .i64 x, .int .i64 a1, .pointer (some ⟨gr, 0, none⟩), .int .i64 f0, .int .i64 (IntKind.i64.wrap (a1 - f0)), .pointer (some ⟨gs, 2, none⟩), .pointer (some ⟨gs, 3, none⟩), u78, u79, u80, u81, u82, u83, u84, u85, u86, u87, u88, u89, u90, u91, u92], defers := [] } W') :
    (Code.region 15 #[{ dst := some 71, op := Go.Op.move (Go.Operand.tmp 9), type := 3, pos := "pos.go:75", after := #[], guard := none }, { dst := some 72, op := Go.Op.load 3 (Go.Operand.tmp 4), type := 3, pos := "pos.go:75", after := #[{ on := 6, ground := Go.Ground.gcOnly Go.Departure.lateStores }], guard := none }, { dst := some 73, op := Go.Op.fieldAddr 37 (Go.Operand.tmp 11) 0, type := 0, pos := "pos.go:75", after := #[{ on := 6, ground := Go.Ground.gcOnly Go.Departure.lateStores }], guard := none }, { dst := some 74, op := Go.Op.load 3 (Go.Operand.tmp 73), type := 3, pos := "pos.go:75", after := #[{ on := 2, ground := Go.Ground.data }, { on := 6, ground := Go.Ground.gcOnly Go.Departure.lateStores }], guard := none }, { dst := some 75, op := Go.Op.binOp Go.BinOp.sub 3 (Go.Operand.tmp 72) (Go.Operand.tmp 74) 3, type := 3, pos := "pos.go:75", after := #[{ on := 1, ground := Go.Ground.data }, { on := 3, ground := Go.Ground.data }, { on := 6, ground := Go.Ground.gcOnly Go.Departure.lateStores }], guard := none }, { dst := some 76, op := Go.Op.fieldAddr 24 (Go.Operand.tmp 12) 2, type := 0, pos := "pos.go:75", after := #[{ on := 0, ground := Go.Ground.phase }, { on := 1, ground := Go.Ground.textOnly Go.Departure.lateStores }, { on := 2, ground := Go.Ground.textOnly Go.Departure.lateStores }, { on := 3, ground := Go.Ground.textOnly Go.Departure.lateStores }, { on := 4, ground := Go.Ground.textOnly Go.Departure.lateStores }], guard := none }, { dst := none, op := Go.Op.store 3 (Go.Operand.tmp 76) (Go.Operand.tmp 71), type := 0, pos := "pos.go:75", after := #[{ on := 5, ground := Go.Ground.data }, { on := 0, ground := Go.Ground.data }, { on := 0, ground := Go.Ground.phase }, { on := 1, ground := Go.Ground.textOnly Go.Departure.lateStores }, { on := 2, ground := Go.Ground.textOnly Go.Departure.lateStores }, { on := 3, ground := Go.Ground.textOnly Go.Departure.lateStores }, { on := 4, ground := Go.Ground.textOnly Go.Departure.lateStores }], guard := none }, { dst := some 77, op := Go.Op.fieldAddr 24 (Go.Operand.tmp 12) 3, type := 0, pos := "pos.go:75", after := #[{ on := 0, ground := Go.Ground.phase }, { on := 1, ground := Go.Ground.phase }, { on := 2, ground := Go.Ground.phase }, { on := 3, ground := Go.Ground.phase }, { on := 4, ground := Go.Ground.phase }, { on := 5, ground := Go.Ground.phase }, { on := 6, ground := Go.Ground.phase }], guard := none }, { dst := none, op := Go.Op.store 3 (Go.Operand.tmp 77) (Go.Operand.tmp 75), type := 0, pos := "pos.go:75", after := #[{ on := 7, ground := Go.Ground.data }, { on := 4, ground := Go.Ground.data }, { on := 6, ground := Go.Ground.chain }, { on := 0, ground := Go.Ground.phase }, { on := 1, ground := Go.Ground.phase }, { on := 2, ground := Go.Ground.phase }, { on := 3, ground := Go.Ground.phase }, { on := 4, ground := Go.Ground.phase }, { on := 5, ground := Go.Ground.phase }, { on := 6, ground := Go.Ground.phase }], guard := none }] true).wpIn (Fence.wide.inRound l) 1 Try.prog Q { tmps := #[u0, u1, u2, u3, .pointer (some ⟨g1, 0, none⟩), u5, u6, u7, u8, .int .i64 x, u10, .pointer (some ⟨gr, 0, none⟩), .pointer (some ⟨gs, 0, none⟩), u13, u14, u15, u16, u17, u18, u19, u20, u21, u22, u23, u24, u25, u26, u27, u28, u29, u30, u31, u32, u33, u34, u35, u36, u37, u38, u39, u40, u41, u42, u43, u44, u45, u46, u47, u48, u49, u50, u51, u52, u53, u54, u55, u56, u57, u58, u59, u60, u61, u62, u63, u64, u65, u66, u67, u68, u69, u70, u71, u72, u73, u74, u75, u76, u77, u78, u79, u80, u81, u82, u83, u84, u85, u86, u87, u88, u89, u90, u91, u92], defers := [] } WD := by
  have hMix : Try.prog.follows .mixedOrders = true := by kernel_rfl
  have h1' := Ne.symm h1
  have hr' := Ne.symm hr
  have HQ := Aside0.mk hQ
  clear hQ
  gi_region_with_o (fail)
  all_goals (first | exact HQ.out _ rfl | (simp only [i64_w]; exact HQ.out _ rfl))
end
section
attribute [local go_sem] Oper.semAt_some
set_option maxRecDepth 100000 in
set_option maxHeartbeats 8000000 in
theorem pos_Map.calls (k : Nat) (A0 : Option Addr) (c0 : Nat) (l0 : List S37) (a1 a2 r1 : Int) (r2 : Bool) (r3 r4 r5 : Int) (w : World) (hr0 : Kd.C k37 w A0 l0.length l0) (hc0 : l0.length ≤ c0) (h : pos_Map.f k l0 a1 a2 = some (r1, r2, r3, r4, r5)) :
    Calls Try.prog 12 #[.slice A0 l0.length c0, .int .i64 a1, .int .i64 a2] w fun e w' => e = .returned (.tuple #[.agg #[.int .i64 r1, .bool r2, .int .i64 r3, .int .i64 r4], .int .i64 r5]) ∧ Below w.heap.size w w' := by
  have hu37 := Try.underlying37
  have hu24 := Try.underlying24
  unfold pos_Map.f at h
  obtain ⟨b, hb, H⟩ := Option.bind_eq_some_iff.1 h
  clear h
  have HB := Aside0.mk hb
  have HR0 := Aside0.mk hr0
  have HC0 := Aside0.mk hc0
  clear hb hr0 hc0
  refine (callsIn_wide (n := 3)).1 ?_
  have g14 : Fence.wide.fn 14 := trivial
  have g30 : Fence.wide.fn 30 := trivial
  have g31 : Fence.wide.fn 31 := trivial
  have hMix : Try.prog.follows .mixedOrders = true := by kernel_rfl
  generalize hW0 : (((((w.alloc (.cells #[.slice A0 l0.length c0] 22)).alloc (.cells #[.int .i64 a1] 3)).alloc (.cells #[.int .i64 a2] 3)).alloc (.cells #[.int .i64 0, .bool false, .int .i64 0, .int .i64 0] 24)).alloc (.cells #[.int .i64 0] 25)) = W0
  have hB0 : Below w.heap.size w W0 := by rw [← hW0]; exact below_alloc (below_alloc (below_alloc (below_alloc (below_alloc (Below.refl _ _) _) _) _) _) _
  have hz0 : W0.heap[w.heap.size]? = some (.cells #[.slice A0 l0.length c0] 22 (0, 0)) := by rw [← hW0]; exact blk_alloc (blk_alloc (blk_alloc (blk_alloc (blk_new _ _) _) _) _) _
  have hz1 : W0.heap[w.heap.size + 1]? = some (.cells #[.int .i64 a1] 3 (0, 0)) := by rw [← hW0]; refine blk_alloc (blk_alloc (blk_alloc ?_ _) _) _; have := blk_new (w.alloc (.cells #[.slice A0 l0.length c0] 22)) (.cells #[.int .i64 a1] 3); rwa [World.size_alloc] at this
  have hz2 : W0.heap[w.heap.size + 1 + 1]? = some (.cells #[.int .i64 a2] 3 (0, 0)) := by rw [← hW0]; refine blk_alloc (blk_alloc ?_ _) _; have := blk_new ((w.alloc (.cells #[.slice A0 l0.length c0] 22)).alloc (.cells #[.int .i64 a1] 3)) (.cells #[.int .i64 a2] 3); rwa [World.size_alloc, World.size_alloc] at this
  have hz3 : W0.heap[w.heap.size + 1 + 1 + 1]? = some (.cells #[.int .i64 0, .bool false, .int .i64 0, .int .i64 0] 24 (0, 0)) := by rw [← hW0]; refine blk_alloc ?_ _; have := blk_new (((w.alloc (.cells #[.slice A0 l0.length c0] 22)).alloc (.cells #[.int .i64 a1] 3)).alloc (.cells #[.int .i64 a2] 3)) (.cells #[.int .i64 0, .bool false, .int .i64 0, .int .i64 0] 24); rwa [World.size_alloc, World.size_alloc, World.size_alloc] at this
  have hz4 : W0.heap[w.heap.size + 1 + 1 + 1 + 1]? = some (.cells #[.int .i64 0] 25 (0, 0)) := by rw [← hW0]; have := blk_new ((((w.alloc (.cells #[.slice A0 l0.length c0] 22)).alloc (.cells #[.int .i64 a1] 3)).alloc (.cells #[.int .i64 a2] 3)).alloc (.cells #[.int .i64 0, .bool false, .int .i64 0, .int .i64 0] 24)) (.cells #[.int .i64 0] 25); rwa [World.size_alloc, World.size_alloc, World.size_alloc, World.size_alloc] at this
  have HR1 := Aside0.mk (Kd.C_below HR0.out hB0)
  have HZ := Aside0.mk (And.intro hB0 (And.intro hz0 (And.intro hz1 (And.intro hz2 (And.intro hz3 hz4)))))
  clear hB0 hz0 hz1 hz2 hz3 hz4
  have HW0 := Aside0.mk hW0
  clear hW0
  have h14 : ∀ (Q : Ending → World → Prop), (∀ w1, Below w.heap.size w w1 → w1.heap[w.heap.size]? = some (.cells #[.slice A0 l0.length c0] 22 (0, 0)) → w1.heap[w.heap.size + 1]? = some (.cells #[.int .i64 a1] 3 (0, 0)) → w1.heap[w.heap.size + 1 + 1]? = some (.cells #[.int .i64 a2] 3 (0, 0)) → w1.heap[w.heap.size + 1 + 1 + 1]? = some (.cells #[.int .i64 0, .bool false, .int .i64 0, .int .i64 0] 24 (0, 0)) → w1.heap[w.heap.size + 1 + 1 + 1 + 1]? = some (.cells #[.int .i64 0] 25 (0, 0)) → Kd.C k37 w1 A0 l0.length l0 → Q (.returned (.bool b)) w1) → CallsIn Fence.wide 2 Try.prog 14 #[.slice A0 l0.length c0] (((((w.alloc (.cells #[.slice A0 l0.length c0] 22)).alloc (.cells #[.int .i64 a1] 3)).alloc (.cells #[.int .i64 a2] 3)).alloc (.cells #[.int .i64 0, .bool false, .int .i64 0, .int .i64 0] 24)).alloc (.cells #[.int .i64 0] 25)) Q := by
    intro Q hQ
    rw [HW0.out]
    refine (callsIn_wide.2 (pos_Right.calls k A0 c0 l0 b W0 HR1.out HC0.out HB.out)).mono ?_
    rintro e w1 ⟨rfl, hB1⟩
    obtain ⟨y, y0, y1, y2, y3, y4⟩ := HZ.out
    exact hQ w1 (below_step y hB1) (blk_below y0 hB1) (blk_below y1 hB1) (blk_below y2 hB1) (blk_below y3 hB1) (blk_below y4 hB1) (Kd.C_below HR1.out hB1)
  have H14 := Aside0.mk h14
  clear h14 HZ HR1 HW0
  cases b with
  | false =>
    simp only [Bool.false_eq_true, if_false, Option.some.injEq, Prod.mk.injEq] at H
    obtain ⟨rfl, rfl, rfl, rfl, rfl⟩ := H
    refine callsIn_of_wp_marks Try.func12 rfl trivial ?_ rfl
    simp only [Try.ntmps12, List.size_toArray, List.length_cons, List.length_nil, Nat.reduceAdd, Nat.reduceSub, Array.replicate_succ, Array.replicate_zero, List.push_toArray, List.append_toArray, List.nil_append, List.cons_append]
    gi_wp2_with (gi_at_call 14; refine H14.out _ ?_; intro w1 hB1 z0 z1 z2 z3 z4 hR1; have hc30 : w1.cell? ⟨w.heap.size + 1 + 1 + 1, 0, none⟩ = some (.int .i64 0) := (blk_cell z3 0).trans rfl; have hc31 : w1.cell? ⟨w.heap.size + 1 + 1 + 1, 1, none⟩ = some (.bool false) := (blk_cell z3 1).trans rfl; have hc32 : w1.cell? ⟨w.heap.size + 1 + 1 + 1, 2, none⟩ = some (.int .i64 0) := (blk_cell z3 2).trans rfl; have hc33 : w1.cell? ⟨w.heap.size + 1 + 1 + 1, 3, none⟩ = some (.int .i64 0) := (blk_cell z3 3).trans rfl; have hc4 : w1.cell? ⟨w.heap.size + 1 + 1 + 1 + 1, 0, none⟩ = some (.int .i64 0) := (blk_cell z4 0).trans rfl; have hf30 := blk_frozen z3 0; have hf31 := blk_frozen z3 1; have hf32 := blk_frozen z3 2; have hf33 := blk_frozen z3 3; have hf4 := blk_frozen z4 0; have HB1 := Aside0.mk hB1; have Z3 := Aside0.mk z3; have Z4 := Aside0.mk z4; clear hB1 z0 z1 z2 z3 z4 hR1)
    obtain ⟨w3, w4, w5, -⟩ := pos_Map.wrote Z3.out Z4.out HB1.out (by omega) (by omega) (.int .i64 0) (.bool false) (.int .i64 0) (.int .i64 0) (.int .i64 4)
    exact ⟨_, pos_Map.res rfl rfl w3 w4, rfl, w5⟩
  | true =>
    have hok := pos_Right.ok_true HB.out
    rw [if_pos rfl] at H
    by_cases n1 : a1 < 0
    · rw [if_pos n1] at H
      have n1b : decide (a1 < 0) = true := decide_eq_true n1
      clear n1 hok
      simp only [Option.some.injEq, Prod.mk.injEq] at H
      obtain ⟨rfl, rfl, rfl, rfl, rfl⟩ := H
      refine callsIn_of_wp_marks Try.func12 rfl trivial ?_ rfl
      simp only [Try.ntmps12, List.size_toArray, List.length_cons, List.length_nil, Nat.reduceAdd, Nat.reduceSub, Array.replicate_succ, Array.replicate_zero, List.push_toArray, List.append_toArray, List.nil_append, List.cons_append]
      gi_wp2_with (gi_at_call 14; refine H14.out _ ?_; intro w1 hB1 z0 z1 z2 z3 z4 hR1; have hc30 : w1.cell? ⟨w.heap.size + 1 + 1 + 1, 0, none⟩ = some (.int .i64 0) := (blk_cell z3 0).trans rfl; have hc31 : w1.cell? ⟨w.heap.size + 1 + 1 + 1, 1, none⟩ = some (.bool false) := (blk_cell z3 1).trans rfl; have hc32 : w1.cell? ⟨w.heap.size + 1 + 1 + 1, 2, none⟩ = some (.int .i64 0) := (blk_cell z3 2).trans rfl; have hc33 : w1.cell? ⟨w.heap.size + 1 + 1 + 1, 3, none⟩ = some (.int .i64 0) := (blk_cell z3 3).trans rfl; have hc4 : w1.cell? ⟨w.heap.size + 1 + 1 + 1 + 1, 0, none⟩ = some (.int .i64 0) := (blk_cell z4 0).trans rfl; have hf30 := blk_frozen z3 0; have hf31 := blk_frozen z3 1; have hf32 := blk_frozen z3 2; have hf33 := blk_frozen z3 3; have hf4 := blk_frozen z4 0; have hc1 : w1.cell? ⟨w.heap.size + 1, 0, none⟩ = some (.int .i64 a1) := (blk_cell z1 0).trans rfl; have HB1 := Aside0.mk hB1; have Z3 := Aside0.mk z3; have Z4 := Aside0.mk z4; clear hB1 z0 z1 z2 z3 z4 hR1)
      obtain ⟨w3, w4, w5, -⟩ := pos_Map.wrote Z3.out Z4.out HB1.out (by omega) (by omega) (.int .i64 0) (.bool false) (.int .i64 0) (.int .i64 0) (.int .i64 1)
      exact ⟨_, pos_Map.res rfl rfl w3 w4, rfl, w5⟩
    rw [if_neg n1] at H
    have n1b : decide (a1 < 0) = false := decide_eq_false n1
    by_cases n2 : a1 > 65536
    · rw [if_pos n2] at H
      have n2b : decide (a1 > 65536) = true := decide_eq_true n2
      have n2c : decide (65536 < a1) = true := decide_eq_true n2
      clear n1 n2 hok
      simp only [Option.some.injEq, Prod.mk.injEq] at H
      obtain ⟨rfl, rfl, rfl, rfl, rfl⟩ := H
      refine callsIn_of_wp_marks Try.func12 rfl trivial ?_ rfl
      simp only [Try.ntmps12, List.size_toArray, List.length_cons, List.length_nil, Nat.reduceAdd, Nat.reduceSub, Array.replicate_succ, Array.replicate_zero, List.push_toArray, List.append_toArray, List.nil_append, List.cons_append]
      gi_wp2_with (gi_at_call 14; refine H14.out _ ?_; intro w1 hB1 z0 z1 z2 z3 z4 hR1; have hc30 : w1.cell? ⟨w.heap.size + 1 + 1 + 1, 0, none⟩ = some (.int .i64 0) := (blk_cell z3 0).trans rfl; have hc31 : w1.cell? ⟨w.heap.size + 1 + 1 + 1, 1, none⟩ = some (.bool false) := (blk_cell z3 1).trans rfl; have hc32 : w1.cell? ⟨w.heap.size + 1 + 1 + 1, 2, none⟩ = some (.int .i64 0) := (blk_cell z3 2).trans rfl; have hc33 : w1.cell? ⟨w.heap.size + 1 + 1 + 1, 3, none⟩ = some (.int .i64 0) := (blk_cell z3 3).trans rfl; have hc4 : w1.cell? ⟨w.heap.size + 1 + 1 + 1 + 1, 0, none⟩ = some (.int .i64 0) := (blk_cell z4 0).trans rfl; have hf30 := blk_frozen z3 0; have hf31 := blk_frozen z3 1; have hf32 := blk_frozen z3 2; have hf33 := blk_frozen z3 3; have hf4 := blk_frozen z4 0; have hc1 : w1.cell? ⟨w.heap.size + 1, 0, none⟩ = some (.int .i64 a1) := (blk_cell z1 0).trans rfl; have HB1 := Aside0.mk hB1; have Z3 := Aside0.mk z3; have Z4 := Aside0.mk z4; clear hB1 z0 z1 z2 z3 z4 hR1)
      obtain ⟨w3, w4, w5, -⟩ := pos_Map.wrote Z3.out Z4.out HB1.out (by omega) (by omega) (.int .i64 0) (.bool false) (.int .i64 0) (.int .i64 0) (.int .i64 1)
      exact ⟨_, pos_Map.res rfl rfl w3 w4, rfl, w5⟩
    rw [if_neg n2] at H
    have n2b : decide (a1 > 65536) = false := decide_eq_false n2
    have n2c : decide (65536 < a1) = false := decide_eq_false n2
    refine callsIn_of_wp_marks Try.func12 rfl trivial ?_ rfl
    simp only [Try.ntmps12, List.size_toArray, List.length_cons, List.length_nil, Nat.reduceAdd, Nat.reduceSub, Array.replicate_succ, Array.replicate_zero, List.push_toArray, List.append_toArray, List.nil_append, List.cons_append]
    gi_wp2_with (first | (gi_at_call 14; refine H14.out _ ?_; intro w1 hB1 z0 z1 z2 z3 z4 hR1; have hc0 : w1.cell? ⟨w.heap.size, 0, none⟩ = some (.slice A0 l0.length c0) := (blk_cell z0 0).trans rfl; have hc1 : w1.cell? ⟨w.heap.size + 1, 0, none⟩ = some (.int .i64 a1) := (blk_cell z1 0).trans rfl; have hc0' : (w1.alloc (.cells #[.int .i64 a1] 3)).cell? ⟨w.heap.size, 0, none⟩ = some (.slice A0 l0.length c0) := (blk_cell (blk_alloc z0 _) 0).trans rfl; have HB1 := Aside0.mk hB1; have Z0 := Aside0.mk z0; have Z1 := Aside0.mk z1; have Z2 := Aside0.mk z2; have Z3 := Aside0.mk z3; have Z4 := Aside0.mk z4; have HR1 := Aside0.mk hR1; clear hB1 z0 z1 z2 z3 z4 hR1) | (gi_at_call 30; refine (pos_each.calls_in Fence.wide 2 g30 rfl _ _ _ _).mono ?_; rintro e w' ⟨rfl, rfl⟩))
    have hK0 : Below w1.heap.size w1 ((w1.alloc (.cells #[.int .i64 a1] 3)).alloc (.cells #[.slice A0 l0.length c0] 22)) := below_alloc (below_alloc (Below.refl _ _) _) _
    have hyb : ((w1.alloc (.cells #[.int .i64 a1] 3)).alloc (.cells #[.slice A0 l0.length c0] 22)).heap[w1.heap.size]? = some (.cells #[.int .i64 a1] 3 (0, 0)) := blk_alloc (blk_new _ _) _
    have hbox : ((w1.alloc (.cells #[.int .i64 a1] 3)).alloc (.cells #[.slice A0 l0.length c0] 22)).cell? ⟨w1.heap.size + 1, 0, none⟩ = some (.slice A0 l0.length c0) := by
      have := blk_new (w1.alloc (.cells #[.int .i64 a1] 3)) (.cells #[.slice A0 l0.length c0] 22)
      rw [World.size_alloc] at this
      exact (blk_cell this 0).trans rfl
    have hloc : ∀ A B : World, (∀ k, k < 0 → B.heap[k]? = A.heap[k]?) → ∀ k, k = w1.heap.size → k = w1.heap.size := fun _ _ _ _ h => h
    refine wpIn_rangeFunc_ownF (F := Fence.wide) rfl (by omega) (gf := 34) (lb := #[.pointer (some ⟨w1.heap.size + 1, 0, none⟩)]) rfl trivial (enters_of Try.func34 (by kernel_rfl) rfl)
      (pos_each.stops Fence.wide 2 trivial rfl (by omega) (w1.heap.size + 1) 0 A0 c0 l0 hok w1 HR1.out (fun _ k => k = w1.heap.size) hloc _ hbox hK0 (Nat.zero_le _) (fun k hk => by subst hk; simp; omega))
      pos_each.Keeps.trans (pos_each.Keeps.putObj hloc (by simp; omega) (Nat.zero_le _)) (Below.refl _ _) (fun _ => rfl)
      (pos_Map.Inv w w1 A0 c0 l0 a1 a2) (pos_Map.Exi w w1 l0 a1 a2)
      ?hI ?hIx ?h0 (fun x => { tmps := #[.slice A0 l0.length c0, .int .i64 a1, .int .i64 a2, .pointer (some ⟨w.heap.size, 0, none⟩), .pointer (some ⟨w.heap.size + 1, 0, none⟩), .pointer (some ⟨w.heap.size + 1 + 1, 0, none⟩), .pointer (some ⟨w.heap.size + 1 + 1 + 1, 0, none⟩), .pointer (some ⟨w.heap.size + 1 + 1 + 1 + 1, 0, none⟩), .pointer (some ⟨w1.heap.size, 0, none⟩), .int .i64 ((x.val : Nat) : Int), .int .i64 (pos_each.beg l0 x.val), undef, undef, .bool false, .slice A0 l0.length c0, .bool true, .bool false, .bool false, .int .i64 a1, .bool false, .bool false, .int .i64 a1, .bool false, undef, undef, .int .i64 a1, .slice A0 l0.length c0, .func (.func 34) #[] #[.pointer (some ⟨w1.heap.size + 1, 0, none⟩)], .int .i64 ((x.val : Nat) : Int), .int .i64 (pos_each.beg l0 x.val), undef, undef, undef, undef, undef, undef, undef, undef, undef, undef, undef, undef, undef, undef, undef, undef, undef, undef, undef, undef, undef, undef, undef, undef, undef, undef, undef, undef, undef, undef, undef, undef, undef, undef, undef, undef, undef, undef, undef, undef, undef, undef, undef, undef, undef, undef, undef, undef, undef, undef, undef, undef, undef, undef, undef, undef, undef, undef, undef, undef, undef, undef, undef], defers := [] }) ?assign ?body ?done ?stop
    case hI =>
      rintro s A B row ⟨v, ⟨⟨y0, y1, y2⟩, ⟨y3, y4⟩, yb⟩, hrun, hv, hb⟩ hg hr
      have hr' : ∀ r, row = some r → ∃ o : Obj, A.heap[r]? = some o ∧ o.isCells = false := fun r e => (hr r e).2
      exact ⟨v, ⟨⟨pos_each.blk_own y0 hg hr', pos_each.blk_own y1 hg hr', pos_each.blk_own y2 hg hr'⟩, ⟨pos_each.blk_own y3 hg hr', pos_each.blk_own y4 hg hr'⟩, pos_each.blk_own yb hg hr'⟩, hrun, hv, ownFrom_below (β := Unit) (Nat.le_refl _) (by simp; omega) () _ _ _ hb hg hr⟩
    case hIx =>
      rintro c s A B row ⟨hc, hb⟩ hg hr
      have hr' : ∀ r, row = some r → ∃ o : Obj, A.heap[r]? = some o ∧ o.isCells = false := fun r e => (hr r e).2
      refine ⟨?_, ownFrom_below (β := Unit) (Nat.le_refl _) (by have := HB1.out.size; simp; omega) () _ _ _ hb hg hr⟩
      rcases hc with ⟨rfl, v, ⟨⟨y3, y4⟩, yb⟩, hrun⟩ | ⟨rfl, v, g, i, o, ⟨y3, y4⟩, hrun⟩
      · exact .inl ⟨rfl, v, ⟨⟨pos_each.blk_own y3 hg hr', pos_each.blk_own y4 hg hr'⟩, pos_each.blk_own yb hg hr'⟩, hrun⟩
      · exact .inr ⟨rfl, v, g, i, o, ⟨pos_each.blk_own y3 hg hr', pos_each.blk_own y4 hg hr'⟩, hrun⟩
    case h0 => exact ⟨a1, ⟨⟨blk_alloc (blk_alloc Z0.out _) _, blk_alloc (blk_alloc Z1.out _) _, blk_alloc (blk_alloc Z2.out _) _⟩, ⟨blk_alloc (blk_alloc Z3.out _) _, blk_alloc (blk_alloc Z4.out _) _⟩, hyb⟩, fun _ => rfl, by omega, hK0⟩
    case assign =>
      intro l x W K hK
      gi_wp2
      exact hK
    case body =>
      rintro l pre x W ⟨v, ⟨⟨y0, y1, y2⟩, ⟨y3, y4⟩, yb⟩, hrun, hv, hb⟩ hlen
      clear H hloc hbox hyb hK0 hlen
      have hxl := x.isLt
      obtain ⟨ad, e_, hx0, hx1, hx2⟩ := at_T37 (Kd.C_below HR1.out hb) ((x.val : Nat) : Int) (by omega) (by omega)
      rw [Int.toNat_natCast] at hx0 hx1 hx2
      obtain ⟨⟨b1, b2⟩, ⟨b3, b4⟩, ⟨b5, b6⟩⟩ := hok.get ((x.val : Nat) : Int) (by omega)
      have hbg := pos_each.sh_bound hok x.val (by omega)
      have hbe : pos_each.beg l0 x.val = (rd_T37 l0 ((x.val : Nat) : Int)).f0 + pos_each.sh l0 x.val := rfl
      have h4 := hok.1
      have hq1 : -300000 ≤ pos_each.beg l0 x.val := by omega
      have hq2 : pos_each.beg l0 x.val ≤ 400000 := by omega
      have hstep : ∀ rest, pos_Map.run l0 a1 a2 ((pre ++ [x]) ++ rest) a1 = pos_Map.run l0 a1 a2 (x :: rest) v := fun rest => by rw [List.append_assoc]; exact hrun _
      clear hrun hbg hbe h4 hok
      generalize hf0 : (rd_T37 l0 ((x.val : Nat) : Int)).f0 = f0 at *
      generalize hf1 : (rd_T37 l0 ((x.val : Nat) : Int)).f1 = f1 at *
      generalize hf2 : (rd_T37 l0 ((x.val : Nat) : Int)).f2 = f2 at *
      generalize hbg : pos_each.beg l0 x.val = bg at *
      have hc0 : W.cell? ⟨w.heap.size, 0, none⟩ = some (.slice A0 l0.length c0) := (blk_cell y0 0).trans rfl
      have hr1 : (W.alloc (.cells #[.int .i64 f0, .int .i64 f1, .int .i64 f2] 37)).cell? ⟨w.heap.size + 1, 0, none⟩ = some (.int .i64 a1) := (blk_cell (blk_alloc y1 _) 0).trans rfl
      have hr2 : (W.alloc (.cells #[.int .i64 f0, .int .i64 f1, .int .i64 f2] 37)).cell? ⟨w.heap.size + 1 + 1, 0, none⟩ = some (.int .i64 a2) := (blk_cell (blk_alloc y2 _) 0).trans rfl
      have hrb : (W.alloc (.cells #[.int .i64 f0, .int .i64 f1, .int .i64 f2] 37)).cell? ⟨w1.heap.size, 0, none⟩ = some (.int .i64 v) := (blk_cell (blk_alloc yb _) 0).trans rfl
      have hrbf := blk_frozen (blk_alloc yb (.cells #[.int .i64 f0, .int .i64 f1, .int .i64 f2] 37)) 0
      subst e_
      have Y0 := Aside0.mk y0
      have Y1 := Aside0.mk y1
      have Y2 := Aside0.mk y2
      have Y3 := Aside0.mk y3
      have Y4 := Aside0.mk y4
      have YB := Aside0.mk yb
      have HBW := Aside0.mk hb
      have HST := Aside0.mk hstep
      have HV := Aside0.mk hv
      have N12 := Aside0.mk (show 0 ≤ a1 ∧ a1 ≤ 65536 by omega)
      clear y0 y1 y2 y3 y4 yb hb hstep hv n1 n2
      by_cases n3 : a1 < f0
      · have n3b : decide (a1 < f0) = true := decide_eq_true n3
        have N3 := Aside0.mk n3
        clear n3
        gi_wp2
        refine ⟨KeepsOthers.alloc _ _, .inl ⟨rfl, v, ⟨⟨blk_alloc Y3.out _, blk_alloc Y4.out _⟩, blk_alloc YB.out _⟩, fun rest => ?_⟩, below_alloc (below_step HB1.out HBW.out) _⟩
        rw [HST.out rest, pos_Map.run, hf0, if_pos N3.out]
      · by_cases n4 : a1 ≤ f0 + f1
        · have n3b : decide (a1 < f0) = false := decide_eq_false n3
          have n4b : decide (a1 ≤ f0 + f1) = true := decide_eq_true n4
          obtain ⟨⟨s1, s2, s3, s4⟩, hs⟩ := pos_within.some f0 f1 f2 bg a1 a2
          have HS := Aside0.mk hs
          have N3 := Aside0.mk n3
          have N4 := Aside0.mk n4
          clear n3 n4 hs
          rcases (by omega : (a2 < 0 ∧ a1 = f0) ∨ (a2 < 0 ∧ a1 ≠ f0) ∨ (0 ≤ a2 ∧ a1 = f0 + f1) ∨ (0 ≤ a2 ∧ a1 ≠ f0 + f1)) with ⟨m1, m2⟩ | ⟨m1, m2⟩ | ⟨m1, m2⟩ | ⟨m1, m2⟩
          · have m1b : decide (a2 < 0) = true := decide_eq_true (by omega)
            have m0b : decide (0 ≤ a2) = false := decide_eq_false (by omega)
            have m2b : (a1 != f0) = false := bne_eq_false_iff_eq.mpr (by omega)
            have M1 := Aside0.mk m1
            have M2 := Aside0.mk m2
            clear m1 m2
            gi_wp2_with (gi_at_call 31; refine (CallsIn.inRound l (callsIn_wide.2 (pos_within.calls f0 f1 f2 bg a1 a2 s1 s2 s3 s4 _ HS.out))).mono ?_; rintro e wc ⟨rfl, hbc⟩; have u0 := blk_below (blk_alloc Y3.out (.cells #[.int .i64 f0, .int .i64 f1, .int .i64 f2] 37)) hbc; have u1 := blk_below (blk_alloc Y4.out (.cells #[.int .i64 f0, .int .i64 f1, .int .i64 f2] 37)) hbc; have u2 := blk_below (blk_alloc Y1.out (.cells #[.int .i64 f0, .int .i64 f1, .int .i64 f2] 37)) hbc; have u3 := blk_below (blk_alloc Y2.out (.cells #[.int .i64 f0, .int .i64 f1, .int .i64 f2] 37)) hbc; have u4 := blk_below (blk_new W (.cells #[.int .i64 f0, .int .i64 f1, .int .i64 f2] 37)) hbc; have hd1 : (wc.alloc (.cells #[.int .i64 s1, .bool s2, .int .i64 s3, .int .i64 s4] 24)).cell? ⟨w.heap.size + 1, 0, none⟩ = some (.int .i64 a1) := (blk_cell (blk_alloc u2 _) 0).trans rfl; have hd2 : (wc.alloc (.cells #[.int .i64 s1, .bool s2, .int .i64 s3, .int .i64 s4] 24)).cell? ⟨w.heap.size + 1 + 1, 0, none⟩ = some (.int .i64 a2) := (blk_cell (blk_alloc u3 _) 0).trans rfl; have hd3 : (wc.alloc (.cells #[.int .i64 s1, .bool s2, .int .i64 s3, .int .i64 s4] 24)).cell? ⟨W.heap.size, 0, none⟩ = some (.int .i64 f0) := (blk_cell (blk_alloc u4 _) 0).trans rfl; have hd4 : (wc.alloc (.cells #[.int .i64 s1, .bool s2, .int .i64 s3, .int .i64 s4] 24)).cell? ⟨W.heap.size, 1, none⟩ = some (.int .i64 f1) := (blk_cell (blk_alloc u4 _) 1).trans rfl; have hz30 : (wc.alloc (.cells #[.int .i64 s1, .bool s2, .int .i64 s3, .int .i64 s4] 24)).cell? ⟨w.heap.size + 1 + 1 + 1, 0, none⟩ = some (.int .i64 0) := (blk_cell (blk_alloc u0 _) 0).trans rfl; have hy30 := blk_frozen (blk_alloc u0 (.cells #[.int .i64 s1, .bool s2, .int .i64 s3, .int .i64 s4] 24)) 0; have hz31 : (wc.alloc (.cells #[.int .i64 s1, .bool s2, .int .i64 s3, .int .i64 s4] 24)).cell? ⟨w.heap.size + 1 + 1 + 1, 1, none⟩ = some (.bool false) := (blk_cell (blk_alloc u0 _) 1).trans rfl; have hy31 := blk_frozen (blk_alloc u0 (.cells #[.int .i64 s1, .bool s2, .int .i64 s3, .int .i64 s4] 24)) 1; have hz32 : (wc.alloc (.cells #[.int .i64 s1, .bool s2, .int .i64 s3, .int .i64 s4] 24)).cell? ⟨w.heap.size + 1 + 1 + 1, 2, none⟩ = some (.int .i64 0) := (blk_cell (blk_alloc u0 _) 2).trans rfl; have hy32 := blk_frozen (blk_alloc u0 (.cells #[.int .i64 s1, .bool s2, .int .i64 s3, .int .i64 s4] 24)) 2; have hz33 : (wc.alloc (.cells #[.int .i64 s1, .bool s2, .int .i64 s3, .int .i64 s4] 24)).cell? ⟨w.heap.size + 1 + 1 + 1, 3, none⟩ = some (.int .i64 0) := (blk_cell (blk_alloc u0 _) 3).trans rfl; have hy33 := blk_frozen (blk_alloc u0 (.cells #[.int .i64 s1, .bool s2, .int .i64 s3, .int .i64 s4] 24)) 3; have hz4 : (wc.alloc (.cells #[.int .i64 s1, .bool s2, .int .i64 s3, .int .i64 s4] 24)).cell? ⟨w.heap.size + 1 + 1 + 1 + 1, 0, none⟩ = some (.int .i64 0) := (blk_cell (blk_alloc u1 _) 0).trans rfl; have hy4 := blk_frozen (blk_alloc u1 (.cells #[.int .i64 s1, .bool s2, .int .i64 s3, .int .i64 s4] 24)) 0; have hv3 := Nat.ne_of_lt (blk_lt u0); have hv3' := Nat.ne_of_gt (blk_lt u0); have hv4 := Nat.ne_of_lt (blk_lt u1); have hv4' := Nat.ne_of_gt (blk_lt u1); have U0 := Aside0.mk u0; have U2 := Aside0.mk u2; have U4 := Aside0.mk u4; have U1 := Aside0.mk u1; have HBC := Aside0.mk hbc; clear u0 u1 u2 u3 u4 hbc)
            obtain ⟨x3, x4, x5, x6⟩ := pos_Map.wrote (w := w) (blk_alloc U0.out (.cells #[.int .i64 s1, .bool s2, .int .i64 s3, .int .i64 s4] 24)) (blk_alloc U1.out (.cells #[.int .i64 s1, .bool s2, .int .i64 s3, .int .i64 s4] 24)) (below_alloc (below_step (below_alloc (below_step HB1.out HBW.out) _) HBC.out) _) (by omega) (by omega) (.int .i64 s1) (.bool s2) (.int .i64 s3) (.int .i64 s4) (.int .i64 0)
            refine ⟨(KeepsOthers.alloc _ _).trans ((pos_each.others_below HBC.out).trans ((KeepsOthers.alloc _ _).trans x6)), .inr ⟨rfl, s1, s2, s3, s4, ⟨x3, x4⟩, fun rest => ?_⟩, x5⟩
            have hm1 := M1.out
            have hm2 := M2.out
            rw [HST.out rest, pos_Map.run, hf0, hf1, if_neg (by have := N3.out; omega), if_pos (by have := N4.out; omega)]
            exact pos_Map.spot_out hf0 hf1 hf2 hbg HS.out (by omega)
          · have m1b : decide (a2 < 0) = true := decide_eq_true (by omega)
            have m0b : decide (0 ≤ a2) = false := decide_eq_false (by omega)
            have m2b : (a1 != f0) = true := bne_iff_ne.mpr (by omega)
            have M1 := Aside0.mk m1
            have M2 := Aside0.mk m2
            clear m1 m2
            gi_wp2_with (gi_at_call 31; refine (CallsIn.inRound l (callsIn_wide.2 (pos_within.calls f0 f1 f2 bg a1 a2 s1 s2 s3 s4 _ HS.out))).mono ?_; rintro e wc ⟨rfl, hbc⟩; have u0 := blk_below (blk_alloc Y3.out (.cells #[.int .i64 f0, .int .i64 f1, .int .i64 f2] 37)) hbc; have u1 := blk_below (blk_alloc Y4.out (.cells #[.int .i64 f0, .int .i64 f1, .int .i64 f2] 37)) hbc; have u2 := blk_below (blk_alloc Y1.out (.cells #[.int .i64 f0, .int .i64 f1, .int .i64 f2] 37)) hbc; have u3 := blk_below (blk_alloc Y2.out (.cells #[.int .i64 f0, .int .i64 f1, .int .i64 f2] 37)) hbc; have u4 := blk_below (blk_new W (.cells #[.int .i64 f0, .int .i64 f1, .int .i64 f2] 37)) hbc; have hd1 : (wc.alloc (.cells #[.int .i64 s1, .bool s2, .int .i64 s3, .int .i64 s4] 24)).cell? ⟨w.heap.size + 1, 0, none⟩ = some (.int .i64 a1) := (blk_cell (blk_alloc u2 _) 0).trans rfl; have hd2 : (wc.alloc (.cells #[.int .i64 s1, .bool s2, .int .i64 s3, .int .i64 s4] 24)).cell? ⟨w.heap.size + 1 + 1, 0, none⟩ = some (.int .i64 a2) := (blk_cell (blk_alloc u3 _) 0).trans rfl; have hd3 : (wc.alloc (.cells #[.int .i64 s1, .bool s2, .int .i64 s3, .int .i64 s4] 24)).cell? ⟨W.heap.size, 0, none⟩ = some (.int .i64 f0) := (blk_cell (blk_alloc u4 _) 0).trans rfl; have hd4 : (wc.alloc (.cells #[.int .i64 s1, .bool s2, .int .i64 s3, .int .i64 s4] 24)).cell? ⟨W.heap.size, 1, none⟩ = some (.int .i64 f1) := (blk_cell (blk_alloc u4 _) 1).trans rfl; have hz30 : (wc.alloc (.cells #[.int .i64 s1, .bool s2, .int .i64 s3, .int .i64 s4] 24)).cell? ⟨w.heap.size + 1 + 1 + 1, 0, none⟩ = some (.int .i64 0) := (blk_cell (blk_alloc u0 _) 0).trans rfl; have hy30 := blk_frozen (blk_alloc u0 (.cells #[.int .i64 s1, .bool s2, .int .i64 s3, .int .i64 s4] 24)) 0; have hz31 : (wc.alloc (.cells #[.int .i64 s1, .bool s2, .int .i64 s3, .int .i64 s4] 24)).cell? ⟨w.heap.size + 1 + 1 + 1, 1, none⟩ = some (.bool false) := (blk_cell (blk_alloc u0 _) 1).trans rfl; have hy31 := blk_frozen (blk_alloc u0 (.cells #[.int .i64 s1, .bool s2, .int .i64 s3, .int .i64 s4] 24)) 1; have hz32 : (wc.alloc (.cells #[.int .i64 s1, .bool s2, .int .i64 s3, .int .i64 s4] 24)).cell? ⟨w.heap.size + 1 + 1 + 1, 2, none⟩ = some (.int .i64 0) := (blk_cell (blk_alloc u0 _) 2).trans rfl; have hy32 := blk_frozen (blk_alloc u0 (.cells #[.int .i64 s1, .bool s2, .int .i64 s3, .int .i64 s4] 24)) 2; have hz33 : (wc.alloc (.cells #[.int .i64 s1, .bool s2, .int .i64 s3, .int .i64 s4] 24)).cell? ⟨w.heap.size + 1 + 1 + 1, 3, none⟩ = some (.int .i64 0) := (blk_cell (blk_alloc u0 _) 3).trans rfl; have hy33 := blk_frozen (blk_alloc u0 (.cells #[.int .i64 s1, .bool s2, .int .i64 s3, .int .i64 s4] 24)) 3; have hz4 : (wc.alloc (.cells #[.int .i64 s1, .bool s2, .int .i64 s3, .int .i64 s4] 24)).cell? ⟨w.heap.size + 1 + 1 + 1 + 1, 0, none⟩ = some (.int .i64 0) := (blk_cell (blk_alloc u1 _) 0).trans rfl; have hy4 := blk_frozen (blk_alloc u1 (.cells #[.int .i64 s1, .bool s2, .int .i64 s3, .int .i64 s4] 24)) 0; have hv3 := Nat.ne_of_lt (blk_lt u0); have hv3' := Nat.ne_of_gt (blk_lt u0); have hv4 := Nat.ne_of_lt (blk_lt u1); have hv4' := Nat.ne_of_gt (blk_lt u1); have U0 := Aside0.mk u0; have U2 := Aside0.mk u2; have U4 := Aside0.mk u4; have U1 := Aside0.mk u1; have HBC := Aside0.mk hbc; clear u0 u1 u2 u3 u4 hbc)
            have hbs := blk_new wc (.cells #[.int .i64 s1, .bool s2, .int .i64 s3, .int .i64 s4] 24)
            have hk1 := Nat.ne_of_lt (blk_lt U2.out)
            have hk4 := Nat.ne_of_lt (blk_lt U4.out)
            have HV3 := Aside0.mk hv3
            have HV4 := Aside0.mk hv4
            clear hz30 hz31 hz32 hz33 hz4 hy30 hy31 hy32 hy33 hy4 hd2 hd4
            refine pos_Map.reg (g1 := w.heap.size + 1) (gr := W.heap.size) (gs := wc.heap.size) hd1 hd3 ((blk_cell hbs 2).trans rfl) ((blk_cell hbs 3).trans rfl) (blk_frozen hbs 2) (blk_frozen hbs 3) hk1 hk4 ?_
            intro W' hW'
            rw [show IntKind.i64.wrap (a1 - f0) = a1 - f0 from (i64_w _).trans (pos_Right.w64 (a1 - f0) (by have := N12.out; omega))] at hW'
            have z3 : W'.heap[w.heap.size + 1 + 1 + 1]? = some (.cells #[.int .i64 0, .bool false, .int .i64 0, .int .i64 0] 24 (0, 0)) := by rw [hW']; exact blk_drew (blk_far (blk_far (blk_alloc U0.out _) HV3.out _) HV3.out _)
            have z4 : W'.heap[w.heap.size + 1 + 1 + 1 + 1]? = some (.cells #[.int .i64 0] 25 (0, 0)) := by rw [hW']; exact blk_drew (blk_far (blk_far (blk_alloc U1.out _) HV4.out _) HV4.out _)
            have zs : W'.heap[wc.heap.size]? = some (.cells #[.int .i64 s1, .bool s2, .int .i64 ((x.val : Nat) : Int), .int .i64 (a1 - f0)] 24 (0, 0)) := by rw [hW']; exact blk_drew (blk_put (cs := #[.int .i64 s1, .bool s2, .int .i64 ((x.val : Nat) : Int), .int .i64 s4]) (blk_put hbs 2 _ rfl) 3 _ rfl)
            have wB : Below w.heap.size w W' := by rw [hW']; exact pw_below_drewN (below_set (below_set (below_alloc (below_step (below_alloc (below_step HB1.out HBW.out) _) HBC.out) _) (by have := HBC.out.size; have := HBW.out.size; have := HB1.out.size; simp at *; omega)) (by have := HBC.out.size; have := HBW.out.size; have := HB1.out.size; simp at *; omega)) 1
            have wK : KeepsOthers W W' := by rw [hW']; exact (KeepsOthers.alloc _ _).trans ((pos_each.others_below HBC.out).trans ((KeepsOthers.alloc _ _).trans (((KeepsOthers.setCell _ _ _).trans (KeepsOthers.setCell _ _ _)).trans (KeepsOthers.drew _))))
            have hs0 : W'.cell? ⟨wc.heap.size, 0, none⟩ = some (.int .i64 s1) := (blk_cell zs 0).trans rfl
            have hs1 : W'.cell? ⟨wc.heap.size, 1, none⟩ = some (.bool s2) := (blk_cell zs 1).trans rfl
            have hs2 : W'.cell? ⟨wc.heap.size, 2, none⟩ = some (.int .i64 ((x.val : Nat) : Int)) := (blk_cell zs 2).trans rfl
            have hs3 : W'.cell? ⟨wc.heap.size, 3, none⟩ = some (.int .i64 (a1 - f0)) := (blk_cell zs 3).trans rfl
            have hz30 : W'.cell? ⟨w.heap.size + 1 + 1 + 1, 0, none⟩ = some (.int .i64 0) := (blk_cell z3 0).trans rfl
            have hz31 : W'.cell? ⟨w.heap.size + 1 + 1 + 1, 1, none⟩ = some (.bool false) := (blk_cell z3 1).trans rfl
            have hz32 : W'.cell? ⟨w.heap.size + 1 + 1 + 1, 2, none⟩ = some (.int .i64 0) := (blk_cell z3 2).trans rfl
            have hz33 : W'.cell? ⟨w.heap.size + 1 + 1 + 1, 3, none⟩ = some (.int .i64 0) := (blk_cell z3 3).trans rfl
            have hz4 : W'.cell? ⟨w.heap.size + 1 + 1 + 1 + 1, 0, none⟩ = some (.int .i64 0) := (blk_cell z4 0).trans rfl
            have hy30 := blk_frozen z3 0
            have hy31 := blk_frozen z3 1
            have hy32 := blk_frozen z3 2
            have hy33 := blk_frozen z3 3
            have hy4 := blk_frozen z4 0
            have Z3' := Aside0.mk z3
            have Z4' := Aside0.mk z4
            have WB' := Aside0.mk wB
            have WK' := Aside0.mk wK
            clear hW' z3 z4 zs wB wK hbs
            gi_wp2
            obtain ⟨x3, x4, x5, x6⟩ := pos_Map.wrote (w := w) Z3'.out Z4'.out WB'.out (by omega) (by omega) (.int .i64 s1) (.bool s2) (.int .i64 ((x.val : Nat) : Int)) (.int .i64 (a1 - f0)) (.int .i64 0)
            refine ⟨WK'.out.trans x6, .inr ⟨rfl, s1, s2, ((x.val : Nat) : Int), a1 - f0, ⟨x3, x4⟩, fun rest => ?_⟩, x5⟩
            have hm1 := M1.out
            have hm2 := M2.out
            rw [HST.out rest, pos_Map.run, hf0, hf1, if_neg (by have := N3.out; omega), if_pos (by have := N4.out; omega)]
            exact pos_Map.spot_in hf0 hf1 hf2 hbg HS.out (by omega)
          · have m1b : decide (a2 < 0) = false := decide_eq_false (by omega)
            have m0b : decide (0 ≤ a2) = true := decide_eq_true (by omega)
            have m2b : (a1 != (f0 + f1)) = false := bne_eq_false_iff_eq.mpr (by omega)
            have M1 := Aside0.mk m1
            have M2 := Aside0.mk m2
            clear m1 m2
            gi_wp2_with (gi_at_call 31; refine (CallsIn.inRound l (callsIn_wide.2 (pos_within.calls f0 f1 f2 bg a1 a2 s1 s2 s3 s4 _ HS.out))).mono ?_; rintro e wc ⟨rfl, hbc⟩; have u0 := blk_below (blk_alloc Y3.out (.cells #[.int .i64 f0, .int .i64 f1, .int .i64 f2] 37)) hbc; have u1 := blk_below (blk_alloc Y4.out (.cells #[.int .i64 f0, .int .i64 f1, .int .i64 f2] 37)) hbc; have u2 := blk_below (blk_alloc Y1.out (.cells #[.int .i64 f0, .int .i64 f1, .int .i64 f2] 37)) hbc; have u3 := blk_below (blk_alloc Y2.out (.cells #[.int .i64 f0, .int .i64 f1, .int .i64 f2] 37)) hbc; have u4 := blk_below (blk_new W (.cells #[.int .i64 f0, .int .i64 f1, .int .i64 f2] 37)) hbc; have hd1 : (wc.alloc (.cells #[.int .i64 s1, .bool s2, .int .i64 s3, .int .i64 s4] 24)).cell? ⟨w.heap.size + 1, 0, none⟩ = some (.int .i64 a1) := (blk_cell (blk_alloc u2 _) 0).trans rfl; have hd2 : (wc.alloc (.cells #[.int .i64 s1, .bool s2, .int .i64 s3, .int .i64 s4] 24)).cell? ⟨w.heap.size + 1 + 1, 0, none⟩ = some (.int .i64 a2) := (blk_cell (blk_alloc u3 _) 0).trans rfl; have hd3 : (wc.alloc (.cells #[.int .i64 s1, .bool s2, .int .i64 s3, .int .i64 s4] 24)).cell? ⟨W.heap.size, 0, none⟩ = some (.int .i64 f0) := (blk_cell (blk_alloc u4 _) 0).trans rfl; have hd4 : (wc.alloc (.cells #[.int .i64 s1, .bool s2, .int .i64 s3, .int .i64 s4] 24)).cell? ⟨W.heap.size, 1, none⟩ = some (.int .i64 f1) := (blk_cell (blk_alloc u4 _) 1).trans rfl; have hz30 : (wc.alloc (.cells #[.int .i64 s1, .bool s2, .int .i64 s3, .int .i64 s4] 24)).cell? ⟨w.heap.size + 1 + 1 + 1, 0, none⟩ = some (.int .i64 0) := (blk_cell (blk_alloc u0 _) 0).trans rfl; have hy30 := blk_frozen (blk_alloc u0 (.cells #[.int .i64 s1, .bool s2, .int .i64 s3, .int .i64 s4] 24)) 0; have hz31 : (wc.alloc (.cells #[.int .i64 s1, .bool s2, .int .i64 s3, .int .i64 s4] 24)).cell? ⟨w.heap.size + 1 + 1 + 1, 1, none⟩ = some (.bool false) := (blk_cell (blk_alloc u0 _) 1).trans rfl; have hy31 := blk_frozen (blk_alloc u0 (.cells #[.int .i64 s1, .bool s2, .int .i64 s3, .int .i64 s4] 24)) 1; have hz32 : (wc.alloc (.cells #[.int .i64 s1, .bool s2, .int .i64 s3, .int .i64 s4] 24)).cell? ⟨w.heap.size + 1 + 1 + 1, 2, none⟩ = some (.int .i64 0) := (blk_cell (blk_alloc u0 _) 2).trans rfl; have hy32 := blk_frozen (blk_alloc u0 (.cells #[.int .i64 s1, .bool s2, .int .i64 s3, .int .i64 s4] 24)) 2; have hz33 : (wc.alloc (.cells #[.int .i64 s1, .bool s2, .int .i64 s3, .int .i64 s4] 24)).cell? ⟨w.heap.size + 1 + 1 + 1, 3, none⟩ = some (.int .i64 0) := (blk_cell (blk_alloc u0 _) 3).trans rfl; have hy33 := blk_frozen (blk_alloc u0 (.cells #[.int .i64 s1, .bool s2, .int .i64 s3, .int .i64 s4] 24)) 3; have hz4 : (wc.alloc (.cells #[.int .i64 s1, .bool s2, .int .i64 s3, .int .i64 s4] 24)).cell? ⟨w.heap.size + 1 + 1 + 1 + 1, 0, none⟩ = some (.int .i64 0) := (blk_cell (blk_alloc u1 _) 0).trans rfl; have hy4 := blk_frozen (blk_alloc u1 (.cells #[.int .i64 s1, .bool s2, .int .i64 s3, .int .i64 s4] 24)) 0; have hv3 := Nat.ne_of_lt (blk_lt u0); have hv3' := Nat.ne_of_gt (blk_lt u0); have hv4 := Nat.ne_of_lt (blk_lt u1); have hv4' := Nat.ne_of_gt (blk_lt u1); have U0 := Aside0.mk u0; have U2 := Aside0.mk u2; have U4 := Aside0.mk u4; have U1 := Aside0.mk u1; have HBC := Aside0.mk hbc; clear u0 u1 u2 u3 u4 hbc)
            obtain ⟨x3, x4, x5, x6⟩ := pos_Map.wrote (w := w) (blk_alloc U0.out (.cells #[.int .i64 s1, .bool s2, .int .i64 s3, .int .i64 s4] 24)) (blk_alloc U1.out (.cells #[.int .i64 s1, .bool s2, .int .i64 s3, .int .i64 s4] 24)) (below_alloc (below_step (below_alloc (below_step HB1.out HBW.out) _) HBC.out) _) (by omega) (by omega) (.int .i64 s1) (.bool s2) (.int .i64 s3) (.int .i64 s4) (.int .i64 0)
            refine ⟨(KeepsOthers.alloc _ _).trans ((pos_each.others_below HBC.out).trans ((KeepsOthers.alloc _ _).trans x6)), .inr ⟨rfl, s1, s2, s3, s4, ⟨x3, x4⟩, fun rest => ?_⟩, x5⟩
            have hm1 := M1.out
            have hm2 := M2.out
            rw [HST.out rest, pos_Map.run, hf0, hf1, if_neg (by have := N3.out; omega), if_pos (by have := N4.out; omega)]
            exact pos_Map.spot_out hf0 hf1 hf2 hbg HS.out (by omega)
          · have m1b : decide (a2 < 0) = false := decide_eq_false (by omega)
            have m0b : decide (0 ≤ a2) = true := decide_eq_true (by omega)
            have m2b : (a1 != (f0 + f1)) = true := bne_iff_ne.mpr (by omega)
            have M1 := Aside0.mk m1
            have M2 := Aside0.mk m2
            clear m1 m2
            gi_wp2_with (gi_at_call 31; refine (CallsIn.inRound l (callsIn_wide.2 (pos_within.calls f0 f1 f2 bg a1 a2 s1 s2 s3 s4 _ HS.out))).mono ?_; rintro e wc ⟨rfl, hbc⟩; have u0 := blk_below (blk_alloc Y3.out (.cells #[.int .i64 f0, .int .i64 f1, .int .i64 f2] 37)) hbc; have u1 := blk_below (blk_alloc Y4.out (.cells #[.int .i64 f0, .int .i64 f1, .int .i64 f2] 37)) hbc; have u2 := blk_below (blk_alloc Y1.out (.cells #[.int .i64 f0, .int .i64 f1, .int .i64 f2] 37)) hbc; have u3 := blk_below (blk_alloc Y2.out (.cells #[.int .i64 f0, .int .i64 f1, .int .i64 f2] 37)) hbc; have u4 := blk_below (blk_new W (.cells #[.int .i64 f0, .int .i64 f1, .int .i64 f2] 37)) hbc; have hd1 : (wc.alloc (.cells #[.int .i64 s1, .bool s2, .int .i64 s3, .int .i64 s4] 24)).cell? ⟨w.heap.size + 1, 0, none⟩ = some (.int .i64 a1) := (blk_cell (blk_alloc u2 _) 0).trans rfl; have hd2 : (wc.alloc (.cells #[.int .i64 s1, .bool s2, .int .i64 s3, .int .i64 s4] 24)).cell? ⟨w.heap.size + 1 + 1, 0, none⟩ = some (.int .i64 a2) := (blk_cell (blk_alloc u3 _) 0).trans rfl; have hd3 : (wc.alloc (.cells #[.int .i64 s1, .bool s2, .int .i64 s3, .int .i64 s4] 24)).cell? ⟨W.heap.size, 0, none⟩ = some (.int .i64 f0) := (blk_cell (blk_alloc u4 _) 0).trans rfl; have hd4 : (wc.alloc (.cells #[.int .i64 s1, .bool s2, .int .i64 s3, .int .i64 s4] 24)).cell? ⟨W.heap.size, 1, none⟩ = some (.int .i64 f1) := (blk_cell (blk_alloc u4 _) 1).trans rfl; have hz30 : (wc.alloc (.cells #[.int .i64 s1, .bool s2, .int .i64 s3, .int .i64 s4] 24)).cell? ⟨w.heap.size + 1 + 1 + 1, 0, none⟩ = some (.int .i64 0) := (blk_cell (blk_alloc u0 _) 0).trans rfl; have hy30 := blk_frozen (blk_alloc u0 (.cells #[.int .i64 s1, .bool s2, .int .i64 s3, .int .i64 s4] 24)) 0; have hz31 : (wc.alloc (.cells #[.int .i64 s1, .bool s2, .int .i64 s3, .int .i64 s4] 24)).cell? ⟨w.heap.size + 1 + 1 + 1, 1, none⟩ = some (.bool false) := (blk_cell (blk_alloc u0 _) 1).trans rfl; have hy31 := blk_frozen (blk_alloc u0 (.cells #[.int .i64 s1, .bool s2, .int .i64 s3, .int .i64 s4] 24)) 1; have hz32 : (wc.alloc (.cells #[.int .i64 s1, .bool s2, .int .i64 s3, .int .i64 s4] 24)).cell? ⟨w.heap.size + 1 + 1 + 1, 2, none⟩ = some (.int .i64 0) := (blk_cell (blk_alloc u0 _) 2).trans rfl; have hy32 := blk_frozen (blk_alloc u0 (.cells #[.int .i64 s1, .bool s2, .int .i64 s3, .int .i64 s4] 24)) 2; have hz33 : (wc.alloc (.cells #[.int .i64 s1, .bool s2, .int .i64 s3, .int .i64 s4] 24)).cell? ⟨w.heap.size + 1 + 1 + 1, 3, none⟩ = some (.int .i64 0) := (blk_cell (blk_alloc u0 _) 3).trans rfl; have hy33 := blk_frozen (blk_alloc u0 (.cells #[.int .i64 s1, .bool s2, .int .i64 s3, .int .i64 s4] 24)) 3; have hz4 : (wc.alloc (.cells #[.int .i64 s1, .bool s2, .int .i64 s3, .int .i64 s4] 24)).cell? ⟨w.heap.size + 1 + 1 + 1 + 1, 0, none⟩ = some (.int .i64 0) := (blk_cell (blk_alloc u1 _) 0).trans rfl; have hy4 := blk_frozen (blk_alloc u1 (.cells #[.int .i64 s1, .bool s2, .int .i64 s3, .int .i64 s4] 24)) 0; have hv3 := Nat.ne_of_lt (blk_lt u0); have hv3' := Nat.ne_of_gt (blk_lt u0); have hv4 := Nat.ne_of_lt (blk_lt u1); have hv4' := Nat.ne_of_gt (blk_lt u1); have U0 := Aside0.mk u0; have U2 := Aside0.mk u2; have U4 := Aside0.mk u4; have U1 := Aside0.mk u1; have HBC := Aside0.mk hbc; clear u0 u1 u2 u3 u4 hbc)
            have hbs := blk_new wc (.cells #[.int .i64 s1, .bool s2, .int .i64 s3, .int .i64 s4] 24)
            have hk1 := Nat.ne_of_lt (blk_lt U2.out)
            have hk4 := Nat.ne_of_lt (blk_lt U4.out)
            have HV3 := Aside0.mk hv3
            have HV4 := Aside0.mk hv4
            clear hz30 hz31 hz32 hz33 hz4 hy30 hy31 hy32 hy33 hy4 hd2 hd4
            refine pos_Map.reg (g1 := w.heap.size + 1) (gr := W.heap.size) (gs := wc.heap.size) hd1 hd3 ((blk_cell hbs 2).trans rfl) ((blk_cell hbs 3).trans rfl) (blk_frozen hbs 2) (blk_frozen hbs 3) hk1 hk4 ?_
            intro W' hW'
            rw [show IntKind.i64.wrap (a1 - f0) = a1 - f0 from (i64_w _).trans (pos_Right.w64 (a1 - f0) (by have := N12.out; omega))] at hW'
            have z3 : W'.heap[w.heap.size + 1 + 1 + 1]? = some (.cells #[.int .i64 0, .bool false, .int .i64 0, .int .i64 0] 24 (0, 0)) := by rw [hW']; exact blk_drew (blk_far (blk_far (blk_alloc U0.out _) HV3.out _) HV3.out _)
            have z4 : W'.heap[w.heap.size + 1 + 1 + 1 + 1]? = some (.cells #[.int .i64 0] 25 (0, 0)) := by rw [hW']; exact blk_drew (blk_far (blk_far (blk_alloc U1.out _) HV4.out _) HV4.out _)
            have zs : W'.heap[wc.heap.size]? = some (.cells #[.int .i64 s1, .bool s2, .int .i64 ((x.val : Nat) : Int), .int .i64 (a1 - f0)] 24 (0, 0)) := by rw [hW']; exact blk_drew (blk_put (cs := #[.int .i64 s1, .bool s2, .int .i64 ((x.val : Nat) : Int), .int .i64 s4]) (blk_put hbs 2 _ rfl) 3 _ rfl)
            have wB : Below w.heap.size w W' := by rw [hW']; exact pw_below_drewN (below_set (below_set (below_alloc (below_step (below_alloc (below_step HB1.out HBW.out) _) HBC.out) _) (by have := HBC.out.size; have := HBW.out.size; have := HB1.out.size; simp at *; omega)) (by have := HBC.out.size; have := HBW.out.size; have := HB1.out.size; simp at *; omega)) 1
            have wK : KeepsOthers W W' := by rw [hW']; exact (KeepsOthers.alloc _ _).trans ((pos_each.others_below HBC.out).trans ((KeepsOthers.alloc _ _).trans (((KeepsOthers.setCell _ _ _).trans (KeepsOthers.setCell _ _ _)).trans (KeepsOthers.drew _))))
            have hs0 : W'.cell? ⟨wc.heap.size, 0, none⟩ = some (.int .i64 s1) := (blk_cell zs 0).trans rfl
            have hs1 : W'.cell? ⟨wc.heap.size, 1, none⟩ = some (.bool s2) := (blk_cell zs 1).trans rfl
            have hs2 : W'.cell? ⟨wc.heap.size, 2, none⟩ = some (.int .i64 ((x.val : Nat) : Int)) := (blk_cell zs 2).trans rfl
            have hs3 : W'.cell? ⟨wc.heap.size, 3, none⟩ = some (.int .i64 (a1 - f0)) := (blk_cell zs 3).trans rfl
            have hz30 : W'.cell? ⟨w.heap.size + 1 + 1 + 1, 0, none⟩ = some (.int .i64 0) := (blk_cell z3 0).trans rfl
            have hz31 : W'.cell? ⟨w.heap.size + 1 + 1 + 1, 1, none⟩ = some (.bool false) := (blk_cell z3 1).trans rfl
            have hz32 : W'.cell? ⟨w.heap.size + 1 + 1 + 1, 2, none⟩ = some (.int .i64 0) := (blk_cell z3 2).trans rfl
            have hz33 : W'.cell? ⟨w.heap.size + 1 + 1 + 1, 3, none⟩ = some (.int .i64 0) := (blk_cell z3 3).trans rfl
            have hz4 : W'.cell? ⟨w.heap.size + 1 + 1 + 1 + 1, 0, none⟩ = some (.int .i64 0) := (blk_cell z4 0).trans rfl
            have hy30 := blk_frozen z3 0
            have hy31 := blk_frozen z3 1
            have hy32 := blk_frozen z3 2
            have hy33 := blk_frozen z3 3
            have hy4 := blk_frozen z4 0
            have Z3' := Aside0.mk z3
            have Z4' := Aside0.mk z4
            have WB' := Aside0.mk wB
            have WK' := Aside0.mk wK
            clear hW' z3 z4 zs wB wK hbs
            gi_wp2
            obtain ⟨x3, x4, x5, x6⟩ := pos_Map.wrote (w := w) Z3'.out Z4'.out WB'.out (by omega) (by omega) (.int .i64 s1) (.bool s2) (.int .i64 ((x.val : Nat) : Int)) (.int .i64 (a1 - f0)) (.int .i64 0)
            refine ⟨WK'.out.trans x6, .inr ⟨rfl, s1, s2, ((x.val : Nat) : Int), a1 - f0, ⟨x3, x4⟩, fun rest => ?_⟩, x5⟩
            have hm1 := M1.out
            have hm2 := M2.out
            rw [HST.out rest, pos_Map.run, hf0, hf1, if_neg (by have := N3.out; omega), if_pos (by have := N4.out; omega)]
            exact pos_Map.spot_in hf0 hf1 hf2 hbg HS.out (by omega)
        · have n3b : decide (a1 < f0) = false := decide_eq_false n3
          have n4b : decide (a1 ≤ f0 + f1) = false := decide_eq_false n4
          have N3 := Aside0.mk n3
          have N4 := Aside0.mk n4
          clear n3 n4
          gi_wp2
          have hv := HV.out
          have ha := N12.out
          have hn4 := N4.out
          rw [pos_Right.w64 (a1 + bg) (by omega), pos_Right.w64 (a1 + bg - f0) (by omega), pos_Right.w64 (a1 + bg - f0 + f2) (by omega), pos_Right.w64 (a1 + bg - f0 + f2 - f1) (by omega)]
          have e0 : w.heap.size ≠ w1.heap.size := by have := blk_lt Z0.out; omega
          have e1 : w.heap.size + 1 ≠ w1.heap.size := by have := blk_lt Z1.out; omega
          have e2 : w.heap.size + 1 + 1 ≠ w1.heap.size := by have := blk_lt Z2.out; omega
          have e3 : w.heap.size + 1 + 1 + 1 ≠ w1.heap.size := by have := blk_lt Z3.out; omega
          have e4 : w.heap.size + 1 + 1 + 1 + 1 ≠ w1.heap.size := by have := blk_lt Z4.out; omega
          refine ⟨(KeepsOthers.alloc _ _).trans (KeepsOthers.setCell _ _ _), (pos_Map.keeps_alloc W _ HBW.out.size).trans (pos_Map.keeps_set _ _ (Nat.le_refl _)), _, ⟨⟨blk_far (blk_alloc Y0.out _) e0 _, blk_far (blk_alloc Y1.out _) e1 _, blk_far (blk_alloc Y2.out _) e2 _⟩, ⟨blk_far (blk_alloc Y3.out _) e3 _, blk_far (blk_alloc Y4.out _) e4 _⟩, blk_put (blk_alloc YB.out _) 0 _ rfl⟩, fun rest => ?_, by omega, below_set (below_alloc HBW.out _) (Nat.le_refl _)⟩
          rw [HST.out rest, pos_Map.run, hf0, hf1, hf2, hbg, if_neg (by have := N3.out; omega), if_neg (by have := N4.out; omega)]
    case done =>
      rintro D xs W hD hS ⟨v, ⟨⟨y0, y1, y2⟩, ⟨y3, y4⟩, yb⟩, hrun, hv, hb⟩ hK
      subst hS
      have hfin : pos_Map.run l0 a1 a2 (List.finRange l0.length) a1 = (v, false, -1, 0, 0) := by
        have := hrun []
        rw [List.append_nil, pos_each.upto_all] at this
        exact this
      simp only [Option.some.injEq] at H
      rw [hfin] at H
      simp only [Prod.mk.injEq] at H
      obtain ⟨rfl, rfl, rfl, rfl, rfl⟩ := H
      have hcb : W.cell? ⟨w1.heap.size, 0, none⟩ = some (.int .i64 v) := (blk_cell yb 0).trans rfl
      have hc30 : W.cell? ⟨w.heap.size + 1 + 1 + 1, 0, none⟩ = some (.int .i64 0) := (blk_cell y3 0).trans rfl
      have hc31 : W.cell? ⟨w.heap.size + 1 + 1 + 1, 1, none⟩ = some (.bool false) := (blk_cell y3 1).trans rfl
      have hc32 : W.cell? ⟨w.heap.size + 1 + 1 + 1, 2, none⟩ = some (.int .i64 0) := (blk_cell y3 2).trans rfl
      have hc33 : W.cell? ⟨w.heap.size + 1 + 1 + 1, 3, none⟩ = some (.int .i64 0) := (blk_cell y3 3).trans rfl
      have hc4 : W.cell? ⟨w.heap.size + 1 + 1 + 1 + 1, 0, none⟩ = some (.int .i64 0) := (blk_cell y4 0).trans rfl
      have hf30 := blk_frozen y3 0
      have hf31 := blk_frozen y3 1
      have hf32 := blk_frozen y3 2
      have hf33 := blk_frozen y3 3
      have hf4 := blk_frozen y4 0
      gi_wp2
      obtain ⟨w3, w4, w5, w6⟩ := pos_Map.wrote y3 y4 (below_step HB1.out hb) (by omega) (by omega) (.int .i64 v) (.bool false) (.int .i64 (-1)) (.int .i64 0) (.int .i64 0)
      have hK' := w6.same D _ hK rfl
      refine ⟨by simp, .inl ⟨_, _, rfl, run_takeDeferred hK', ?_⟩⟩
      have hd : w.heap.size ≤ D := by have := HB1.out.size; simp at hD; omega
      exact ⟨_, pos_Map.res rfl rfl (pos_each.blk_own w3 (grownBy_putObj' _ D (.deferred none)) (fun r e => by cases e; exact ⟨_, hK', rfl⟩)) (pos_each.blk_own w4 (grownBy_putObj' _ D (.deferred none)) (fun r e => by cases e; exact ⟨_, hK', rfl⟩)), rfl, w5.trans (belowK_b (w := w) (Nat.le_refl _) _ D _ _ hd hK' rfl rfl)⟩
    case stop =>
      rintro D c pre W hD ⟨k, hk, rfl⟩ ⟨hc, hb⟩ hK
      obtain ⟨rest, hrest⟩ := pos_each.upto_rest l0 k
      rcases hc with ⟨rfl, v, ⟨⟨y3, y4⟩, yb⟩, hrun⟩ | ⟨rfl, v, g, i, o, ⟨y3, y4⟩, hrun⟩
      · have hfin : pos_Map.run l0 a1 a2 (List.finRange l0.length) a1 = (v, false, -1, 0, 0) := by rw [← hrest]; exact hrun rest
        simp only [Option.some.injEq] at H
        rw [hfin] at H
        simp only [Prod.mk.injEq] at H
        obtain ⟨rfl, rfl, rfl, rfl, rfl⟩ := H
        have hcb : W.cell? ⟨w1.heap.size, 0, none⟩ = some (.int .i64 v) := (blk_cell yb 0).trans rfl
        have hc30 : W.cell? ⟨w.heap.size + 1 + 1 + 1, 0, none⟩ = some (.int .i64 0) := (blk_cell y3 0).trans rfl
        have hc31 : W.cell? ⟨w.heap.size + 1 + 1 + 1, 1, none⟩ = some (.bool false) := (blk_cell y3 1).trans rfl
        have hc32 : W.cell? ⟨w.heap.size + 1 + 1 + 1, 2, none⟩ = some (.int .i64 0) := (blk_cell y3 2).trans rfl
        have hc33 : W.cell? ⟨w.heap.size + 1 + 1 + 1, 3, none⟩ = some (.int .i64 0) := (blk_cell y3 3).trans rfl
        have hc4 : W.cell? ⟨w.heap.size + 1 + 1 + 1 + 1, 0, none⟩ = some (.int .i64 0) := (blk_cell y4 0).trans rfl
        have hf30 := blk_frozen y3 0
        have hf31 := blk_frozen y3 1
        have hf32 := blk_frozen y3 2
        have hf33 := blk_frozen y3 3
        have hf4 := blk_frozen y4 0
        gi_wp2
        obtain ⟨w3, w4, w5, w6⟩ := pos_Map.wrote y3 y4 hb (by omega) (by omega) (.int .i64 v) (.bool false) (.int .i64 (-1)) (.int .i64 0) (.int .i64 0)
        have hK' := w6.same D _ hK rfl
        refine ⟨by simp, .inl ⟨_, _, rfl, run_takeDeferred hK', ?_⟩⟩
        have hd : w.heap.size ≤ D := by have := HB1.out.size; simp at hD; omega
        exact ⟨_, pos_Map.res rfl rfl (pos_each.blk_own w3 (grownBy_putObj' _ D (.deferred none)) (fun r e => by cases e; exact ⟨_, hK', rfl⟩)) (pos_each.blk_own w4 (grownBy_putObj' _ D (.deferred none)) (fun r e => by cases e; exact ⟨_, hK', rfl⟩)), rfl, w5.trans (belowK_b (w := w) (Nat.le_refl _) _ D _ _ hd hK' rfl rfl)⟩
      · have hfin : pos_Map.run l0 a1 a2 (List.finRange l0.length) a1 = (v, g, i, o, 0) := by rw [← hrest]; exact hrun rest
        simp only [Option.some.injEq] at H
        rw [hfin] at H
        simp only [Prod.mk.injEq] at H
        obtain ⟨rfl, rfl, rfl, rfl, rfl⟩ := H
        gi_wp2
        refine ⟨by simp, .inl ⟨_, _, rfl, run_takeDeferred hK, ?_⟩⟩
        have hd : w.heap.size ≤ D := by have := HB1.out.size; simp at hD; omega
        exact ⟨_, pos_Map.res rfl rfl (pos_each.blk_own y3 (grownBy_putObj' _ D (.deferred none)) (fun r e => by cases e; exact ⟨_, hK, rfl⟩)) (pos_each.blk_own y4 (grownBy_putObj' _ D (.deferred none)) (fun r e => by cases e; exact ⟨_, hK, rfl⟩)), rfl, hb.trans (belowK_b (w := w) (Nat.le_refl _) _ D _ _ hd hK rfl rfl)⟩
end

end Go.Proofs.Ytcoolajjjnkfpaa.PPd
