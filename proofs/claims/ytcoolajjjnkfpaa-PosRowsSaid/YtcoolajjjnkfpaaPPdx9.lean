-- Written for this claim by a program (the kit's print, with hand-made contracts for what it does not take).
import Derived.Test.YtcoolajjjnkfpaaPPdx0
import Derived.Test.YtcoolajjjnkfpaaPPdx1
import Derived.Test.YtcoolajjjnkfpaaPPdx2
import Derived.Test.YtcoolajjjnkfpaaPPdx4
namespace Go.Proofs.Ytcoolajjjnkfpaa.PPd
open Go.RowKit Go.Proofs.YtcoolajjjnkfpaaW.PrintWords Go.Proofs.YtcoolajjjnkfpaaW.PrintLast Go.Proofs.YtcoolajjjnkfpaaW.PrintMore
attribute [local go_sem] max2_int min2_int max_two min_two max_three min_three max_four min_four   -- for this text's walks alone
set_option linter.unusedVariables false
set_option linter.unusedSimpArgs false

/-! ### pos_Invert: function 17 -/
/-! ### pos.Invert -/
def pos_Invert.run (zs : List S37) : List (Fin zs.length) → List S37
  | [] => []
  | x :: xs => (⟨pos_each.beg zs x.val, (rd_T37 zs ((x.val : Nat) : Int)).f2, (rd_T37 zs ((x.val : Nat) : Int)).f1⟩ : S37) :: pos_Invert.run zs xs
def pos_Invert.f (k : Nat) (l0 : List S37) : Option (List S37 × Int) :=
  (pos_Right.f k l0).bind fun b => if b = true then (pos_Right.f k (pos_Invert.run l0 (List.finRange l0.length))).bind fun c => (if c = true then some (pos_Invert.run l0 (List.finRange l0.length), 0) else some ([], 4)) else some ([], 4)
theorem pos_Invert.mono : ∀ a0 k, LeO (pos_Invert.f k a0) (pos_Invert.f (k + 1) a0) := by
  intro a0 k
  unfold pos_Invert.f
  refine LeO.bind (pos_Right.mono _ _) (fun b => ?_)
  split
  · exact LeO.bind (pos_Right.mono _ _) (fun _ => LeO.refl _)
  · exact LeO.refl _
theorem pos_Invert.run_append (zs : List S37) : ∀ (a b : List (Fin zs.length)), pos_Invert.run zs (a ++ b) = pos_Invert.run zs a ++ pos_Invert.run zs b
  | [], _ => rfl
  | x :: xs, b => by rw [List.cons_append, pos_Invert.run, pos_Invert.run, pos_Invert.run_append zs xs b, List.cons_append]
theorem pos_Invert.run_length (zs : List S37) : ∀ (a : List (Fin zs.length)), (pos_Invert.run zs a).length = a.length
  | [] => rfl
  | x :: xs => by rw [pos_Invert.run, List.length_cons, pos_Invert.run_length zs xs, List.length_cons]
theorem pos_Invert.res {tmps : Array Value} {W : World} {v e : Value} (p2 : tmps.getD 2 undef = v) (p3 : tmps.getD 3 undef = e) : (results Try.f17 tmps).run Try.prog W = .ok (.tuple #[v, e]) W := by
  have h1 : tmps[2]?.getD undef = v := by simpa using p2
  have h2 : tmps[3]?.getD undef = e := by simpa using p3
  have hr : Try.f17.results = #[.tmp 2, .tmp 3] := rfl
  simp [results, hr, h1, h2, go_sem]
def pos_Invert.Own (g : Nat) (W : World) (k : Nat) : Prop := k = g ∨ ∃ v : Value, W.heap[g]? = some (.cells #[v] 22 (0, 0)) ∧ v.ownBlock = some k
theorem pos_Invert.Own_of {g : Nat} {W : World} {k : Nat} {v : Value} (h : W.heap[g]? = some (.cells #[v] 22 (0, 0))) (ho : pos_Invert.Own g W k) : k = g ∨ v.ownBlock = some k := by
  rcases ho with ho | ⟨u, hu, hk⟩
  · exact .inl ho
  · rw [h] at hu
    simp only [Option.some.injEq, Obj.cells.injEq] at hu
    have : v = u := by simpa using hu
    subst this
    exact .inr hk
theorem pos_Invert.R_own {W W' : World} {base : Nat} {v : Value} {xs : List S37} {row : Option Nat} (h : Kd.R k37 37 W base (fun _ => True) v xs) (hg : W.grownBy W' row) (hr : ∀ r, row = some r → ∃ o : Obj, W.heap[r]? = some o ∧ o.isCells = false) : Kd.R k37 37 W' base (fun _ => True) v xs := by
  refine Kd.R_mono (Kd.R_grown (Kd.R_bound h) hg (fun k hk e => ?_)) (fun _ _ => trivial)
  obtain ⟨_, _, _, q, _, cells, hc⟩ := hk
  obtain ⟨o, ho, hn⟩ := hr k e.symm
  rw [hc] at ho
  obtain rfl := Option.some.inj ho
  cases hn
theorem pos_Invert.put {W : World} {D base : Nat} {v : Value} {xs : List S37} (h : Kd.R k37 37 W base (fun _ => True) v xs) {o o' : Obj} (hD : W.heap[D]? = some o) (hn : o.isCells = false) : Kd.R k37 37 (W.putObj D o') base (fun _ => True) v xs :=
  pos_Invert.R_own h (grownBy_putObj' _ D o') (fun r e => by cases e; exact ⟨_, hD, hn⟩)
/-- What the loop keeps. -/
def pos_Invert.Inv (w w1 : World) (A0 : Option Addr) (c0 : Nat) (l0 : List S37) (pre : List (Fin l0.length)) (W : World) : Prop := W.heap[w.heap.size]? = some (.cells #[.slice A0 l0.length c0] 22 (0, 0)) ∧ (∃ v : Value, W.heap[w1.heap.size]? = some (.cells #[v] 22 (0, 0)) ∧ Kd.R k37 37 W w1.heap.size (fun _ => True) v (pos_Invert.run l0 pre)) ∧ Below w1.heap.size w1 W
section
attribute [local go_sem] Oper.semAt_some
set_option maxRecDepth 100000 in
set_option maxHeartbeats 16000000 in
theorem pos_Invert.reg {l : Nat} {Q : Exit → Act → World → Prop} {w1 WD : World} {g1 go x len : Nat} {ad : Addr} {c0 : Nat} {vo : Value} {bg f1 f2 : Int} {zs : List S37} {u0 u2 u3 u7 u8 u9 u10 u11 u12 u13 u14 u15 u16 u17 u18 u19 u20 u21 u22 u23 u24 u25 u26 u27 u28 u29 u30 u31 u32 : Value}
    (hd1 : WD.heap[g1]? = some (.cells #[.slice (some ad) len c0] 22 (0, 0))) (hgo : WD.heap[go]? = some (.cells #[vo] 22 (0, 0))) (l1 : g1 < w1.heap.size) (l2 : w1.heap.size ≤ go) (l3 : ad.block < w1.heap.size) (hb : Below w1.heap.size w1 WD)
    (hx1 : w1.cell? ⟨(ad.add (x * 3)).block, (ad.add (x * 3)).off + 1, none⟩ = some (.int .i64 f1)) (hx2 : w1.cell? ⟨(ad.add (x * 3)).block, (ad.add (x * 3)).off + 2, none⟩ = some (.int .i64 f2)) (hxl : x < len) (hR : Kd.R k37 37 WD w1.heap.size (fun _ => True) vo zs) (hz : zs.length ≤ 1000)
    (hQ : ∀ v1 w2, Kd.R k37 37 w2 w1.heap.size (fun _ => True) v1 (zs ++ [(⟨bg, f2, f1⟩ : S37)]) → Below w1.heap.size w1 w2 → WD.drew.grownBy w2 vo.ownBlock → (v1.ownBlock = vo.ownBlock ∨ ∃ b, v1.ownBlock = some b ∧ WD.heap.size ≤ b) → w2.heap[go]? = some (.cells #[vo] 22 (0, 0)) → Q .normal { tmps := #[u0, .pointer (some ⟨g1, 0, none⟩), u2, u3, .pointer (some ⟨go, 0, none⟩), .int .i64 ((x : Nat) : Int), .int .i64 bg, u7, u8, u9, u10, u11, u12, u13, vo, .int .i64 bg, .slice (some ad) len c0, .int .i64 ((x : Nat) : Int), .pointer (some (ad.add (x * 3))), .pointer (some ⟨(ad.add (x * 3)).block, (ad.add (x * 3)).off + 2, none⟩), .int .i64 f2, .slice (some ad) len c0, .int .i64 ((x : Nat) : Int), .pointer (some (ad.add (x * 3))), .pointer (some ⟨(ad.add (x * 3)).block, (ad.add (x * 3)).off + 1, none⟩), .int .i64 f1, .agg #[.int .i64 bg, .int .i64 f2, .int .i64 f1], .slice (some ⟨WD.heap.size, 0, none⟩) 1 1, v1, u29, u30, u31, u32], defers := [] } (w2.setCell ⟨go, 0, none⟩ v1)) :
    (Code.region 7 #[{ dst := some 14, op := Go.Op.load 22 (Go.Operand.tmp 4), type := 22, pos := "pos.go:91", after := #[], guard := none }, { dst := some 15, op := Go.Op.move (Go.Operand.tmp 6), type := 3, pos := "pos.go:91", after := #[], guard := none }, { dst := some 16, op := Go.Op.load 22 (Go.Operand.tmp 1), type := 22, pos := "pos.go:91", after := #[], guard := none }, { dst := some 17, op := Go.Op.move (Go.Operand.tmp 5), type := 3, pos := "pos.go:91", after := #[], guard := none }, { dst := some 18, op := Go.Op.indexAddr 22 (Go.Operand.tmp 16) (Go.Operand.tmp 17), type := 0, pos := "pos.go:91", after := #[{ on := 2, ground := Go.Ground.data }, { on := 3, ground := Go.Ground.data }], guard := none }, { dst := some 19, op := Go.Op.fieldAddr 37 (Go.Operand.tmp 18) 2, type := 0, pos := "pos.go:91", after := #[{ on := 4, ground := Go.Ground.data }], guard := none }, { dst := some 20, op := Go.Op.load 3 (Go.Operand.tmp 19), type := 3, pos := "pos.go:91", after := #[{ on := 5, ground := Go.Ground.data }], guard := none }, { dst := some 21, op := Go.Op.load 22 (Go.Operand.tmp 1), type := 22, pos := "pos.go:91", after := #[], guard := none }, { dst := some 22, op := Go.Op.move (Go.Operand.tmp 5), type := 3, pos := "pos.go:91", after := #[], guard := none }, { dst := some 23, op := Go.Op.indexAddr 22 (Go.Operand.tmp 21) (Go.Operand.tmp 22), type := 0, pos := "pos.go:91", after := #[{ on := 7, ground := Go.Ground.data }, { on := 8, ground := Go.Ground.data }], guard := none }, { dst := some 24, op := Go.Op.fieldAddr 37 (Go.Operand.tmp 23) 1, type := 0, pos := "pos.go:91", after := #[{ on := 9, ground := Go.Ground.data }], guard := none }, { dst := some 25, op := Go.Op.load 3 (Go.Operand.tmp 24), type := 3, pos := "pos.go:91", after := #[{ on := 10, ground := Go.Ground.data }], guard := none }, { dst := some 26, op := Go.Op.build 37 #[(0, Go.Operand.tmp 15), (1, Go.Operand.tmp 20), (2, Go.Operand.tmp 25)], type := 37, pos := "pos.go:91", after := #[{ on := 1, ground := Go.Ground.data }, { on := 6, ground := Go.Ground.data }, { on := 11, ground := Go.Ground.data }], guard := none }, { dst := some 27, op := Go.Op.buildSlice 22 1 #[(0, Go.Operand.tmp 26)], type := 22, pos := "pos.go:91", after := #[{ on := 12, ground := Go.Ground.data }], guard := none }, { dst := some 28, op := Go.Op.call { callee := Go.Callee.builtin Go.Builtin.append, args := #[Go.Operand.tmp 14, Go.Operand.tmp 27], argTypes := #[22, 22] }, type := 22, pos := "pos.go:91", after := #[{ on := 0, ground := Go.Ground.data }, { on := 13, ground := Go.Ground.data }], guard := none }, { dst := none, op := Go.Op.store 22 (Go.Operand.tmp 4) (Go.Operand.tmp 28), type := 0, pos := "pos.go:91", after := #[{ on := 14, ground := Go.Ground.data }, { on := 14, ground := Go.Ground.chain }, { on := 0, ground := Go.Ground.phase }, { on := 1, ground := Go.Ground.phase }, { on := 2, ground := Go.Ground.phase }, { on := 3, ground := Go.Ground.phase }, { on := 4, ground := Go.Ground.phase }, { on := 5, ground := Go.Ground.phase }, { on := 6, ground := Go.Ground.phase }, { on := 7, ground := Go.Ground.phase }, { on := 8, ground := Go.Ground.phase }, { on := 9, ground := Go.Ground.phase }, { on := 10, ground := Go.Ground.phase }, { on := 11, ground := Go.Ground.phase }, { on := 12, ground := Go.Ground.phase }, { on := 13, ground := Go.Ground.phase }, { on := 14, ground := Go.Ground.phase }], guard := none }] true).wpIn (Fence.wide.inRound l) 1 Try.prog Q { tmps := #[u0, .pointer (some ⟨g1, 0, none⟩), u2, u3, .pointer (some ⟨go, 0, none⟩), .int .i64 ((x : Nat) : Int), .int .i64 bg, u7, u8, u9, u10, u11, u12, u13, u14, u15, u16, u17, u18, u19, u20, u21, u22, u23, u24, u25, u26, u27, u28, u29, u30, u31, u32], defers := [] } WD := by
  have hMix : Try.prog.follows .mixedOrders = true := by kernel_rfl
  have hu37 := Try.underlying37
  have hx0 : (0 : Int) ≤ ((x : Nat) : Int) := by omega
  have hx3 : ((x : Nat) : Int) < (len : Int) := by omega
  have hxb : (ad.add (x * 3)).block = ad.block := by unfold Addr.add; split <;> rfl
  refine RoundRegion.rule 13 hMix (by kernel_rfl) (fun w' => Below w1.heap.size w1 w' ∧ w'.cell? ⟨g1, 0, none⟩ = some (.slice (some ad) len c0) ∧ w'.cell? ⟨go, 0, none⟩ = some vo) ⟨pw_below_drewN hb 1, (blk_cell (blk_drew hd1) 0).trans rfl, (blk_cell (blk_drew hgo) 0).trans rfl⟩ ?_
  refine RoundRegion.step (vo) rfl (fun w' hI => ?_) ?_
  · obtain ⟨h1, h2, h3⟩ := hI
    have e1 := h1.cell (p := ⟨(ad.add (x * 3)).block, (ad.add (x * 3)).off + 1, none⟩) (by rw [hxb]; exact l3)
    have e2 := h1.cell (p := ⟨(ad.add (x * 3)).block, (ad.add (x * 3)).off + 2, none⟩) (by rw [hxb]; exact l3)
    rw [hx1] at e1
    rw [hx2] at e2
    simp [go_sem, h2, h3, e1, e2, hx0, hx3, hu37]
  simp only [Act.put, List.setIfInBounds_toArray, List.set_cons_zero, List.set_cons_succ]
  refine RoundRegion.step (.int .i64 bg) rfl (fun w' hI => ?_) ?_
  · obtain ⟨h1, h2, h3⟩ := hI
    have e1 := h1.cell (p := ⟨(ad.add (x * 3)).block, (ad.add (x * 3)).off + 1, none⟩) (by rw [hxb]; exact l3)
    have e2 := h1.cell (p := ⟨(ad.add (x * 3)).block, (ad.add (x * 3)).off + 2, none⟩) (by rw [hxb]; exact l3)
    rw [hx1] at e1
    rw [hx2] at e2
    simp [go_sem, h2, h3, e1, e2, hx0, hx3, hu37]
  simp only [Act.put, List.setIfInBounds_toArray, List.set_cons_zero, List.set_cons_succ]
  refine RoundRegion.step (.slice (some ad) len c0) rfl (fun w' hI => ?_) ?_
  · obtain ⟨h1, h2, h3⟩ := hI
    have e1 := h1.cell (p := ⟨(ad.add (x * 3)).block, (ad.add (x * 3)).off + 1, none⟩) (by rw [hxb]; exact l3)
    have e2 := h1.cell (p := ⟨(ad.add (x * 3)).block, (ad.add (x * 3)).off + 2, none⟩) (by rw [hxb]; exact l3)
    rw [hx1] at e1
    rw [hx2] at e2
    simp [go_sem, h2, h3, e1, e2, hx0, hx3, hu37]
  simp only [Act.put, List.setIfInBounds_toArray, List.set_cons_zero, List.set_cons_succ]
  refine RoundRegion.step (.int .i64 ((x : Nat) : Int)) rfl (fun w' hI => ?_) ?_
  · obtain ⟨h1, h2, h3⟩ := hI
    have e1 := h1.cell (p := ⟨(ad.add (x * 3)).block, (ad.add (x * 3)).off + 1, none⟩) (by rw [hxb]; exact l3)
    have e2 := h1.cell (p := ⟨(ad.add (x * 3)).block, (ad.add (x * 3)).off + 2, none⟩) (by rw [hxb]; exact l3)
    rw [hx1] at e1
    rw [hx2] at e2
    simp [go_sem, h2, h3, e1, e2, hx0, hx3, hu37]
  simp only [Act.put, List.setIfInBounds_toArray, List.set_cons_zero, List.set_cons_succ]
  refine RoundRegion.step (.pointer (some (ad.add (x * 3)))) rfl (fun w' hI => ?_) ?_
  · obtain ⟨h1, h2, h3⟩ := hI
    have e1 := h1.cell (p := ⟨(ad.add (x * 3)).block, (ad.add (x * 3)).off + 1, none⟩) (by rw [hxb]; exact l3)
    have e2 := h1.cell (p := ⟨(ad.add (x * 3)).block, (ad.add (x * 3)).off + 2, none⟩) (by rw [hxb]; exact l3)
    rw [hx1] at e1
    rw [hx2] at e2
    simp [go_sem, h2, h3, e1, e2, hx0, hx3, hu37]
  simp only [Act.put, List.setIfInBounds_toArray, List.set_cons_zero, List.set_cons_succ]
  refine RoundRegion.step (.pointer (some ⟨(ad.add (x * 3)).block, (ad.add (x * 3)).off + 2, none⟩)) rfl (fun w' hI => ?_) ?_
  · obtain ⟨h1, h2, h3⟩ := hI
    have e1 := h1.cell (p := ⟨(ad.add (x * 3)).block, (ad.add (x * 3)).off + 1, none⟩) (by rw [hxb]; exact l3)
    have e2 := h1.cell (p := ⟨(ad.add (x * 3)).block, (ad.add (x * 3)).off + 2, none⟩) (by rw [hxb]; exact l3)
    rw [hx1] at e1
    rw [hx2] at e2
    simp [go_sem, h2, h3, e1, e2, hx0, hx3, hu37]
  simp only [Act.put, List.setIfInBounds_toArray, List.set_cons_zero, List.set_cons_succ]
  refine RoundRegion.step (.int .i64 f2) rfl (fun w' hI => ?_) ?_
  · obtain ⟨h1, h2, h3⟩ := hI
    have e1 := h1.cell (p := ⟨(ad.add (x * 3)).block, (ad.add (x * 3)).off + 1, none⟩) (by rw [hxb]; exact l3)
    have e2 := h1.cell (p := ⟨(ad.add (x * 3)).block, (ad.add (x * 3)).off + 2, none⟩) (by rw [hxb]; exact l3)
    rw [hx1] at e1
    rw [hx2] at e2
    simp [go_sem, h2, h3, e1, e2, hx0, hx3, hu37]
  simp only [Act.put, List.setIfInBounds_toArray, List.set_cons_zero, List.set_cons_succ]
  refine RoundRegion.step (.slice (some ad) len c0) rfl (fun w' hI => ?_) ?_
  · obtain ⟨h1, h2, h3⟩ := hI
    have e1 := h1.cell (p := ⟨(ad.add (x * 3)).block, (ad.add (x * 3)).off + 1, none⟩) (by rw [hxb]; exact l3)
    have e2 := h1.cell (p := ⟨(ad.add (x * 3)).block, (ad.add (x * 3)).off + 2, none⟩) (by rw [hxb]; exact l3)
    rw [hx1] at e1
    rw [hx2] at e2
    simp [go_sem, h2, h3, e1, e2, hx0, hx3, hu37]
  simp only [Act.put, List.setIfInBounds_toArray, List.set_cons_zero, List.set_cons_succ]
  refine RoundRegion.step (.int .i64 ((x : Nat) : Int)) rfl (fun w' hI => ?_) ?_
  · obtain ⟨h1, h2, h3⟩ := hI
    have e1 := h1.cell (p := ⟨(ad.add (x * 3)).block, (ad.add (x * 3)).off + 1, none⟩) (by rw [hxb]; exact l3)
    have e2 := h1.cell (p := ⟨(ad.add (x * 3)).block, (ad.add (x * 3)).off + 2, none⟩) (by rw [hxb]; exact l3)
    rw [hx1] at e1
    rw [hx2] at e2
    simp [go_sem, h2, h3, e1, e2, hx0, hx3, hu37]
  simp only [Act.put, List.setIfInBounds_toArray, List.set_cons_zero, List.set_cons_succ]
  refine RoundRegion.step (.pointer (some (ad.add (x * 3)))) rfl (fun w' hI => ?_) ?_
  · obtain ⟨h1, h2, h3⟩ := hI
    have e1 := h1.cell (p := ⟨(ad.add (x * 3)).block, (ad.add (x * 3)).off + 1, none⟩) (by rw [hxb]; exact l3)
    have e2 := h1.cell (p := ⟨(ad.add (x * 3)).block, (ad.add (x * 3)).off + 2, none⟩) (by rw [hxb]; exact l3)
    rw [hx1] at e1
    rw [hx2] at e2
    simp [go_sem, h2, h3, e1, e2, hx0, hx3, hu37]
  simp only [Act.put, List.setIfInBounds_toArray, List.set_cons_zero, List.set_cons_succ]
  refine RoundRegion.step (.pointer (some ⟨(ad.add (x * 3)).block, (ad.add (x * 3)).off + 1, none⟩)) rfl (fun w' hI => ?_) ?_
  · obtain ⟨h1, h2, h3⟩ := hI
    have e1 := h1.cell (p := ⟨(ad.add (x * 3)).block, (ad.add (x * 3)).off + 1, none⟩) (by rw [hxb]; exact l3)
    have e2 := h1.cell (p := ⟨(ad.add (x * 3)).block, (ad.add (x * 3)).off + 2, none⟩) (by rw [hxb]; exact l3)
    rw [hx1] at e1
    rw [hx2] at e2
    simp [go_sem, h2, h3, e1, e2, hx0, hx3, hu37]
  simp only [Act.put, List.setIfInBounds_toArray, List.set_cons_zero, List.set_cons_succ]
  refine RoundRegion.step (.int .i64 f1) rfl (fun w' hI => ?_) ?_
  · obtain ⟨h1, h2, h3⟩ := hI
    have e1 := h1.cell (p := ⟨(ad.add (x * 3)).block, (ad.add (x * 3)).off + 1, none⟩) (by rw [hxb]; exact l3)
    have e2 := h1.cell (p := ⟨(ad.add (x * 3)).block, (ad.add (x * 3)).off + 2, none⟩) (by rw [hxb]; exact l3)
    rw [hx1] at e1
    rw [hx2] at e2
    simp [go_sem, h2, h3, e1, e2, hx0, hx3, hu37]
  simp only [Act.put, List.setIfInBounds_toArray, List.set_cons_zero, List.set_cons_succ]
  refine RoundRegion.step (.agg #[.int .i64 bg, .int .i64 f2, .int .i64 f1]) rfl (fun w' hI => ?_) ?_
  · obtain ⟨h1, h2, h3⟩ := hI
    have e1 := h1.cell (p := ⟨(ad.add (x * 3)).block, (ad.add (x * 3)).off + 1, none⟩) (by rw [hxb]; exact l3)
    have e2 := h1.cell (p := ⟨(ad.add (x * 3)).block, (ad.add (x * 3)).off + 2, none⟩) (by rw [hxb]; exact l3)
    rw [hx1] at e1
    rw [hx2] at e2
    simp [go_sem, h2, h3, e1, e2, hx0, hx3, hu37]
  simp only [Act.put, List.setIfInBounds_toArray, List.set_cons_zero, List.set_cons_succ]
  refine RoundRegion.walk_tail ?_
  refine RoundRegion.go_val (.slice (some ⟨WD.heap.size, 0, none⟩) 1 1) (WD.drew.alloc (.cells [.int .i64 bg, .int .i64 f2, .int .i64 f1].toArray 37)) rfl ?_ (.inr ⟨below_alloc (pw_below_drewN hb 1) _, (blk_cell (blk_alloc (blk_drew hd1) _) 0).trans rfl, (blk_cell (blk_alloc (blk_drew hgo) _) 0).trans rfl⟩) ?_
  · simp [go_sem, Try.underlying22, info37]
  simp only [Act.put, List.setIfInBounds_toArray, List.set_cons_zero, List.set_cons_succ]
  have hRd : Kd.R k37 37 WD.drew w1.heap.size (fun _ => True) vo zs := Kd.R_drew hR
  refine RoundRegion.go_append (W := WD.drew) (w0 := w1) k37 w1.heap.size rfl (.tmp 14) (.tmp 27) 22 37 (.agg #[.int .i64 0, .int .i64 0, .int .i64 0]) 24 rfl Try.underlying22 info37 rfl (by decide) (by omega) vo zs (⟨bg, f2, f1⟩ : S37) [.int .i64 bg, .int .i64 f2, .int .i64 f1] (fun _ => True) (fun _ => False) rfl rfl (k37_mkM _ _ _ _) (fun _ hk => hk.elim) (fun _ _ => trivial) hRd (pw_below_drewN hb 1) hb.size (by omega) ?_
  intro v1 w2 hR2 hb2 hg2 hat2
  have hne1 : some g1 ≠ vo.ownBlock := fun e => by obtain ⟨_, _, ho, _⟩ := hRd; have := own_base ho g1 e.symm; omega
  have hneo : some go ≠ vo.ownBlock := Kd.R_ne hRd (blk_drew hgo) (by decide)
  have k1 : w2.heap[g1]? = some (.cells #[.slice (some ad) len c0] 22 (0, 0)) := blk_grown (blk_drew hd1) hg2 hne1
  have ko : w2.heap[go]? = some (.cells #[vo] 22 (0, 0)) := blk_grown (blk_drew hgo) hg2 hneo
  refine ⟨.inr ⟨hb2, (blk_cell k1 0).trans rfl, (blk_cell ko 0).trans rfl⟩, ?_⟩
  simp only [Act.put, List.setIfInBounds_toArray, List.set_cons_zero, List.set_cons_succ]
  have ho1 : w2.cell? ⟨go, 0, none⟩ = some vo := (blk_cell ko 0).trans rfl
  have ho2 := blk_frozen ko 0
  refine RoundRegion.go_none (w2.setCell ⟨go, 0, none⟩ v1) rfl ?_ (.inl rfl) ?_
  · obtain ⟨_, _, ho, _⟩ := hR2
    rcases ho.2 with ⟨rfl, _⟩ | ⟨g', cap, cur, rfl, _⟩ <;> simp [go_sem, ho1, ho2]
  · exact hQ v1 w2 hR2 hb2 hg2 hat2 ko
end
section
attribute [local go_sem] Oper.semAt_some
set_option maxRecDepth 100000 in
set_option maxHeartbeats 8000000 in
theorem pos_Invert.calls (k : Nat) (A0 : Option Addr) (c0 : Nat) (l0 : List S37) (r1 : List S37) (r2 : Int) (w : World) (hr0 : Kd.C k37 w A0 l0.length l0) (hc0 : l0.length ≤ c0) (h : pos_Invert.f k l0 = some (r1, r2)) :
    Calls Try.prog 17 #[.slice A0 l0.length c0] w fun e w' => ∃ v0_ : Value, e = .returned (.tuple #[v0_, .int .i64 r2]) ∧ Kd.R k37 37 w' w.heap.size (fun _ => True) v0_ r1 ∧ Below w.heap.size w w' := by
  have hu37 := Try.underlying37
  unfold pos_Invert.f at h
  obtain ⟨b, hb, H⟩ := Option.bind_eq_some_iff.1 h
  clear h
  have HB := Aside0.mk hb
  have HR0 := Aside0.mk hr0
  have HC0 := Aside0.mk hc0
  clear hb hr0 hc0
  refine (callsIn_wide (n := 3)).1 ?_
  have g14 : Fence.wide.fn 14 := trivial
  have g30 : Fence.wide.fn 30 := trivial
  have hMix : Try.prog.follows .mixedOrders = true := by kernel_rfl
  have h14 : ∀ (Q : Ending → World → Prop), (∀ w1, Below w.heap.size w w1 → w1.heap[w.heap.size]? = some (.cells #[.slice A0 l0.length c0] 22 (0, 0)) → Kd.C k37 w1 A0 l0.length l0 → Q (.returned (.bool b)) w1) → CallsIn Fence.wide 2 Try.prog 14 #[.slice A0 l0.length c0] (w.alloc (.cells #[.slice A0 l0.length c0] 22)) Q := by
    intro Q hQ
    have hB0 : Below w.heap.size w (w.alloc (.cells #[.slice A0 l0.length c0] 22)) := below_alloc (Below.refl _ _) _
    refine (callsIn_wide.2 (pos_Right.calls k A0 c0 l0 b _ (Kd.C_below HR0.out hB0) HC0.out HB.out)).mono ?_
    rintro e w1 ⟨rfl, hB1⟩
    exact hQ w1 (below_step hB0 hB1) (blk_below (blk_new _ _) hB1) (Kd.C_below (Kd.C_below HR0.out hB0) hB1)
  have H14 := Aside0.mk h14
  clear h14
  cases b with
  | false =>
    simp only [Bool.false_eq_true, if_false, Option.some.injEq, Prod.mk.injEq] at H
    obtain ⟨rfl, rfl⟩ := H
    refine callsIn_of_wp_marks Try.func17 rfl trivial ?_ rfl
    simp only [Try.ntmps17, List.size_toArray, List.length_cons, List.length_nil, Nat.reduceAdd, Nat.reduceSub, Array.replicate_succ, Array.replicate_zero, List.push_toArray, List.append_toArray, List.nil_append, List.cons_append]
    gi_wp2_with (gi_at_call 14; refine H14.out _ ?_; intro w1 hB1 z0 hR1; have HB1 := Aside0.mk hB1; clear hB1 z0 hR1)
    exact ⟨_, pos_Invert.res rfl rfl, ⟨_, rfl, Kd.R_nil _ _ _ _ _, HB1.out⟩⟩
  | true =>
    have hok := pos_Right.ok_true HB.out
    rw [if_pos rfl] at H
    obtain ⟨c, hc, H2⟩ := Option.bind_eq_some_iff.1 H
    have HC := Aside0.mk hc
    have HH := Aside0.mk H2
    clear H hc H2
    refine callsIn_of_wp_marks Try.func17 rfl trivial ?_ rfl
    simp only [Try.ntmps17, List.size_toArray, List.length_cons, List.length_nil, Nat.reduceAdd, Nat.reduceSub, Array.replicate_succ, Array.replicate_zero, List.push_toArray, List.append_toArray, List.nil_append, List.cons_append]
    gi_wp2_with (first | (gi_at_call 14; refine H14.out _ ?_; intro w1 hB1 z0 hR1; have hc0 : (w1.alloc (.cells #[.slice none 0 0] 22)).cell? ⟨w.heap.size, 0, none⟩ = some (.slice A0 l0.length c0) := (blk_cell (blk_alloc z0 _) 0).trans rfl; have HB1 := Aside0.mk hB1; have Z0 := Aside0.mk z0; have HR1 := Aside0.mk hR1; clear hB1 z0 hR1) | (gi_at_call 30; refine (pos_each.calls_in Fence.wide 2 g30 rfl _ _ _ _).mono ?_; rintro e w' ⟨rfl, rfl⟩))
    have hK0 : Below w1.heap.size w1 ((w1.alloc (.cells #[.slice none 0 0] 22)).alloc (.cells #[.slice A0 l0.length c0] 22)) := below_alloc (below_alloc (Below.refl _ _) _) _
    have hyo : ((w1.alloc (.cells #[.slice none 0 0] 22)).alloc (.cells #[.slice A0 l0.length c0] 22)).heap[w1.heap.size]? = some (.cells #[.slice none 0 0] 22 (0, 0)) := blk_alloc (blk_new _ _) _
    have hbox : ((w1.alloc (.cells #[.slice none 0 0] 22)).alloc (.cells #[.slice A0 l0.length c0] 22)).cell? ⟨w1.heap.size + 1, 0, none⟩ = some (.slice A0 l0.length c0) := by
      have := blk_new (w1.alloc (.cells #[.slice none 0 0] 22)) (.cells #[.slice A0 l0.length c0] 22)
      rw [World.size_alloc] at this
      exact (blk_cell this 0).trans rfl
    have hloc : ∀ A B : World, (∀ k, k < w1.heap.size + 1 → B.heap[k]? = A.heap[k]?) → ∀ k, pos_Invert.Own w1.heap.size B k → pos_Invert.Own w1.heap.size A k := fun A B h k ho => by
      rcases ho with ho | ⟨v, hv, hk⟩
      · exact .inl ho
      · exact .inr ⟨v, (h _ (Nat.lt_succ_self _)).symm.trans hv, hk⟩
    refine wpIn_rangeFunc_ownF (F := Fence.wide) rfl (by omega) (gf := 34) (lb := #[.pointer (some ⟨w1.heap.size + 1, 0, none⟩)]) rfl trivial (enters_of Try.func34 (by kernel_rfl) rfl)
      (pos_each.stops Fence.wide 2 trivial rfl (by omega) (w1.heap.size + 1) (w1.heap.size + 1) A0 c0 l0 hok w1 HR1.out (pos_Invert.Own w1.heap.size) hloc _ hbox hK0 (by simp) (fun k hk => by
        rcases pos_Invert.Own_of hyo hk with rfl | hk
        · simp; omega
        · simp [Value.ownBlock] at hk))
      pos_each.Keeps.trans (pos_each.Keeps.putObj hloc (by simp; omega) (by simp)) (Below.refl _ _) (fun _ => rfl)
      (pos_Invert.Inv w w1 A0 c0 l0) (fun _ _ _ => False)
      ?hI ?hIx ?h0 (fun x => { tmps := #[.slice A0 l0.length c0, .pointer (some ⟨w.heap.size, 0, none⟩), .slice none 0 0, .int .i64 0, .pointer (some ⟨w1.heap.size, 0, none⟩), .int .i64 ((x.val : Nat) : Int), .int .i64 (pos_each.beg l0 x.val), .slice A0 l0.length c0, .bool true, .bool false, .slice A0 l0.length c0, .func (.func 34) #[] #[.pointer (some ⟨w1.heap.size + 1, 0, none⟩)], .int .i64 ((x.val : Nat) : Int), .int .i64 (pos_each.beg l0 x.val), undef, undef, undef, undef, undef, undef, undef, undef, undef, undef, undef, undef, undef, undef, undef, undef, undef, undef, undef], defers := [] }) ?assign ?body ?done ?stop
    case hI =>
      rintro s A B row ⟨y0, ⟨v, yo, hR⟩, hb⟩ hg hr
      have hr' : ∀ r, row = some r → ∃ o : Obj, A.heap[r]? = some o ∧ o.isCells = false := fun r e => (hr r e).2
      exact ⟨pos_each.blk_own y0 hg hr', ⟨v, pos_each.blk_own yo hg hr', pos_Invert.R_own hR hg hr'⟩, ownFrom_below (β := Unit) (Nat.le_refl _) (by simp; omega) () _ _ _ hb hg hr⟩
    case hIx =>
      rintro c s A B row h hg hr
      exact h.elim
    case h0 => exact ⟨blk_alloc (blk_alloc Z0.out _) _, ⟨_, hyo, Kd.R_nil _ _ _ _ _⟩, hK0⟩
    case assign =>
      intro l x W K hK
      gi_wp2
      exact hK
    case body =>
      rintro l pre x W ⟨y0, ⟨v, yo, hR⟩, hb⟩ hlen
      have hxl := x.isLt
      have h4 := hok.1
      obtain ⟨ad, e_, hx0, hx1, hx2⟩ := at_T37 HR1.out ((x.val : Nat) : Int) (by omega) (by omega)
      rw [Int.toNat_natCast] at hx0 hx1 hx2
      have hadb : ad.block < w1.heap.size := by
        have := World.block_lt_of_cell? w1 _ hx1
        have hxb : (ad.add (x.val * 3)).block = ad.block := by unfold Addr.add; split <;> rfl
        rw [← hxb]
        exact this
      have hl0 : w.heap.size < w1.heap.size := blk_lt Z0.out
      have hlen' : (pos_Invert.run l0 pre).length ≤ 1000 := by rw [pos_Invert.run_length]; omega
      subst e_
      have YO := Aside0.mk yo
      have Y0 := Aside0.mk y0
      have HBW := Aside0.mk hb
      have HRW := Aside0.mk hR
      have F := Aside0.mk (And.intro hx1 (And.intro hx2 (And.intro hadb (And.intro hl0 (And.intro hlen' hxl)))))
      clear hloc hbox hK0 hlen yo y0 hb hR hx0 hx1 hx2 hadb hl0 hlen' hxl h4 hyo
      gi_wp2
      obtain ⟨hx1, hx2, hadb, hl0, hlen', hxl⟩ := F.out
      refine pos_Invert.reg Y0.out YO.out hl0 (Nat.le_refl _) hadb HBW.out hx1 hx2 hxl HRW.out hlen' ?_
      intro v1 w2 hR2 hb2 hg2 hat2 ho2
      gi_wp2
      have hne : some w1.heap.size ≠ v1.ownBlock := Kd.R_ne hR2 ho2 (by decide)
      have hneo : some w1.heap.size ≠ v.ownBlock := Kd.R_ne HRW.out YO.out (by decide)
      have hRf : Kd.R k37 37 (w2.setCell ⟨w1.heap.size, 0, none⟩ v1) w1.heap.size (fun _ => True) v1 (pos_Invert.run l0 (pre ++ [x])) := by
        rw [pos_Invert.run_append]
        refine Kd.R_mono (Kd.R_far (ok := fun k => True ∧ w1.heap.size ≤ k ∧ k < w2.heap.size ∧ ∃ q, q ∈ 37 :: k37.E ∧ ∃ cells, w2.heap[k]? = some (.cells cells q (0, 0))) (Kd.R_bound hR2) (fun k hk e => ?_) v1) (fun _ _ => trivial)
        obtain ⟨_, _, _, q, hq, cells, hc⟩ := hk
        have e' : k = w1.heap.size := e
        subst e'
        rw [ho2] at hc
        simp only [Option.some.injEq, Obj.cells.injEq] at hc
        obtain ⟨_, rfl, _⟩ := hc
        exact absurd hq (by decide)
      have hoW : (w2.setCell ⟨w1.heap.size, 0, none⟩ v1).heap[w1.heap.size]? = some (.cells #[v1] 22 (0, 0)) := blk_put ho2 0 v1 rfl
      have hsame : ∀ k, k < W.heap.size → some k ≠ v.ownBlock → w2.heap[k]? = W.heap[k]? := fun k hk hn => hg2.block k hk hn
      refine ⟨?ko, ?kk, ?y0, ⟨v1, hoW, hRf⟩, below_set hb2 (Nat.le_refl _)⟩
      case ko =>
        refine ⟨Nat.le_trans hg2.size (Nat.le_of_eq (by simp)), fun k o hk hn => ?_⟩
        have hklt := (Array.getElem?_eq_some_iff.1 hk).1
        have h1 : some k ≠ v.ownBlock := fun e => by
          obtain ⟨cells, hc⟩ := own_typed HRW.out.2.choose_spec.1 k e.symm
          rw [hc] at hk
          obtain rfl := Option.some.inj hk
          cases hn
        have h2 : k ≠ w1.heap.size := fun e => by
          subst e
          rw [YO.out] at hk
          obtain rfl := Option.some.inj hk
          cases hn
        rw [Below.heap_setCell w2 _ v1 k h2, hsame k hklt h1, hk]
      case kk =>
        refine ⟨((pw_below_drewN (Below.refl w1.heap.size W) 1).grown hg2 HBW.out.size (fun k e => ?_)).setCell (p := ⟨w1.heap.size, 0, none⟩) (Nat.le_refl _) _, Nat.le_trans hg2.size (Nat.le_of_eq (by simp)), fun k cs t fr hk hno => ?_, fun hv k hk => ?_, fun k hk => ?_⟩
        · obtain ⟨_, _, ho, _⟩ := HRW.out
          exact own_base ho k e
        · have h1 : some k ≠ v.ownBlock := fun e => hno (.inr ⟨v, YO.out, e.symm⟩)
          have h2 : k ≠ w1.heap.size := fun e => hno (.inl e)
          rw [Below.heap_setCell w2 _ v1 k h2, hsame k (Array.getElem?_eq_some_iff.1 hk).1 h1, hk]
        · rcases pos_Invert.Own_of hoW hk with rfl | e
          · exact (Array.getElem?_eq_some_iff.1 hoW).1
          · obtain ⟨_, _, ho, _⟩ := hRf
            exact own_lt ho k e
        · rcases pos_Invert.Own_of hoW hk with rfl | e
          · exact .inl (.inl rfl)
          · rcases hat2 with h | ⟨b, hb, hle⟩
            · exact .inl (.inr ⟨v, YO.out, h ▸ e⟩)
            · rw [hb] at e
              obtain rfl := Option.some.inj e
              exact .inr hle
      case y0 =>
        refine blk_far ?_ (Nat.ne_of_lt hl0) _
        have hn0 : some w.heap.size ≠ v.ownBlock := fun e => by
          obtain ⟨_, _, ho, _⟩ := HRW.out
          have := own_base ho _ e.symm
          omega
        exact (hsame _ (blk_lt Y0.out) hn0).trans Y0.out
    case done =>
      rintro D xs W hD hS ⟨y0, ⟨v, yo, hR⟩, hb⟩ hK
      subst hS
      rw [pos_each.upto_all] at hR
      obtain ⟨A1, c1, rfl, hc1, hC1⟩ := Kd.R_reads hR
      have hco : W.cell? ⟨w1.heap.size, 0, none⟩ = some (.slice A1 (pos_Invert.run l0 (List.finRange l0.length)).length c1) := (blk_cell yo 0).trans rfl
      have YO := Aside0.mk yo
      have HBW := Aside0.mk hb
      have HRW := Aside0.mk hR
      have HC1 := Aside0.mk hC1
      have HCC := Aside0.mk hc1
      have HKD := Aside0.mk hK
      have HDD := Aside0.mk hD
      clear y0 yo hb hR hC1 hc1 hloc hbox hK0 hyo hK hD
      cases c with
      | false =>
        have hH := HH.out
        simp only [Bool.false_eq_true, if_false, Option.some.injEq, Prod.mk.injEq] at hH
        obtain ⟨rfl, rfl⟩ := hH
        clear HH
        gi_wp2_with (gi_at_call 14; refine (callsIn_wide.2 (pos_Right.calls k A1 c1 _ false W HC1.out HCC.out HC.out)).mono ?_; rintro e w5 ⟨rfl, hB5⟩; have HB5 := Aside0.mk hB5; clear hB5)
        have hK' := (pos_each.others_below HB5.out).same D _ HKD.out rfl
        have hd : w.heap.size ≤ D := by have := HB1.out.size; have := HDD.out; simp at this; omega
        refine ⟨by simp, .inl ⟨_, _, rfl, run_takeDeferred hK', ?_⟩⟩
        exact ⟨_, pos_Invert.res rfl rfl, ⟨_, rfl, Kd.R_nil _ _ _ _ _, (below_step (below_step HB1.out HBW.out) HB5.out).trans (belowK_b (w := w) (Nat.le_refl _) _ D _ _ hd hK' rfl rfl)⟩⟩
      | true =>
        have hH := HH.out
        simp only [if_true, Option.some.injEq, Prod.mk.injEq] at hH
        obtain ⟨rfl, rfl⟩ := hH
        clear HH
        gi_wp2_with (gi_at_call 14; refine (callsIn_wide.2 (pos_Right.calls k A1 c1 _ true W HC1.out HCC.out HC.out)).mono ?_; rintro e w5 ⟨rfl, hB5⟩; have hc5 : w5.cell? ⟨w1.heap.size, 0, none⟩ = some (.slice A1 (pos_Invert.run l0 (List.finRange l0.length)).length c1) := (blk_cell (blk_below YO.out hB5) 0).trans rfl; have HB5 := Aside0.mk hB5; clear hB5)
        have hK' := (pos_each.others_below HB5.out).same D _ HKD.out rfl
        have hd : w.heap.size ≤ D := by have := HB1.out.size; have := HDD.out; simp at this; omega
        refine ⟨by simp, .inl ⟨_, _, rfl, run_takeDeferred hK', ?_⟩⟩
        exact ⟨_, pos_Invert.res rfl rfl, ⟨_, rfl, pos_Invert.put (Kd.R_lower (Kd.R_below HRW.out HB5.out) HB1.out.size) hK' rfl, (below_step (below_step HB1.out HBW.out) HB5.out).trans (belowK_b (w := w) (Nat.le_refl _) _ D _ _ hd hK' rfl rfl)⟩⟩
    case stop =>
      rintro D c pre W hD ⟨k, hk, rfl⟩ h hK
      exact h.elim
end

end Go.Proofs.Ytcoolajjjnkfpaa.PPd
