-- Written for this claim by a program (printed texts under one roof).
import Derived.Test.YtfcfomconcoimaaDoorPFax0
import Derived.Test.YtfcfomconcoimaaDoorPFay0
namespace Go.Proofs.YtfcfomconcoimaaDoor.PFa
open Go.RowKit Go.Proofs.YtfcfomconcoimaaDoorW.PrintWords Go.Proofs.YtfcfomconcoimaaDoorW.PrintLast Go.Proofs.YtfcfomconcoimaaDoorW.PrintMore
attribute [local go_sem] max2_int min2_int max_two min_two max_three min_three max_four min_four
set_option linter.unusedVariables false
set_option linter.unusedSimpArgs false
theorem find_Find.run_store_func {P : Program} {w : World} (a : Addr) (m : Mode) (f : Fn) (xs ys : Array Value) : (store a (.func f xs ys) m).run P w = stored P w a (.func f xs ys) m := run_store P w a _ m rfl
def find_Find.at_ (text : List Int) (fold whole : Bool) (a : Int) (p : List Int) : Nat → Int → List S28
|0, _ => []
|f + 1, i => if i < (p.length : Int) then (if find_fits.f text p fold whole i = true then ⟨a + i, a + i + (text.length : Int)⟩ :: find_Find.at_ text fold whole a p f (i + (text.length : Int)) else find_Find.at_ text fold whole a p f (i + 1)) else []
def find_Find.hits (text : List Int) (fold whole : Bool) (x : Int × List Int) : List S28 := find_Find.at_ text fold whole x.1 x.2 (x.2.length + 1) 0
def find_Find.all (text : List Int) (fold whole : Bool) (rs : List (Int × List Int)) : List S28 := rs.flatMap (find_Find.hits text fold whole)
def find_Find.f (l : List S48) (s : ByteArray) (fold whole : Bool) : Option (List S28 × Int) :=
 (flat_Check.f l).bind fun c => if c.2 = 0 then (find_points.f s).bind fun p => if p.2 = 0 then (if p.1.length = 0 then some ([], 4) else if l.length ≤ 1000000 then some (find_Find.all p.1 fold whole (find_runs.f l), 0) else none) else some ([], p.2) else some ([], c.2)
theorem find_Find.at_len (text : List Int) (ht : 0 < text.length) (fold whole : Bool) (a : Int) (p : List Int) : ∀ (f : Nat) (i : Int), 0 ≤ i → ((find_Find.at_ text fold whole a p f i).length : Int) ≤ (if i ≤ (p.length : Int) then (p.length : Int) - i else 0)
|0, i, h => by rw [find_Find.at_]; simp only [List.length_nil]; split <;> omega
|f + 1, i, h => by
  rw [find_Find.at_]
  by_cases c : i < (p.length : Int)
  ·rw [if_pos c]
   by_cases k : find_fits.f text p fold whole i = true
   ·rw [if_pos k]
    have := find_Find.at_len text ht fold whole a p f (i + (text.length : Int)) (by omega)
    simp only [List.length_cons]
    split at this <;> split <;> omega
   ·rw [if_neg k]
    have := find_Find.at_len text ht fold whole a p f (i + 1) (by omega)
    split at this <;> split <;> omega
  ·rw [if_neg c]
   simp only [List.length_nil]
   split <;> omega
theorem find_Find.all_len (text : List Int) (ht : 0 < text.length) (fold whole : Bool) (rs : List (Int × List Int)) : (find_Find.all text fold whole rs).length ≤ find_runs.sum rs := by
 induction rs with
|nil => exact Nat.zero_le _
|cons x rs ih =>
  have h := find_Find.at_len text ht fold whole x.1 x.2 (x.2.length + 1) 0 (Int.le_refl 0)
  rw [if_pos (by omega)] at h
  unfold find_Find.all find_runs.sum at *
  rw [List.flatMap_cons, List.length_append, List.map_cons, List.sum_cons]
  unfold find_Find.hits at *
  omega
theorem find_Find.all_snoc (text : List Int) (fold whole : Bool) (rs : List (Int × List Int)) (x : Int × List Int) : find_Find.all text fold whole (rs ++ [x]) = find_Find.all text fold whole rs ++ find_Find.hits text fold whole x := by
 unfold find_Find.all
 rw [List.flatMap_append]
 simp
/-- The loop's record, the calls put off, what was found. -/
structure find_Find.B (rc : LoopState → Loop) (L D ob wb : Nat) (w5 : World) (st : LoopState) (d : List S28) (W : World) : Prop where
 rec_ : W.heap[L]? = some (.loop (rc st))
 dfr : W.heap[D]? = some (.deferred (some []))
 out : ∃ v, W.heap[ob]? = some (.cells #[v] 24 (0, 0)) ∧ Kd.R k28 28 W wb (fun _ => True) v d
 below : Below w5.heap.size w5 W
theorem find_Find.R_same {W W' : World} {wb : Nat} {v : Value} {d : List S28} (h : Kd.R k28 28 W wb (fun _ => True) v d) (hs : ∀ (k : Nat) (cs : Array Value), W.heap[k]? = some (.cells cs 28 (0, 0)) → W'.heap[k]? = some (.cells cs 28 (0, 0))) : Kd.R k28 28 W' wb (fun _ => True) v d := by
 refine Kd.R_mono (Kd.R_move (Kd.R_bound h) (fun j hj => ?_)) (fun _ h => h.1)
 obtain ⟨_, _, _, q, hq, cs, hc⟩ := hj
 have hq : q ∈ ([28] : List Nat) := hq
 obtain rfl := List.mem_singleton.1 hq
 rw [hc]
 exact hs _ _ hc
theorem find_Find.B.it {rc : LoopState → Loop} {L D ob wb : Nat} {w5 : World} {st : LoopState} {d : List S28} {A A' : World} {B : Nat} (h : find_Find.B rc L D ob wb w5 st d A) (hB : w5.heap.size ≤ B) (k : FindIt B A A') : find_Find.B rc L D ob wb w5 st d A' := by
 obtain ⟨v, h1, h2⟩ := h.out
 exact ⟨k.same _ _ h.rec_ (fun _ _ _ e => by cases e), k.same _ _ h.dfr (fun _ _ _ e => by cases e), ⟨v, k.same _ _ h1 (fun _ _ _ e => by cases e; exact ⟨by decide, by decide⟩), find_Find.R_same h2 (fun j cs hj => k.same j _ hj (fun _ _ _ e => by cases e; exact ⟨by decide, by decide⟩))⟩, h.below.trans (k.below.mono hB)⟩
theorem find_Find.B.bel {rc : LoopState → Loop} {L D ob wb : Nat} {w5 : World} {st : LoopState} {d : List S28} {A A' : World} (h : find_Find.B rc L D ob wb w5 st d A) (k : Below A.heap.size A A') : find_Find.B rc L D ob wb w5 st d A' := by
 obtain ⟨v, h1, h2⟩ := h.out
 exact ⟨blk_below h.rec_ k, blk_below h.dfr k, ⟨v, blk_below h1 k, Kd.R_below h2 k⟩, below_step h.below k⟩
theorem find_Find.cells_put {W : World} {L k : Nat} {r : Loop} {o' : Obj} {cs : Array Value} {t : TypeId} {fr : Nat × Nat} (hL : W.heap[L]? = some (.loop r)) (hk : W.heap[k]? = some (.cells cs t fr)) : (W.putObj L o').heap[k]? = some (.cells cs t fr) := by
 rw [World.putObj_heap_other (fun e => by subst e; rw [hL] at hk; cases hk)]
 exact hk
theorem find_Find.below_put {w W : World} {L : Nat} {r : Loop} {o' : Obj} (h : Below w.heap.size w W) (hL : W.heap[L]? = some (.loop r)) (hl : w.heap.size ≤ L) : Below w.heap.size w (W.putObj L o') :=
 h.grown (grownBy_putObj' W L o') h.size (fun k e => by cases e; exact hl)
theorem find_Find.B.put {rc : LoopState → Loop} {L D ob wb : Nat} {w5 : World} {st : LoopState} {d : List S28} {A : World} (h : find_Find.B rc L D ob wb w5 st d A) (hD : D ≠ L) (hl : w5.heap.size ≤ L) (st' : LoopState) : find_Find.B rc L D ob wb w5 st' d (A.putObj L (.loop (rc st'))) := by
 obtain ⟨v, h1, h2⟩ := h.out
 exact ⟨World.putObj_heap_same (Array.getElem?_eq_some_iff.1 h.rec_).1, (World.putObj_heap_other hD).trans h.dfr, ⟨v, find_Find.cells_put h.rec_ h1, find_Find.R_same h2 (fun j cs hj => find_Find.cells_put h.rec_ hj)⟩, find_Find.below_put h.below h.rec_ hl⟩
theorem FindCon.refl (A : World) : FindCon A A := ⟨Nat.le_refl _, fun _ _ h => h⟩
theorem FindCon.trans {a b c : World} (h : FindCon a b) (k : FindCon b c) : FindCon a c := ⟨Nat.le_trans h.size k.size, fun j cs hj => k.same j cs (h.same j cs hj)⟩
theorem FindCon.bel {A A' : World} (h : Below A.heap.size A A') : FindCon A A' := ⟨h.size, fun _ _ hj => blk_below hj h⟩
theorem FindCon.put {A : World} {L : Nat} {r : Loop} (hL : A.heap[L]? = some (.loop r)) (o' : Obj) : FindCon A (A.putObj L o') := ⟨(grownBy_putObj' A L o').size, fun _ _ hj => find_Find.cells_put hL hj⟩
theorem FindCon.set {A : World} {g : Nat} {cs : Array Value} {t : TypeId} (hg : A.heap[g]? = some (.cells cs t (0, 0))) (ht : t ≠ 61) (j : Nat) (u : Value) : FindCon A (A.setCell ⟨g, j, none⟩ u) := ⟨by simp, fun k cs' hk => bF hk (blk_ne hk hg (Ne.symm ht)) u⟩
theorem FindCon.grown {A A' : World} {wb : Nat} {v : Value} {d : List S28} (h : Kd.R k28 28 A wb (fun _ => True) v d) (hg : A.grownBy A' v.ownBlock) : FindCon A A' := ⟨hg.size, fun k cs hk => blk_grown hk hg (Kd.R_ne h hk (by decide))⟩
theorem find_Find.gate_in {F : Fence} {n : Nat} {P : Program} {ops : Array Oper} {rest : List Oper} {o : Oper} {a : Act} {Q : Exit → Act → World → Prop} {W : World} {N : Tmp} (_hN : o.dst = some N) (h : wpListIn F n P ops Q (o :: rest) a W) : wpListIn F n P ops Q (o :: rest) a W := h
/-- append in a round. -/
theorem find_Find.append_in {α : Type} (d : Kd α) {F : Fence} {n : Nat} {P : Program} {ops : Array Oper} {rest : List Oper} {o : Oper} {a : Act} {Q : Exit → Act → World → Prop} {w0 W : World} (base : Nat) (hgd : o.guard = none) (s x : Operand) (t e : TypeId) (z : Value) (bytes : Nat)
  (ho : o.op = .call { callee := .builtin .append, args := #[s, x], argTypes := #[t, t] })
  (ht : P.underlying t = some (.slice e)) (hinfo : (P.info? e).map (fun i => (i.zero, i.size, i.bytes)) = some (some z, d.sz, bytes)) (hz : z.cells.size = d.sz) (hs0 : 0 < d.sz) (hb0 : 0 < bytes)
  (v : Value) (xs : List α) (p : α) (cs : List Value) (ok okp : Nat → Prop) (hs : a.eval s = v) (hx : a.eval x = .slice (some ⟨W.heap.size, 0, none⟩) 1 1) (hp : d.M W base okp p cs) (hokp : ∀ k, okp k → ok k ∧ some k ≠ v.ownBlock) (hfresh : ∀ k, W.heap.size ≤ k → ok k)
  (HO : d.R e W base ok v xs) (HB : Below base w0 W) (hbase : base ≤ W.heap.size) (hl : (xs.length + 1) * bytes ≤ 140737488355328)
  (h : ∀ v1 w1, d.R e w1 base ok v1 (xs ++ [p]) → Below base w0 w1 → W.grownBy w1 v.ownBlock → (v1.ownBlock = v.ownBlock ∨ ∃ b, v1.ownBlock = some b ∧ W.heap.size ≤ b) → wpListIn F n P ops Q rest (a.put o.dst v1) w1) :
  wpListIn F n P ops Q (o :: rest) a (W.alloc (.cells cs.toArray e)) := by
 obtain ⟨h0, inner, hown, hr⟩ := HO
 obtain ⟨i0, hi, hzz⟩ := Option.map_eq_some_iff.1 hinfo
 simp only [Prod.mk.injEq] at hzz
 obtain ⟨hz0, hz1, hz2⟩ := hzz
 have hlen : xs.length + 1 ≤ 140737488355328 := Nat.le_trans (Nat.le_mul_of_pos_right _ hb0) hl
 have hcs : cs.length = d.sz := d.K_len (d.K_of_M hp)
 obtain ⟨v1, w1, hrun, hown1, hg, _, hat⟩ := run_append_own_at (P := P) (W.alloc (.cells cs.toArray e)) base t o.type e i0 z d.sz bytes ht hi hz0 hz1 hz2 hz hs0 v xs.length inner (hown.alloc _) ⟨W.heap.size, 0, none⟩ 1 1 cs (by rw [hcs]; simp)
  (by simpa using World.news_of_block (cs := cs.toArray) (t := e) (fr := (0, 0)) (heap_alloc_new W (.cells cs.toArray e))) (d.K_one (d.K_of_M hp)) (by simp only [maxLen]; omega) hl (by simp; omega)
 have hat' : v1.ownBlock = v.ownBlock ∨ ∃ b, v1.ownBlock = some b ∧ W.heap.size ≤ b := by
  rcases hat with hat|hat
  ·exact .inl hat
  ·exact .inr ⟨_, hat, by simp⟩
 have hg1 : W.grownBy w1 v.ownBlock := World.grownBy.trans (World.grownBy_alloc W _ _) hg
 refine wpListIn_plain hgd fun K hK' => ?_
 refine ⟨?_, ?_⟩
 ·simp [Oper.about, ho, resolve, Target.leads, Sem.run_pure]
 ·rw [Oper.semAt_plain F _ _ (by rw [ho]; intro c hc'; cases hc')]
  simp [execOp, ho, resolve, invoke, builtin, hs, hx, hrun, Result.andThen]
  exact hK' _ _ (h v1 w1 (Kd.R_appended h0 hr hp hokp hfresh hown1 hg1 hat') ((HB.alloc hbase _).grown hg (by simp; omega) (own_base hown)) hg1 hat')
theorem find_Find.res {tmps : Array Value} {W : World} {v e : Value} (p2 : tmps.getD 8 undef = v) (p3 : tmps.getD 9 undef = e) : (results Tryd.f8 tmps).run Tryd.prog W = .ok (.tuple #[v, e]) W := by
 have h1 : tmps[8]?.getD undef = v := by simpa using p2
 have h2 : tmps[9]?.getD undef = e := by simpa using p3
 have hr : Tryd.f8.results = #[.tmp 8, .tmp 9] := rfl
 simp [results, hr, h1, h2, go_sem]
set_option maxRecDepth 100000 in
theorem find_runs.calls (A : Option Addr) (n c : Nat) (w : World) : Calls Tryd.prog 19 #[.slice A n c] w fun e w' => e = .returned (.func (.func 36) #[] #[.pointer (some ⟨w.heap.size, 0, none⟩)]) ∧ w' = w.alloc (.cells #[.slice A n c] 22) := by
 go_enter Tryd.func19, Tryd.ntmps19
 go_wp2
 go_ret
 exact ⟨rfl, rfl⟩
/-- The loop over the runs: what a round owes. -/
theorem find_Find.range {assign body : Code} {Q : Exit → Act → World → Prop} {a : Act} (text : List Int) (fold whole : Bool) (A0 : Option Addr) (c0 : Nat) (l0 : List S48) (lb ob wb : Nat) (w5 w7 : World) (hg : a.eval (.tmp 44) = .func (.func 36) #[] #[.pointer (some ⟨lb, 0, none⟩)])
  (hlb : w7.heap[lb]? = some (.cells #[.slice A0 l0.length c0] 22 (0, 0))) (hob : w7.heap[ob]? = some (.cells #[.slice none 0 0] 24 (0, 0))) (hb : Below w5.heap.size w5 w7) (hr : Kd.C k48 w5 A0 l0.length l0) (hl : l0.length ≤ 1000000)
  (hround : ∀ (fn B8 : Nat) (pre : List (Int × List Int)) (x : Int × List Int) (v : Value) (W1 : World), w7.heap.size ≤ B8 → find_Find.B (FindRec fn a.tmps #[45] assign body w7.heap.size) (w7.heap.size + 1) w7.heap.size ob wb w5 .ready (find_Find.all text fold whole pre) W1 → Kd.R (Kd.int .i64) 3 W1 B8 (fun _ => True) v x.2 → 0 ≤ x.1 → x.1 + (x.2.length : Int) ≤ (l0.length : Int) → 0 < x.2.length → find_runs.sum pre + x.2.length ≤ l0.length →
   assign.wpIn (Fence.wide.inRound (w7.heap.size + 1)) 1 Tryd.prog (Exit.then (fun a₁ w₁ => w₁.heap[w7.heap.size + 1]? = some (.loop (FindRec fn a.tmps #[45] assign body w7.heap.size .ready)) ∧
    body.wpIn (Fence.wide.inRound (w7.heap.size + 1)) 1 Tryd.prog (fun e _ w₂ => e = .normal ∧ w₂.heap[w7.heap.size + 1]? = some (.loop (FindRec fn a.tmps #[45] assign body w7.heap.size .busy)) ∧
     (find_Find.B (FindRec fn a.tmps #[45] assign body w7.heap.size) (w7.heap.size + 1) w7.heap.size ob wb w5 .ready (find_Find.all text fold whole (pre ++ [x])) (w₂.putObj (w7.heap.size + 1) (.loop (FindRec fn a.tmps #[45] assign body w7.heap.size .ready))) ∧ FindCon W1 (w₂.putObj (w7.heap.size + 1) (.loop (FindRec fn a.tmps #[45] assign body w7.heap.size .ready)))))
     a₁ (w₁.putObj (w7.heap.size + 1) (.loop (FindRec fn a.tmps #[45] assign body w7.heap.size .busy)))) (fun _ _ _ => False))
    { tmps := (#[45].zip #[Value.agg #[.int .i64 x.1, v]]).foldl (fun t (p, v) => t.setIfInBounds p v) a.tmps, defers := [] } W1)
  (hdone : ∀ (fn : Nat) (W2 : World) (o' : Obj), find_Find.B (FindRec fn a.tmps #[45] assign body w7.heap.size) (w7.heap.size + 1) w7.heap.size ob wb w5 .ready (find_Find.all text fold whole (find_runs.f l0)) W2 → Q .normal { a with defers := { target := .collected w7.heap.size, args := #[] } :: a.defers } (W2.putObj (w7.heap.size + 1) o')) :
  (Code.rangeFunc (.tmp 44) #[45] assign body).wp Tryd.prog Q a w7 := by
 refine (wpIn_wide (n := 3)).1 (FindRange.rule (gf := 36) (lb := #[.pointer (some ⟨lb, 0, none⟩)]) (by omega) hg (enters_of Tryd.func36 (by kernel_rfl) rfl) (fun fn => ?_))
 obtain ⟨W8, hW8⟩ : ∃ W8, (w7.alloc (.deferred (some []))).alloc (.loop (FindRec fn a.tmps #[45] assign body w7.heap.size .ready)) = W8 := ⟨_, rfl⟩
 have h8 : Below w7.heap.size w7 W8 := by rw [← hW8]; exact lA (lA (Below.refl _ _) _) _
 have hrec : W8.heap[w7.heap.size + 1]? = some (.loop (FindRec fn a.tmps #[45] assign body w7.heap.size .ready)) := by
  rw [← hW8]; have := blk_new (w7.alloc (.deferred (some []))) (.loop (FindRec fn a.tmps #[45] assign body w7.heap.size .ready)); rwa [World.size_alloc] at this
 have hdf : W8.heap[w7.heap.size]? = some (.deferred (some [])) := by rw [← hW8]; exact bA (blk_new _ _) _
 have hlb8 := blk_below hlb h8
 rw [hW8]
 refine (find_runs.it 1 (w7.heap.size + 1) lb A0 c0 l0 w5 W8 hr ((blk_cell hlb8 0).trans rfl) hl (fun pre W => find_Find.B (FindRec fn a.tmps #[45] assign body w7.heap.size) (w7.heap.size + 1) w7.heap.size ob wb w5 .ready (find_Find.all text fold whole pre) W)
  (fun pre A A' h k => h.it (Nat.le_trans hb.size h8.size) k) (fun pre A h => h.below) (fun pre a' p v W1 hB hR g0 g1 g2 g3 => FindRange.yield hB.rec_ rfl (hround fn _ pre (a', p) v W1 h8.size hB hR g0 g1 g2 g3))
  ⟨hrec, hdf, ⟨_, blk_below hob h8, Kd.R_nil _ _ _ _ _⟩, below_step hb h8⟩).mono ?_
 rintro e W2 ⟨hv, hB⟩
 exact ⟨hv, hB.rec_, fun o' => hdone fn W2 o' hB⟩
theorem find_Find.R_put {α : Type} {dd : Kd α} {e base L : Nat} {W : World} {v : Value} {xs : List α} {r : Loop} (h : Kd.R dd e W base (fun _ => True) v xs) (hL : W.heap[L]? = some (.loop r)) (o' : Obj) : Kd.R dd e (W.putObj L o') base (fun _ => True) v xs := by
 refine Kd.R_mono (Kd.R_grown (Kd.R_bound h) (grownBy_putObj' W L o') (fun k hk e => ?_)) (fun _ _ => trivial)
 obtain ⟨_, _, _, q, _, cells, hc⟩ := hk
 injection e with e
 subst e
 rw [hL] at hc
 cases hc
theorem find_Find.R_putD {α : Type} {dd : Kd α} {e base L : Nat} {W : World} {v : Value} {xs : List α} {r : Option (List Deferred)} (h : Kd.R dd e W base (fun _ => True) v xs) (hL : W.heap[L]? = some (.deferred r)) (o' : Obj) : Kd.R dd e (W.putObj L o') base (fun _ => True) v xs := by
 refine Kd.R_mono (Kd.R_grown (Kd.R_bound h) (grownBy_putObj' W L o') (fun k hk e => ?_)) (fun _ _ => trivial)
 obtain ⟨_, _, _, q, _, cells, hc⟩ := hk
 injection e with e
 subst e
 rw [hL] at hc
 cases hc
/-- What is known at a round's own loop. -/
structure find_Find.K (rc : LoopState → Loop) (L D ob wb rb B8 : Nat) (w5 W1 : World) (p q : List Int) (fold whole : Bool) (a : Int) (vq : Value) (done : List S28) (i : Int) (f : Nat) (d : List S28) (wr : World) : Prop where
 b : find_Find.B rc L D ob wb w5 .busy (done ++ d) wr
 run : wr.heap[rb]? = some (.cells #[.int .i64 a, vq] 61 (0, 0))
 row : Kd.R (Kd.int .i64) 3 wr B8 (fun _ => True) vq q
 con : FindCon W1 wr
 rest : find_Find.hits p fold whole (a, q) = d ++ find_Find.at_ p fold whole a q f i
 lo : 0 ≤ i
 hi : i ≤ (q.length : Int)
 fuel : (q.length : Int) < i + f
theorem find_Find.K.bel {rc : LoopState → Loop} {L D ob wb rb B8 : Nat} {w5 W1 : World} {p q : List Int} {fold whole : Bool} {a : Int} {vq : Value} {done : List S28} {i : Int} {f : Nat} {d : List S28} {wr w8 : World} (h : find_Find.K rc L D ob wb rb B8 w5 W1 p q fold whole a vq done i f d wr) (k : Below wr.heap.size wr w8) : find_Find.K rc L D ob wb rb B8 w5 W1 p q fold whole a vq done i f d w8 :=
 ⟨h.b.bel k, blk_below h.run k, Kd.R_below h.row k, h.con.trans (FindCon.bel k), h.rest, h.lo, h.hi, h.fuel⟩
theorem find_Find.K.push {rc : LoopState → Loop} {L D ob wb rb B8 : Nat} {w5 W1 : World} {p q : List Int} {fold whole : Bool} {a : Int} {vq : Value} {done : List S28} {i : Int} {f : Nat} {d : List S28} {w8 w9 : World} (h : find_Find.K rc L D ob wb rb B8 w5 W1 p q fold whole a vq done i f d w8) {v v1 : Value} {x : S28} (ho : w8.heap[ob]? = some (.cells #[v] 24 (0, 0))) (hr : Kd.R k28 28 w8 wb (fun _ => True) v (done ++ d)) (hob : w5.heap.size ≤ ob)
  (hr1 : Kd.R k28 28 w9 wb (fun _ => True) v1 (done ++ d ++ [x])) (hg : w8.grownBy w9 v.ownBlock) (hwb : ∀ k, v.ownBlock = some k → w5.heap.size ≤ k) {i' : Int} {f' : Nat} (hrest : find_Find.at_ p fold whole a q f i = x :: find_Find.at_ p fold whole a q f' i') (hi0 : 0 ≤ i') (hi1 : i' ≤ (q.length : Int)) (hf : (q.length : Int) < i' + f') :
  find_Find.K rc L D ob wb rb B8 w5 W1 p q fold whole a vq done i' f' (d ++ [x]) (w9.setCell ⟨ob, 0, none⟩ v1) := by
 have ho9 : w9.heap[ob]? = some (.cells #[v] 24 (0, 0)) := blk_grown ho hg (Kd.R_ne hr ho (by decide))
 have keep : ∀ (k : Nat) (o : Obj), w8.heap[k]? = some o → (∀ cs, o ≠ .cells cs 28 (0, 0)) → k ≠ ob → (w9.setCell ⟨ob, 0, none⟩ v1).heap[k]? = some o := fun k o hk hn hne => (Below.heap_setCell w9 ⟨ob, 0, none⟩ v1 k hne).trans (blk_grown hk hg (fun e => by
  obtain ⟨cs, hc⟩ := Kd.R_typed hr k e.symm
  rw [hk] at hc
  exact hn cs (Option.some.inj hc)))
 refine ⟨⟨keep _ _ h.b.rec_ (fun _ e => by cases e) (fun e => by have := h.b.rec_; rw [e, ho] at this; cases this), keep _ _ h.b.dfr (fun _ e => by cases e) (fun e => by have := h.b.dfr; rw [e, ho] at this; cases this), ⟨v1, blk_put ho9 0 v1 rfl, ?_⟩, ?_⟩, ?_, ?_, ?_, ?_, hi0, hi1, hf⟩
 ·rw [← List.append_assoc]
  exact Kd.R_set hr1 ho9 (show ∀ q : Nat, q ∈ ([28] : List Nat) → q ≠ 24 by decide) 0 v1
 ·exact (h.b.below.grown hg h.b.below.size hwb).setCell (p := ⟨ob, 0, none⟩) hob v1
 ·exact keep _ _ h.run (fun _ e => by cases e) (fun e => by have := h.run; rw [e, ho] at this; cases this)
 ·exact Kd.R_set (Kd.R_mono (Kd.R_grown (Kd.R_bound h.row) hg (fun k hk e => by
   obtain ⟨_, _, _, t, ht, cs, hc⟩ := hk
   have ht : t ∈ ([3] : List Nat) := ht
   obtain rfl := List.mem_singleton.1 ht
   exact Kd.R_ne hr hc (by decide) e)) (fun _ h => h.1)) ho9 (show ∀ q : Nat, q ∈ ([3] : List Nat) → q ≠ 24 by decide) 0 v1
 ·exact (h.con.trans (FindCon.grown hr hg)).trans (FindCon.set ho9 (by decide) 0 v1)
 ·rw [h.rest, hrest, List.append_assoc]
  rfl
section
attribute [local go_sem] find_Find.run_store_func Oper.semAt_some
set_option maxHeartbeats 16000000 in
set_option maxRecDepth 100000 in
theorem find_Find.calls (A0 : Option Addr) (c0 : Nat) (l0 : List S48) (a1 : ByteArray) (a2 a3 : Bool) (r1 : List S28) (r2 : Int) (w : World) (hr0 : Kd.C k48 w A0 l0.length l0) (hc0 : l0.length ≤ c0) (h : find_Find.f l0 a1 a2 a3 = some (r1, r2)) (hT_ : Lib.Utf8Tabs 0 1 w := by first|exact u8_below HU8_.out (by repeat (first|(with_reducible first|exact HB.out|apply lA|apply lN|apply lD)|exact HB.out))|exact u8_below HT_.out (by repeat (first|(with_reducible first|exact HB.out|apply lA|apply lN|apply lD)|exact HB.out))) :
  Calls Tryd.prog 8 #[.slice A0 l0.length c0, .string a1, .bool a2, .bool a3] w fun e w' => ∃ v0_ : Value, e = .returned (.tuple #[v0_, .int .i64 r2]) ∧ Kd.R k28 28 w' w.heap.size (fun _ => True) v0_ r1 ∧ Below w.heap.size w w' := by
 have hu56 := Tryd.underlying56
 have hu61 := Tryd.underlying61
 have hu50 := Tryd.underlying50
 unfold find_Find.f at h
 obtain ⟨⟨q1, q2⟩, hq, h⟩ := Option.bind_eq_some_iff.1 h
 dsimp only at h
 have HR := aM hr0
 have HC := aM hc0
 have HQ := aM hq
 have HT := aM hT_
 have H := aM h
 clear hr0 hc0 hq hT_ h
 refine (callsIn_wide (n := 3)).1 ?_
 refine callsIn_of_wp_marks Tryd.func8 rfl trivial ?_ rfl
 simp only [Tryd.ntmps8, List.size_toArray, List.length_cons, List.length_nil, Nat.reduceAdd, Nat.reduceSub, Array.replicate_succ, Array.replicate_zero, List.push_toArray, List.append_toArray, List.nil_append, List.cons_append]
 refine wpIn_wide.2 ?_
 go_wp2_with fail
 refine (flat_Check.calls A0 c0 l0 q1 q2 _ HR.out HC.out HQ.out).mono ?_
 rintro e w1 ⟨rfl, hb⟩
 have HB1 := aM hb
 clear hb
 by_cases d1 : q2 = 0
 case neg =>
  have d1b : (q2 != 0) = true := bne_iff_ne.mpr d1
  have h := H.out
  rw [if_neg d1] at h
  obtain ⟨rfl, rfl⟩ := Prod.mk.inj (Option.some.inj h)
  clear h d1 H
  go_wp2
  exact ⟨_, find_Find.res rfl rfl, ⟨_, rfl, Kd.R_nil _ _ _ _ _, HB1.out⟩⟩
 have d1b : (q2 != 0) = false := bne_eq_false_iff_eq.mpr d1
 have h := H.out
 rw [if_pos d1] at h
 obtain ⟨⟨p, e2⟩, hp, h⟩ := Option.bind_eq_some_iff.1 h
 dsimp only at h
 have HP := aM hp
 have H := aM h
 have HT1 := aM (u8_below HT.out HB1.out)
 clear h hp d1
 go_wp2_with fail
 refine (find_points.calls a1 p e2 _ HP.out HT1.out).mono ?_
 rintro e w2 ⟨v2, rfl, ho, hb⟩
 have HB2 := aM (below_step HB1.out hb)
 obtain ⟨Ap, cp, hv⟩ := Kd.R_slice ho
 subst hv
 have PC := aM (Kd.R_reads' ho).2.2
 have PL := aM (find_points.len HP.out)
 clear ho hb
 go_upto_region 5 with (fail)
 have PB3 := aM (blk_new w2 (.cells #[.slice Ap p.length cp] 50))
 have HB3 := aM (lA HB2.out (.cells #[.slice Ap p.length cp] 50))
 have PC3 := aM (Kd.C_alloc PC.out (.cells #[.slice Ap p.length cp] 50))
 clear HB2 PC
 generalize w2.alloc (.cells #[.slice Ap p.length cp] 50) = w3 at *
 generalize w2.heap.size = pb at *
 by_cases d2 : e2 = 0
 case neg =>
  have d2b : (e2 != 0) = true := bne_iff_ne.mpr d2
  have h := H.out
  rw [if_neg d2] at h
  obtain ⟨rfl, rfl⟩ := Prod.mk.inj (Option.some.inj h)
  clear h d2 H
  go_wp2
  exact ⟨_, find_Find.res rfl rfl, ⟨_, rfl, Kd.R_nil _ _ _ _ _, HB3.out⟩⟩
 have d2b : (e2 != 0) = false := bne_eq_false_iff_eq.mpr d2
 have h := H.out
 rw [if_pos d2] at h
 have pb0 : w3.cell? ⟨pb, 0, none⟩ = some (.slice Ap p.length cp) := (blk_cell PB3.out 0).trans rfl
 by_cases d3 : p.length = 0
 ·have d3b : ((p.length : Int) == 0) = true := beq_iff_eq.mpr (by omega)
  rw [if_pos d3] at h
  obtain ⟨rfl, rfl⟩ := Prod.mk.inj (Option.some.inj h)
  clear h d2 d3 H
  go_wp2
  exact ⟨_, find_Find.res rfl rfl, ⟨_, rfl, Kd.R_nil _ _ _ _ _, HB3.out⟩⟩
 have d3b : ((p.length : Int) == 0) = false := beq_eq_false_iff_ne.mpr (by omega)
 rw [if_neg d3] at h
 have hL : l0.length ≤ 1000000 := by
  by_cases hl : l0.length ≤ 1000000
  ·exact hl
  ·rw [if_neg hl] at h
   cases h
 rw [if_pos hL] at h
 obtain ⟨hr1, rfl⟩ := Prod.mk.inj (Option.some.inj h)
 have HR1 := aM hr1
 have LL := aM hL
 have P0 := aM (show 0 < p.length by omega)
 obtain ⟨kf, hkf⟩ : ∃ f, find_looked.key a2 = .func (.func f) #[] #[] := by
  cases a2 with
 |false => exact ⟨31, rfl⟩
 |true => exact ⟨33, rfl⟩
 obtain ⟨ef, hef⟩ : ∃ f, find_looked.edge a3 = .func (.func f) #[] #[] := by
  cases a3 with
 |false => exact ⟨32, rfl⟩
 |true => exact ⟨34, rfl⟩
 have KF := aM hkf
 have EF := aM hef
 clear h d2 d3 hL hr1 H hkf hef
 go_wp2_with fail
 refine (find_looked.calls Ap p.length cp a2 a3 _).mono ?_
 rintro e w4 ⟨rfl, hb⟩
 rw [KF.out, EF.out]
 have HB4 := aM (below_step HB3.out hb)
 have PB4 := aM (blk_below PB3.out hb)
 have PC4 := aM (Kd.C_below PC3.out hb)
 clear hb HB3 PB3 PC3 pb0
 go_upto_region 10 with (fail)
 have XB5 := aM (blk_new w4 (.cells #[.slice Ap p.length cp, .func (.func kf) #[] #[], .func (.func ef) #[] #[]] 56))
 have HB5 := aM (lA HB4.out (.cells #[.slice Ap p.length cp, .func (.func kf) #[] #[], .func (.func ef) #[] #[]] 56))
 have PB5 := aM (bA PB4.out (.cells #[.slice Ap p.length cp, .func (.func kf) #[] #[], .func (.func ef) #[] #[]] 56))
 have PC5 := aM (Kd.C_alloc PC4.out (.cells #[.slice Ap p.length cp, .func (.func kf) #[] #[], .func (.func ef) #[] #[]] 56))
 clear HB4 PB4 PC4
 generalize w4.alloc (.cells #[.slice Ap p.length cp, .func (.func kf) #[] #[], .func (.func ef) #[] #[]] 56) = w5 at *
 generalize w4.heap.size = xb at *
 go_upto_region 11 with (fail)
 have OB6 := aM (blk_new w5 (.cells #[.slice none 0 0] 24))
 have B56 := aM (lA (Below.refl w5.heap.size w5) (.cells #[.slice none 0 0] 24))
 have NB6 := aM (World.size_alloc w5 (.cells #[.slice none 0 0] 24))
 generalize w5.alloc (.cells #[.slice none 0 0] 24) = w6 at *
 go_wp2_with fail
 refine (find_runs.calls A0 l0.length c0 _).mono ?_
 rintro e w7 ⟨rfl, hw7⟩
 have LB7 := aM (show w7.heap[w6.heap.size]? = some (.cells #[.slice A0 l0.length c0] 22 (0, 0)) from by rw [hw7]; exact blk_new w6 (.cells #[.slice A0 l0.length c0] 22))
 have OB7 := aM (show w7.heap[w5.heap.size]? = some (.cells #[.slice none 0 0] 24 (0, 0)) from by rw [hw7]; exact bA OB6.out (.cells #[.slice A0 l0.length c0] 22))
 have B57 := aM (show Below w5.heap.size w5 w7 from by rw [hw7]; exact lA B56.out (.cells #[.slice A0 l0.length c0] 22))
 have NB7 := aM (show w7.heap.size = w6.heap.size + 1 ∧ w6.heap.size = w5.heap.size + 1 from by rw [hw7]; exact ⟨World.size_alloc _ _, NB6.out⟩)
 clear hw7 OB6 B56 NB6
 generalize w6.heap.size = lb at *
 go_wp2
 refine find_Find.range p a2 a3 A0 c0 l0 lb w5.heap.size w5.heap.size w5 w7 rfl LB7.out OB7.out B57.out (Kd.C_below HR.out HB5.out) LL.out ?r ?d
 case d =>
  intro fn W2 o' hB
  obtain ⟨v, hv1, hv2⟩ := hB.out
  obtain ⟨Ao, co, hv⟩ := Kd.R_slice hv2
  rw [HR1.out] at hv hv2
  subst hv
  have D3 := aM (show (W2.putObj (w7.heap.size + 1) o').heap[w7.heap.size]? = some (.deferred (some [])) from (World.putObj_heap_other (by omega)).trans hB.dfr)
  have o3 := find_Find.cells_put (o' := o') hB.rec_ hv1
  have R3 := aM (find_Find.R_put hv2 hB.rec_ o')
  have B3 := aM (find_Find.below_put (o' := o') hB.below hB.rec_ (by have := B57.out.size; omega))
  clear hv1 hv2 hB
  generalize W2.putObj (w7.heap.size + 1) o' = W3 at *
  have o0 : W3.cell? ⟨w5.heap.size, 0, none⟩ = some (.slice Ao r1.length co) := (blk_cell o3 0).trans rfl
  clear o3
  go_wp2
  refine ⟨by simp, .inl ⟨_, _, rfl, run_takeDeferred D3.out, ?_⟩⟩
  exact ⟨_, find_Find.res rfl rfl, ⟨_, rfl, Kd.R_lower (find_Find.R_putD R3.out D3.out _) HB5.out.size, (HB5.out.trans (B3.out.mono HB5.out.size)).trans (belowK_b (w := w5) HB5.out.size _ _ _ _ (by have := B57.out.size; omega) D3.out rfl rfl)⟩⟩
 case r =>
  rintro fn B8 pre ⟨a, q⟩ v W1 h8 hB hrow g0 g1 g2 g3
  dsimp only at hrow g0 g1 g2 g3 ⊢
  obtain ⟨Aq, cq, hv⟩ := Kd.R_slice hrow
  subst hv
  generalize FindRec fn _ _ _ _ _ = rc at *
  have HB := aM hB
  have HRO := aM hrow
  have G := aM (And.intro g0 (And.intro g1 (And.intro g2 g3)))
  have N7 := aM (show w5.heap.size ≤ w7.heap.size ∧ w7.heap.size ≤ B8 from ⟨B57.out.size, h8⟩)
  clear hB hrow g0 g1 g2 g3 h8
  gi_wp2
  refine ⟨bA HB.out.rec_ _, ?_⟩
  have K0 := aM (show find_Find.K rc (w7.heap.size + 1) w7.heap.size w5.heap.size w5.heap.size W1.heap.size B8 w5 W1 p q a2 a3 a (.slice Aq q.length cq) (find_Find.all p a2 a3 pre) 0 (q.length + 1) [] ((W1.alloc (.cells #[.int .i64 a, .slice Aq q.length cq] 61)).putObj (w7.heap.size + 1) (.loop (rc .busy))) from
   ⟨by rw [List.append_nil]; exact (HB.out.bel (lA (Below.refl _ _) _)).put (by omega) (by have := N7.out; omega) .busy, find_Find.cells_put (bA HB.out.rec_ _) (blk_new _ _), find_Find.R_put (Kd.R_alloc HRO.out _) (bA HB.out.rec_ _) _, (FindCon.bel (lA (Below.refl _ _) _)).trans (FindCon.put (bA HB.out.rec_ _) _), rfl, by omega, by omega, by omega⟩)
  clear HB HRO
  generalize (W1.alloc (.cells #[.int .i64 a, .slice Aq q.length cq] 61)).putObj (w7.heap.size + 1) (.loop (rc .busy)) = X0 at *
  gi_wp2
  gi_loopw [17] (fun v17 wr => ∃ (i : Int) (f : Nat) (d : List S28), v17 = .int .i64 i ∧ Aside0 (find_Find.K rc (w7.heap.size + 1) w7.heap.size w5.heap.size w5.heap.size W1.heap.size B8 w5 W1 p q a2 a3 a (.slice Aq q.length cq) (find_Find.all p a2 a3 pre) i f d wr)) (fun v17 _ => q.length - (intOf v17).toNat)
  case atStart => exact ⟨0, _, _, rfl, K0⟩
  case round =>
   clear K0
   obtain ⟨i, f, d, rfl, HK⟩ := hrel
   have y1 : wr.cell? ⟨W1.heap.size, 1, none⟩ = some (.slice Aq q.length cq) := (blk_cell HK.out.run 1).trans rfl
   by_cases c5 : i < (q.length : Int)
   ·have c5b : decide (i < (q.length : Int)) = true := decide_eq_true c5
    obtain ⟨g, rfl⟩ : ∃ g, f = g + 1 := ⟨f - 1, by have := HK.out.fuel; omega⟩
    have XB := aM ((HK.out.b.below.block xb (blk_lt XB5.out)).trans XB5.out)
    have x0 : wr.cell? ⟨xb, 0, none⟩ = some (.slice Ap p.length cp) := (blk_cell XB.out 0).trans rfl
    have x1 : wr.cell? ⟨xb, 1, none⟩ = some (.func (.func kf) #[] #[]) := (blk_cell XB.out 1).trans rfl
    have x2 : wr.cell? ⟨xb, 2, none⟩ = some (.func (.func ef) #[] #[]) := (blk_cell XB.out 2).trans rfl
    have fc := find_fits.calls p q a2 a3 Ap Aq cp cq i wr (Kd.C_below PC5.out HK.out.b.below) (Kd.R_reads' HK.out.row).2.2 ⟨HK.out.lo, HK.out.hi⟩ ⟨by have := PL.out; omega, by have := G.out; have := LL.out; omega⟩
    rw [KF.out, EF.out] at fc
    obtain ⟨bb, hbb⟩ : ∃ b, b = find_fits.f p q a2 a3 i := ⟨_, rfl⟩
    rw [← hbb] at fc
    have FC := aM fc
    have BBH := aM hbb
    have C5 := aM c5
    clear fc hbb c5
    cases bb with
   |false =>
     have WI := aM (show wrap64 (i + 1) = i + 1 from by have := HK.out.lo; have := C5.out; have := G.out; have := LL.out; unfold wrap64; omega)
     gi_wp2
     refine ⟨trivial, (FindIn.calls FC.out).mono ?_⟩
     rintro e w8 ⟨rfl, hb⟩
     have HK8 := aM (HK.out.bel hb)
     clear hb HK y1 x0 x1 x2 XB FC
     gi_wp2
     go_roundw
     case rel =>
      rw [WI.out]
      refine ⟨i + 1, g, d, rfl, ⟨⟨HK8.out.b, HK8.out.run, HK8.out.row, HK8.out.con, ?_, by have := HK8.out.lo; omega, by have := C5.out; omega, by have := HK8.out.fuel; omega⟩⟩⟩
      have h := HK8.out.rest
      rw [find_Find.at_, if_pos C5.out, if_neg (by rw [← BBH.out]; decide)] at h
      exact h
     case measure => rw [WI.out]; simp only [intOf]; have := HK8.out.lo; have := C5.out; omega
   |true =>
     gi_wp2
     refine ⟨trivial, (FindIn.calls FC.out).mono ?_⟩
     rintro e w8 ⟨rfl, hb⟩
     have HK8 := aM (HK.out.bel hb)
     clear hb HK y1 x0 x1 x2 XB FC
     obtain ⟨v, hv1, hv2⟩ := HK8.out.b.out
     obtain ⟨Ao, co, hv⟩ := Kd.R_slice hv2
     obtain ⟨no, hno⟩ : ∃ n, n = (find_Find.all p a2 a3 pre ++ d).length := ⟨_, rfl⟩
     rw [← hno] at hv
     subst hv
     have O8 := aM hv1
     have R8 := aM hv2
     have NO := aM hno
     clear hv1 hv2 hno
     have o0 : w8.cell? ⟨w5.heap.size, 0, none⟩ = some (.slice Ao no co) := (blk_cell O8.out 0).trans rfl
     have y0 : w8.cell? ⟨W1.heap.size, 0, none⟩ = some (.int .i64 a) := (blk_cell HK8.out.run 0).trans rfl
     have PB8 := aM ((HK8.out.b.below.block pb (blk_lt PB5.out)).trans PB5.out)
     have p0 : w8.cell? ⟨pb, 0, none⟩ = some (.slice Ap p.length cp) := (blk_cell PB8.out 0).trans rfl
     have W64 := aM (show wrap64 (a + i) = a + i ∧ wrap64 (a + i + (p.length : Int)) = a + i + (p.length : Int) ∧ wrap64 (i + (p.length : Int)) = i + (p.length : Int) from by have := HK8.out.lo; have := C5.out; have := G.out; have := LL.out; have := PL.out; unfold wrap64; omega)
     have FI := aM (show i + (p.length : Int) ≤ (q.length : Int) from by
      have h := BBH.out
      unfold find_fits.f at h
      by_cases hh : i + (p.length : Int) ≤ (q.length : Int)
      ·exact hh
      ·rw [decide_eq_false hh, Bool.false_and] at h
       cases h)
     have HL8 := aM (show (find_Find.all p a2 a3 pre ++ d).length ≤ 1000000 from by
      have h1 := find_Find.all_len p P0.out a2 a3 (pre ++ [(a, q)])
      rw [find_Find.all_snoc, find_runs.sum_snoc, HK8.out.rest, ← List.append_assoc, List.length_append] at h1
      have := G.out
      have := LL.out
      dsimp only at h1
      omega)
     have hne1 : pb ≠ w5.heap.size := Nat.ne_of_lt (blk_lt PB5.out)
     have hne2 : w5.heap.size ≠ pb := Ne.symm hne1
     gi_wp2_with (first|((with_reducible refine find_Find.gate_in (N := 73) rfl ?_); refine find_Find.append_in k28 (w0 := w8) w5.heap.size rfl (.tmp 59) (.tmp 72) 24 28 (.agg #[.int .i64 0, .int .i64 0]) 16 rfl Tryd.underlying24 info28 rfl (by decide) (by decide) (.slice Ao no co) (find_Find.all p a2 a3 pre ++ d) (⟨wrap64 (a + i), wrap64 (wrap64 (a + i) + (p.length : Int))⟩ : S28) [.int .i64 (wrap64 (a + i)), .int .i64 (wrap64 (wrap64 (a + i) + (p.length : Int)))] (fun _ => True) (fun _ => False) rfl rfl (k28_mkM _ _ _ _) (fun _ h => h.elim) (fun _ _ => trivial) R8.out (Below.refl _ _) HK8.out.b.below.size (by have := HL8.out; omega) ?_; intro v1 w9 ho hb9 hg hat; obtain ⟨A9, c9, hv9⟩ := Kd.R_slice ho; obtain ⟨n9, hn9⟩ : ∃ n, n = (find_Find.all p a2 a3 pre ++ d ++ [(⟨wrap64 (a + i), wrap64 (wrap64 (a + i) + (p.length : Int))⟩ : S28)]).length := ⟨_, rfl⟩; rw [← hn9] at hv9; subst hv9; have R9 := aM ho; have G9 := aM hg; have O9 := aM (blk_grown O8.out hg (Kd.R_ne R8.out O8.out (by decide))); have P9 := aM (blk_grown PB8.out hg (Kd.R_ne R8.out PB8.out (by decide))); have hco : w9.cell? ⟨w5.heap.size, 0, none⟩ = some (.slice Ao no co) := (blk_cell O9.out 0).trans rfl; have hfo := blk_frozen O9.out 0; have pb9 : w9.cell? ⟨pb, 0, none⟩ = some (.slice Ap p.length cp) := (blk_cell P9.out 0).trans rfl; clear ho hb9 hg hat hn9))
     go_roundw
     case rel =>
      rw [W64.out.2.2]
      have hx : (⟨wrap64 (a + i), wrap64 (wrap64 (a + i) + (p.length : Int))⟩ : S28) = ⟨a + i, a + i + (p.length : Int)⟩ := by rw [W64.out.1, W64.out.2.1]
      have r9 := R9.out
      rw [hx] at r9
      exact ⟨i + (p.length : Int), g, d ++ [⟨a + i, a + i + (p.length : Int)⟩], rfl, ⟨HK8.out.push O8.out R8.out (Nat.le_refl _) r9 G9.out (fun k e => Kd.R_base R8.out k e) (by rw [find_Find.at_, if_pos C5.out, if_pos (by rw [← BBH.out])]) (by have := HK8.out.lo; omega) FI.out (by have := HK8.out.fuel; have := P0.out; omega)⟩⟩
     case measure => rw [W64.out.2.2]; simp only [intOf]; have := HK8.out.lo; have := C5.out; have := P0.out; omega
   ·have c5b : decide (i < (q.length : Int)) = false := decide_eq_false c5
    have C5 := aM c5
    clear c5
    gi_wp2
    have hat : find_Find.at_ p a2 a3 a q f i = [] := by
     obtain ⟨g, rfl⟩ : ∃ g, f = g + 1 := ⟨f - 1, by have := HK.out.fuel; have := HK.out.hi; omega⟩
     rw [find_Find.at_, if_neg (by have := C5.out; omega)]
    have hr := HK.out.rest
    rw [hat, List.append_nil] at hr
    refine ⟨HK.out.b.rec_, ?_, HK.out.con.trans (FindCon.put HK.out.b.rec_ _)⟩
    rw [find_Find.all_snoc, hr]
    exact HK.out.b.put (by omega) (by have := N7.out; omega) .ready
end
def emenderlaw26_awake.f  : Option (Bool) := (find_Find.f (([(⟨0, 0, 120, 0⟩ : S48)] : List (S48))) (⟨#[120]⟩ : ByteArray) false false).bind fun bt106 => (if bt106.2 = 0 then (some ((bt106.1.length : Int) == 1)) else (some false))
set_option maxHeartbeats 8000000 in
set_option maxRecDepth 100000 in
theorem emenderlaw26_awake.calls  (r : Bool) (w : World) (h : emenderlaw26_awake.f  = some r) (hT_ : Lib.Utf8Tabs 0 1 w := by first|exact u8_below HU8_.out (by repeat (first|(with_reducible first|exact HB.out|apply lA|apply lN|apply lD)|exact HB.out))|exact u8_below HT_.out (by repeat (first|(with_reducible first|exact HB.out|apply lA|apply lN|apply lD)|exact HB.out))) :
  Calls Tryd.prog 7 #[] w fun e w' => e = .returned (.bool r) ∧ Below w.heap.size w w' := by
 have HU8_ := aM hT_
 clear hT_
 have hu48 := Tryd.underlying48
 have HB := aM (Below.refl w.heap.size w)
 have H : ((find_Find.f (([(⟨0, 0, 120, 0⟩ : S48)] : List (S48))) (⟨#[120]⟩ : ByteArray) false false).bind fun bt106 => (if bt106.2 = 0 then (some ((bt106.1.length : Int) == 1)) else (some false))) = some r := h
 clear h
 obtain ⟨y103, hy103⟩ : ∃ y_ : List (S48), y_ = (([(⟨0, 0, 120, 0⟩ : S48)] : List (S48))) := ⟨_, rfl⟩
 replace H : ((find_Find.f y103 (⟨#[120]⟩ : ByteArray) false false).bind fun bt106 => (if bt106.2 = 0 then (some ((bt106.1.length : Int) == 1)) else (some false))) = some r := by first|(rw [hy103]; with_reducible exact H)|(have H2_ := (Option.bind_some _ _).symm.trans H; rw [hy103]; with_reducible exact H2_)|(have H2_ := (Option.bind_some _ _).symm.trans H; with_reducible exact H2_)|with_reducible exact H|(rw [hy103]; exact H)|exact H
 have Ny103 := aM hy103
 clear hy103
 replace H := Option.bind_eq_some_iff.mp H
 obtain ⟨⟨t106, t107⟩, A10, H⟩ := H
 replace H : (if t107 = 0 then (some ((t106.length : Int) == 1)) else (some false)) = some r := H
 have A1 := aM A10
 clear A10
 by_cases c2 : t107 = 0
 ·rw [if_pos c2] at H
  have c2b0 : (t107 == 0) = true := beq_iff_eq.mpr c2
  have c2b1 : (t107 != 0) = false := bne_eq_false_iff_eq.mpr c2
  clear c2
  obtain rfl := Option.some.inj H
  go_enter Tryd.func7, Tryd.ntmps7
  go_wp2_with (first|((with_reducible refine gate_dst (N := 5) rfl ?_); (try (refine gate_guard (by rfl) ?_; dsimp only)); refine Kd.R_lit k48 _ 48 ?hg (N := 5) ?hd (xs := ([(⟨0, 0, 120, 0⟩ : S48)] : List (S48))) (inner := [.int .i64 0, .int .i64 0, .int .i64 120, .int .i64 0]) (ok := fun _ => True) (okp := fun _ => True) ?hr ?hp (fun _ hk => hk) trivial (Below.refl _ _) (Nat.le_refl _) (by simp) ?_; (case hd => rfl); (case hg => rfl); (case hr => first|(go_simp; done)|(go_simp; rfl)); (case hp => exact (Reps.c4 (show Kd.M k48 _ _ _ (⟨0, 0, 120, 0⟩ : S48) [.int .i64 0, .int .i64 0, .int .i64 120, .int .i64 0] from (k48_mkM _ _ _ (⟨0, 0, 120, 0⟩ : S48) )) (Reps.none _ _))); intro v104 w3 ho4 hb hg_ hnew_; clear hg_ hnew_; (first|rw [← Ny103.out] at ho4|(simp only [Int.reduceToNat] at ho4; rw [← Ny103.out] at ho4)); replace HO105 := aM (Kd.R_lower ho4 (below_size (by repeat (first|(with_reducible first|exact HB.out|apply lA|apply lN|apply lD)|exact HB.out)))); replace HB := aM (below_step (by repeat (first|(with_reducible first|exact HB.out|apply lA|apply lN|apply lD)|exact HB.out)) hb); clear hb ho4; obtain ⟨Ao5, co5, eo5⟩ := Kd.R_slice HO105.out; subst eo5)|((with_reducible refine gate_callee (f := 8) rfl ?_); refine goesL_ (some 6) rfl rfl Tryd.func8 (by kernel_rfl) rfl #[.slice Ao5 y103.length co5, .string (⟨#[120]⟩ : ByteArray), .bool false, .bool false] rfl (by (try simp only [List.map_toArray, List.map_cons, List.map_nil]); first|done|rfl|(simp only [List.length_drop, List.length_take]; rfl)) ?_; (with_reducible refine (find_Find.calls _ _ y103 (⟨#[120]⟩ : ByteArray) false false t106 t107 _ ?side1 ?side2 A1.out).mono ?_); (case side1 => repeat (first|exact (Kd.R_reads' HO105.out).2.2|(with_reducible refine Kd.C_alloc ?_ _)|(with_reducible refine Kd.C_drewN ?_ _)|(with_reducible refine Kd.C_drew ?_))); (case side2 => exact (Kd.R_reads' HO105.out).2.1); rintro e w6 ⟨v108, rfl, ho0, hb⟩; refine ⟨_, rfl, ?_⟩; replace HO105 := aM (Kd.R_below (by (with_reducible repeat (first|apply Kd.R_alloc|apply Kd.R_drewN|apply Kd.R_drew)); exact HO105.out) hb); replace HO109 := aM (Kd.R_lower ho0 (below_size (by repeat (first|(with_reducible first|exact HB.out|apply lA|apply lN|apply lD)|exact HB.out)))); replace HB := aM (below_step (by repeat (first|(with_reducible first|exact HB.out|apply lA|apply lN|apply lD)|exact HB.out)) hb); (try clear hb); (try clear hb2); (try clear hk); (try clear hi); (try clear ho0); obtain ⟨Ao7, co7, eo7⟩ := Kd.R_slice HO109.out; subst eo7))
  go_ret
  exact ⟨by first|rfl|(simp [errW_none, errW_some] <;> rfl)|(simp [*, errW_none, errW_some] <;> rfl), by repeat (first|(with_reducible first|exact HB.out|apply lA|apply lN|apply lD)|exact HB.out)⟩
 ·rw [if_neg c2] at H
  have c2b0 : (t107 == 0) = false := beq_eq_false_iff_ne.mpr c2
  have c2b1 : (t107 != 0) = true := bne_iff_ne.mpr c2
  obtain rfl := Option.some.inj H
  go_enter Tryd.func7, Tryd.ntmps7
  go_wp2_with (first|((with_reducible refine gate_dst (N := 5) rfl ?_); (try (refine gate_guard (by rfl) ?_; dsimp only)); refine Kd.R_lit k48 _ 48 ?hg (N := 5) ?hd (xs := ([(⟨0, 0, 120, 0⟩ : S48)] : List (S48))) (inner := [.int .i64 0, .int .i64 0, .int .i64 120, .int .i64 0]) (ok := fun _ => True) (okp := fun _ => True) ?hr ?hp (fun _ hk => hk) trivial (Below.refl _ _) (Nat.le_refl _) (by simp) ?_; (case hd => rfl); (case hg => rfl); (case hr => first|(go_simp; done)|(go_simp; rfl)); (case hp => exact (Reps.c4 (show Kd.M k48 _ _ _ (⟨0, 0, 120, 0⟩ : S48) [.int .i64 0, .int .i64 0, .int .i64 120, .int .i64 0] from (k48_mkM _ _ _ (⟨0, 0, 120, 0⟩ : S48) )) (Reps.none _ _))); intro v104 w8 ho9 hb hg_ hnew_; clear hg_ hnew_; (first|rw [← Ny103.out] at ho9|(simp only [Int.reduceToNat] at ho9; rw [← Ny103.out] at ho9)); replace HO105 := aM (Kd.R_lower ho9 (below_size (by repeat (first|(with_reducible first|exact HB.out|apply lA|apply lN|apply lD)|exact HB.out)))); replace HB := aM (below_step (by repeat (first|(with_reducible first|exact HB.out|apply lA|apply lN|apply lD)|exact HB.out)) hb); clear hb ho9; obtain ⟨Ao10, co10, eo10⟩ := Kd.R_slice HO105.out; subst eo10)|((with_reducible refine gate_callee (f := 8) rfl ?_); refine goesL_ (some 6) rfl rfl Tryd.func8 (by kernel_rfl) rfl #[.slice Ao10 y103.length co10, .string (⟨#[120]⟩ : ByteArray), .bool false, .bool false] rfl (by (try simp only [List.map_toArray, List.map_cons, List.map_nil]); first|done|rfl|(simp only [List.length_drop, List.length_take]; rfl)) ?_; (with_reducible refine (find_Find.calls _ _ y103 (⟨#[120]⟩ : ByteArray) false false t106 t107 _ ?side1 ?side2 A1.out).mono ?_); (case side1 => repeat (first|exact (Kd.R_reads' HO105.out).2.2|(with_reducible refine Kd.C_alloc ?_ _)|(with_reducible refine Kd.C_drewN ?_ _)|(with_reducible refine Kd.C_drew ?_))); (case side2 => exact (Kd.R_reads' HO105.out).2.1); rintro e w11 ⟨v108, rfl, ho0, hb⟩; refine ⟨_, rfl, ?_⟩; replace HO105 := aM (Kd.R_below (by (with_reducible repeat (first|apply Kd.R_alloc|apply Kd.R_drewN|apply Kd.R_drew)); exact HO105.out) hb); replace HO109 := aM (Kd.R_lower ho0 (below_size (by repeat (first|(with_reducible first|exact HB.out|apply lA|apply lN|apply lD)|exact HB.out)))); replace HB := aM (below_step (by repeat (first|(with_reducible first|exact HB.out|apply lA|apply lN|apply lD)|exact HB.out)) hb); (try clear hb); (try clear hb2); (try clear hk); (try clear hi); (try clear ho0)))
  go_ret
  exact ⟨by first|rfl|(simp [errW_none, errW_some] <;> rfl)|(simp [*, errW_none, errW_some] <;> rfl), by repeat (first|(with_reducible first|exact HB.out|apply lA|apply lN|apply lD)|exact HB.out)⟩
mutual
def find_rise.l0 : Nat → List (S48) → Int → List (S28) → Int → Int → Option (Bool)
|0, _, _, _, _, _ => none
|k + 1, x0, x5, x10, x11, x12 => if x12 < x11 then (if 0 ≤ x12 then (if x12 < (x10.length : Int) then (if ((rd_T28 x10 x12).f0) < x5 then (find_rise.j1 k x0 x10 x11 x12 true ((rd_T28 x10 x12).f0) ((rd_T28 x10 x12).f1)) else (if ((rd_T28 x10 x12).f0) ≥ ((rd_T28 x10 x12).f1) then (find_rise.j1 k x0 x10 x11 x12 true ((rd_T28 x10 x12).f0) ((rd_T28 x10 x12).f1)) else (find_rise.j1 k x0 x10 x11 x12 (decide (((rd_T28 x10 x12).f1) > (x0.length : Int))) ((rd_T28 x10 x12).f0) ((rd_T28 x10 x12).f1)))) else (none)) else (none)) else (some true)
def find_rise.j1 : Nat → List (S48) → List (S28) → Int → Int → Bool → Int → Int → Option (Bool)
|0, _, _, _, _, _, _, _ => none
|k + 1, x0, x10, x11, x12, x33, x156000, x156001 => if x33 = true then (some false) else (if 0 ≤ x156000 then (if x156000 ≤ x156001 then (if x156001 ≤ (x0.length : Int) then ((some ((x0.take (x156001 : Int).toNat).drop (x156000 : Int).toNat : List (S48))).bind fun y156 => (find_rise.l1 k x0 x10 x11 x12 y156 (y156.length : Int) 0 x156000 x156001)) else (none)) else (none)) else (none))
def find_rise.l1 : Nat → List (S48) → List (S28) → Int → Int → List (S48) → Int → Int → Int → Int → Option (Bool)
|0, _, _, _, _, _, _, _, _, _ => none
|k + 1, x0, x10, x11, x12, x39, x40, x41, x156000, x156001 => if x41 < x40 then (if 0 ≤ x41 then (if x41 < (x39.length : Int) then (if ((rd_T48 x39 x41).f0) = 0 then (find_rise.l1 k x0 x10 x11 x12 x39 x40 (wrap64 (x41 + 1)) x156000 x156001) else (some false)) else (none)) else (none)) else (find_rise.l0 k x0 x156001 x10 x11 (wrap64 (x12 + 1)))
end
def find_rise.f (k : Nat) (l0 : List (S48)) (l1 : List (S28)) : Option (Bool) := find_rise.l0 k l0 0 l1 (l1.length : Int) 0
set_option maxHeartbeats 8000000 in
set_option maxRecDepth 100000 in
theorem find_rise.calls (k : Nat) (A0 : Option Addr) (c0 : Nat) (l0 : List (S48)) (A1 : Option Addr) (c1 : Nat) (l1 : List (S28)) (r : Bool) (w : World) (hr0 : Kd.C k48 w A0 l0.length l0) (hc0 : l0.length ≤ c0) (hr1 : Kd.C k28 w A1 l1.length l1) (hc1 : l1.length ≤ c1) (h : find_rise.f k l0 l1 = some r) :
  Calls Tryd.prog 24 #[.slice A0 l0.length c0, .slice A1 l1.length c1] w fun e w' => e = .returned (.bool r) ∧ Below w.heap.size w w' := by
 have hu28 := Tryd.underlying28
 have hu48 := Tryd.underlying48
 have HR0 := aM hr0
 have HC0 := aM hc0
 clear hr0 hc0
 have HR1 := aM hr1
 have HC1 := aM hc1
 clear hr1 hc1
 have HB := aM (Below.refl w.heap.size w)
 have H : (find_rise.l0 k l0 0 l1 (l1.length : Int) 0) = some r := h
 clear h
 have H' := aM H
 clear H
 go_enter Tryd.func24, Tryd.ntmps24
 go_wp2
 go_loopg [5, 12] k (fun kq v5 v12 w' => ∃ (x5_1 : Int) (x12_1 : Int), v5 = .int .i64 x5_1 ∧ v12 = .int .i64 x12_1 ∧ Aside0 (find_rise.l0 kq l0 x5_1 l1 (l1.length : Int) x12_1 = some r) ∧ Aside0 (kq ≤ k) ∧ Aside0 (Below w.heap.size w w'))
 case atStart => exact ⟨(0), (0), (by first|rfl|(simp; done)|(simp [*]; done)), (by first|rfl|(simp; done)|(simp [*]; done)), H', ⟨Nat.le_refl _⟩, ⟨by repeat (first|(with_reducible first|exact HB.out|apply lA|apply lN|apply lD)|exact HB.out)⟩⟩
 case round =>
  clear H'
  obtain ⟨x5_1, x12_1, rfl, rfl, HA, HK1, HB⟩ := hrel
  cases gk with
 |zero => exact absurd HA.out (by simp [find_rise.l0])
 |succ k1 =>
   have H := HA.out
   clear HA
   simp only [find_rise.l0] at H
   by_cases c3 : x12_1 < (l1.length : Int)
   ·rw [if_pos c3] at H
    have c3b0 : decide (x12_1 < (l1.length : Int)) = true := decide_eq_true c3
    clear c3
    replace H := ifS H; obtain ⟨c4, H⟩ := H
    have c4b0 : decide (0 ≤ x12_1) = true := decide_eq_true c4
    clear c4
    replace H := ifS H; obtain ⟨c5, H⟩ := H
    have c5b0 : decide (x12_1 < (l1.length : Int)) = true := decide_eq_true c5
    clear c5
    have HC6 := aM H
    clear H
    have p154 : 0 ≤ (x12_1 : Int) := of_decide_eq_true (by assumption)
    have q154 : x12_1 < (l1.length : Int) := of_decide_eq_true (by assumption)
    obtain ⟨ad154, e154, hx154_0, hx154_1⟩ := at_T28 HR1.out x12_1 p154 q154
    cases e154
    replace hx154_0 := cB HB.out hx154_0
    replace hx154_1 := cB HB.out hx154_1
    replace p154 := eq_true p154
    replace q154 := eq_true q154
    go_upto_region 5 with (first|((with_reducible refine gate_dst (N := 7) rfl ?_); (try (refine gate_guard (by rfl) ?_; dsimp only)); refine box_event ?hg (N := 7) ?hd (cs := #[.int .i64 0, .int .i64 0]) (t := 28) ?hr ?_; (case hd => rfl); (case hg => rfl); (case hr => first|(go_simp; done)|(go_simp; rfl)); intro gb155 hg w7 hbox hb; have hB_ := (by repeat (first|(with_reducible first|exact HB.out|apply lA|apply lN|apply lD)|exact HB.out) : Below w.heap.size w _); replace HB := aM (below_step hB_ hb); replace BK155 := aM (hbox); replace GW155 := aM ((bsz hg hB_)); replace GE155 := aM ((bsz hg hB_)); clear hb hbox hg hB_; obtain ⟨hcz8_0, hcz8_1, hfz8_0, hfz8_1⟩ := bx2z BK155.out))
    (try simp only [Act.put, List.setIfInBounds_toArray, List.set_cons_zero, List.set_cons_succ])
    go_cut [33] (fun v33 wc => ∃ (kq : Nat) (x33_5 : Bool), v33 = .bool x33_5 ∧ Aside0 (find_rise.j1 kq l0 l1 (l1.length : Int) x12_1 x33_5 ((rd_T28 l1 x12_1).f0) ((rd_T28 l1 x12_1).f1) = some r) ∧ Aside0 (kq ≤ k1) ∧ Aside0 (wc.heap[gb155]? = some (.cells #[.int .i64 ((rd_T28 l1 x12_1).f0), .int .i64 ((rd_T28 l1 x12_1).f1)] 28 (0, 0))) ∧ Aside0 (Below w.heap.size w wc))
    case first =>
     have H := HC6.out
     clear HC6
     by_cases c9 : ((rd_T28 l1 x12_1).f0) < x5_1
     ·rw [if_pos c9] at H
      have c9b0 : decide (((rd_T28 l1 x12_1).f0) < x5_1) = true := decide_eq_true c9
      clear c9
      (first|rw [c9b0]|(simp only [i64_w, i32_w]; rw [c9b0])|skip)
      have H' := aM H
      clear H
      obtain ⟨hcz10_0, hcz10_1, hfz10_0, hfz10_1⟩ := bx2z BK155.out
      go_wp2
      go_meet
      case rel => exact ⟨_, (true), (by first|rfl|(simp; done)|(simp [*]; done)), H', ⟨by have := HK1.out; first|omega|exact Nat.le_refl _⟩, ⟨by (with_reducible repeat (first|refine bN ?_ _|refine bD ?_|refine bA ?_ _)); apply put2; (with_reducible repeat (first|refine bN ?_ _|refine bD ?_|refine bA ?_ _)); exact BK155.out⟩, ⟨by repeat (first|(with_reducible first|exact HB.out|apply lA|apply lN|apply lD|refine lS ?_ GE155.out)|exact HB.out)⟩⟩
     ·rw [if_neg c9] at H
      have c9b0 : decide (((rd_T28 l1 x12_1).f0) < x5_1) = false := decide_eq_false c9
      clear c9
      (first|rw [c9b0]|(simp only [i64_w, i32_w]; rw [c9b0])|skip)
      by_cases c11 : ((rd_T28 l1 x12_1).f0) ≥ ((rd_T28 l1 x12_1).f1)
      ·rw [if_pos c11] at H
       have c11b0 : decide (((rd_T28 l1 x12_1).f1) ≤ ((rd_T28 l1 x12_1).f0)) = true := decide_eq_true c11
       clear c11
       have H' := aM H
       clear H
       obtain ⟨hcz12_0, hcz12_1, hfz12_0, hfz12_1⟩ := bx2z BK155.out
       go_wp2
       go_meet
       case rel => exact ⟨_, (true), (by first|rfl|(simp; done)|(simp [*]; done)), H', ⟨by have := HK1.out; first|omega|exact Nat.le_refl _⟩, ⟨by (with_reducible repeat (first|refine bN ?_ _|refine bD ?_|refine bA ?_ _)); apply put2; (with_reducible repeat (first|refine bN ?_ _|refine bD ?_|refine bA ?_ _)); exact BK155.out⟩, ⟨by repeat (first|(with_reducible first|exact HB.out|apply lA|apply lN|apply lD|refine lS ?_ GE155.out)|exact HB.out)⟩⟩
      ·rw [if_neg c11] at H
       have c11b0 : decide (((rd_T28 l1 x12_1).f1) ≤ ((rd_T28 l1 x12_1).f0)) = false := decide_eq_false c11
       clear c11
       have H' := aM H
       clear H
       obtain ⟨hcz13_0, hcz13_1, hfz13_0, hfz13_1⟩ := bx2z BK155.out
       go_wp2
       go_meet
       case rel => exact ⟨_, (decide (((rd_T28 l1 x12_1).f1) > (l0.length : Int))), (by first|rfl|(simp; done)|(simp [*]; done)), H', ⟨by have := HK1.out; first|omega|exact Nat.le_refl _⟩, ⟨by (with_reducible repeat (first|refine bN ?_ _|refine bD ?_|refine bA ?_ _)); apply put2; (with_reducible repeat (first|refine bN ?_ _|refine bD ?_|refine bA ?_ _)); exact BK155.out⟩, ⟨by repeat (first|(with_reducible first|exact HB.out|apply lA|apply lN|apply lD|refine lS ?_ GE155.out)|exact HB.out)⟩⟩
    case rest =>
     clear HC6
     obtain ⟨kq, x33_5, rfl, HA, HJ5, BK155, HB⟩ := hcut
     cases kq with
    |zero => exact absurd HA.out (by simp [find_rise.j1])
    |succ kj5 =>
      have H := HA.out
      clear HA
      simp only [find_rise.j1] at H
      by_cases c14 : x33_5 = true
      ·subst c14
       have H1 : (some false) = some r := by rw [if_pos rfl] at H; exact H
       clear H
       have H := H1
       clear H1
       obtain rfl := Option.some.inj H
       go_wp2
       go_ret
       exact ⟨by first|rfl|(simp [errW_none, errW_some] <;> rfl)|(simp [*, errW_none, errW_some] <;> rfl), by repeat (first|(with_reducible first|exact HB.out|apply lA|apply lN|apply lD|refine lS ?_ GE155.out)|exact HB.out)⟩
      ·replace c14 := Bool.eq_false_iff.mpr c14
       subst c14
       have H1 : (if 0 ≤ ((rd_T28 l1 x12_1).f0) then (if ((rd_T28 l1 x12_1).f0) ≤ ((rd_T28 l1 x12_1).f1) then (if ((rd_T28 l1 x12_1).f1) ≤ (l0.length : Int) then ((some ((l0.take (((rd_T28 l1 x12_1).f1) : Int).toNat).drop (((rd_T28 l1 x12_1).f0) : Int).toNat : List (S48))).bind fun y156 => (find_rise.l1 kj5 l0 l1 (l1.length : Int) x12_1 y156 (y156.length : Int) 0 ((rd_T28 l1 x12_1).f0) ((rd_T28 l1 x12_1).f1))) else (none)) else (none)) else (none)) = some r := by rw [if_neg (show ¬ (false = true) by decide)] at H; exact H
       clear H
       have H := H1
       clear H1
       replace H := ifS H; obtain ⟨c15, H⟩ := H
       have c15b0 := eq_true c15
       have c15b1 : decide (0 ≤ ((rd_T28 l1 x12_1).f0)) = true := decide_eq_true c15
       clear c15
       replace H := ifS H; obtain ⟨c16, H⟩ := H
       have c16b0 := eq_true c16
       have c16b1 : decide (((rd_T28 l1 x12_1).f0) ≤ ((rd_T28 l1 x12_1).f1)) = true := decide_eq_true c16
       clear c16
       replace H := ifS H; obtain ⟨c17, H⟩ := H
       have c17b0 := eq_true c17
       have c17b1 : decide (((rd_T28 l1 x12_1).f1) ≤ (l0.length : Int)) = true := decide_eq_true c17
       clear c17
       obtain ⟨y156, hy156⟩ : ∃ y_ : List (S48), y_ = ((l0.take (((rd_T28 l1 x12_1).f1) : Int).toNat).drop (((rd_T28 l1 x12_1).f0) : Int).toNat) := ⟨_, rfl⟩
       replace H : (find_rise.l1 kj5 l0 l1 (l1.length : Int) x12_1 y156 (y156.length : Int) 0 ((rd_T28 l1 x12_1).f0) ((rd_T28 l1 x12_1).f1)) = some r := by first|(rw [hy156]; with_reducible exact H)|(have H2_ := (Option.bind_some _ _).symm.trans H; rw [hy156]; with_reducible exact H2_)|(have H2_ := (Option.bind_some _ _).symm.trans H; with_reducible exact H2_)|with_reducible exact H|(rw [hy156]; exact H)|exact H
       have Ny156 := aM hy156
       clear hy156
       have H' := aM H
       clear H
       obtain ⟨hcz18_0, hcz18_1, hfz18_0, hfz18_1⟩ := bx2z BK155.out
       have q19 : (((rd_T28 l1 x12_1).f1) : Int) ≤ ((l0.length : Int) : Int) := of_decide_eq_true (by assumption)
       obtain ⟨i019, hi019, _, hsz19, _⟩ := info_parts info48
       have hroom19 : l0.length ≤ c0 := HC0.out
       have hC19 : Kd.C k48 _ A0 l0.length l0 := HR0.out
       have ql19 : (((rd_T28 l1 x12_1).f0) : Int) ≤ (((rd_T28 l1 x12_1).f1) : Int) := of_decide_eq_true (by assumption)
       have q019 : (0 : Int) ≤ (((rd_T28 l1 x12_1).f0) : Int) := of_decide_eq_true (by assumption)
       have hcut19 := cut_mid (P := Tryd.prog) 22 48 .i64 .i64 Tryd.underlying22 hi019 4 hsz19 A0 l0.length c0 ((rd_T28 l1 x12_1).f0) ((rd_T28 l1 x12_1).f1) q019 ql19 q19 hroom19
       have hr19 := Kd.C_mid (lo := (((rd_T28 l1 x12_1).f0) : Int).toNat) (hi := (((rd_T28 l1 x12_1).f1) : Int).toNat) (c := c0) hC19 (by omega) (by omega) hroom19
       obtain ⟨A19, hA19⟩ : ∃ A1, A1 = (if c0 = (((rd_T28 l1 x12_1).f0) : Int).toNat then A0 else (A0 : Option Addr).map (·.add ((((rd_T28 l1 x12_1).f0) : Int).toNat * 4))) := ⟨_, rfl⟩
       obtain ⟨c19, hc19⟩ : ∃ c1, c1 = c0 - (((rd_T28 l1 x12_1).f0) : Int).toNat := ⟨_, rfl⟩
       have hy19 : y156.length = (((rd_T28 l1 x12_1).f1) : Int).toNat - (((rd_T28 l1 x12_1).f0) : Int).toNat := (by rw [Ny156.out, List.length_drop, List.length_take] <;> omega)
       rw [show ((l0).take (((rd_T28 l1 x12_1).f1) : Int).toNat).drop (((rd_T28 l1 x12_1).f0) : Int).toNat = y156 from Ny156.out.symm] at hr19
       replace hr19 : Kd.C k48 _ A19 y156.length y156 := (by rw [hA19]; exact hr19)
       rw [← hy19, ← hA19, ← hc19] at hcut19
       have HR159 := aM hr19
       have HC159 := aM (show y156.length ≤ c19 from by rw [hy19, hc19]; exact Nat.sub_le_sub_right (Nat.le_trans (by omega) hroom19) _)
       clear hr19 hC19 hroom19 hi019 hsz19 hc19
       have KY19 := aM hy19
       have KA19 := aM hA19
       clear hy19 hA19
       replace q19 := eq_true q19
       go_wp2
       go_loopg [41] kj5 (fun kq v41 w' => ∃ (x41_3 : Int), v41 = .int .i64 x41_3 ∧ Aside0 (find_rise.l1 kq l0 l1 (l1.length : Int) x12_1 y156 (y156.length : Int) x41_3 ((rd_T28 l1 x12_1).f0) ((rd_T28 l1 x12_1).f1) = some r) ∧ Aside0 (kq ≤ kj5) ∧ Aside0 (w'.heap[gb155]? = some (.cells #[.int .i64 ((rd_T28 l1 x12_1).f0), .int .i64 ((rd_T28 l1 x12_1).f1)] 28 (0, 0))) ∧ Aside0 (Below w.heap.size w w'))
       case atStart => exact ⟨(0), (by first|rfl|(simp; done)|(simp [*]; done)), H', ⟨Nat.le_refl _⟩, ⟨by (with_reducible repeat (first|refine bN ?_ _|refine bD ?_|refine bA ?_ _)); exact BK155.out⟩, ⟨by repeat (first|(with_reducible first|exact HB.out|apply lA|apply lN|apply lD|refine lS ?_ GE155.out)|exact HB.out)⟩⟩
       case round =>
        clear H'
        obtain ⟨x41_3, rfl, HA, HK3, BK155, HB⟩ := hrel
        cases gk with
       |zero => exact absurd HA.out (by simp [find_rise.l1])
       |succ k3 =>
         have H := HA.out
         clear HA
         simp only [find_rise.l1] at H
         by_cases c20 : x41_3 < (y156.length : Int)
         ·rw [if_pos c20] at H
          have c20b0 : decide (x41_3 < (y156.length : Int)) = true := decide_eq_true c20
          clear c20
          replace H := ifS H; obtain ⟨c21, H⟩ := H
          have c21b0 : decide (0 ≤ x41_3) = true := decide_eq_true c21
          clear c21
          replace H := ifS H; obtain ⟨c22, H⟩ := H
          have c22b0 : decide (x41_3 < (y156.length : Int)) = true := decide_eq_true c22
          clear c22
          by_cases c23 : ((rd_T48 y156 x41_3).f0) = 0
          ·rw [if_pos c23] at H
           have c23b0 : (((rd_T48 y156 x41_3).f0) == 0) = true := beq_iff_eq.mpr c23
           have c23b1 : (((rd_T48 y156 x41_3).f0) != 0) = false := bne_eq_false_iff_eq.mpr c23
           clear c23
           have H' := aM H
           clear H
           have p160 : 0 ≤ (x41_3 : Int) := of_decide_eq_true (by assumption)
           have q160 : x41_3 < (y156.length : Int) := of_decide_eq_true (by assumption)
           obtain ⟨ad160, e160, hx160_0, hx160_1, hx160_2, hx160_3⟩ := at_T48 HR159.out x41_3 p160 q160
           cases e160
           replace hx160_0 := cB HB.out hx160_0
           replace hx160_1 := cB HB.out hx160_1
           replace hx160_2 := cB HB.out hx160_2
           replace hx160_3 := cB HB.out hx160_3
           replace p160 := eq_true p160
           replace q160 := eq_true q160
           go_wp2_with (first|((with_reducible refine gate_dst (N := 9) rfl ?_); (try (refine gate_guard (by rfl) ?_; dsimp only)); refine box_event ?hg (N := 9) ?hd (cs := #[.int .i64 0, .int .i64 0, .int .i64 0, .int .i64 0]) (t := 48) ?hr ?_; (case hd => rfl); (case hg => rfl); (case hr => first|(go_simp; done)|(go_simp; rfl)); intro gb161 hg w24 hbox hb; replace BK161 := aM (hbox); replace GW161 := aM ((by rw [hg]; exact (below_size (by repeat (first|(with_reducible first|exact HB.out|apply lA|apply lN|apply lD|refine lS ?_ GE155.out)|exact HB.out))) : w.heap.size ≤ gb161)); replace GE161 := aM ((by rw [hg]; exact (below_size (by repeat (first|(with_reducible first|exact HB.out|apply lA|apply lN|apply lD|refine lS ?_ GE155.out)|exact HB.out))) : w.heap.size ≤ gb161)); replace HB := aM (below_step (by repeat (first|(with_reducible first|exact HB.out|apply lA|apply lN|apply lD|refine lS ?_ GE155.out)|exact HB.out)) hb); replace NB155_161 := aM ((by rw [hg]; exact Nat.ne_of_lt (blk_lt (g := gb155) (o := .cells #[.int .i64 ((rd_T28 l1 x12_1).f0), .int .i64 ((rd_T28 l1 x12_1).f1)] 28 (0, 0)) (by (with_reducible repeat (first|refine bN ?_ _|refine bD ?_|refine bA ?_ _)); exact BK155.out)) : gb155 ≠ gb161)); replace NB161_155 := aM ((by rw [hg]; exact Nat.ne_of_gt (blk_lt (g := gb155) (o := .cells #[.int .i64 ((rd_T28 l1 x12_1).f0), .int .i64 ((rd_T28 l1 x12_1).f1)] 28 (0, 0)) (by (with_reducible repeat (first|refine bN ?_ _|refine bD ?_|refine bA ?_ _)); exact BK155.out)) : gb161 ≠ gb155)); replace BK155 := aM (blk_below (by (with_reducible repeat (first|refine bN ?_ _|refine bD ?_|refine bA ?_ _)); exact BK155.out) hb); clear hb hbox hg; have hnb25 := NB161_155.out; have hnc25 := NB155_161.out; obtain ⟨hcz26_0, hcz26_1, hcz26_2, hcz26_3, hfz26_0, hfz26_1, hfz26_2, hfz26_3⟩ := bx4z BK161.out))
           go_roundg k3
           case measure => have := HK1.out; have := HJ5.out; have := HK3.out; omega
           case rel => exact ⟨(wrap64 (x41_3 + 1)), (by first|rfl|(simp; done)|(simp [*]; done)), H', ⟨by have := HK1.out; have := HJ5.out; have := HK3.out; omega⟩, ⟨by (with_reducible repeat (first|refine bN ?_ _|refine bD ?_|refine bA ?_ _)); refine far4 ?_ NB155_161.out; (with_reducible repeat (first|refine bN ?_ _|refine bD ?_|refine bA ?_ _)); exact BK155.out⟩, ⟨by repeat (first|(with_reducible first|exact HB.out|apply lA|apply lN|apply lD|refine lS ?_ GE155.out|refine lS ?_ GE161.out)|exact HB.out)⟩⟩
          ·rw [if_neg c23] at H
           have c23b0 : (((rd_T48 y156 x41_3).f0) == 0) = false := beq_eq_false_iff_ne.mpr c23
           have c23b1 : (((rd_T48 y156 x41_3).f0) != 0) = true := bne_iff_ne.mpr c23
           obtain rfl := Option.some.inj H
           have p160 : 0 ≤ (x41_3 : Int) := of_decide_eq_true (by assumption)
           have q160 : x41_3 < (y156.length : Int) := of_decide_eq_true (by assumption)
           obtain ⟨ad160, e160, hx160_0, hx160_1, hx160_2, hx160_3⟩ := at_T48 HR159.out x41_3 p160 q160
           cases e160
           replace hx160_0 := cB HB.out hx160_0
           replace hx160_1 := cB HB.out hx160_1
           replace hx160_2 := cB HB.out hx160_2
           replace hx160_3 := cB HB.out hx160_3
           replace p160 := eq_true p160
           replace q160 := eq_true q160
           go_wp2_with (first|((with_reducible refine gate_dst (N := 9) rfl ?_); (try (refine gate_guard (by rfl) ?_; dsimp only)); refine box_event ?hg (N := 9) ?hd (cs := #[.int .i64 0, .int .i64 0, .int .i64 0, .int .i64 0]) (t := 48) ?hr ?_; (case hd => rfl); (case hg => rfl); (case hr => first|(go_simp; done)|(go_simp; rfl)); intro gb161 hg w27 hbox hb; replace BK161 := aM (hbox); replace GW161 := aM ((by rw [hg]; exact (below_size (by repeat (first|(with_reducible first|exact HB.out|apply lA|apply lN|apply lD|refine lS ?_ GE155.out)|exact HB.out))) : w.heap.size ≤ gb161)); replace GE161 := aM ((by rw [hg]; exact (below_size (by repeat (first|(with_reducible first|exact HB.out|apply lA|apply lN|apply lD|refine lS ?_ GE155.out)|exact HB.out))) : w.heap.size ≤ gb161)); replace HB := aM (below_step (by repeat (first|(with_reducible first|exact HB.out|apply lA|apply lN|apply lD|refine lS ?_ GE155.out)|exact HB.out)) hb); replace NB155_161 := aM ((by rw [hg]; exact Nat.ne_of_lt (blk_lt (g := gb155) (o := .cells #[.int .i64 ((rd_T28 l1 x12_1).f0), .int .i64 ((rd_T28 l1 x12_1).f1)] 28 (0, 0)) (by (with_reducible repeat (first|refine bN ?_ _|refine bD ?_|refine bA ?_ _)); exact BK155.out)) : gb155 ≠ gb161)); replace NB161_155 := aM ((by rw [hg]; exact Nat.ne_of_gt (blk_lt (g := gb155) (o := .cells #[.int .i64 ((rd_T28 l1 x12_1).f0), .int .i64 ((rd_T28 l1 x12_1).f1)] 28 (0, 0)) (by (with_reducible repeat (first|refine bN ?_ _|refine bD ?_|refine bA ?_ _)); exact BK155.out)) : gb161 ≠ gb155)); replace BK155 := aM (blk_below (by (with_reducible repeat (first|refine bN ?_ _|refine bD ?_|refine bA ?_ _)); exact BK155.out) hb); clear hb hbox hg; have hnb28 := NB161_155.out; have hnc28 := NB155_161.out; obtain ⟨hcz29_0, hcz29_1, hcz29_2, hcz29_3, hfz29_0, hfz29_1, hfz29_2, hfz29_3⟩ := bx4z BK161.out))
           go_ret
           exact ⟨by first|rfl|(simp [errW_none, errW_some] <;> rfl)|(simp [*, errW_none, errW_some] <;> rfl), by repeat (first|(with_reducible first|exact HB.out|apply lA|apply lN|apply lD|refine lS ?_ GE155.out|refine lS ?_ GE161.out)|exact HB.out)⟩
         ·rw [if_neg c20] at H
          have c20b0 : decide (x41_3 < (y156.length : Int)) = false := decide_eq_false c20
          clear c20
          have H' := aM H
          clear H
          obtain ⟨hcz30_0, hcz30_1, hfz30_0, hfz30_1⟩ := bx2z BK155.out
          go_wp2
          go_roundg k3
          case measure => have := HK1.out; have := HJ5.out; have := HK3.out; omega
          case rel => exact ⟨(((rd_T28 l1 x12_1).f1)), (wrap64 (x12_1 + 1)), (by first|rfl|(simp; done)|(simp [*]; done)), (by first|rfl|(simp; done)|(simp [*]; done)), H', ⟨by have := HK1.out; have := HJ5.out; have := HK3.out; omega⟩, ⟨by repeat (first|(with_reducible first|exact HB.out|apply lA|apply lN|apply lD|refine lS ?_ GE155.out)|exact HB.out)⟩⟩
   ·rw [if_neg c3] at H
    have c3b0 : decide (x12_1 < (l1.length : Int)) = false := decide_eq_false c3
    clear c3
    obtain rfl := Option.some.inj H
    go_wp2
    go_ret
    exact ⟨by first|rfl|(simp [errW_none, errW_some] <;> rfl)|(simp [*, errW_none, errW_some] <;> rfl), by repeat (first|(with_reducible first|exact HB.out|apply lA|apply lN|apply lD)|exact HB.out)⟩
mutual
def find_Steps.l0 : Nat → List (S48) → List (S28) → List Int → List (S45) → Int → Option ((List (S45)) × Int)
|0, _, _, _, _, _ => none
|k + 1, x0, x1, x10, x12, x13 => if x13 ≥ 0 then (if 0 ≤ x13 then (if x13 < (x1.length : Int) then (find_Steps.l1 k x0 x1 x10 x12 x13 x10 (x10.length : Int) 0 0 ((rd_T28 x1 x13).f0) ((rd_T28 x1 x13).f1) 0 0 0 ([] : List (S48)) 0) else (none)) else (none)) else (some (x12, 0))
def find_Steps.l1 : Nat → List (S48) → List (S28) → List Int → List (S45) → Int → List Int → Int → Int → Int → Int → Int → Int → Int → Int → List (S48) → Int → Option ((List (S45)) × Int)
|0, _, _, _, _, _, _, _, _, _, _, _, _, _, _, _, _ => none
|k + 1, x0, x1, x10, x12, x13, x55, x56, x57, x172000, x172001, x172002, x172003, x172004, x172005, x172006, x172007 => if x57 < x56 then (if 0 ≤ x57 then (if x57 < (x55.length : Int) then (if 0 ≤ x172001 then (if x172001 < (x0.length : Int) then (if x172006.length < 4398046511104 then (find_Steps.l1 k x0 x1 x10 x12 x13 x55 x56 (wrap64 (x57 + 1)) x172000 x172001 x172002 x172003 x172004 x172005 (x172006 ++ [(⟨0, 0, rd x55 x57, (rd_T48 x0 x172001).f3⟩ : S48)]) x172007) else (none)) else (none)) else (none)) else (none)) else (none)) else (if x12.length < 1759218604441 then (find_Steps.l0 k x0 x1 x10 (x12 ++ [(⟨x172000, x172001, x172002, x172003, x172004, x172005, x172006, x172007⟩ : S45)]) (wrap64 (x13 - 1))) else (none))
end
def find_Steps.f (k : Nat) (l0 : List (S48)) (l1 : List (S28)) (a2 : ByteArray) : Option ((List (S45)) × Int) := (flat_Check.f l0).bind fun bt162 => (if bt162.2 = 0 then ((find_rise.f k l0 l1).bind fun t164 => (if t164 = true then ((find_points.f a2).bind fun bt165 => (if bt165.2 = 0 then (find_Steps.l0 k l0 l1 bt165.1 ([] : List (S45)) (wrap64 ((l1.length : Int) - 1))) else (some (([] : List (S45)), bt165.2)))) else (some (([] : List (S45)), 1)))) else (some (([] : List (S45)), bt162.2)))
def find_Steps.T13 : Bool × List (List Nat × List Nat) := (true, [([], []), ([], []), ([0, 1], [0, 1]), ([2], [2]), ([3], [3]), ([], []), ([], []), ([5, 6], [5, 6]), ([7], [7]), ([8], [8]), ([4, 9], [4, 9]), ([], []), ([11, 10, 0, 1, 2, 3, 4, 5, 6, 7, 8, 9, 10, 11], [10, 11])])
def find_Steps.B13 : List Nat := [0, 0, 3, 7, 15, 0, 0, 96, 224, 480, 1023, 0, 4095]
theorem find_Steps.tab13 : rtab .any (opsOf Tryd.f11 13) = find_Steps.T13 := by kernel_rfl
theorem find_Steps.bits13 : waitsOk find_Steps.T13.2 find_Steps.B13 = true := by kernel_rfl
def find_Steps.T17 : Bool × List (List Nat × List Nat) := (true, [([], []), ([0], [0]), ([], []), ([], []), ([], []), ([4], [4]), ([3, 5], [3, 5]), ([6], [6]), ([7], [7]), ([2, 8], [2, 8]), ([9], [9]), ([1, 10], [1, 10]), ([0, 1, 2, 3, 4, 5, 6, 7, 8, 9, 10, 11], []), ([12, 11, 11, 0, 1, 2, 3, 4, 5, 6, 7, 8, 9, 10, 11], [11, 12])])
def find_Steps.B17 : List Nat := [0, 1, 0, 0, 0, 16, 56, 120, 248, 508, 1020, 2047, 4095, 8191]
theorem find_Steps.tab17 : rtab .any (opsOf Tryd.f11 17) = find_Steps.T17 := by kernel_rfl
theorem find_Steps.bits17 : waitsOk find_Steps.T17.2 find_Steps.B17 = true := by kernel_rfl
set_option maxHeartbeats 8000000 in
set_option maxRecDepth 100000 in
theorem find_Steps.calls (k : Nat) (A0 : Option Addr) (c0 : Nat) (l0 : List (S48)) (A1 : Option Addr) (c1 : Nat) (l1 : List (S28)) (a2 : ByteArray) (r1 : List (S45)) (r2 : Int) (w : World) (hr0 : Kd.C k48 w A0 l0.length l0) (hc0 : l0.length ≤ c0) (hr1 : Kd.C k28 w A1 l1.length l1) (hc1 : l1.length ≤ c1) (h : find_Steps.f k l0 l1 a2 = some (r1, r2)) (hT_ : Lib.Utf8Tabs 0 1 w := by first|exact u8_below HU8_.out (by repeat (first|(with_reducible first|exact HB.out|apply lA|apply lN|apply lD)|exact HB.out))|exact u8_below HT_.out (by repeat (first|(with_reducible first|exact HB.out|apply lA|apply lN|apply lD)|exact HB.out))) :
  Calls Tryd.prog 11 #[.slice A0 l0.length c0, .slice A1 l1.length c1, .string a2] w fun e w' => ∃ v0_ : Value, e = .returned (.tuple #[v0_, .int .i64 r2]) ∧ Kd.S k45 45 w' w.heap.size (fun _ => True) v0_ r1 ∧ Below w.heap.size w w' := by
 have HU8_ := aM hT_
 clear hT_
 have hu45 := Tryd.underlying45
 have hu48 := Tryd.underlying48
 have HR0 := aM hr0
 have HC0 := aM hc0
 clear hr0 hc0
 have HR1 := aM hr1
 have HC1 := aM hc1
 clear hr1 hc1
 have HB := aM (Below.refl w.heap.size w)
 have H : ((flat_Check.f l0).bind fun bt162 => (if bt162.2 = 0 then ((find_rise.f k l0 l1).bind fun t164 => (if t164 = true then ((find_points.f a2).bind fun bt165 => (if bt165.2 = 0 then (find_Steps.l0 k l0 l1 bt165.1 ([] : List (S45)) (wrap64 ((l1.length : Int) - 1))) else (some (([] : List (S45)), bt165.2)))) else (some (([] : List (S45)), 1)))) else (some (([] : List (S45)), bt162.2)))) = some (r1, r2) := h
 clear h
 replace H := Option.bind_eq_some_iff.mp H
 obtain ⟨⟨t162, t163⟩, A40, H⟩ := H
 replace H : (if t163 = 0 then ((find_rise.f k l0 l1).bind fun t164 => (if t164 = true then ((find_points.f a2).bind fun bt165 => (if bt165.2 = 0 then (find_Steps.l0 k l0 l1 bt165.1 ([] : List (S45)) (wrap64 ((l1.length : Int) - 1))) else (some (([] : List (S45)), bt165.2)))) else (some (([] : List (S45)), 1)))) else (some (([] : List (S45)), t163))) = some (r1, r2) := H
 have A4 := aM A40
 clear A40
 by_cases c5 : t163 = 0
 ·rw [if_pos c5] at H
  have c5b0 : (t163 == 0) = true := beq_iff_eq.mpr c5
  have c5b1 : (t163 != 0) = false := bne_eq_false_iff_eq.mpr c5
  clear c5
  replace H := Option.bind_eq_some_iff.mp H
  obtain ⟨t164, A60, H⟩ := H
  replace H : (if t164 = true then ((find_points.f a2).bind fun bt165 => (if bt165.2 = 0 then (find_Steps.l0 k l0 l1 bt165.1 ([] : List (S45)) (wrap64 ((l1.length : Int) - 1))) else (some (([] : List (S45)), bt165.2)))) else (some (([] : List (S45)), 1))) = some (r1, r2) := H
  have A6 := aM A60
  clear A60
  by_cases c7 : t164 = true
  ·subst c7
   have H1 : ((find_points.f a2).bind fun bt165 => (if bt165.2 = 0 then (find_Steps.l0 k l0 l1 bt165.1 ([] : List (S45)) (wrap64 ((l1.length : Int) - 1))) else (some (([] : List (S45)), bt165.2)))) = some (r1, r2) := by rw [if_pos rfl] at H; exact H
   clear H
   have H := H1
   clear H1
   replace H := Option.bind_eq_some_iff.mp H
   obtain ⟨⟨t165, t166⟩, A80, H⟩ := H
   replace H : (if t166 = 0 then (find_Steps.l0 k l0 l1 t165 ([] : List (S45)) (wrap64 ((l1.length : Int) - 1))) else (some (([] : List (S45)), t166))) = some (r1, r2) := H
   have A8 := aM A80
   clear A80
   by_cases c9 : t166 = 0
   ·rw [if_pos c9] at H
    have c9b0 : (t166 == 0) = true := beq_iff_eq.mpr c9
    have c9b1 : (t166 != 0) = false := bne_eq_false_iff_eq.mpr c9
    clear c9
    have H' := aM H
    clear H
    go_enter Tryd.func11, Tryd.ntmps11
    go_wp2_with (first|((with_reducible refine gate_callee (f := 10) rfl ?_); refine goesL_ (some 19) rfl rfl Tryd.func10 (by kernel_rfl) rfl #[.slice A0 l0.length c0] rfl (by (try simp only [List.map_toArray, List.map_cons, List.map_nil]); first|done|rfl|(simp only [List.length_drop, List.length_take]; rfl)) ?_; (with_reducible refine (flat_Check.calls _ _ l0 t162 t163 _ ?side1 ?side2 A4.out).mono ?_); (case side1 => repeat (first|exact HR0.out|(with_reducible refine Kd.C_alloc ?_ _)|(with_reducible refine Kd.C_drewN ?_ _)|(with_reducible refine Kd.C_drew ?_))); (case side2 => exact HC0.out); rintro e w10 ⟨rfl, hb⟩; refine ⟨_, rfl, ?_⟩; replace HB := aM (below_step (by repeat (first|(with_reducible first|exact HB.out|apply lA|apply lN|apply lD)|exact HB.out)) hb); (try clear hb); (try clear hb2); (try clear hk); (try clear hi))|((with_reducible refine gate_callee (f := 24) rfl ?_); refine goesL_ (some 27) rfl rfl Tryd.func24 (by kernel_rfl) rfl #[.slice A0 l0.length c0, .slice A1 l1.length c1] rfl (by (try simp only [List.map_toArray, List.map_cons, List.map_nil]); first|done|rfl|(simp only [List.length_drop, List.length_take]; rfl)) ?_; (with_reducible refine (find_rise.calls k _ _ l0 _ _ l1 true _ ?side1 ?side2 ?side3 ?side4 A6.out).mono ?_); (case side1 => repeat (first|exact (Kd.C_below HR0.out HB.out)|(with_reducible refine Kd.C_alloc ?_ _)|(with_reducible refine Kd.C_drewN ?_ _)|(with_reducible refine Kd.C_drew ?_))); (case side2 => exact HC0.out); (case side3 => repeat (first|exact (Kd.C_below HR1.out HB.out)|(with_reducible refine Kd.C_alloc ?_ _)|(with_reducible refine Kd.C_drewN ?_ _)|(with_reducible refine Kd.C_drew ?_))); (case side4 => exact HC1.out); rintro e w11 ⟨rfl, hb⟩; refine ⟨_, rfl, ?_⟩; replace HB := aM (below_step (by repeat (first|(with_reducible first|exact HB.out|apply lA|apply lN|apply lD)|exact HB.out)) hb); (try clear hb); (try clear hb2); (try clear hk); (try clear hi))|((with_reducible refine gate_callee (f := 17) rfl ?_); refine goesL_ (some 31) rfl rfl Tryd.func17 (by kernel_rfl) rfl #[.string a2] rfl (by (try simp only [List.map_toArray, List.map_cons, List.map_nil]); first|done|rfl|(simp only [List.length_drop, List.length_take]; rfl)) ?_; (with_reducible refine (find_points.calls a2 t165 t166 _ A8.out).mono ?_); rintro e w12 ⟨v167, rfl, ho0, hb⟩; refine ⟨_, rfl, ?_⟩; replace HO168 := aM (Kd.R_lower ho0 (below_size (by repeat (first|(with_reducible first|exact HB.out|apply lA|apply lN|apply lD)|exact HB.out)))); replace HB := aM (below_step (by repeat (first|(with_reducible first|exact HB.out|apply lA|apply lN|apply lD)|exact HB.out)) hb); (try clear hb); (try clear hb2); (try clear hk); (try clear hi); (try clear ho0)))
    go_loopg [12, 13] k (fun kq v12 v13 w' => ∃ (x12_1 : List (S45)) (x13_1 : Int), v13 = .int .i64 x13_1 ∧ Aside0 (find_Steps.l0 kq l0 l1 t165 x12_1 x13_1 = some (r1, r2)) ∧ Aside0 (kq ≤ k) ∧ Aside0 (Kd.R (Kd.int .i64) 3 w' w.heap.size (fun _ => True) v167 t165) ∧ Aside0 (Kd.S k45 45 w' w.heap.size (fun _ => True) v12 x12_1) ∧ Aside0 (Below w.heap.size w w'))
    case atStart => exact ⟨(([] : List (S45))), (wrap64 ((l1.length : Int) - 1)), (by first|rfl|(simp; done)|(simp [*]; done)), H', ⟨Nat.le_refl _⟩, ⟨by (with_reducible repeat (first|apply Kd.R_alloc|apply Kd.R_drewN|apply Kd.R_drew)); exact HO168.out⟩, ⟨by first|exact Kd.S_nil _ _ _ _ _|exact Kd.N_nil _ _ _ _ _|exact Kd.V_nil _ _ _ _ _|exact Kd.Q_nil _ _ _ _ _|exact Kd.R_nil _ _ _ _ _⟩, ⟨by repeat (first|(with_reducible first|exact HB.out|apply lA|apply lN|apply lD)|exact HB.out)⟩⟩
    case round =>
     clear H'
     obtain ⟨x12_1, x13_1, rfl, HA, HK1, HO_10, HO_12, HB⟩ := hrel
     cases gk with
    |zero => exact absurd HA.out (by simp [find_Steps.l0])
    |succ k1 =>
      have H := HA.out
      clear HA
      simp only [find_Steps.l0] at H
      by_cases c13 : x13_1 ≥ 0
      ·rw [if_pos c13] at H
       have c13b0 : decide (0 ≤ x13_1) = true := decide_eq_true c13
       clear c13
       replace H := ifS H; obtain ⟨c14, H⟩ := H
       have c14b0 : decide (0 ≤ x13_1) = true := decide_eq_true c14
       clear c14
       replace H := ifS H; obtain ⟨c15, H⟩ := H
       have c15b0 : decide (x13_1 < (l1.length : Int)) = true := decide_eq_true c15
       clear c15
       have H' := aM H
       clear H
       try go_wp2
       have n0_ := aM (Kd.R_drew HO_10.out)
       have n1_ := aM (Kd.S_drew HO_12.out)
       have n2_ := aM (lD HB.out)
       clear HO_10
       clear HO_12
       clear HB
       have HO_10 := n0_
       have HO_12 := n1_
       have HB := n2_
       clear n0_ n1_ n2_
       have p169 : 0 ≤ (x13_1 : Int) := of_decide_eq_true (by assumption)
       have q169 : x13_1 < (l1.length : Int) := of_decide_eq_true (by assumption)
       obtain ⟨ad169, e169, hx169_0, hx169_1⟩ := at_T28 HR1.out x13_1 p169 q169
       have hw169_1 := hx169_1
       have hw169_0 := hx169_0
       cases e169
       replace hx169_0 := cB HB.out hx169_0
       replace hx169_1 := cB HB.out hx169_1
       replace p169 := eq_true p169
       replace q169 := eq_true q169
       have p170 : 0 ≤ (x13_1 : Int) := of_decide_eq_true (by assumption)
       have q170 : x13_1 < (l1.length : Int) := of_decide_eq_true (by assumption)
       obtain ⟨ad170, e170, hx170_0, hx170_1⟩ := at_T28 HR1.out x13_1 p170 q170
       have hw170_1 := hx170_1
       have hw170_0 := hx170_0
       obtain rfl : ad169 = ad170 := (by injection e170)
       replace hx170_0 := cB HB.out hx170_0
       replace hx170_1 := cB HB.out hx170_1
       replace p170 := eq_true p170
       replace q170 := eq_true q170
       refine start_ (n := 13) (S := fun w' => w'.cell? (ad169.add ((x13_1).toNat * 2)) = some (.int .i64 ((rd_T28 l1 x13_1).f0)) ∧ w'.cell? ⟨(ad169.add ((x13_1).toNat * 2)).block, (ad169.add ((x13_1).toNat * 2)).off + 1, none⟩ = some (.int .i64 ((rd_T28 l1 x13_1).f1)) ∧ w'.cell? (ad169.add ((x13_1).toNat * 2)) = some (.int .i64 ((rd_T28 l1 x13_1).f0)) ∧ w'.cell? ⟨(ad169.add ((x13_1).toNat * 2)).block, (ad169.add ((x13_1).toNat * 2)).off + 1, none⟩ = some (.int .i64 ((rd_T28 l1 x13_1).f1))) (ds := []) #[false, false, false, false, false, false, false, false, false, false, false, false, false] (by kernel_rfl) rfl rfl ⟨((HB.out.cell (World.block_lt_of_cell? w _ hw169_0)).trans hw169_0), ((HB.out.cell (World.block_lt_of_cell? w _ hw169_1)).trans hw169_1), ((HB.out.cell (World.block_lt_of_cell? w _ hw170_0)).trans hw170_0), ((HB.out.cell (World.block_lt_of_cell? w _ hw170_1)).trans hw170_1)⟩ (fun hHeld => ?_); refine with_tabW find_Steps.tab13 find_Steps.bits13 (fun HT_ HW_ => ?_)
       generalize wr.drew = w16 at HO_10 HO_12 HB hx169_0 hx169_1 hx170_0 hx170_1 hHeld ⊢
       refine pure_ (i := 0) (N := some 44) (v := ?_) (a' := ?_) #[true, false, false, false, false, false, false, false, false, false, false, false, false] rfl rfl (any_of HT_.out (by kernel_rfl)) (fun _ _ _ h => h) (Or.inl ⟨by rfl, ?_⟩) ?_ ?_
       rotate_left
       ·intro w'
        go_simp
        with_reducible rfl
       rotate_left
       ·simp only [Act.put, sA, sZ, sS, i64_w, i32_w]
        rfl
       refine pure_ (i := 1) (N := some 45) (v := ?_) (a' := ?_) #[true, true, false, false, false, false, false, false, false, false, false, false, false] rfl rfl (any_of HT_.out (by kernel_rfl)) (fun _ _ _ h => h) (Or.inl ⟨by rfl, ?_⟩) ?_ ?_
       rotate_left
       ·intro w'
        go_simp
        with_reducible rfl
       rotate_left
       ·simp only [Act.put, sA, sZ, sS, i64_w, i32_w]
        rfl
       refine pure_ (i := 2) (N := some 46) (v := ?_) (a' := ?_) #[true, true, true, false, false, false, false, false, false, false, false, false, false] rfl rfl (any_of HT_.out (by kernel_rfl)) (fun _ _ _ h => h) (Or.inl ⟨by rfl, ?_⟩) ?_ ?_
       rotate_left
       ·intro w'
        go_simp
        with_reducible rfl
       rotate_left
       ·simp only [Act.put, sA, sZ, sS, i64_w, i32_w]
        rfl
       refine pure_ (i := 3) (N := some 47) (v := ?_) (a' := ?_) #[true, true, true, true, false, false, false, false, false, false, false, false, false] rfl rfl (any_of HT_.out (by kernel_rfl)) (fun _ _ _ h => h) (Or.inl ⟨by rfl, ?_⟩) ?_ ?_
       rotate_left
       ·intro w'
        go_simp
        with_reducible rfl
       rotate_left
       ·simp only [Act.put, sA, sZ, sS, i64_w, i32_w]
        rfl
       refine pure_ (i := 5) (N := some 49) (v := ?_) (a' := ?_) #[true, true, true, true, false, true, false, false, false, false, false, false, false] rfl rfl (any_of HT_.out (by kernel_rfl)) (fun _ _ _ h => h) (Or.inl ⟨by rfl, ?_⟩) ?_ ?_
       rotate_left
       ·intro w'
        go_simp
        with_reducible rfl
       rotate_left
       ·simp only [Act.put, sA, sZ, sS, i64_w, i32_w]
        rfl
       refine pure_ (i := 6) (N := some 50) (v := ?_) (a' := ?_) #[true, true, true, true, false, true, true, false, false, false, false, false, false] rfl rfl (any_of HT_.out (by kernel_rfl)) (fun _ _ _ h => h) (Or.inl ⟨by rfl, ?_⟩) ?_ ?_
       rotate_left
       ·intro w'
        go_simp
        with_reducible rfl
       rotate_left
       ·simp only [Act.put, sA, sZ, sS, i64_w, i32_w]
        rfl
       refine pure_ (i := 7) (N := some 51) (v := ?_) (a' := ?_) #[true, true, true, true, false, true, true, true, false, false, false, false, false] rfl rfl (any_of HT_.out (by kernel_rfl)) (fun _ _ _ h => h) (Or.inl ⟨by rfl, ?_⟩) ?_ ?_
       rotate_left
       ·intro w'
        go_simp
        with_reducible rfl
       rotate_left
       ·simp only [Act.put, sA, sZ, sS, i64_w, i32_w]
        rfl
       refine pure_ (i := 8) (N := some 52) (v := ?_) (a' := ?_) #[true, true, true, true, false, true, true, true, true, false, false, false, false] rfl rfl (any_of HT_.out (by kernel_rfl)) (fun _ _ _ h => h) (Or.inl ⟨by rfl, ?_⟩) ?_ ?_
       rotate_left
       ·intro w'
        go_simp
        with_reducible rfl
       rotate_left
       ·simp only [Act.put, sA, sZ, sS, i64_w, i32_w]
        rfl
       refine take_ (i := 4) (N := some 48) (v := ?_) (a' := ?_) #[true, true, true, true, true, true, true, true, true, false, false, false, false] rfl rfl (take_ofW HT_.out HW_.out (by kernel_rfl)) (fun _ _ _ h => h) (Or.inl ⟨by rfl, ?_⟩) hHeld ?_ ?_
       rotate_left
       ·rintro w' ⟨s0, s1, s2, s3⟩
        go_simp
        with_reducible rfl
       rotate_left
       ·simp only [Act.put, sA, sZ, sS, i64_w, i32_w]
        rfl
       refine take_ (i := 9) (N := some 53) (v := ?_) (a' := ?_) #[true, true, true, true, true, true, true, true, true, true, false, false, false] rfl rfl (take_ofW HT_.out HW_.out (by kernel_rfl)) (fun _ _ _ h => h) (Or.inl ⟨by rfl, ?_⟩) hHeld ?_ ?_
       rotate_left
       ·rintro w' ⟨s0, s1, s2, s3⟩
        go_simp
        with_reducible rfl
       rotate_left
       ·simp only [Act.put, sA, sZ, sS, i64_w, i32_w]
        rfl
       refine pure_ (i := 10) (N := some 54) (v := ?_) (a' := ?_) #[true, true, true, true, true, true, true, true, true, true, true, false, false] rfl rfl (any_of HT_.out (by kernel_rfl)) (fun _ _ _ h => h) (Or.inl ⟨by rfl, ?_⟩) ?_ ?_
       rotate_left
       ·intro w'
        go_simp
        with_reducible rfl
       rotate_left
       ·simp only [Act.put, sA, sZ, sS, i64_w, i32_w]
        rfl
       refine one_ (i := 11) (N := some 14) #[true, true, true, true, true, true, true, true, true, true, true, true, false] rfl rfl (one_of HT_.out (by kernel_rfl)) (by decide) (fun K hK => ?_)
       refine box_step ?hg (N := 14) ?hd (cs := #[.int .i64 0, .int .i64 0, .int .i64 0, .int .i64 0, .int .i64 0, .int .i64 0, .slice none 0 0, .int .i64 0]) (t := 45) ?hr ?_; (case hd => rfl); (case hg => rfl); (case hr => first|(go_simp; done)|(go_simp; rfl))
       intro gb171 hg w17 hbox hb
       have n0_ := aM (Kd.R_below (by (with_reducible repeat (first|apply Kd.R_alloc|apply Kd.R_drewN|apply Kd.R_drew)); exact HO_10.out) hb)
       have n1_ := aM (Kd.S_below (Kd.S_elderB (by (with_reducible repeat (first|apply Kd.S_alloc|apply Kd.S_drewN|apply Kd.S_drew)); exact HO_12.out) gb171 (Nat.le_of_eq hg.symm)) hb)
       have n2_ := aM (below_step (by repeat (first|(with_reducible first|exact HB.out|apply lA|apply lN|apply lD)|exact HB.out)) hb)
       have n3_ := aM (hbox)
       have n4_ := aM ((by rw [hg]; exact (below_size (by repeat (first|(with_reducible first|exact HB.out|apply lA|apply lN|apply lD)|exact HB.out))) : w.heap.size ≤ gb171))
       have n5_ := aM ((by rw [hg]; exact (below_size (by repeat (first|(with_reducible first|exact HB.out|apply lA|apply lN|apply lD)|exact HB.out))) : w.heap.size ≤ gb171))
       clear HO_10
       clear HO_12
       clear HB
       have HO_10 := n0_
       have HO_12 := n1_
       have HB := n2_
       have BK171 := n3_
       have GW171 := n4_
       have GE171 := n5_
       clear n0_ n1_ n2_ n3_ n4_ n5_
       clear hb hbox hg
       refine hK.out _ _ ⟨((HB.out.cell (World.block_lt_of_cell? w _ hw169_0)).trans hw169_0), ((HB.out.cell (World.block_lt_of_cell? w _ hw169_1)).trans hw169_1), ((HB.out.cell (World.block_lt_of_cell? w _ hw170_0)).trans hw170_0), ((HB.out.cell (World.block_lt_of_cell? w _ hw170_1)).trans hw170_1)⟩ (fun hHeld => ?_)
       clear hK K
       refine norm_ (a' := ?_) ?_ ?_
       rotate_left
       ·show Act.put _ (some 14) _ = _
        simp only [Act.put, sA, sZ, sS, i64_w, i32_w]
        rfl
       refine one_ (i := 12) (N := none) #[true, true, true, true, true, true, true, true, true, true, true, true, true] rfl rfl (one_of HT_.out (by kernel_rfl)) (by decide) (fun K hK => ?_)
       have hs18 : w17.cell? ⟨gb171, 0, none⟩ = some (.int .i64 0) := (blk_cell BK171.out 0).trans rfl
       have hfs18 := blk_frozen BK171.out 0
       have hs19 : w17.cell? ⟨gb171, 1, none⟩ = some (.int .i64 0) := (blk_cell BK171.out 1).trans rfl
       have hfs19 := blk_frozen BK171.out 1
       have hs20 : w17.cell? ⟨gb171, 2, none⟩ = some (.int .i64 0) := (blk_cell BK171.out 2).trans rfl
       have hfs20 := blk_frozen BK171.out 2
       have hs21 : w17.cell? ⟨gb171, 3, none⟩ = some (.int .i64 0) := (blk_cell BK171.out 3).trans rfl
       have hfs21 := blk_frozen BK171.out 3
       have hs22 : w17.cell? ⟨gb171, 4, none⟩ = some (.int .i64 0) := (blk_cell BK171.out 4).trans rfl
       have hfs22 := blk_frozen BK171.out 4
       have hs23 : w17.cell? ⟨gb171, 5, none⟩ = some (.int .i64 0) := (blk_cell BK171.out 5).trans rfl
       have hfs23 := blk_frozen BK171.out 5
       have hs24 : w17.cell? ⟨gb171, 6, none⟩ = some (.slice none 0 0) := (blk_cell BK171.out 6).trans rfl
       have hfs24 := blk_frozen BK171.out 6
       have hs25 : w17.cell? ⟨gb171, 7, none⟩ = some (.int .i64 0) := (blk_cell BK171.out 7).trans rfl
       have hfs25 := blk_frozen BK171.out 7
       refine skip_ (w1 := ?_) (by rfl) rfl ?_ ?_
       rotate_left
       ·go_simp
        rfl
       refine hK.out _ _ ⟨((cell_far (p := ⟨gb171, _, none⟩) (by first|exact Nat.ne_of_lt (Nat.lt_of_lt_of_le (by have := World.block_lt_of_cell? _ _ hw169_0; first|rwa [add_block] at this|exact this) GW171.out)|(rw [add_block]; exact Nat.ne_of_lt (Nat.lt_of_lt_of_le (by have := World.block_lt_of_cell? _ _ hw169_0; first|rwa [add_block] at this|exact this) GW171.out))|(show (Addr.add _ _).block ≠ _; rw [add_block]; exact Nat.ne_of_lt (Nat.lt_of_lt_of_le (by have := World.block_lt_of_cell? _ _ hw169_0; first|rwa [add_block] at this|exact this) GW171.out))|(dsimp only; exact Nat.ne_of_lt (Nat.lt_of_lt_of_le (by have := World.block_lt_of_cell? _ _ hw169_0; first|rwa [add_block] at this|exact this) GW171.out))) _).trans (((cell_far (p := ⟨gb171, _, none⟩) (by first|exact Nat.ne_of_lt (Nat.lt_of_lt_of_le (by have := World.block_lt_of_cell? _ _ hw169_0; first|rwa [add_block] at this|exact this) GW171.out)|(rw [add_block]; exact Nat.ne_of_lt (Nat.lt_of_lt_of_le (by have := World.block_lt_of_cell? _ _ hw169_0; first|rwa [add_block] at this|exact this) GW171.out))|(show (Addr.add _ _).block ≠ _; rw [add_block]; exact Nat.ne_of_lt (Nat.lt_of_lt_of_le (by have := World.block_lt_of_cell? _ _ hw169_0; first|rwa [add_block] at this|exact this) GW171.out))|(dsimp only; exact Nat.ne_of_lt (Nat.lt_of_lt_of_le (by have := World.block_lt_of_cell? _ _ hw169_0; first|rwa [add_block] at this|exact this) GW171.out))) _).trans (((cell_far (p := ⟨gb171, _, none⟩) (by first|exact Nat.ne_of_lt (Nat.lt_of_lt_of_le (by have := World.block_lt_of_cell? _ _ hw169_0; first|rwa [add_block] at this|exact this) GW171.out)|(rw [add_block]; exact Nat.ne_of_lt (Nat.lt_of_lt_of_le (by have := World.block_lt_of_cell? _ _ hw169_0; first|rwa [add_block] at this|exact this) GW171.out))|(show (Addr.add _ _).block ≠ _; rw [add_block]; exact Nat.ne_of_lt (Nat.lt_of_lt_of_le (by have := World.block_lt_of_cell? _ _ hw169_0; first|rwa [add_block] at this|exact this) GW171.out))|(dsimp only; exact Nat.ne_of_lt (Nat.lt_of_lt_of_le (by have := World.block_lt_of_cell? _ _ hw169_0; first|rwa [add_block] at this|exact this) GW171.out))) _).trans (((cell_far (p := ⟨gb171, _, none⟩) (by first|exact Nat.ne_of_lt (Nat.lt_of_lt_of_le (by have := World.block_lt_of_cell? _ _ hw169_0; first|rwa [add_block] at this|exact this) GW171.out)|(rw [add_block]; exact Nat.ne_of_lt (Nat.lt_of_lt_of_le (by have := World.block_lt_of_cell? _ _ hw169_0; first|rwa [add_block] at this|exact this) GW171.out))|(show (Addr.add _ _).block ≠ _; rw [add_block]; exact Nat.ne_of_lt (Nat.lt_of_lt_of_le (by have := World.block_lt_of_cell? _ _ hw169_0; first|rwa [add_block] at this|exact this) GW171.out))|(dsimp only; exact Nat.ne_of_lt (Nat.lt_of_lt_of_le (by have := World.block_lt_of_cell? _ _ hw169_0; first|rwa [add_block] at this|exact this) GW171.out))) _).trans (((cell_far (p := ⟨gb171, _, none⟩) (by first|exact Nat.ne_of_lt (Nat.lt_of_lt_of_le (by have := World.block_lt_of_cell? _ _ hw169_0; first|rwa [add_block] at this|exact this) GW171.out)|(rw [add_block]; exact Nat.ne_of_lt (Nat.lt_of_lt_of_le (by have := World.block_lt_of_cell? _ _ hw169_0; first|rwa [add_block] at this|exact this) GW171.out))|(show (Addr.add _ _).block ≠ _; rw [add_block]; exact Nat.ne_of_lt (Nat.lt_of_lt_of_le (by have := World.block_lt_of_cell? _ _ hw169_0; first|rwa [add_block] at this|exact this) GW171.out))|(dsimp only; exact Nat.ne_of_lt (Nat.lt_of_lt_of_le (by have := World.block_lt_of_cell? _ _ hw169_0; first|rwa [add_block] at this|exact this) GW171.out))) _).trans (((cell_far (p := ⟨gb171, _, none⟩) (by first|exact Nat.ne_of_lt (Nat.lt_of_lt_of_le (by have := World.block_lt_of_cell? _ _ hw169_0; first|rwa [add_block] at this|exact this) GW171.out)|(rw [add_block]; exact Nat.ne_of_lt (Nat.lt_of_lt_of_le (by have := World.block_lt_of_cell? _ _ hw169_0; first|rwa [add_block] at this|exact this) GW171.out))|(show (Addr.add _ _).block ≠ _; rw [add_block]; exact Nat.ne_of_lt (Nat.lt_of_lt_of_le (by have := World.block_lt_of_cell? _ _ hw169_0; first|rwa [add_block] at this|exact this) GW171.out))|(dsimp only; exact Nat.ne_of_lt (Nat.lt_of_lt_of_le (by have := World.block_lt_of_cell? _ _ hw169_0; first|rwa [add_block] at this|exact this) GW171.out))) _).trans (((cell_far (p := ⟨gb171, _, none⟩) (by first|exact Nat.ne_of_lt (Nat.lt_of_lt_of_le (by have := World.block_lt_of_cell? _ _ hw169_0; first|rwa [add_block] at this|exact this) GW171.out)|(rw [add_block]; exact Nat.ne_of_lt (Nat.lt_of_lt_of_le (by have := World.block_lt_of_cell? _ _ hw169_0; first|rwa [add_block] at this|exact this) GW171.out))|(show (Addr.add _ _).block ≠ _; rw [add_block]; exact Nat.ne_of_lt (Nat.lt_of_lt_of_le (by have := World.block_lt_of_cell? _ _ hw169_0; first|rwa [add_block] at this|exact this) GW171.out))|(dsimp only; exact Nat.ne_of_lt (Nat.lt_of_lt_of_le (by have := World.block_lt_of_cell? _ _ hw169_0; first|rwa [add_block] at this|exact this) GW171.out))) _).trans (((cell_far (p := ⟨gb171, _, none⟩) (by first|exact Nat.ne_of_lt (Nat.lt_of_lt_of_le (by have := World.block_lt_of_cell? _ _ hw169_0; first|rwa [add_block] at this|exact this) GW171.out)|(rw [add_block]; exact Nat.ne_of_lt (Nat.lt_of_lt_of_le (by have := World.block_lt_of_cell? _ _ hw169_0; first|rwa [add_block] at this|exact this) GW171.out))|(show (Addr.add _ _).block ≠ _; rw [add_block]; exact Nat.ne_of_lt (Nat.lt_of_lt_of_le (by have := World.block_lt_of_cell? _ _ hw169_0; first|rwa [add_block] at this|exact this) GW171.out))|(dsimp only; exact Nat.ne_of_lt (Nat.lt_of_lt_of_le (by have := World.block_lt_of_cell? _ _ hw169_0; first|rwa [add_block] at this|exact this) GW171.out))) _).trans (hHeld.1)))))))))))))))), ((cell_far (p := ⟨gb171, _, none⟩) (by first|exact Nat.ne_of_lt (Nat.lt_of_lt_of_le (by have := World.block_lt_of_cell? _ _ hw169_1; first|rwa [add_block] at this|exact this) GW171.out)|(rw [add_block]; exact Nat.ne_of_lt (Nat.lt_of_lt_of_le (by have := World.block_lt_of_cell? _ _ hw169_1; first|rwa [add_block] at this|exact this) GW171.out))|(show (Addr.add _ _).block ≠ _; rw [add_block]; exact Nat.ne_of_lt (Nat.lt_of_lt_of_le (by have := World.block_lt_of_cell? _ _ hw169_1; first|rwa [add_block] at this|exact this) GW171.out))|(dsimp only; exact Nat.ne_of_lt (Nat.lt_of_lt_of_le (by have := World.block_lt_of_cell? _ _ hw169_1; first|rwa [add_block] at this|exact this) GW171.out))) _).trans (((cell_far (p := ⟨gb171, _, none⟩) (by first|exact Nat.ne_of_lt (Nat.lt_of_lt_of_le (by have := World.block_lt_of_cell? _ _ hw169_1; first|rwa [add_block] at this|exact this) GW171.out)|(rw [add_block]; exact Nat.ne_of_lt (Nat.lt_of_lt_of_le (by have := World.block_lt_of_cell? _ _ hw169_1; first|rwa [add_block] at this|exact this) GW171.out))|(show (Addr.add _ _).block ≠ _; rw [add_block]; exact Nat.ne_of_lt (Nat.lt_of_lt_of_le (by have := World.block_lt_of_cell? _ _ hw169_1; first|rwa [add_block] at this|exact this) GW171.out))|(dsimp only; exact Nat.ne_of_lt (Nat.lt_of_lt_of_le (by have := World.block_lt_of_cell? _ _ hw169_1; first|rwa [add_block] at this|exact this) GW171.out))) _).trans (((cell_far (p := ⟨gb171, _, none⟩) (by first|exact Nat.ne_of_lt (Nat.lt_of_lt_of_le (by have := World.block_lt_of_cell? _ _ hw169_1; first|rwa [add_block] at this|exact this) GW171.out)|(rw [add_block]; exact Nat.ne_of_lt (Nat.lt_of_lt_of_le (by have := World.block_lt_of_cell? _ _ hw169_1; first|rwa [add_block] at this|exact this) GW171.out))|(show (Addr.add _ _).block ≠ _; rw [add_block]; exact Nat.ne_of_lt (Nat.lt_of_lt_of_le (by have := World.block_lt_of_cell? _ _ hw169_1; first|rwa [add_block] at this|exact this) GW171.out))|(dsimp only; exact Nat.ne_of_lt (Nat.lt_of_lt_of_le (by have := World.block_lt_of_cell? _ _ hw169_1; first|rwa [add_block] at this|exact this) GW171.out))) _).trans (((cell_far (p := ⟨gb171, _, none⟩) (by first|exact Nat.ne_of_lt (Nat.lt_of_lt_of_le (by have := World.block_lt_of_cell? _ _ hw169_1; first|rwa [add_block] at this|exact this) GW171.out)|(rw [add_block]; exact Nat.ne_of_lt (Nat.lt_of_lt_of_le (by have := World.block_lt_of_cell? _ _ hw169_1; first|rwa [add_block] at this|exact this) GW171.out))|(show (Addr.add _ _).block ≠ _; rw [add_block]; exact Nat.ne_of_lt (Nat.lt_of_lt_of_le (by have := World.block_lt_of_cell? _ _ hw169_1; first|rwa [add_block] at this|exact this) GW171.out))|(dsimp only; exact Nat.ne_of_lt (Nat.lt_of_lt_of_le (by have := World.block_lt_of_cell? _ _ hw169_1; first|rwa [add_block] at this|exact this) GW171.out))) _).trans (((cell_far (p := ⟨gb171, _, none⟩) (by first|exact Nat.ne_of_lt (Nat.lt_of_lt_of_le (by have := World.block_lt_of_cell? _ _ hw169_1; first|rwa [add_block] at this|exact this) GW171.out)|(rw [add_block]; exact Nat.ne_of_lt (Nat.lt_of_lt_of_le (by have := World.block_lt_of_cell? _ _ hw169_1; first|rwa [add_block] at this|exact this) GW171.out))|(show (Addr.add _ _).block ≠ _; rw [add_block]; exact Nat.ne_of_lt (Nat.lt_of_lt_of_le (by have := World.block_lt_of_cell? _ _ hw169_1; first|rwa [add_block] at this|exact this) GW171.out))|(dsimp only; exact Nat.ne_of_lt (Nat.lt_of_lt_of_le (by have := World.block_lt_of_cell? _ _ hw169_1; first|rwa [add_block] at this|exact this) GW171.out))) _).trans (((cell_far (p := ⟨gb171, _, none⟩) (by first|exact Nat.ne_of_lt (Nat.lt_of_lt_of_le (by have := World.block_lt_of_cell? _ _ hw169_1; first|rwa [add_block] at this|exact this) GW171.out)|(rw [add_block]; exact Nat.ne_of_lt (Nat.lt_of_lt_of_le (by have := World.block_lt_of_cell? _ _ hw169_1; first|rwa [add_block] at this|exact this) GW171.out))|(show (Addr.add _ _).block ≠ _; rw [add_block]; exact Nat.ne_of_lt (Nat.lt_of_lt_of_le (by have := World.block_lt_of_cell? _ _ hw169_1; first|rwa [add_block] at this|exact this) GW171.out))|(dsimp only; exact Nat.ne_of_lt (Nat.lt_of_lt_of_le (by have := World.block_lt_of_cell? _ _ hw169_1; first|rwa [add_block] at this|exact this) GW171.out))) _).trans (((cell_far (p := ⟨gb171, _, none⟩) (by first|exact Nat.ne_of_lt (Nat.lt_of_lt_of_le (by have := World.block_lt_of_cell? _ _ hw169_1; first|rwa [add_block] at this|exact this) GW171.out)|(rw [add_block]; exact Nat.ne_of_lt (Nat.lt_of_lt_of_le (by have := World.block_lt_of_cell? _ _ hw169_1; first|rwa [add_block] at this|exact this) GW171.out))|(show (Addr.add _ _).block ≠ _; rw [add_block]; exact Nat.ne_of_lt (Nat.lt_of_lt_of_le (by have := World.block_lt_of_cell? _ _ hw169_1; first|rwa [add_block] at this|exact this) GW171.out))|(dsimp only; exact Nat.ne_of_lt (Nat.lt_of_lt_of_le (by have := World.block_lt_of_cell? _ _ hw169_1; first|rwa [add_block] at this|exact this) GW171.out))) _).trans (((cell_far (p := ⟨gb171, _, none⟩) (by first|exact Nat.ne_of_lt (Nat.lt_of_lt_of_le (by have := World.block_lt_of_cell? _ _ hw169_1; first|rwa [add_block] at this|exact this) GW171.out)|(rw [add_block]; exact Nat.ne_of_lt (Nat.lt_of_lt_of_le (by have := World.block_lt_of_cell? _ _ hw169_1; first|rwa [add_block] at this|exact this) GW171.out))|(show (Addr.add _ _).block ≠ _; rw [add_block]; exact Nat.ne_of_lt (Nat.lt_of_lt_of_le (by have := World.block_lt_of_cell? _ _ hw169_1; first|rwa [add_block] at this|exact this) GW171.out))|(dsimp only; exact Nat.ne_of_lt (Nat.lt_of_lt_of_le (by have := World.block_lt_of_cell? _ _ hw169_1; first|rwa [add_block] at this|exact this) GW171.out))) _).trans (hHeld.2.1)))))))))))))))), ((cell_far (p := ⟨gb171, _, none⟩) (by first|exact Nat.ne_of_lt (Nat.lt_of_lt_of_le (by have := World.block_lt_of_cell? _ _ hw170_0; first|rwa [add_block] at this|exact this) GW171.out)|(rw [add_block]; exact Nat.ne_of_lt (Nat.lt_of_lt_of_le (by have := World.block_lt_of_cell? _ _ hw170_0; first|rwa [add_block] at this|exact this) GW171.out))|(show (Addr.add _ _).block ≠ _; rw [add_block]; exact Nat.ne_of_lt (Nat.lt_of_lt_of_le (by have := World.block_lt_of_cell? _ _ hw170_0; first|rwa [add_block] at this|exact this) GW171.out))|(dsimp only; exact Nat.ne_of_lt (Nat.lt_of_lt_of_le (by have := World.block_lt_of_cell? _ _ hw170_0; first|rwa [add_block] at this|exact this) GW171.out))) _).trans (((cell_far (p := ⟨gb171, _, none⟩) (by first|exact Nat.ne_of_lt (Nat.lt_of_lt_of_le (by have := World.block_lt_of_cell? _ _ hw170_0; first|rwa [add_block] at this|exact this) GW171.out)|(rw [add_block]; exact Nat.ne_of_lt (Nat.lt_of_lt_of_le (by have := World.block_lt_of_cell? _ _ hw170_0; first|rwa [add_block] at this|exact this) GW171.out))|(show (Addr.add _ _).block ≠ _; rw [add_block]; exact Nat.ne_of_lt (Nat.lt_of_lt_of_le (by have := World.block_lt_of_cell? _ _ hw170_0; first|rwa [add_block] at this|exact this) GW171.out))|(dsimp only; exact Nat.ne_of_lt (Nat.lt_of_lt_of_le (by have := World.block_lt_of_cell? _ _ hw170_0; first|rwa [add_block] at this|exact this) GW171.out))) _).trans (((cell_far (p := ⟨gb171, _, none⟩) (by first|exact Nat.ne_of_lt (Nat.lt_of_lt_of_le (by have := World.block_lt_of_cell? _ _ hw170_0; first|rwa [add_block] at this|exact this) GW171.out)|(rw [add_block]; exact Nat.ne_of_lt (Nat.lt_of_lt_of_le (by have := World.block_lt_of_cell? _ _ hw170_0; first|rwa [add_block] at this|exact this) GW171.out))|(show (Addr.add _ _).block ≠ _; rw [add_block]; exact Nat.ne_of_lt (Nat.lt_of_lt_of_le (by have := World.block_lt_of_cell? _ _ hw170_0; first|rwa [add_block] at this|exact this) GW171.out))|(dsimp only; exact Nat.ne_of_lt (Nat.lt_of_lt_of_le (by have := World.block_lt_of_cell? _ _ hw170_0; first|rwa [add_block] at this|exact this) GW171.out))) _).trans (((cell_far (p := ⟨gb171, _, none⟩) (by first|exact Nat.ne_of_lt (Nat.lt_of_lt_of_le (by have := World.block_lt_of_cell? _ _ hw170_0; first|rwa [add_block] at this|exact this) GW171.out)|(rw [add_block]; exact Nat.ne_of_lt (Nat.lt_of_lt_of_le (by have := World.block_lt_of_cell? _ _ hw170_0; first|rwa [add_block] at this|exact this) GW171.out))|(show (Addr.add _ _).block ≠ _; rw [add_block]; exact Nat.ne_of_lt (Nat.lt_of_lt_of_le (by have := World.block_lt_of_cell? _ _ hw170_0; first|rwa [add_block] at this|exact this) GW171.out))|(dsimp only; exact Nat.ne_of_lt (Nat.lt_of_lt_of_le (by have := World.block_lt_of_cell? _ _ hw170_0; first|rwa [add_block] at this|exact this) GW171.out))) _).trans (((cell_far (p := ⟨gb171, _, none⟩) (by first|exact Nat.ne_of_lt (Nat.lt_of_lt_of_le (by have := World.block_lt_of_cell? _ _ hw170_0; first|rwa [add_block] at this|exact this) GW171.out)|(rw [add_block]; exact Nat.ne_of_lt (Nat.lt_of_lt_of_le (by have := World.block_lt_of_cell? _ _ hw170_0; first|rwa [add_block] at this|exact this) GW171.out))|(show (Addr.add _ _).block ≠ _; rw [add_block]; exact Nat.ne_of_lt (Nat.lt_of_lt_of_le (by have := World.block_lt_of_cell? _ _ hw170_0; first|rwa [add_block] at this|exact this) GW171.out))|(dsimp only; exact Nat.ne_of_lt (Nat.lt_of_lt_of_le (by have := World.block_lt_of_cell? _ _ hw170_0; first|rwa [add_block] at this|exact this) GW171.out))) _).trans (((cell_far (p := ⟨gb171, _, none⟩) (by first|exact Nat.ne_of_lt (Nat.lt_of_lt_of_le (by have := World.block_lt_of_cell? _ _ hw170_0; first|rwa [add_block] at this|exact this) GW171.out)|(rw [add_block]; exact Nat.ne_of_lt (Nat.lt_of_lt_of_le (by have := World.block_lt_of_cell? _ _ hw170_0; first|rwa [add_block] at this|exact this) GW171.out))|(show (Addr.add _ _).block ≠ _; rw [add_block]; exact Nat.ne_of_lt (Nat.lt_of_lt_of_le (by have := World.block_lt_of_cell? _ _ hw170_0; first|rwa [add_block] at this|exact this) GW171.out))|(dsimp only; exact Nat.ne_of_lt (Nat.lt_of_lt_of_le (by have := World.block_lt_of_cell? _ _ hw170_0; first|rwa [add_block] at this|exact this) GW171.out))) _).trans (((cell_far (p := ⟨gb171, _, none⟩) (by first|exact Nat.ne_of_lt (Nat.lt_of_lt_of_le (by have := World.block_lt_of_cell? _ _ hw170_0; first|rwa [add_block] at this|exact this) GW171.out)|(rw [add_block]; exact Nat.ne_of_lt (Nat.lt_of_lt_of_le (by have := World.block_lt_of_cell? _ _ hw170_0; first|rwa [add_block] at this|exact this) GW171.out))|(show (Addr.add _ _).block ≠ _; rw [add_block]; exact Nat.ne_of_lt (Nat.lt_of_lt_of_le (by have := World.block_lt_of_cell? _ _ hw170_0; first|rwa [add_block] at this|exact this) GW171.out))|(dsimp only; exact Nat.ne_of_lt (Nat.lt_of_lt_of_le (by have := World.block_lt_of_cell? _ _ hw170_0; first|rwa [add_block] at this|exact this) GW171.out))) _).trans (((cell_far (p := ⟨gb171, _, none⟩) (by first|exact Nat.ne_of_lt (Nat.lt_of_lt_of_le (by have := World.block_lt_of_cell? _ _ hw170_0; first|rwa [add_block] at this|exact this) GW171.out)|(rw [add_block]; exact Nat.ne_of_lt (Nat.lt_of_lt_of_le (by have := World.block_lt_of_cell? _ _ hw170_0; first|rwa [add_block] at this|exact this) GW171.out))|(show (Addr.add _ _).block ≠ _; rw [add_block]; exact Nat.ne_of_lt (Nat.lt_of_lt_of_le (by have := World.block_lt_of_cell? _ _ hw170_0; first|rwa [add_block] at this|exact this) GW171.out))|(dsimp only; exact Nat.ne_of_lt (Nat.lt_of_lt_of_le (by have := World.block_lt_of_cell? _ _ hw170_0; first|rwa [add_block] at this|exact this) GW171.out))) _).trans (hHeld.2.2.1)))))))))))))))), ((cell_far (p := ⟨gb171, _, none⟩) (by first|exact Nat.ne_of_lt (Nat.lt_of_lt_of_le (by have := World.block_lt_of_cell? _ _ hw170_1; first|rwa [add_block] at this|exact this) GW171.out)|(rw [add_block]; exact Nat.ne_of_lt (Nat.lt_of_lt_of_le (by have := World.block_lt_of_cell? _ _ hw170_1; first|rwa [add_block] at this|exact this) GW171.out))|(show (Addr.add _ _).block ≠ _; rw [add_block]; exact Nat.ne_of_lt (Nat.lt_of_lt_of_le (by have := World.block_lt_of_cell? _ _ hw170_1; first|rwa [add_block] at this|exact this) GW171.out))|(dsimp only; exact Nat.ne_of_lt (Nat.lt_of_lt_of_le (by have := World.block_lt_of_cell? _ _ hw170_1; first|rwa [add_block] at this|exact this) GW171.out))) _).trans (((cell_far (p := ⟨gb171, _, none⟩) (by first|exact Nat.ne_of_lt (Nat.lt_of_lt_of_le (by have := World.block_lt_of_cell? _ _ hw170_1; first|rwa [add_block] at this|exact this) GW171.out)|(rw [add_block]; exact Nat.ne_of_lt (Nat.lt_of_lt_of_le (by have := World.block_lt_of_cell? _ _ hw170_1; first|rwa [add_block] at this|exact this) GW171.out))|(show (Addr.add _ _).block ≠ _; rw [add_block]; exact Nat.ne_of_lt (Nat.lt_of_lt_of_le (by have := World.block_lt_of_cell? _ _ hw170_1; first|rwa [add_block] at this|exact this) GW171.out))|(dsimp only; exact Nat.ne_of_lt (Nat.lt_of_lt_of_le (by have := World.block_lt_of_cell? _ _ hw170_1; first|rwa [add_block] at this|exact this) GW171.out))) _).trans (((cell_far (p := ⟨gb171, _, none⟩) (by first|exact Nat.ne_of_lt (Nat.lt_of_lt_of_le (by have := World.block_lt_of_cell? _ _ hw170_1; first|rwa [add_block] at this|exact this) GW171.out)|(rw [add_block]; exact Nat.ne_of_lt (Nat.lt_of_lt_of_le (by have := World.block_lt_of_cell? _ _ hw170_1; first|rwa [add_block] at this|exact this) GW171.out))|(show (Addr.add _ _).block ≠ _; rw [add_block]; exact Nat.ne_of_lt (Nat.lt_of_lt_of_le (by have := World.block_lt_of_cell? _ _ hw170_1; first|rwa [add_block] at this|exact this) GW171.out))|(dsimp only; exact Nat.ne_of_lt (Nat.lt_of_lt_of_le (by have := World.block_lt_of_cell? _ _ hw170_1; first|rwa [add_block] at this|exact this) GW171.out))) _).trans (((cell_far (p := ⟨gb171, _, none⟩) (by first|exact Nat.ne_of_lt (Nat.lt_of_lt_of_le (by have := World.block_lt_of_cell? _ _ hw170_1; first|rwa [add_block] at this|exact this) GW171.out)|(rw [add_block]; exact Nat.ne_of_lt (Nat.lt_of_lt_of_le (by have := World.block_lt_of_cell? _ _ hw170_1; first|rwa [add_block] at this|exact this) GW171.out))|(show (Addr.add _ _).block ≠ _; rw [add_block]; exact Nat.ne_of_lt (Nat.lt_of_lt_of_le (by have := World.block_lt_of_cell? _ _ hw170_1; first|rwa [add_block] at this|exact this) GW171.out))|(dsimp only; exact Nat.ne_of_lt (Nat.lt_of_lt_of_le (by have := World.block_lt_of_cell? _ _ hw170_1; first|rwa [add_block] at this|exact this) GW171.out))) _).trans (((cell_far (p := ⟨gb171, _, none⟩) (by first|exact Nat.ne_of_lt (Nat.lt_of_lt_of_le (by have := World.block_lt_of_cell? _ _ hw170_1; first|rwa [add_block] at this|exact this) GW171.out)|(rw [add_block]; exact Nat.ne_of_lt (Nat.lt_of_lt_of_le (by have := World.block_lt_of_cell? _ _ hw170_1; first|rwa [add_block] at this|exact this) GW171.out))|(show (Addr.add _ _).block ≠ _; rw [add_block]; exact Nat.ne_of_lt (Nat.lt_of_lt_of_le (by have := World.block_lt_of_cell? _ _ hw170_1; first|rwa [add_block] at this|exact this) GW171.out))|(dsimp only; exact Nat.ne_of_lt (Nat.lt_of_lt_of_le (by have := World.block_lt_of_cell? _ _ hw170_1; first|rwa [add_block] at this|exact this) GW171.out))) _).trans (((cell_far (p := ⟨gb171, _, none⟩) (by first|exact Nat.ne_of_lt (Nat.lt_of_lt_of_le (by have := World.block_lt_of_cell? _ _ hw170_1; first|rwa [add_block] at this|exact this) GW171.out)|(rw [add_block]; exact Nat.ne_of_lt (Nat.lt_of_lt_of_le (by have := World.block_lt_of_cell? _ _ hw170_1; first|rwa [add_block] at this|exact this) GW171.out))|(show (Addr.add _ _).block ≠ _; rw [add_block]; exact Nat.ne_of_lt (Nat.lt_of_lt_of_le (by have := World.block_lt_of_cell? _ _ hw170_1; first|rwa [add_block] at this|exact this) GW171.out))|(dsimp only; exact Nat.ne_of_lt (Nat.lt_of_lt_of_le (by have := World.block_lt_of_cell? _ _ hw170_1; first|rwa [add_block] at this|exact this) GW171.out))) _).trans (((cell_far (p := ⟨gb171, _, none⟩) (by first|exact Nat.ne_of_lt (Nat.lt_of_lt_of_le (by have := World.block_lt_of_cell? _ _ hw170_1; first|rwa [add_block] at this|exact this) GW171.out)|(rw [add_block]; exact Nat.ne_of_lt (Nat.lt_of_lt_of_le (by have := World.block_lt_of_cell? _ _ hw170_1; first|rwa [add_block] at this|exact this) GW171.out))|(show (Addr.add _ _).block ≠ _; rw [add_block]; exact Nat.ne_of_lt (Nat.lt_of_lt_of_le (by have := World.block_lt_of_cell? _ _ hw170_1; first|rwa [add_block] at this|exact this) GW171.out))|(dsimp only; exact Nat.ne_of_lt (Nat.lt_of_lt_of_le (by have := World.block_lt_of_cell? _ _ hw170_1; first|rwa [add_block] at this|exact this) GW171.out))) _).trans (((cell_far (p := ⟨gb171, _, none⟩) (by first|exact Nat.ne_of_lt (Nat.lt_of_lt_of_le (by have := World.block_lt_of_cell? _ _ hw170_1; first|rwa [add_block] at this|exact this) GW171.out)|(rw [add_block]; exact Nat.ne_of_lt (Nat.lt_of_lt_of_le (by have := World.block_lt_of_cell? _ _ hw170_1; first|rwa [add_block] at this|exact this) GW171.out))|(show (Addr.add _ _).block ≠ _; rw [add_block]; exact Nat.ne_of_lt (Nat.lt_of_lt_of_le (by have := World.block_lt_of_cell? _ _ hw170_1; first|rwa [add_block] at this|exact this) GW171.out))|(dsimp only; exact Nat.ne_of_lt (Nat.lt_of_lt_of_le (by have := World.block_lt_of_cell? _ _ hw170_1; first|rwa [add_block] at this|exact this) GW171.out))) _).trans (hHeld.2.2.2))))))))))))))))⟩ (fun hHeld => ?_)
       clear hK K
       refine done_ (done_of HT_.out (by kernel_rfl)) ?_
       obtain ⟨Ao26, co26, eo26⟩ := Kd.R_slice HO_10.out
       subst eo26
       try go_wp2
       go_loopg [57] k1 (fun kq v57 w' => ∃ (x57_2 : Int) (x172006_2 : List (S48)) (u172006 : Value), v57 = .int .i64 x57_2 ∧ Aside0 (find_Steps.l1 kq l0 l1 t165 x12_1 x13_1 t165 (t165.length : Int) x57_2 0 ((rd_T28 l1 x13_1).f0) ((rd_T28 l1 x13_1).f1) 0 0 0 x172006_2 0 = some (r1, r2)) ∧ Aside0 (kq ≤ k1) ∧ Aside0 (Kd.R (Kd.int .i64) 3 w' w.heap.size (fun _ => True) (.slice Ao26 t165.length co26) t165) ∧ Aside0 (Kd.S k45 45 w' w.heap.size (fun k_ => some k_ ≠ (u172006 : Value).ownBlock ∧ k_ ≠ gb171) u12 x12_1) ∧ Aside0 (Kd.R (Kd.int .i64) 3 w' w.heap.size (fun _ => True) (.slice Ao26 t165.length co26) t165) ∧ Aside0 (Kd.R k48 48 w' w.heap.size (fun _ => True) u172006 x172006_2) ∧ Aside0 (w'.heap[gb171]? = some (.cells #[.int .i64 0, .int .i64 ((rd_T28 l1 x13_1).f0), .int .i64 ((rd_T28 l1 x13_1).f1), .int .i64 0, .int .i64 0, .int .i64 0, u172006, .int .i64 0] 45 (0, 0))) ∧ Aside0 (Below w.heap.size w w'))
       case atStart => exact ⟨(0), (([] : List (S48))), (.slice none 0 0), (by first|rfl|(simp; done)|(simp [*]; done)), H', ⟨Nat.le_refl _⟩, ⟨by (with_reducible repeat (first|apply Kd.R_alloc|apply Kd.R_drewN|apply Kd.R_drew)); exact Kd.R_mono (Kd.Rf8 (Kd.R_types HO_10.out BK171.out (by decide)) (fun _ hk => hk.2)) (fun _ hk => trivial)⟩, ⟨by (with_reducible repeat (first|apply Kd.S_alloc|apply Kd.S_drewN|apply Kd.S_drew)); exact Kd.S_mono (Kd.S_far (p := ⟨gb171, 7, none⟩) (Kd.S_far (p := ⟨gb171, 6, none⟩) (Kd.S_far (p := ⟨gb171, 5, none⟩) (Kd.S_far (p := ⟨gb171, 4, none⟩) (Kd.S_far (p := ⟨gb171, 3, none⟩) (Kd.S_far (p := ⟨gb171, 2, none⟩) (Kd.S_far (p := ⟨gb171, 1, none⟩) (Kd.S_far (p := ⟨gb171, 0, none⟩) (Kd.S_mono HO_12.out (fun k_ hk => (⟨hk, hk.2⟩ : _ ∧ k_ ≠ gb171))) (fun _ hk => hk.2) (.int .i64 0)) (fun _ hk => hk.2) (.int .i64 ((rd_T28 l1 x13_1).f0))) (fun _ hk => hk.2) (.int .i64 ((rd_T28 l1 x13_1).f1))) (fun _ hk => hk.2) (.int .i64 0)) (fun _ hk => hk.2) (.int .i64 0)) (fun _ hk => hk.2) (.int .i64 0)) (fun _ hk => hk.2) (.slice none 0 0)) (fun _ hk => hk.2) (.int .i64 0)) (fun _ hk => ⟨(by simp [Value.ownBlock]), hk.1.2⟩)⟩, ⟨by (with_reducible repeat (first|apply Kd.R_alloc|apply Kd.R_drewN|apply Kd.R_drew)); exact Kd.R_mono (Kd.Rf8 (Kd.R_types HO_10.out BK171.out (by decide)) (fun _ hk => hk.2)) (fun _ hk => trivial)⟩, ⟨by first|exact Kd.R_nil _ _ _ _ _|exact Kd.N_nil _ _ _ _ _|exact Kd.V_nil _ _ _ _ _|exact Kd.Q_nil _ _ _ _ _|exact Kd.S_nil _ _ _ _ _⟩, ⟨by (with_reducible repeat (first|refine bN ?_ _|refine bD ?_|refine bA ?_ _)); apply put8; (with_reducible repeat (first|refine bN ?_ _|refine bD ?_|refine bA ?_ _)); exact BK171.out⟩, ⟨by repeat (first|(with_reducible first|exact HB.out|apply lA|apply lN|apply lD|refine lS ?_ GE171.out)|exact HB.out)⟩⟩
       case round =>
        clear H'
        obtain ⟨x57_2, x172006_2, u172006, rfl, HA, HK2, HO_10, HO_12, HO_55, HO_172006, BK171, HB⟩ := hrel
        cases gk with
       |zero => exact absurd HA.out (by simp [find_Steps.l1])
       |succ k2 =>
         have H := HA.out
         clear HA
         simp only [find_Steps.l1] at H
         by_cases c27 : x57_2 < (t165.length : Int)
         ·rw [if_pos c27] at H
          have c27b0 : decide (x57_2 < (t165.length : Int)) = true := decide_eq_true c27
          clear c27
          replace H := ifS H; obtain ⟨c28, H⟩ := H
          have c28b0 : decide (0 ≤ x57_2) = true := decide_eq_true c28
          clear c28
          replace H := ifS H; obtain ⟨c29, H⟩ := H
          have c29b0 : decide (x57_2 < (t165.length : Int)) = true := decide_eq_true c29
          clear c29
          replace H := ifS H; obtain ⟨c30, H⟩ := H
          have c30b0 : decide (0 ≤ ((rd_T28 l1 x13_1).f0)) = true := decide_eq_true c30
          clear c30
          replace H := ifS H; obtain ⟨c31, H⟩ := H
          have c31b0 : decide (((rd_T28 l1 x13_1).f0) < (l0.length : Int)) = true := decide_eq_true c31
          clear c31
          replace H := ifS H; obtain ⟨c32, H⟩ := H
          have LMc32 := aM c32
          clear c32
          obtain ⟨y174, hy174⟩ : ∃ y_ : List (S48), y_ = (x172006_2 ++ [(⟨0, 0, rd t165 x57_2, (rd_T48 l0 ((rd_T28 l1 x13_1).f0)).f3⟩ : S48)]) := ⟨_, rfl⟩
          replace H : (find_Steps.l1 k2 l0 l1 t165 x12_1 x13_1 t165 (t165.length : Int) (wrap64 (x57_2 + 1)) 0 ((rd_T28 l1 x13_1).f0) ((rd_T28 l1 x13_1).f1) 0 0 0 y174 0) = some (r1, r2) := by first|(rw [hy174]; with_reducible exact H)|(have H2_ := (Option.bind_some _ _).symm.trans H; rw [hy174]; with_reducible exact H2_)|(have H2_ := (Option.bind_some _ _).symm.trans H; with_reducible exact H2_)|with_reducible exact H|(rw [hy174]; exact H)|exact H
          have Ny174 := aM hy174
          clear hy174
          have H' := aM H
          clear H
          have p172 : 0 ≤ (x57_2 : Int) := of_decide_eq_true (by assumption)
          have q172 : x57_2 < (t165.length : Int) := of_decide_eq_true (by assumption)
          obtain ⟨ad172, e172, hx172_0⟩ := Kd.at_int (Kd.R_reads' HO_55.out).2.2 x57_2 p172 q172
          cases e172
          replace p172 := eq_true p172
          replace q172 := eq_true q172
          try go_wp2
          have n0_ := aM (Kd.R_drew HO_10.out)
          have n1_ := aM (Kd.S_drew HO_12.out)
          have n2_ := aM (Kd.R_drew HO_55.out)
          have n3_ := aM (Kd.R_drew HO_172006.out)
          have n4_ := aM (bD BK171.out)
          have n5_ := aM (lD HB.out)
          clear HO_10
          clear HO_12
          clear HO_55
          clear HO_172006
          clear BK171
          clear HB
          have HO_10 := n0_
          have HO_12 := n1_
          have HO_55 := n2_
          have HO_172006 := n3_
          have BK171 := n4_
          have HB := n5_
          clear n0_ n1_ n2_ n3_ n4_ n5_
          have p173 : 0 ≤ (((rd_T28 l1 x13_1).f0) : Int) := of_decide_eq_true (by assumption)
          have q173 : ((rd_T28 l1 x13_1).f0) < (l0.length : Int) := of_decide_eq_true (by assumption)
          obtain ⟨ad173, e173, hx173_0, hx173_1, hx173_2, hx173_3⟩ := at_T48 HR0.out ((rd_T28 l1 x13_1).f0) p173 q173
          have hw173_3 := hx173_3
          have hw173_2 := hx173_2
          have hw173_1 := hx173_1
          have hw173_0 := hx173_0
          cases e173
          replace hx173_0 := cB HB.out hx173_0
          replace hx173_1 := cB HB.out hx173_1
          replace hx173_2 := cB HB.out hx173_2
          replace hx173_3 := cB HB.out hx173_3
          replace p173 := eq_true p173
          replace q173 := eq_true q173
          refine start_ (n := 14) (S := fun w' => w'.cell? ⟨gb171, 0, none⟩ = some (.int .i64 0) ∧ w'.cell? ⟨gb171, 1, none⟩ = some (.int .i64 ((rd_T28 l1 x13_1).f0)) ∧ w'.cell? ⟨gb171, 2, none⟩ = some (.int .i64 ((rd_T28 l1 x13_1).f1)) ∧ w'.cell? ⟨gb171, 3, none⟩ = some (.int .i64 0) ∧ w'.cell? ⟨gb171, 4, none⟩ = some (.int .i64 0) ∧ w'.cell? ⟨gb171, 5, none⟩ = some (.int .i64 0) ∧ w'.cell? ⟨gb171, 6, none⟩ = some (u172006) ∧ w'.cell? ⟨gb171, 7, none⟩ = some (.int .i64 0) ∧ w'.cell? (ad173.add ((((rd_T28 l1 x13_1).f0)).toNat * 4)) = some (.int .i64 ((rd_T48 l0 ((rd_T28 l1 x13_1).f0)).f0)) ∧ w'.cell? ⟨(ad173.add ((((rd_T28 l1 x13_1).f0)).toNat * 4)).block, (ad173.add ((((rd_T28 l1 x13_1).f0)).toNat * 4)).off + 1, none⟩ = some (.int .i64 ((rd_T48 l0 ((rd_T28 l1 x13_1).f0)).f1)) ∧ w'.cell? ⟨(ad173.add ((((rd_T28 l1 x13_1).f0)).toNat * 4)).block, (ad173.add ((((rd_T28 l1 x13_1).f0)).toNat * 4)).off + 2, none⟩ = some (.int .i64 ((rd_T48 l0 ((rd_T28 l1 x13_1).f0)).f2)) ∧ w'.cell? ⟨(ad173.add ((((rd_T28 l1 x13_1).f0)).toNat * 4)).block, (ad173.add ((((rd_T28 l1 x13_1).f0)).toNat * 4)).off + 3, none⟩ = some (.int .i64 ((rd_T48 l0 ((rd_T28 l1 x13_1).f0)).f3))) (ds := [13]) #[false, false, false, false, false, false, false, false, false, false, false, false, false, false] (by kernel_rfl) rfl rfl ⟨(blk_cell BK171.out 0).trans rfl, (blk_cell BK171.out 1).trans rfl, (blk_cell BK171.out 2).trans rfl, (blk_cell BK171.out 3).trans rfl, (blk_cell BK171.out 4).trans rfl, (blk_cell BK171.out 5).trans rfl, (blk_cell BK171.out 6).trans rfl, (blk_cell BK171.out 7).trans rfl, ((HB.out.cell (World.block_lt_of_cell? w _ hw173_0)).trans hw173_0), ((HB.out.cell (World.block_lt_of_cell? w _ hw173_1)).trans hw173_1), ((HB.out.cell (World.block_lt_of_cell? w _ hw173_2)).trans hw173_2), ((HB.out.cell (World.block_lt_of_cell? w _ hw173_3)).trans hw173_3)⟩ (fun hHeld => ?_); refine with_tabW find_Steps.tab17 find_Steps.bits17 (fun HT_ HW_ => ?_)
          generalize wr.drew = w33 at HO_10 HO_12 HO_55 HO_172006 BK171 HB hx173_0 hx173_1 hx173_2 hx173_3 hHeld ⊢
          refine pure_ (i := 0) (N := some 61) (v := ?_) (a' := ?_) #[true, false, false, false, false, false, false, false, false, false, false, false, false, false] rfl rfl (any_of HT_.out (by kernel_rfl)) (fun _ _ _ h => h) (Or.inl ⟨by rfl, ?_⟩) ?_ ?_
          rotate_left
          ·intro w'
           go_simp
           with_reducible rfl
          rotate_left
          ·simp only [Act.put, sA, sZ, sS, i64_w, i32_w]
           rfl
          refine pure_ (i := 2) (N := some 63) (v := ?_) (a' := ?_) #[true, false, true, false, false, false, false, false, false, false, false, false, false, false] rfl rfl (any_of HT_.out (by kernel_rfl)) (fun _ _ _ h => h) (Or.inl ⟨by rfl, ?_⟩) ?_ ?_
          rotate_left
          ·intro w'
           go_simp
           with_reducible rfl
          rotate_left
          ·simp only [Act.put, sA, sZ, sS, i64_w, i32_w]
           rfl
          refine pure_ (i := 3) (N := some 64) (v := ?_) (a' := ?_) #[true, false, true, true, false, false, false, false, false, false, false, false, false, false] rfl rfl (any_of HT_.out (by kernel_rfl)) (fun _ _ _ h => h) (Or.inl ⟨by rfl, ?_⟩) ?_ ?_
          rotate_left
          ·intro w'
           go_simp
           with_reducible rfl
          rotate_left
          ·simp only [Act.put, sA, sZ, sS, i64_w, i32_w]
           rfl
          refine pure_ (i := 4) (N := some 65) (v := ?_) (a' := ?_) #[true, false, true, true, true, false, false, false, false, false, false, false, false, false] rfl rfl (any_of HT_.out (by kernel_rfl)) (fun _ _ _ h => h) (Or.inl ⟨by rfl, ?_⟩) ?_ ?_
          rotate_left
          ·intro w'
           go_simp
           with_reducible rfl
          rotate_left
          ·simp only [Act.put, sA, sZ, sS, i64_w, i32_w]
           rfl
          refine take_ (i := 1) (N := some 62) (v := ?_) (a' := ?_) #[true, true, true, true, true, false, false, false, false, false, false, false, false, false] rfl rfl (take_ofW HT_.out HW_.out (by kernel_rfl)) (fun _ _ _ h => h) (Or.inl ⟨by rfl, ?_⟩) hHeld ?_ ?_
          rotate_left
          ·rintro w' ⟨s0, s1, s2, s3, s4, s5, s6, s7, s8, s9, s10, s11⟩
           go_simp
           with_reducible rfl
          rotate_left
          ·simp only [Act.put, sA, sZ, sS, i64_w, i32_w]
           rfl
          refine take_ (i := 5) (N := some 66) (v := ?_) (a' := ?_) #[true, true, true, true, true, true, false, false, false, false, false, false, false, false] rfl rfl (take_ofW HT_.out HW_.out (by kernel_rfl)) (fun _ _ _ h => h) (Or.inl ⟨by rfl, ?_⟩) hHeld ?_ ?_
          rotate_left
          ·rintro w' ⟨s0, s1, s2, s3, s4, s5, s6, s7, s8, s9, s10, s11⟩
           go_simp
           with_reducible rfl
          rotate_left
          ·simp only [Act.put, sA, sZ, sS, i64_w, i32_w]
           rfl
          refine pure_ (i := 6) (N := some 67) (v := ?_) (a' := ?_) #[true, true, true, true, true, true, true, false, false, false, false, false, false, false] rfl rfl (any_of HT_.out (by kernel_rfl)) (fun _ _ _ h => h) (Or.inl ⟨by rfl, ?_⟩) ?_ ?_
          rotate_left
          ·intro w'
           go_simp
           with_reducible rfl
          rotate_left
          ·simp only [Act.put, sA, sZ, sS, i64_w, i32_w]
           rfl
          refine pure_ (i := 7) (N := some 68) (v := ?_) (a' := ?_) #[true, true, true, true, true, true, true, true, false, false, false, false, false, false] rfl rfl (any_of HT_.out (by kernel_rfl)) (fun _ _ _ h => h) (Or.inl ⟨by rfl, ?_⟩) ?_ ?_
          rotate_left
          ·intro w'
           go_simp
           with_reducible rfl
          rotate_left
          ·simp only [Act.put, sA, sZ, sS, i64_w, i32_w]
           rfl
          refine take_ (i := 8) (N := some 69) (v := ?_) (a' := ?_) #[true, true, true, true, true, true, true, true, true, false, false, false, false, false] rfl rfl (take_ofW HT_.out HW_.out (by kernel_rfl)) (fun _ _ _ h => h) (Or.inl ⟨by rfl, ?_⟩) hHeld ?_ ?_
          rotate_left
          ·rintro w' ⟨s0, s1, s2, s3, s4, s5, s6, s7, s8, s9, s10, s11⟩
           go_simp
           with_reducible rfl
          rotate_left
          ·simp only [Act.put, sA, sZ, sS, i64_w, i32_w]
           rfl
          refine pure_ (i := 9) (N := some 70) (v := ?_) (a' := ?_) #[true, true, true, true, true, true, true, true, true, true, false, false, false, false] rfl rfl (any_of HT_.out (by kernel_rfl)) (fun _ _ _ h => h) (Or.inl ⟨by rfl, ?_⟩) ?_ ?_
          rotate_left
          ·intro w'
           go_simp
           with_reducible rfl
          rotate_left
          ·simp only [Act.put, sA, sZ, sS, i64_w, i32_w]
           rfl
          refine one_ (i := 10) (N := some 71) #[true, true, true, true, true, true, true, true, true, true, true, false, false, false] rfl rfl (one_of HT_.out (by kernel_rfl)) (by decide) (fun K hK => ?_)
          refine value_ (w1 := ?_) (v := ?_) (by rfl) rfl ?_ ?_
          rotate_left 2
          ·go_simp
           constructor
           ·rfl
           ·rfl
          refine hK.out _ _ ⟨(blk_cell (bA BK171.out _) 0).trans rfl, (blk_cell (bA BK171.out _) 1).trans rfl, (blk_cell (bA BK171.out _) 2).trans rfl, (blk_cell (bA BK171.out _) 3).trans rfl, (blk_cell (bA BK171.out _) 4).trans rfl, (blk_cell (bA BK171.out _) 5).trans rfl, (blk_cell (bA BK171.out _) 6).trans rfl, (blk_cell (bA BK171.out _) 7).trans rfl, (World.cell?_alloc_lt _ _ _ (World.block_lt_of_cell? _ _ (((HB.out.cell (World.block_lt_of_cell? w _ hw173_0)).trans hw173_0)))).trans (((HB.out.cell (World.block_lt_of_cell? w _ hw173_0)).trans hw173_0)), (World.cell?_alloc_lt _ _ _ (World.block_lt_of_cell? _ _ (((HB.out.cell (World.block_lt_of_cell? w _ hw173_1)).trans hw173_1)))).trans (((HB.out.cell (World.block_lt_of_cell? w _ hw173_1)).trans hw173_1)), (World.cell?_alloc_lt _ _ _ (World.block_lt_of_cell? _ _ (((HB.out.cell (World.block_lt_of_cell? w _ hw173_2)).trans hw173_2)))).trans (((HB.out.cell (World.block_lt_of_cell? w _ hw173_2)).trans hw173_2)), (World.cell?_alloc_lt _ _ _ (World.block_lt_of_cell? _ _ (((HB.out.cell (World.block_lt_of_cell? w _ hw173_3)).trans hw173_3)))).trans (((HB.out.cell (World.block_lt_of_cell? w _ hw173_3)).trans hw173_3))⟩ (fun hHeld => ?_)
          clear hK K
          refine norm_ (a' := ?_) ?_ ?_
          rotate_left
          ·show Act.put _ (some 71) _ = _
           simp only [Act.put, sA, sZ, sS, i64_w, i32_w]
           rfl
          refine one_ (i := 11) (N := some 72) #[true, true, true, true, true, true, true, true, true, true, true, true, false, false] rfl rfl (one_of HT_.out (by kernel_rfl)) (by decide) (fun K hK => ?_)
          refine Kd.R_append_step k48 (w0 := w) w.heap.size (by rfl) (.tmp 62) (.tmp 71) 22 48 (.agg #[(.int .i64 0), (.int .i64 0), (.int .i64 0), (.int .i64 0)]) 32 rfl Tryd.underlying22 info48 rfl (by decide) (by omega) u172006 x172006_2 (⟨0, 0, rd t165 x57_2, (rd_T48 l0 ((rd_T28 l1 x13_1).f0)).f3⟩ : S48) [.int .i64 0, .int .i64 0, .int .i64 (rd t165 x57_2), .int .i64 ((rd_T48 l0 ((rd_T28 l1 x13_1).f0)).f3)] (fun _ => True) (fun _ => False) rfl rfl ?aP (fun _ hk => hk.elim) ?aF ?aO ?aB ?aS ?aL ?_
          (case aP => exact k48_mkM _ _ _ (⟨0, 0, rd t165 x57_2, (rd_T48 l0 ((rd_T28 l1 x13_1).f0)).f3⟩ : S48))
          (case aB => exact (by repeat (first|(with_reducible first|exact HB.out|apply lA|apply lN|apply lD|refine lS ?_ GE171.out)|exact HB.out)))
          (case aF => exact (fun _ _ => trivial))
          (case aO => exact (by (with_reducible repeat (first|apply Kd.R_alloc|apply Kd.R_drewN|apply Kd.R_drew)); exact HO_172006.out))
          (case aS => exact (below_size (by repeat (first|(with_reducible first|exact HB.out|apply lA|apply lN|apply lD|refine lS ?_ GE171.out)|exact HB.out))))
          (case aL => have := LMc32.out; omega)
          intro v175 w34 ho hb hg hat
          rw [← Ny174.out] at ho
          have n0_ := aM (Kd.R_over' (by (with_reducible repeat (first|apply Kd.R_alloc|apply Kd.R_drewN|apply Kd.R_drew)); exact HO_10.out) (Kd.R_typed (by (with_reducible repeat (first|apply Kd.R_alloc|apply Kd.R_drewN|apply Kd.R_drew)); exact HO_172006.out)) (by decide) hg)
          have n1_ := aM (Kd.S_after (ok := (fun k_ => k_ ≠ gb171)) (by (with_reducible repeat (first|apply Kd.S_alloc|apply Kd.S_drewN|apply Kd.S_drew)); exact Kd.S_mono HO_12.out (fun _ hk => ⟨hk.2, hk.1⟩)) hg hat)
          have n2_ := aM (Kd.R_over' (by (with_reducible repeat (first|apply Kd.R_alloc|apply Kd.R_drewN|apply Kd.R_drew)); exact HO_55.out) (Kd.R_typed (by (with_reducible repeat (first|apply Kd.R_alloc|apply Kd.R_drewN|apply Kd.R_drew)); exact HO_172006.out)) (by decide) hg)
          have n3_ := aM (blk_grown (g := gb171) (o := .cells #[.int .i64 0, .int .i64 ((rd_T28 l1 x13_1).f0), .int .i64 ((rd_T28 l1 x13_1).f1), .int .i64 0, .int .i64 0, .int .i64 0, u172006, .int .i64 0] 45 (0, 0)) (by (with_reducible repeat (first|refine bN ?_ _|refine bD ?_|refine bA ?_ _)); exact BK171.out) hg (Kd.R_ne HO_172006.out BK171.out (by decide)))
          have n4_ := aM (hb)
          have n5_ := aM (ho)
          clear HO_10
          clear HO_12
          clear HO_55
          clear BK171
          clear HB
          clear HO_172006
          have HO_10 := n0_
          have HO_12 := n1_
          have HO_55 := n2_
          have BK171 := n3_
          have HB := n4_
          have HO176 := n5_
          clear n0_ n1_ n2_ n3_ n4_ n5_
          clear ho hb hg hat
          obtain ⟨Ao35, co35, eo35⟩ := Kd.R_slice HO176.out
          (first|subst eo35|(injection eo35 with f1_ f2_ f3_; have f4_ := f1_.symm; have f5_ := f3_.symm; clear f1_ f2_ f3_; subst f4_; subst f5_))
          refine hK.out _ _ ⟨(blk_cell BK171.out 0).trans rfl, (blk_cell BK171.out 1).trans rfl, (blk_cell BK171.out 2).trans rfl, (blk_cell BK171.out 3).trans rfl, (blk_cell BK171.out 4).trans rfl, (blk_cell BK171.out 5).trans rfl, (blk_cell BK171.out 6).trans rfl, (blk_cell BK171.out 7).trans rfl, ((HB.out.cell (World.block_lt_of_cell? w _ hw173_0)).trans hw173_0), ((HB.out.cell (World.block_lt_of_cell? w _ hw173_1)).trans hw173_1), ((HB.out.cell (World.block_lt_of_cell? w _ hw173_2)).trans hw173_2), ((HB.out.cell (World.block_lt_of_cell? w _ hw173_3)).trans hw173_3)⟩ (fun hHeld => ?_)
          clear hK K
          refine norm_ (a' := ?_) ?_ ?_
          rotate_left
          ·show Act.put _ (some 72) _ = _
           simp only [Act.put, sA, sZ, sS, i64_w, i32_w]
           rfl
          refine pure_ (i := 12) (N := some 73) (v := ?_) (a' := ?_) #[true, true, true, true, true, true, true, true, true, true, true, true, true, false] rfl rfl (any_of HT_.out (by kernel_rfl)) (fun _ _ _ h => h) (Or.inl ⟨by rfl, ?_⟩) ?_ ?_
          rotate_left
          ·intro w'
           go_simp
           with_reducible rfl
          rotate_left
          ·simp only [Act.put, sA, sZ, sS, i64_w, i32_w]
           rfl
          refine last_ (i := 13) (N := none) #[true, true, true, true, true, true, true, true, true, true, true, true, true, true] rfl rfl (one_of HT_.out (by kernel_rfl)) (by decide) (fun K hK => ?_)
          have hs36 : w34.cell? ⟨gb171, 6, none⟩ = some (u172006) := (blk_cell BK171.out 6).trans rfl
          have hfs36 := blk_frozen BK171.out 6
          refine skip_ (w1 := ?_) (by rfl) rfl ?_ ?_
          rotate_left
          ·go_simp
           rfl
          refine hK.out _ _ ?_
          clear hK K
          refine done_ (done_of HT_.out (by kernel_rfl)) ?_
          try go_wp2
          go_roundg k2
          case measure => have := HK1.out; have := HK2.out; omega
          case rel => exact ⟨(wrap64 (x57_2 + 1)), (y174), (.slice Ao35 y174.length co35), (by first|rfl|(simp; done)|(simp [*]; done)), H', ⟨by have := HK1.out; have := HK2.out; omega⟩, ⟨by (with_reducible repeat (first|apply Kd.R_alloc|apply Kd.R_drewN|apply Kd.R_drew)); exact Kd.R_mono (Kd.R_far (p := ⟨gb171, 6, none⟩) (Kd.R_types HO_10.out BK171.out (by decide)) (fun _ hk => hk.2) (.slice Ao35 y174.length co35)) (fun _ hk => trivial)⟩, ⟨by (with_reducible repeat (first|apply Kd.S_alloc|apply Kd.S_drewN|apply Kd.S_drew)); exact Kd.S_mono (Kd.S_far (p := ⟨gb171, 6, none⟩) (Kd.S_mono HO_12.out (fun k_ hk => (⟨hk, hk.1⟩ : _ ∧ k_ ≠ gb171))) (fun _ hk => hk.2) (.slice Ao35 y174.length co35)) (fun _ hk => ⟨hk.1.2, hk.1.1⟩)⟩, ⟨by (with_reducible repeat (first|apply Kd.R_alloc|apply Kd.R_drewN|apply Kd.R_drew)); exact Kd.R_mono (Kd.R_far (p := ⟨gb171, 6, none⟩) (Kd.R_types HO_55.out BK171.out (by decide)) (fun _ hk => hk.2) (.slice Ao35 y174.length co35)) (fun _ hk => trivial)⟩, ⟨by (with_reducible repeat (first|apply Kd.R_alloc|apply Kd.R_drewN|apply Kd.R_drew)); exact Kd.R_mono (Kd.R_far (p := ⟨gb171, 6, none⟩) (Kd.R_types HO176.out BK171.out (by decide)) (fun _ hk => hk.2) (.slice Ao35 y174.length co35)) (fun _ hk => trivial)⟩, ⟨by (with_reducible repeat (first|refine bN ?_ _|refine bD ?_|refine bA ?_ _)); refine blk_put (cs := #[.int .i64 0, .int .i64 ((rd_T28 l1 x13_1).f0), .int .i64 ((rd_T28 l1 x13_1).f1), .int .i64 0, .int .i64 0, .int .i64 0, u172006, .int .i64 0]) ?_ 6 _ rfl; (with_reducible repeat (first|refine bN ?_ _|refine bD ?_|refine bA ?_ _)); exact BK171.out⟩, ⟨by repeat (first|(with_reducible first|exact HB.out|apply lA|apply lN|apply lD|refine lS ?_ GE171.out)|exact HB.out)⟩⟩
         ·rw [if_neg c27] at H
          have c27b0 : decide (x57_2 < (t165.length : Int)) = false := decide_eq_false c27
          clear c27
          replace H := ifS H; obtain ⟨c37, H⟩ := H
          have LMc37 := aM c37
          clear c37
          obtain ⟨y177, hy177⟩ : ∃ y_ : List (S45), y_ = (x12_1 ++ [(⟨0, ((rd_T28 l1 x13_1).f0), ((rd_T28 l1 x13_1).f1), 0, 0, 0, x172006_2, 0⟩ : S45)]) := ⟨_, rfl⟩
          replace H : (find_Steps.l0 k2 l0 l1 t165 y177 (wrap64 (x13_1 - 1))) = some (r1, r2) := by first|(rw [hy177]; with_reducible exact H)|(have H2_ := (Option.bind_some _ _).symm.trans H; rw [hy177]; with_reducible exact H2_)|(have H2_ := (Option.bind_some _ _).symm.trans H; with_reducible exact H2_)|with_reducible exact H|(rw [hy177]; exact H)|exact H
          have Ny177 := aM hy177
          clear hy177
          have H' := aM H
          clear H
          obtain ⟨hcz38_0, hcz38_1, hcz38_2, hcz38_3, hcz38_4, hcz38_5, hcz38_6, hcz38_7, hfz38_0, hfz38_1, hfz38_2, hfz38_3, hfz38_4, hfz38_5, hfz38_6, hfz38_7⟩ := bx8z BK171.out
          obtain ⟨Ao40, co40, eo40⟩ := Kd.R_slice HO_172006.out
          subst eo40
          go_wp2_with (first|((with_reducible refine gate_builtin (b := .append) (xs := #[.tmp 75, .tmp 77]) rfl ?_); at_builtin; refine Kd.S_append k45 (w0 := w) w.heap.size rfl (.tmp 75) (.tmp 77) 33 45 (.agg #[(.int .i64 0), (.int .i64 0), (.int .i64 0), (.int .i64 0), (.int .i64 0), (.int .i64 0), (.slice none 0 0), (.int .i64 0)]) 80 rfl Tryd.underlying33 info45 rfl (by decide) (by omega) u12 x12_1 (⟨0, ((rd_T28 l1 x13_1).f0), ((rd_T28 l1 x13_1).f1), 0, 0, 0, x172006_2, 0⟩ : S45) [.int .i64 0, .int .i64 ((rd_T28 l1 x13_1).f0), .int .i64 ((rd_T28 l1 x13_1).f1), .int .i64 0, .int .i64 0, .int .i64 0, .slice Ao40 x172006_2.length co40, .int .i64 0] (fun k_ => k_ ≠ gb171) (fun k_ => some k_ = (.slice Ao40 x172006_2.length co40 : Value).ownBlock) rfl rfl ?aP (fun k_ hk_ => ((Kd.R_mono (ok' := fun k_ => ((fun k_ => k_ ≠ gb171)) k_ ∧ some k_ ≠ (u12 : Value).ownBlock) (Kd.R_types (Kd.R_apart' (HO_172006.out) (Kd.S_typed HO_12.out) (by decide)) BK171.out (by decide)) (fun k_ hk => ⟨hk.2, hk.1.2⟩))).1 k_ hk_.symm) ?aF ?aO ?aB ?aS ?aL ?_; (case aP => exact k45_mkM _ _ _ (⟨0, ((rd_T28 l1 x13_1).f0), ((rd_T28 l1 x13_1).f1), 0, 0, 0, x172006_2, 0⟩ : S45) (Kd.R_mono (Kd.R_tight rfl (Kd.R_mono (ok' := fun k_ => ((fun k_ => k_ ≠ gb171)) k_ ∧ some k_ ≠ (u12 : Value).ownBlock) (Kd.R_types (Kd.R_apart' (HO_172006.out) (Kd.S_typed HO_12.out) (by decide)) BK171.out (by decide)) (fun k_ hk => ⟨hk.2, hk.1.2⟩))) (fun _ h_ => h_))); (case aB => exact (by repeat (first|(with_reducible first|exact HB.out|apply lA|apply lN|apply lD|refine lS ?_ GE171.out)|exact HB.out))); (case aF => exact (fun k_ hk => Kd.freshB (g := gb171) (o := .cells #[.int .i64 0, .int .i64 ((rd_T28 l1 x13_1).f0), .int .i64 ((rd_T28 l1 x13_1).f1), .int .i64 0, .int .i64 0, .int .i64 0, .slice Ao40 x172006_2.length co40, .int .i64 0] 45 (0, 0)) (by (with_reducible repeat (first|refine bN ?_ _|refine bD ?_|refine bA ?_ _)); exact BK171.out) k_ hk)); (case aO => exact (by (with_reducible repeat (first|apply Kd.S_alloc|apply Kd.S_drewN|apply Kd.S_drew)); exact Kd.S_mono HO_12.out (fun k_ hk => ⟨hk.2, fun e_ => hk.1 e_⟩))); (case aS => exact (below_size (by repeat (first|(with_reducible first|exact HB.out|apply lA|apply lN|apply lD|refine lS ?_ GE171.out)|exact HB.out)))); (case aL => have := LMc37.out; omega); intro v178 w39 ho hb hg hat; rw [← Ny177.out] at ho; have n0_ := aM (Kd.R_over' (by (with_reducible repeat (first|apply Kd.R_alloc|apply Kd.R_drewN|apply Kd.R_drew)); exact HO_10.out) (Kd.S_typed (by (with_reducible repeat (first|apply Kd.S_alloc|apply Kd.S_drewN|apply Kd.S_drew)); exact HO_12.out)) (by decide) hg); have n1_ := aM (Kd.R_over' (by (with_reducible repeat (first|apply Kd.R_alloc|apply Kd.R_drewN|apply Kd.R_drew)); exact HO_55.out) (Kd.S_typed (by (with_reducible repeat (first|apply Kd.S_alloc|apply Kd.S_drewN|apply Kd.S_drew)); exact HO_12.out)) (by decide) hg); have n2_ := aM (blk_grown (g := gb171) (o := .cells #[.int .i64 0, .int .i64 ((rd_T28 l1 x13_1).f0), .int .i64 ((rd_T28 l1 x13_1).f1), .int .i64 0, .int .i64 0, .int .i64 0, .slice Ao40 x172006_2.length co40, .int .i64 0] 45 (0, 0)) (by (with_reducible repeat (first|refine bN ?_ _|refine bD ?_|refine bA ?_ _)); exact BK171.out) hg (Kd.S_away HO_12.out (fun _ hk => hk.2))); have n3_ := aM (hb); have n4_ := aM (ho); clear HO_10; clear HO_55; clear BK171; clear HB; clear HO_12; clear HO_172006; have HO_10 := n0_; have HO_55 := n1_; have BK171 := n2_; have HB := n3_; have HO179 := n4_; clear n0_ n1_ n2_ n3_ n4_; clear ho hb hg hat))
          go_roundg k2
          case measure => have := HK1.out; have := HK2.out; omega
          case rel => exact ⟨(y177), (wrap64 (x13_1 - 1)), (by first|rfl|(simp; done)|(simp [*]; done)), H', ⟨by have := HK1.out; have := HK2.out; omega⟩, ⟨by (with_reducible repeat (first|apply Kd.R_alloc|apply Kd.R_drewN|apply Kd.R_drew)); exact HO_10.out⟩, ⟨by (with_reducible repeat (first|apply Kd.S_alloc|apply Kd.S_drewN|apply Kd.S_drew)); exact Kd.S_mono HO179.out (fun _ hk => trivial)⟩, ⟨by repeat (first|(with_reducible first|exact HB.out|apply lA|apply lN|apply lD|refine lS ?_ GE171.out)|exact HB.out)⟩⟩
      ·rw [if_neg c13] at H
       have c13b0 : decide (0 ≤ x13_1) = false := decide_eq_false c13
       clear c13
       simp only [Option.some.injEq, Prod.mk.injEq] at H
       obtain ⟨rfl, rfl⟩ := H
       go_wp2
       go_ret2
       exact ⟨_, by first|rfl|(simp [errW_none, errW_some] <;> rfl)|(simp [*, errW_none, errW_some] <;> rfl), by (with_reducible repeat (first|apply Kd.S_alloc|apply Kd.S_drewN|apply Kd.S_drew)); exact HO_12.out, by repeat (first|(with_reducible first|exact HB.out|apply lA|apply lN|apply lD)|exact HB.out)⟩
   ·rw [if_neg c9] at H
    have c9b0 : (t166 == 0) = false := beq_eq_false_iff_ne.mpr c9
    have c9b1 : (t166 != 0) = true := bne_iff_ne.mpr c9
    simp only [Option.some.injEq, Prod.mk.injEq] at H
    obtain ⟨rfl, rfl⟩ := H
    go_enter Tryd.func11, Tryd.ntmps11
    go_wp2_with (first|((with_reducible refine gate_callee (f := 10) rfl ?_); refine goesL_ (some 19) rfl rfl Tryd.func10 (by kernel_rfl) rfl #[.slice A0 l0.length c0] rfl (by (try simp only [List.map_toArray, List.map_cons, List.map_nil]); first|done|rfl|(simp only [List.length_drop, List.length_take]; rfl)) ?_; (with_reducible refine (flat_Check.calls _ _ l0 t162 t163 _ ?side1 ?side2 A4.out).mono ?_); (case side1 => repeat (first|exact HR0.out|(with_reducible refine Kd.C_alloc ?_ _)|(with_reducible refine Kd.C_drewN ?_ _)|(with_reducible refine Kd.C_drew ?_))); (case side2 => exact HC0.out); rintro e w41 ⟨rfl, hb⟩; refine ⟨_, rfl, ?_⟩; replace HB := aM (below_step (by repeat (first|(with_reducible first|exact HB.out|apply lA|apply lN|apply lD)|exact HB.out)) hb); (try clear hb); (try clear hb2); (try clear hk); (try clear hi))|((with_reducible refine gate_callee (f := 24) rfl ?_); refine goesL_ (some 27) rfl rfl Tryd.func24 (by kernel_rfl) rfl #[.slice A0 l0.length c0, .slice A1 l1.length c1] rfl (by (try simp only [List.map_toArray, List.map_cons, List.map_nil]); first|done|rfl|(simp only [List.length_drop, List.length_take]; rfl)) ?_; (with_reducible refine (find_rise.calls k _ _ l0 _ _ l1 true _ ?side1 ?side2 ?side3 ?side4 A6.out).mono ?_); (case side1 => repeat (first|exact (Kd.C_below HR0.out HB.out)|(with_reducible refine Kd.C_alloc ?_ _)|(with_reducible refine Kd.C_drewN ?_ _)|(with_reducible refine Kd.C_drew ?_))); (case side2 => exact HC0.out); (case side3 => repeat (first|exact (Kd.C_below HR1.out HB.out)|(with_reducible refine Kd.C_alloc ?_ _)|(with_reducible refine Kd.C_drewN ?_ _)|(with_reducible refine Kd.C_drew ?_))); (case side4 => exact HC1.out); rintro e w42 ⟨rfl, hb⟩; refine ⟨_, rfl, ?_⟩; replace HB := aM (below_step (by repeat (first|(with_reducible first|exact HB.out|apply lA|apply lN|apply lD)|exact HB.out)) hb); (try clear hb); (try clear hb2); (try clear hk); (try clear hi))|((with_reducible refine gate_callee (f := 17) rfl ?_); refine goesL_ (some 31) rfl rfl Tryd.func17 (by kernel_rfl) rfl #[.string a2] rfl (by (try simp only [List.map_toArray, List.map_cons, List.map_nil]); first|done|rfl|(simp only [List.length_drop, List.length_take]; rfl)) ?_; (with_reducible refine (find_points.calls a2 t165 t166 _ A8.out).mono ?_); rintro e w43 ⟨v167, rfl, ho0, hb⟩; refine ⟨_, rfl, ?_⟩; replace HO168 := aM (Kd.R_lower ho0 (below_size (by repeat (first|(with_reducible first|exact HB.out|apply lA|apply lN|apply lD)|exact HB.out)))); replace HB := aM (below_step (by repeat (first|(with_reducible first|exact HB.out|apply lA|apply lN|apply lD)|exact HB.out)) hb); (try clear hb); (try clear hb2); (try clear hk); (try clear hi); (try clear ho0)))
    go_ret2
    exact ⟨_, by first|rfl|(simp [errW_none, errW_some] <;> rfl)|(simp [*, errW_none, errW_some] <;> rfl), by first|exact Kd.S_nil _ _ _ _ _|exact Kd.N_nil _ _ _ _ _|exact Kd.V_nil _ _ _ _ _|exact Kd.Q_nil _ _ _ _ _|exact Kd.R_nil _ _ _ _ _, by repeat (first|(with_reducible first|exact HB.out|apply lA|apply lN|apply lD)|exact HB.out)⟩
  ·replace c7 := Bool.eq_false_iff.mpr c7
   subst c7
   have H1 : (some (([] : List (S45)), 1)) = some (r1, r2) := by rw [if_neg (show ¬ (false = true) by decide)] at H; exact H
   clear H
   have H := H1
   clear H1
   simp only [Option.some.injEq, Prod.mk.injEq] at H
   obtain ⟨rfl, rfl⟩ := H
   go_enter Tryd.func11, Tryd.ntmps11
   go_wp2_with (first|((with_reducible refine gate_callee (f := 10) rfl ?_); refine goesL_ (some 19) rfl rfl Tryd.func10 (by kernel_rfl) rfl #[.slice A0 l0.length c0] rfl (by (try simp only [List.map_toArray, List.map_cons, List.map_nil]); first|done|rfl|(simp only [List.length_drop, List.length_take]; rfl)) ?_; (with_reducible refine (flat_Check.calls _ _ l0 t162 t163 _ ?side1 ?side2 A4.out).mono ?_); (case side1 => repeat (first|exact HR0.out|(with_reducible refine Kd.C_alloc ?_ _)|(with_reducible refine Kd.C_drewN ?_ _)|(with_reducible refine Kd.C_drew ?_))); (case side2 => exact HC0.out); rintro e w44 ⟨rfl, hb⟩; refine ⟨_, rfl, ?_⟩; replace HB := aM (below_step (by repeat (first|(with_reducible first|exact HB.out|apply lA|apply lN|apply lD)|exact HB.out)) hb); (try clear hb); (try clear hb2); (try clear hk); (try clear hi))|((with_reducible refine gate_callee (f := 24) rfl ?_); refine goesL_ (some 27) rfl rfl Tryd.func24 (by kernel_rfl) rfl #[.slice A0 l0.length c0, .slice A1 l1.length c1] rfl (by (try simp only [List.map_toArray, List.map_cons, List.map_nil]); first|done|rfl|(simp only [List.length_drop, List.length_take]; rfl)) ?_; (with_reducible refine (find_rise.calls k _ _ l0 _ _ l1 false _ ?side1 ?side2 ?side3 ?side4 A6.out).mono ?_); (case side1 => repeat (first|exact (Kd.C_below HR0.out HB.out)|(with_reducible refine Kd.C_alloc ?_ _)|(with_reducible refine Kd.C_drewN ?_ _)|(with_reducible refine Kd.C_drew ?_))); (case side2 => exact HC0.out); (case side3 => repeat (first|exact (Kd.C_below HR1.out HB.out)|(with_reducible refine Kd.C_alloc ?_ _)|(with_reducible refine Kd.C_drewN ?_ _)|(with_reducible refine Kd.C_drew ?_))); (case side4 => exact HC1.out); rintro e w45 ⟨rfl, hb⟩; refine ⟨_, rfl, ?_⟩; replace HB := aM (below_step (by repeat (first|(with_reducible first|exact HB.out|apply lA|apply lN|apply lD)|exact HB.out)) hb); (try clear hb); (try clear hb2); (try clear hk); (try clear hi)))
   go_ret2
   exact ⟨_, by first|rfl|(simp [errW_none, errW_some] <;> rfl)|(simp [*, errW_none, errW_some] <;> rfl), by first|exact Kd.S_nil _ _ _ _ _|exact Kd.N_nil _ _ _ _ _|exact Kd.V_nil _ _ _ _ _|exact Kd.Q_nil _ _ _ _ _|exact Kd.R_nil _ _ _ _ _, by repeat (first|(with_reducible first|exact HB.out|apply lA|apply lN|apply lD)|exact HB.out)⟩
 ·rw [if_neg c5] at H
  have c5b0 : (t163 == 0) = false := beq_eq_false_iff_ne.mpr c5
  have c5b1 : (t163 != 0) = true := bne_iff_ne.mpr c5
  simp only [Option.some.injEq, Prod.mk.injEq] at H
  obtain ⟨rfl, rfl⟩ := H
  go_enter Tryd.func11, Tryd.ntmps11
  go_wp2_with (first|((with_reducible refine gate_callee (f := 10) rfl ?_); refine goesL_ (some 19) rfl rfl Tryd.func10 (by kernel_rfl) rfl #[.slice A0 l0.length c0] rfl (by (try simp only [List.map_toArray, List.map_cons, List.map_nil]); first|done|rfl|(simp only [List.length_drop, List.length_take]; rfl)) ?_; (with_reducible refine (flat_Check.calls _ _ l0 t162 t163 _ ?side1 ?side2 A4.out).mono ?_); (case side1 => repeat (first|exact HR0.out|(with_reducible refine Kd.C_alloc ?_ _)|(with_reducible refine Kd.C_drewN ?_ _)|(with_reducible refine Kd.C_drew ?_))); (case side2 => exact HC0.out); rintro e w46 ⟨rfl, hb⟩; refine ⟨_, rfl, ?_⟩; replace HB := aM (below_step (by repeat (first|(with_reducible first|exact HB.out|apply lA|apply lN|apply lD)|exact HB.out)) hb); (try clear hb); (try clear hb2); (try clear hk); (try clear hi)))
  go_ret2
  exact ⟨_, by first|rfl|(simp [errW_none, errW_some] <;> rfl)|(simp [*, errW_none, errW_some] <;> rfl), by first|exact Kd.S_nil _ _ _ _ _|exact Kd.N_nil _ _ _ _ _|exact Kd.V_nil _ _ _ _ _|exact Kd.Q_nil _ _ _ _ _|exact Kd.R_nil _ _ _ _ _, by repeat (first|(with_reducible first|exact HB.out|apply lA|apply lN|apply lD)|exact HB.out)⟩
def mark_place.l0 : Nat → Int → Int → Option (Int)
|0, _, _ => none
|k + 1, x0, x3 => if x3 < 3 then (if 0 ≤ x3 then (if x0 = (shl .i64 1 x3) then (some x3) else (mark_place.l0 k x0 (wrap64 (x3 + 1)))) else (none)) else (some 3)
def mark_place.f (k : Nat) (a0 : Int) : Option (Int) := mark_place.l0 k a0 0
theorem mark_place.mono_l : ∀ k, (∀ y0 y1, LeO (mark_place.l0 k y0 y1) (mark_place.l0 (k + 1) y0 y1))
|0 => fun _ _ r h => by simp [mark_place.l0] at h
|k + 1 => by
  have ih0 := mark_place.mono_l k
  ·intro y0 y1
   unfold mark_place.l0
   repeat' first
  |(with_reducible exact ih0 _ _)
  |(with_reducible exact LeO.refl _)
  |(with_reducible exact LeO.none _)
  |(with_reducible refine LeO.ite ?_ ?_)
  |(with_reducible refine LeO.bind ?_ (fun _ => ?_))
  |exact ih0 _ _
  |exact LeO.none _
  |refine LeO.ite ?_ ?_
  |refine LeO.bind ?_ (fun _ => ?_)
theorem mark_place.mono : ∀ a0 k, LeO (mark_place.f k a0) (mark_place.f (k + 1) a0) := by
 intro a0 k
 have ih0 := mark_place.mono_l k
 unfold mark_place.f
 repeat' first
  |(with_reducible exact ih0 _ _)
  |(with_reducible exact LeO.refl _)
  |(with_reducible exact LeO.none _)
  |(with_reducible refine LeO.ite ?_ ?_)
  |(with_reducible refine LeO.bind ?_ (fun _ => ?_))
  |exact ih0 _ _
  |exact LeO.none _
  |refine LeO.ite ?_ ?_
  |refine LeO.bind ?_ (fun _ => ?_)
set_option maxHeartbeats 8000000 in
set_option maxRecDepth 100000 in
theorem mark_place.calls (k : Nat) (a0 : Int) (r : Int) (w : World) (h : mark_place.f k a0 = some r) :
  Calls Tryd.prog 61 #[.int .i64 a0] w fun e w' => e = .returned (.int .i64 r) ∧ Drawn0 w w' := by
 have H : (mark_place.l0 k a0 0) = some r := h
 clear h
 have H' := aM H
 clear H
 go_enter Tryd.func61, Tryd.ntmps61
 go_wp2
 go_loopg [3] k (fun kq v3 w' => ∃ (x3_1 : Int), v3 = .int .i64 x3_1 ∧ Aside0 (mark_place.l0 kq a0 x3_1 = some r) ∧ Aside0 (kq ≤ k) ∧ Drawn0 w w')
 case atStart => exact ⟨(0), (by first|rfl|(simp; done)|(simp [*]; done)), H', ⟨Nat.le_refl _⟩, by repeat (first|exact Drawn0.refl _|apply Drawn0.step)⟩
 case round =>
  clear H'
  obtain ⟨x3_1, rfl, HA, HK1, ⟨m1, rfl⟩⟩ := hrel
  cases gk with
 |zero => exact absurd HA.out (by simp [mark_place.l0])
 |succ k1 =>
   have H := HA.out
   clear HA
   simp only [mark_place.l0] at H
   by_cases c2 : x3_1 < 3
   ·rw [if_pos c2] at H
    have c2b0 : decide (x3_1 < 3) = true := decide_eq_true c2
    clear c2
    replace H := ifS H; obtain ⟨c3, H⟩ := H
    have c3b0 := eq_true c3
    have c3b1 : decide (0 ≤ x3_1) = true := decide_eq_true c3
    clear c3
    obtain ⟨ji4, hji4⟩ : ∃ j_ : Int, (shl .i64 1 x3_1) = j_ := ⟨_, rfl⟩
    replace H : (if a0 = (ji4) then (some x3_1) else (mark_place.l0 k1 a0 (wrap64 (x3_1 + 1)))) = some r := by first|(rw [hji4] at H; exact H)|(simp only [hji4] at H ⊢; exact H)
    have hji4_ : (IntKind.i64.wrap (1 * 2 ^ min x3_1.toNat 64)) = ji4 := hji4
    have hji4z : x3_1 ≤ 64 → (IntKind.i64.wrap (1 * 2 ^ x3_1.toNat)) = ji4 := shl_small hji4
    have hji4u : (IntKind.i64.wrap (2 ^ min x3_1.toNat 64)) = ji4 := by have h_ := hji4_; rw [Int.one_mul] at h_; exact h_
    have hji4v : x3_1 ≤ 64 → (IntKind.i64.wrap (2 ^ x3_1.toNat)) = ji4 := fun hle_ => by have h_ := hji4z hle_; rw [Int.one_mul] at h_; exact h_
    have hji4y : (wrap64 (1 * 2 ^ min x3_1.toNat 64)) = ji4 := (i64_w _).symm.trans hji4_
    have hji4x : x3_1 ≤ 64 → (wrap64 (1 * 2 ^ x3_1.toNat)) = ji4 := fun h_ => (i64_w _).symm.trans (hji4z h_)
    by_cases c5 : a0 = (ji4)
    ·rw [if_pos c5] at H
     have c5b0 : (a0 == (ji4)) = true := beq_iff_eq.mpr c5
     have c5b1 : (a0 != (ji4)) = false := bne_eq_false_iff_eq.mpr c5
     clear c5
     obtain rfl := Option.some.inj H
     go_wp2
     go_ret
     exact ⟨by first|rfl|(simp; done)|(simp only [← hji4] <;> (first|rfl|simp))|(simp [*]; done), by repeat (first|exact Drawn0.refl _|apply Drawn0.step)⟩
    ·rw [if_neg c5] at H
     have c5b0 : (a0 == (ji4)) = false := beq_eq_false_iff_ne.mpr c5
     have c5b1 : (a0 != (ji4)) = true := bne_iff_ne.mpr c5
     have H' := aM H
     clear H
     go_wp2
     go_roundg k1
     case measure => have := HK1.out; omega
     case rel => exact ⟨(wrap64 (x3_1 + 1)), (by first|rfl|(simp; done)|(simp [*]; done)), H', ⟨by have := HK1.out; omega⟩, by repeat (first|exact Drawn0.refl _|apply Drawn0.step)⟩
   ·rw [if_neg c2] at H
    have c2b0 : decide (x3_1 < 3) = false := decide_eq_false c2
    clear c2
    obtain rfl := Option.some.inj H
    go_wp2
    go_ret
    exact ⟨by first|rfl|(simp; done)|(simp [*]; done), by repeat (first|exact Drawn0.refl _|apply Drawn0.step)⟩
def mark_may.f (k : Nat) (a0 : Int) (a1 : Int) : Option (Int) := (mark_place.f k a1).bind fun t180 => (if t180 = 3 then (some 1) else ((mark_Right.f a0).bind fun t181 => (if t181 = true then (some 0) else (some 4))))
theorem mark_may.mono : ∀ a0 a1 k, LeO (mark_may.f k a0 a1) (mark_may.f (k + 1) a0 a1) := by
 intro a0 a1 k
 unfold mark_may.f
 repeat' first
  |(with_reducible exact mark_place.mono _ _)
  |(with_reducible exact LeO.refl _)
  |(with_reducible exact LeO.none _)
  |(with_reducible refine LeO.ite ?_ ?_)
  |(with_reducible refine LeO.bind ?_ (fun _ => ?_))
  |exact mark_place.mono _ _
  |exact LeO.none _
  |refine LeO.ite ?_ ?_
  |refine LeO.bind ?_ (fun _ => ?_)
set_option maxHeartbeats 8000000 in
set_option maxRecDepth 100000 in
theorem mark_may.calls (k : Nat) (a0 : Int) (a1 : Int) (r : Int) (w : World) (h : mark_may.f k a0 a1 = some r) :
  Calls Tryd.prog 58 #[.int .i64 a0, .int .i64 a1] w fun e w' => e = .returned (.int .i64 r) ∧ Drawn0 w w' := by
 have H : ((mark_place.f k a1).bind fun t180 => (if t180 = 3 then (some 1) else ((mark_Right.f a0).bind fun t181 => (if t181 = true then (some 0) else (some 4))))) = some r := h
 clear h
 replace H := Option.bind_eq_some_iff.mp H
 obtain ⟨t180, A30, H⟩ := H
 replace H : (if t180 = 3 then (some 1) else ((mark_Right.f a0).bind fun t181 => (if t181 = true then (some 0) else (some 4)))) = some r := H
 have A3 := aM A30
 clear A30
 by_cases c4 : t180 = 3
 ·rw [if_pos c4] at H
  have c4b0 : (t180 == 3) = true := beq_iff_eq.mpr c4
  have c4b1 : (t180 != 3) = false := bne_eq_false_iff_eq.mpr c4
  clear c4
  obtain rfl := Option.some.inj H
  go_enter Tryd.func58, Tryd.ntmps58
  go_wp2_with (first|((with_reducible refine gate_callee (f := 61) rfl ?_); refine goesL_ (some 7) rfl rfl Tryd.func61 (by kernel_rfl) rfl #[.int .i64 a1] rfl (by (try simp only [List.map_toArray, List.map_cons, List.map_nil]); first|done|rfl|(simp only [List.length_drop, List.length_take]; rfl)) ?_; (with_reducible refine (mark_place.calls k a1 t180 _ A3.out).mono ?_); rintro e w' ⟨rfl, ⟨nd, rfl⟩⟩; refine ⟨_, rfl, ?_⟩))
  go_ret
  exact ⟨by first|rfl|(simp; done)|(simp [*]; done), by repeat (first|exact Drawn0.refl _|apply Drawn0.step)⟩
 ·rw [if_neg c4] at H
  have c4b0 : (t180 == 3) = false := beq_eq_false_iff_ne.mpr c4
  have c4b1 : (t180 != 3) = true := bne_iff_ne.mpr c4
  replace H := Option.bind_eq_some_iff.mp H
  obtain ⟨t181, A50, H⟩ := H
  replace H : (if t181 = true then (some 0) else (some 4)) = some r := H
  have A5 := aM A50
  clear A50
  by_cases c6 : t181 = true
  ·subst c6
   have H1 : (some 0) = some r := by rw [if_pos rfl] at H; exact H
   clear H
   have H := H1
   clear H1
   obtain rfl := Option.some.inj H
   go_enter Tryd.func58, Tryd.ntmps58
   go_wp2_with (first|((with_reducible refine gate_callee (f := 61) rfl ?_); refine goesL_ (some 7) rfl rfl Tryd.func61 (by kernel_rfl) rfl #[.int .i64 a1] rfl (by (try simp only [List.map_toArray, List.map_cons, List.map_nil]); first|done|rfl|(simp only [List.length_drop, List.length_take]; rfl)) ?_; (with_reducible refine (mark_place.calls k a1 t180 _ A3.out).mono ?_); rintro e w' ⟨rfl, ⟨nd, rfl⟩⟩; refine ⟨_, rfl, ?_⟩)|((with_reducible refine gate_callee (f := 37) rfl ?_); refine goesL_ (some 11) rfl rfl Tryd.func37 (by kernel_rfl) rfl #[.int .i64 a0] rfl (by (try simp only [List.map_toArray, List.map_cons, List.map_nil]); first|done|rfl|(simp only [List.length_drop, List.length_take]; rfl)) ?_; (with_reducible refine (mark_Right.calls a0 true _ A5.out).mono ?_); rintro e w' ⟨rfl, ⟨nd, rfl⟩⟩; refine ⟨_, rfl, ?_⟩))
   go_ret
   exact ⟨by first|rfl|(simp; done)|(simp [*]; done), by repeat (first|exact Drawn0.refl _|apply Drawn0.step)⟩
  ·replace c6 := Bool.eq_false_iff.mpr c6
   subst c6
   have H1 : (some 4) = some r := by rw [if_neg (show ¬ (false = true) by decide)] at H; exact H
   clear H
   have H := H1
   clear H1
   obtain rfl := Option.some.inj H
   go_enter Tryd.func58, Tryd.ntmps58
   go_wp2_with (first|((with_reducible refine gate_callee (f := 61) rfl ?_); refine goesL_ (some 7) rfl rfl Tryd.func61 (by kernel_rfl) rfl #[.int .i64 a1] rfl (by (try simp only [List.map_toArray, List.map_cons, List.map_nil]); first|done|rfl|(simp only [List.length_drop, List.length_take]; rfl)) ?_; (with_reducible refine (mark_place.calls k a1 t180 _ A3.out).mono ?_); rintro e w' ⟨rfl, ⟨nd, rfl⟩⟩; refine ⟨_, rfl, ?_⟩)|((with_reducible refine gate_callee (f := 37) rfl ?_); refine goesL_ (some 11) rfl rfl Tryd.func37 (by kernel_rfl) rfl #[.int .i64 a0] rfl (by (try simp only [List.map_toArray, List.map_cons, List.map_nil]); first|done|rfl|(simp only [List.length_drop, List.length_take]; rfl)) ?_; (with_reducible refine (mark_Right.calls a0 false _ A5.out).mono ?_); rintro e w' ⟨rfl, ⟨nd, rfl⟩⟩; refine ⟨_, rfl, ?_⟩))
   go_ret
   exact ⟨by first|rfl|(simp; done)|(simp [*]; done), by repeat (first|exact Drawn0.refl _|apply Drawn0.step)⟩
def mark_Has.f (k : Nat) (a0 : Int) (a1 : Int) : Option (Bool) := (mark_may.f k a0 a1).bind fun t182 => (if t182 = 0 then (some ((Go.bits .and .i64 a0 a1) != 0)) else (some false))
theorem mark_Has.mono : ∀ a0 a1 k, LeO (mark_Has.f k a0 a1) (mark_Has.f (k + 1) a0 a1) := by
 intro a0 a1 k
 unfold mark_Has.f
 repeat' first
  |(with_reducible exact mark_may.mono _ _ _)
  |(with_reducible exact LeO.refl _)
  |(with_reducible exact LeO.none _)
  |(with_reducible refine LeO.ite ?_ ?_)
  |(with_reducible refine LeO.bind ?_ (fun _ => ?_))
  |exact mark_may.mono _ _ _
  |exact LeO.none _
  |refine LeO.ite ?_ ?_
  |refine LeO.bind ?_ (fun _ => ?_)
set_option maxHeartbeats 8000000 in
set_option maxRecDepth 100000 in
theorem mark_Has.calls (k : Nat) (a0 : Int) (a1 : Int) (r : Bool) (w : World) (h : mark_Has.f k a0 a1 = some r) :
  Calls Tryd.prog 57 #[.int .i64 a0, .int .i64 a1] w fun e w' => e = .returned (.bool r) ∧ Drawn0 w w' := by
 have H : ((mark_may.f k a0 a1).bind fun t182 => (if t182 = 0 then (some ((Go.bits .and .i64 a0 a1) != 0)) else (some false))) = some r := h
 clear h
 replace H := Option.bind_eq_some_iff.mp H
 obtain ⟨t182, A30, H⟩ := H
 replace H : (if t182 = 0 then (some ((Go.bits .and .i64 a0 a1) != 0)) else (some false)) = some r := H
 have A3 := aM A30
 clear A30
 by_cases c4 : t182 = 0
 ·rw [if_pos c4] at H
  have c4b0 : (t182 == 0) = true := beq_iff_eq.mpr c4
  have c4b1 : (t182 != 0) = false := bne_eq_false_iff_eq.mpr c4
  clear c4
  obtain rfl := Option.some.inj H
  go_enter Tryd.func57, Tryd.ntmps57
  go_wp2_with (first|((with_reducible refine gate_callee (f := 58) rfl ?_); refine goesL_ (some 7) rfl rfl Tryd.func58 (by kernel_rfl) rfl #[.int .i64 a0, .int .i64 a1] rfl (by (try simp only [List.map_toArray, List.map_cons, List.map_nil]); first|done|rfl|(simp only [List.length_drop, List.length_take]; rfl)) ?_; (with_reducible refine (mark_may.calls k a0 a1 t182 _ A3.out).mono ?_); rintro e w' ⟨rfl, ⟨nd, rfl⟩⟩; refine ⟨_, rfl, ?_⟩))
  go_ret
  exact ⟨by first|rfl|(simp; done)|(simp [*]; done), by repeat (first|exact Drawn0.refl _|apply Drawn0.step)⟩
 ·rw [if_neg c4] at H
  have c4b0 : (t182 == 0) = false := beq_eq_false_iff_ne.mpr c4
  have c4b1 : (t182 != 0) = true := bne_iff_ne.mpr c4
  obtain rfl := Option.some.inj H
  go_enter Tryd.func57, Tryd.ntmps57
  go_wp2_with (first|((with_reducible refine gate_callee (f := 58) rfl ?_); refine goesL_ (some 7) rfl rfl Tryd.func58 (by kernel_rfl) rfl #[.int .i64 a0, .int .i64 a1] rfl (by (try simp only [List.map_toArray, List.map_cons, List.map_nil]); first|done|rfl|(simp only [List.length_drop, List.length_take]; rfl)) ?_; (with_reducible refine (mark_may.calls k a0 a1 t182 _ A3.out).mono ?_); rintro e w' ⟨rfl, ⟨nd, rfl⟩⟩; refine ⟨_, rfl, ?_⟩))
  go_ret
  exact ⟨by first|rfl|(simp; done)|(simp [*]; done), by repeat (first|exact Drawn0.refl _|apply Drawn0.step)⟩
def mark_List.l0 : Nat → Int → List Int → Int → Option (List Int)
|0, _, _, _ => none
|k + 1, x0, x3, x4 => if x4 < 3 then (if 0 ≤ x4 then ((mark_Has.f k x0 (shl .i64 1 x4)).bind fun t183 => (if t183 = true then (if x3.length < 17592186044416 then (mark_List.l0 k x0 (x3 ++ [shl .i64 1 x4]) (wrap64 (x4 + 1))) else (none)) else (mark_List.l0 k x0 x3 (wrap64 (x4 + 1))))) else (none)) else (some x3)
def mark_List.f (k : Nat) (a0 : Int) : Option (List Int) := mark_List.l0 k a0 ([] : List Int) 0
theorem mark_List.mono_l : ∀ k, (∀ y0 y1 y2, LeO (mark_List.l0 k y0 y1 y2) (mark_List.l0 (k + 1) y0 y1 y2))
|0 => fun _ _ _ r h => by simp [mark_List.l0] at h
|k + 1 => by
  have ih0 := mark_List.mono_l k
  ·intro y0 y1 y2
   unfold mark_List.l0
   repeat' first
  |(with_reducible exact ih0 _ _ _)
  |(with_reducible exact mark_Has.mono _ _ _)
  |(with_reducible exact LeO.refl _)
  |(with_reducible exact LeO.none _)
  |(with_reducible refine LeO.ite ?_ ?_)
  |(with_reducible refine LeO.bind ?_ (fun _ => ?_))
  |exact ih0 _ _ _
  |exact mark_Has.mono _ _ _
  |exact LeO.none _
  |refine LeO.ite ?_ ?_
  |refine LeO.bind ?_ (fun _ => ?_)
theorem mark_List.mono : ∀ a0 k, LeO (mark_List.f k a0) (mark_List.f (k + 1) a0) := by
 intro a0 k
 have ih0 := mark_List.mono_l k
 unfold mark_List.f
 repeat' first
  |(with_reducible exact ih0 _ _ _)
  |(with_reducible exact mark_Has.mono _ _ _)
  |(with_reducible exact LeO.refl _)
  |(with_reducible exact LeO.none _)
  |(with_reducible refine LeO.ite ?_ ?_)
  |(with_reducible refine LeO.bind ?_ (fun _ => ?_))
  |exact ih0 _ _ _
  |exact mark_Has.mono _ _ _
  |exact LeO.none _
  |refine LeO.ite ?_ ?_
  |refine LeO.bind ?_ (fun _ => ?_)
set_option maxHeartbeats 8000000 in
set_option maxRecDepth 100000 in
theorem mark_List.calls (k : Nat) (a0 : Int) (r : List Int) (w : World) (h : mark_List.f k a0 = some r) :
  Calls Tryd.prog 51 #[.int .i64 a0] w fun e w' => ∃ v0_ : Value, e = .returned (v0_) ∧ Kd.R (Kd.int .i64) 3 w' w.heap.size (fun _ => True) v0_ r ∧ Below w.heap.size w w' := by
 have HB := aM (Below.refl w.heap.size w)
 have H : (mark_List.l0 k a0 ([] : List Int) 0) = some r := h
 clear h
 have H' := aM H
 clear H
 go_enter Tryd.func51, Tryd.ntmps51
 go_wp2
 go_loopg [3, 4] k (fun kq v3 v4 w' => ∃ (x3_1 : List Int) (x4_1 : Int), v4 = .int .i64 x4_1 ∧ Aside0 (mark_List.l0 kq a0 x3_1 x4_1 = some r) ∧ Aside0 (kq ≤ k) ∧ Aside0 (Kd.R (Kd.int .i64) 3 w' w.heap.size (fun _ => True) v3 x3_1) ∧ Aside0 (Below w.heap.size w w'))
 case atStart => exact ⟨(([] : List Int)), (0), (by first|rfl|(simp; done)|(simp [*]; done)), H', ⟨Nat.le_refl _⟩, ⟨by first|exact Kd.R_nil _ _ _ _ _|exact Kd.N_nil _ _ _ _ _|exact Kd.V_nil _ _ _ _ _|exact Kd.Q_nil _ _ _ _ _|exact Kd.S_nil _ _ _ _ _⟩, ⟨by repeat (first|(with_reducible first|exact HB.out|apply lA|apply lN|apply lD)|exact HB.out)⟩⟩
 case round =>
  clear H'
  obtain ⟨x3_1, x4_1, rfl, HA, HK1, HO_3, HB⟩ := hrel
  cases gk with
 |zero => exact absurd HA.out (by simp [mark_List.l0])
 |succ k1 =>
   have H := HA.out
   clear HA
   simp only [mark_List.l0] at H
   by_cases c2 : x4_1 < 3
   ·rw [if_pos c2] at H
    have c2b0 : decide (x4_1 < 3) = true := decide_eq_true c2
    clear c2
    replace H := ifS H; obtain ⟨c3, H⟩ := H
    have c3b0 := eq_true c3
    have c3b1 : decide (0 ≤ x4_1) = true := decide_eq_true c3
    clear c3
    obtain ⟨ji4, hji4⟩ : ∃ j_ : Int, (shl .i64 1 x4_1) = j_ := ⟨_, rfl⟩
    replace H : ((mark_Has.f k1 a0 (ji4)).bind fun t183 => (if t183 = true then (if x3_1.length < 17592186044416 then (mark_List.l0 k1 a0 (x3_1 ++ [ji4]) (wrap64 (x4_1 + 1))) else (none)) else (mark_List.l0 k1 a0 x3_1 (wrap64 (x4_1 + 1))))) = some r := by first|(rw [hji4] at H; exact H)|(simp only [hji4] at H ⊢; exact H)
    have hji4_ : (IntKind.i64.wrap (1 * 2 ^ min x4_1.toNat 64)) = ji4 := hji4
    have hji4z : x4_1 ≤ 64 → (IntKind.i64.wrap (1 * 2 ^ x4_1.toNat)) = ji4 := shl_small hji4
    have hji4u : (IntKind.i64.wrap (2 ^ min x4_1.toNat 64)) = ji4 := by have h_ := hji4_; rw [Int.one_mul] at h_; exact h_
    have hji4v : x4_1 ≤ 64 → (IntKind.i64.wrap (2 ^ x4_1.toNat)) = ji4 := fun hle_ => by have h_ := hji4z hle_; rw [Int.one_mul] at h_; exact h_
    have hji4y : (wrap64 (1 * 2 ^ min x4_1.toNat 64)) = ji4 := (i64_w _).symm.trans hji4_
    have hji4x : x4_1 ≤ 64 → (wrap64 (1 * 2 ^ x4_1.toNat)) = ji4 := fun h_ => (i64_w _).symm.trans (hji4z h_)
    replace H := Option.bind_eq_some_iff.mp H
    obtain ⟨t183, A50, H⟩ := H
    replace H : (if t183 = true then (if x3_1.length < 17592186044416 then (mark_List.l0 k1 a0 (x3_1 ++ [ji4]) (wrap64 (x4_1 + 1))) else (none)) else (mark_List.l0 k1 a0 x3_1 (wrap64 (x4_1 + 1)))) = some r := H
    have A5 := aM A50
    clear A50
    by_cases c6 : t183 = true
    ·subst c6
     have H1 : (if x3_1.length < 17592186044416 then (mark_List.l0 k1 a0 (x3_1 ++ [ji4]) (wrap64 (x4_1 + 1))) else (none)) = some r := by rw [if_pos rfl] at H; exact H
     clear H
     have H := H1
     clear H1
     have c7b0 := eq_true (of_decide_eq_true (by assumption) : 0 ≤ x4_1)
     replace H := ifS H; obtain ⟨c9, H⟩ := H
     have LMc9 := aM c9
     clear c9
     obtain ⟨y184, hy184⟩ : ∃ y_ : List Int, y_ = (x3_1 ++ [ji4]) := ⟨_, rfl⟩
     replace H : (mark_List.l0 k1 a0 y184 (wrap64 (x4_1 + 1))) = some r := by first|(rw [hy184]; with_reducible exact H)|(have H2_ := (Option.bind_some _ _).symm.trans H; rw [hy184]; with_reducible exact H2_)|(have H2_ := (Option.bind_some _ _).symm.trans H; with_reducible exact H2_)|with_reducible exact H|(rw [hy184]; exact H)|exact H
     have Ny184 := aM hy184
     clear hy184
     have H' := aM H
     clear H
     go_wp2_with (first|((with_reducible refine gate_callee (f := 57) rfl ?_); refine goesL_ (some 12) rfl rfl Tryd.func57 (by kernel_rfl) rfl #[.int .i64 a0, .int .i64 ji4] rfl (by (try simp only [List.map_toArray, List.map_cons, List.map_nil]); first|done|(simp only [hji4]; rfl)|rfl|(simp only [List.length_drop, List.length_take]; rfl)) ?_; (with_reducible refine (mark_Has.calls k1 a0 ji4 true _ A5.out).mono ?_); rintro e w' ⟨rfl, ⟨nd, rfl⟩⟩; refine ⟨_, rfl, ?_⟩)|((with_reducible refine gate_builtin (b := .append) (xs := #[.tmp 13, .tmp 16]) rfl ?_); at_builtin; refine Kd.R_append (Kd.int .i64) (w0 := w) w.heap.size rfl (.tmp 13) (.tmp 16) 50 3 (.int .i64 0) 8 rfl Tryd.underlying50 info3 rfl (by decide) (by omega) u3 x3_1 ji4 [.int .i64 ji4] (fun _ => True) (fun _ => False) rfl rfl ?aP (fun _ hk => hk.elim) ?aF ?aO ?aB ?aS ?aL ?_; (case aP => exact rfl); (case aB => exact (by repeat (first|(with_reducible first|exact HB.out|apply lA|apply lN|apply lD)|exact HB.out))); (case aF => exact (fun _ _ => trivial)); (case aO => exact (by (with_reducible repeat (first|apply Kd.R_alloc|apply Kd.R_drewN|apply Kd.R_drew)); exact HO_3.out)); (case aS => exact (below_size (by repeat (first|(with_reducible first|exact HB.out|apply lA|apply lN|apply lD)|exact HB.out)))); (case aL => have := LMc9.out; omega); intro v185 w10 ho hb hg hat; rw [← Ny184.out] at ho; have n0_ := aM (hb); have n1_ := aM (ho); clear HB; clear HO_3; have HB := n0_; have HO186 := n1_; clear n0_ n1_; clear ho hb hg hat))
     go_roundg k1
     case measure => have := HK1.out; omega
     case rel => exact ⟨(y184), (wrap64 (x4_1 + 1)), (by first|rfl|(simp; done)|(simp [*]; done)), H', ⟨by have := HK1.out; omega⟩, ⟨by (with_reducible repeat (first|apply Kd.R_alloc|apply Kd.R_drewN|apply Kd.R_drew)); exact HO186.out⟩, ⟨by repeat (first|(with_reducible first|exact HB.out|apply lA|apply lN|apply lD)|exact HB.out)⟩⟩
    ·replace c6 := Bool.eq_false_iff.mpr c6
     subst c6
     have H1 : (mark_List.l0 k1 a0 x3_1 (wrap64 (x4_1 + 1))) = some r := by rw [if_neg (show ¬ (false = true) by decide)] at H; exact H
     clear H
     have H := H1
     clear H1
     have H' := aM H
     clear H
     go_wp2_with (first|((with_reducible refine gate_callee (f := 57) rfl ?_); refine goesL_ (some 12) rfl rfl Tryd.func57 (by kernel_rfl) rfl #[.int .i64 a0, .int .i64 ji4] rfl (by (try simp only [List.map_toArray, List.map_cons, List.map_nil]); first|done|(simp only [hji4]; rfl)|rfl|(simp only [List.length_drop, List.length_take]; rfl)) ?_; (with_reducible refine (mark_Has.calls k1 a0 ji4 false _ A5.out).mono ?_); rintro e w' ⟨rfl, ⟨nd, rfl⟩⟩; refine ⟨_, rfl, ?_⟩))
     go_roundg k1
     case measure => have := HK1.out; omega
     case rel => exact ⟨(x3_1), (wrap64 (x4_1 + 1)), (by first|rfl|(simp; done)|(simp [*]; done)), H', ⟨by have := HK1.out; omega⟩, ⟨by (with_reducible repeat (first|apply Kd.R_alloc|apply Kd.R_drewN|apply Kd.R_drew)); exact HO_3.out⟩, ⟨by repeat (first|(with_reducible first|exact HB.out|apply lA|apply lN|apply lD)|exact HB.out)⟩⟩
   ·rw [if_neg c2] at H
    have c2b0 : decide (x4_1 < 3) = false := decide_eq_false c2
    clear c2
    obtain rfl := Option.some.inj H
    go_wp2
    go_ret
    exact ⟨_, by first|rfl|(simp [errW_none, errW_some] <;> rfl)|(simp [*, errW_none, errW_some] <;> rfl), by (with_reducible repeat (first|apply Kd.R_alloc|apply Kd.R_drewN|apply Kd.R_drew)); exact HO_3.out, by repeat (first|(with_reducible first|exact HB.out|apply lA|apply lN|apply lD)|exact HB.out)⟩
end Go.Proofs.YtfcfomconcoimaaDoor.PFa
