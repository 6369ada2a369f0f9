-- Written for this claim by a program (the kit's print, with hand-made contracts for what it does not take).
import Derived.Test.YtfcfomconcoimaaDoorPFax0
import Derived.Test.YtfcfomconcoimaaDoorPFax3
import Derived.Test.YtfcfomconcoimaaDoorPFax4
import Derived.Test.YtfcfomconcoimaaDoorPFax5
import Derived.Test.YtfcfomconcoimaaDoorPFax7
namespace Go.Proofs.YtfcfomconcoimaaDoor.PFa
open Go.RowKit Go.Proofs.YtfcfomconcoimaaDoorW.PrintWords Go.Proofs.YtfcfomconcoimaaDoorW.PrintLast Go.Proofs.YtfcfomconcoimaaDoorW.PrintMore
attribute [local go_sem] max2_int min2_int max_two min_two max_three min_three max_four min_four   -- for this text's walks alone
set_option linter.unusedVariables false
set_option linter.unusedSimpArgs false

/-! ### find_Find: function 8 -/
/-! ### All places of a text -/
theorem find_Find.run_store_func {P : Program} {w : World} (a : Addr) (m : Mode) (f : Fn) (xs ys : Array Value) : (store a (.func f xs ys) m).run P w = stored P w a (.func f xs ys) m := run_store P w a _ m rfl
def find_Find.at_ (text : List Int) (fold whole : Bool) (a : Int) (p : List Int) : Nat → Int → List S28
  | 0, _ => []
  | f + 1, i => if i < (p.length : Int) then (if find_fits.f text p fold whole i = true then ⟨a + i, a + i + (text.length : Int)⟩ :: find_Find.at_ text fold whole a p f (i + (text.length : Int)) else find_Find.at_ text fold whole a p f (i + 1)) else []
def find_Find.hits (text : List Int) (fold whole : Bool) (x : Int × List Int) : List S28 := find_Find.at_ text fold whole x.1 x.2 (x.2.length + 1) 0
def find_Find.all (text : List Int) (fold whole : Bool) (rs : List (Int × List Int)) : List S28 := rs.flatMap (find_Find.hits text fold whole)
def find_Find.f (l : List S48) (s : ByteArray) (fold whole : Bool) : Option (List S28 × Int) :=
  (flat_Check.f l).bind fun c => if c.2 = 0 then (find_points.f s).bind fun p => if p.2 = 0 then (if p.1.length = 0 then some ([], 4) else if l.length ≤ 1000000 then some (find_Find.all p.1 fold whole (find_runs.f l), 0) else none) else some ([], p.2) else some ([], c.2)
theorem find_Find.at_len (text : List Int) (ht : 0 < text.length) (fold whole : Bool) (a : Int) (p : List Int) : ∀ (f : Nat) (i : Int), 0 ≤ i → ((find_Find.at_ text fold whole a p f i).length : Int) ≤ (if i ≤ (p.length : Int) then (p.length : Int) - i else 0)
  | 0, i, h => by rw [find_Find.at_]; simp only [List.length_nil]; split <;> omega
  | f + 1, i, h => by
    rw [find_Find.at_]
    by_cases c : i < (p.length : Int)
    · rw [if_pos c]
      by_cases k : find_fits.f text p fold whole i = true
      · rw [if_pos k]
        have := find_Find.at_len text ht fold whole a p f (i + (text.length : Int)) (by omega)
        simp only [List.length_cons]
        split at this <;> split <;> omega
      · rw [if_neg k]
        have := find_Find.at_len text ht fold whole a p f (i + 1) (by omega)
        split at this <;> split <;> omega
    · rw [if_neg c]
      simp only [List.length_nil]
      split <;> omega
theorem find_Find.all_len (text : List Int) (ht : 0 < text.length) (fold whole : Bool) (rs : List (Int × List Int)) : (find_Find.all text fold whole rs).length ≤ find_runs.sum rs := by
  induction rs with
  | nil => exact Nat.zero_le _
  | cons x rs ih =>
    have h := find_Find.at_len text ht fold whole x.1 x.2 (x.2.length + 1) 0 (Int.le_refl 0)
    rw [if_pos (by omega)] at h
    unfold find_Find.all find_runs.sum at *
    rw [List.flatMap_cons, List.length_append, List.map_cons, List.sum_cons]
    unfold find_Find.hits at *
    omega
theorem find_Find.all_snoc (text : List Int) (fold whole : Bool) (rs : List (Int × List Int)) (x : Int × List Int) : find_Find.all text fold whole (rs ++ [x]) = find_Find.all text fold whole rs ++ find_Find.hits text fold whole x := by
  unfold find_Find.all
  rw [List.flatMap_append]
  simp
/-- The loop's record, the calls put off, what was found. -/
structure find_Find.B (rc : LoopState → Loop) (L D ob wb : Nat) (w5 : World) (st : LoopState) (d : List S28) (W : World) : Prop where
  rec_ : W.heap[L]? = some (.loop (rc st))
  dfr : W.heap[D]? = some (.deferred (some []))
  out : ∃ v, W.heap[ob]? = some (.cells #[v] 24 (0, 0)) ∧ Kd.R k28 28 W wb (fun _ => True) v d
  below : Below w5.heap.size w5 W
theorem find_Find.R_same {W W' : World} {wb : Nat} {v : Value} {d : List S28} (h : Kd.R k28 28 W wb (fun _ => True) v d) (hs : ∀ (k : Nat) (cs : Array Value), W.heap[k]? = some (.cells cs 28 (0, 0)) → W'.heap[k]? = some (.cells cs 28 (0, 0))) : Kd.R k28 28 W' wb (fun _ => True) v d := by
  refine Kd.R_mono (Kd.R_move (Kd.R_bound h) (fun j hj => ?_)) (fun _ h => h.1)
  obtain ⟨_, _, _, q, hq, cs, hc⟩ := hj
  have hq : q ∈ ([28] : List Nat) := hq
  obtain rfl := List.mem_singleton.1 hq
  rw [hc]
  exact hs _ _ hc
theorem find_Find.B.it {rc : LoopState → Loop} {L D ob wb : Nat} {w5 : World} {st : LoopState} {d : List S28} {A A' : World} {B : Nat} (h : find_Find.B rc L D ob wb w5 st d A) (hB : w5.heap.size ≤ B) (k : FindIt B A A') : find_Find.B rc L D ob wb w5 st d A' := by
  obtain ⟨v, h1, h2⟩ := h.out
  exact ⟨k.same _ _ h.rec_ (fun _ _ _ e => by cases e), k.same _ _ h.dfr (fun _ _ _ e => by cases e), ⟨v, k.same _ _ h1 (fun _ _ _ e => by cases e; exact ⟨by decide, by decide⟩), find_Find.R_same h2 (fun j cs hj => k.same j _ hj (fun _ _ _ e => by cases e; exact ⟨by decide, by decide⟩))⟩, h.below.trans (k.below.mono hB)⟩
theorem find_Find.B.bel {rc : LoopState → Loop} {L D ob wb : Nat} {w5 : World} {st : LoopState} {d : List S28} {A A' : World} (h : find_Find.B rc L D ob wb w5 st d A) (k : Below A.heap.size A A') : find_Find.B rc L D ob wb w5 st d A' := by
  obtain ⟨v, h1, h2⟩ := h.out
  exact ⟨blk_below h.rec_ k, blk_below h.dfr k, ⟨v, blk_below h1 k, Kd.R_below h2 k⟩, below_step h.below k⟩
theorem find_Find.cells_put {W : World} {L k : Nat} {r : Loop} {o' : Obj} {cs : Array Value} {t : TypeId} {fr : Nat × Nat} (hL : W.heap[L]? = some (.loop r)) (hk : W.heap[k]? = some (.cells cs t fr)) : (W.putObj L o').heap[k]? = some (.cells cs t fr) := by
  rw [World.putObj_heap_other (fun e => by subst e; rw [hL] at hk; cases hk)]
  exact hk
theorem find_Find.below_put {w W : World} {L : Nat} {r : Loop} {o' : Obj} (h : Below w.heap.size w W) (hL : W.heap[L]? = some (.loop r)) (hl : w.heap.size ≤ L) : Below w.heap.size w (W.putObj L o') :=
  h.grown (grownBy_putObj' W L o') h.size (fun k e => by cases e; exact hl)
theorem find_Find.B.put {rc : LoopState → Loop} {L D ob wb : Nat} {w5 : World} {st : LoopState} {d : List S28} {A : World} (h : find_Find.B rc L D ob wb w5 st d A) (hD : D ≠ L) (hl : w5.heap.size ≤ L) (st' : LoopState) : find_Find.B rc L D ob wb w5 st' d (A.putObj L (.loop (rc st'))) := by
  obtain ⟨v, h1, h2⟩ := h.out
  exact ⟨World.putObj_heap_same (Array.getElem?_eq_some_iff.1 h.rec_).1, (World.putObj_heap_other hD).trans h.dfr, ⟨v, find_Find.cells_put h.rec_ h1, find_Find.R_same h2 (fun j cs hj => find_Find.cells_put h.rec_ hj)⟩, find_Find.below_put h.below h.rec_ hl⟩
theorem FindCon.refl (A : World) : FindCon A A := ⟨Nat.le_refl _, fun _ _ h => h⟩
theorem FindCon.trans {a b c : World} (h : FindCon a b) (k : FindCon b c) : FindCon a c := ⟨Nat.le_trans h.size k.size, fun j cs hj => k.same j cs (h.same j cs hj)⟩
theorem FindCon.bel {A A' : World} (h : Below A.heap.size A A') : FindCon A A' := ⟨h.size, fun _ _ hj => blk_below hj h⟩
theorem FindCon.put {A : World} {L : Nat} {r : Loop} (hL : A.heap[L]? = some (.loop r)) (o' : Obj) : FindCon A (A.putObj L o') := ⟨(grownBy_putObj' A L o').size, fun _ _ hj => find_Find.cells_put hL hj⟩
theorem FindCon.set {A : World} {g : Nat} {cs : Array Value} {t : TypeId} (hg : A.heap[g]? = some (.cells cs t (0, 0))) (ht : t ≠ 61) (j : Nat) (u : Value) : FindCon A (A.setCell ⟨g, j, none⟩ u) := ⟨by simp, fun k cs' hk => blk_far hk (blk_ne hk hg (Ne.symm ht)) u⟩
theorem FindCon.grown {A A' : World} {wb : Nat} {v : Value} {d : List S28} (h : Kd.R k28 28 A wb (fun _ => True) v d) (hg : A.grownBy A' v.ownBlock) : FindCon A A' := ⟨hg.size, fun k cs hk => blk_grown hk hg (Kd.R_ne h hk (by decide))⟩
theorem find_Find.gate_in {F : Fence} {n : Nat} {P : Program} {ops : Array Oper} {rest : List Oper} {o : Oper} {a : Act} {Q : Exit → Act → World → Prop} {W : World} {N : Tmp} (_hN : o.dst = some N) (h : wpListIn F n P ops Q (o :: rest) a W) : wpListIn F n P ops Q (o :: rest) a W := h
/-- append in a round. -/
theorem find_Find.append_in {α : Type} (d : Kd α) {F : Fence} {n : Nat} {P : Program} {ops : Array Oper} {rest : List Oper} {o : Oper} {a : Act} {Q : Exit → Act → World → Prop} {w0 W : World} (base : Nat) (hgd : o.guard = none) (s x : Operand) (t e : TypeId) (z : Value) (bytes : Nat)
    (ho : o.op = .call { callee := .builtin .append, args := #[s, x], argTypes := #[t, t] })
    (ht : P.underlying t = some (.slice e)) (hinfo : (P.info? e).map (fun i => (i.zero, i.size, i.bytes)) = some (some z, d.sz, bytes)) (hz : z.cells.size = d.sz) (hs0 : 0 < d.sz) (hb0 : 0 < bytes)
    (v : Value) (xs : List α) (p : α) (cs : List Value) (ok okp : Nat → Prop) (hs : a.eval s = v) (hx : a.eval x = .slice (some ⟨W.heap.size, 0, none⟩) 1 1) (hp : d.M W base okp p cs) (hokp : ∀ k, okp k → ok k ∧ some k ≠ v.ownBlock) (hfresh : ∀ k, W.heap.size ≤ k → ok k)
    (HO : d.R e W base ok v xs) (HB : Below base w0 W) (hbase : base ≤ W.heap.size) (hl : (xs.length + 1) * bytes ≤ 140737488355328)
    (h : ∀ v1 w1, d.R e w1 base ok v1 (xs ++ [p]) → Below base w0 w1 → W.grownBy w1 v.ownBlock → (v1.ownBlock = v.ownBlock ∨ ∃ b, v1.ownBlock = some b ∧ W.heap.size ≤ b) → wpListIn F n P ops Q rest (a.put o.dst v1) w1) :
    wpListIn F n P ops Q (o :: rest) a (W.alloc (.cells cs.toArray e)) := by
  obtain ⟨h0, inner, hown, hr⟩ := HO
  obtain ⟨i0, hi, hzz⟩ := Option.map_eq_some_iff.1 hinfo
  simp only [Prod.mk.injEq] at hzz
  obtain ⟨hz0, hz1, hz2⟩ := hzz
  have hlen : xs.length + 1 ≤ 140737488355328 := Nat.le_trans (Nat.le_mul_of_pos_right _ hb0) hl
  have hcs : cs.length = d.sz := d.K_len (d.K_of_M hp)
  obtain ⟨v1, w1, hrun, hown1, hg, _, hat⟩ := run_append_own_at (P := P) (W.alloc (.cells cs.toArray e)) base t o.type e i0 z d.sz bytes ht hi hz0 hz1 hz2 hz hs0 v xs.length inner (hown.alloc _) ⟨W.heap.size, 0, none⟩ 1 1 cs (by rw [hcs]; simp)
    (by simpa using World.news_of_block (cs := cs.toArray) (t := e) (fr := (0, 0)) (heap_alloc_new W (.cells cs.toArray e))) (d.K_one (d.K_of_M hp)) (by simp only [maxLen]; omega) hl (by simp; omega)
  have hat' : v1.ownBlock = v.ownBlock ∨ ∃ b, v1.ownBlock = some b ∧ W.heap.size ≤ b := by
    rcases hat with hat | hat
    · exact .inl hat
    · exact .inr ⟨_, hat, by simp⟩
  have hg1 : W.grownBy w1 v.ownBlock := World.grownBy.trans (World.grownBy_alloc W _ _) hg
  refine wpListIn_plain hgd fun K hK' => ?_
  refine ⟨?_, ?_⟩
  · simp [Oper.about, ho, resolve, Target.leads, Sem.run_pure]
  · rw [Oper.semAt_plain F _ _ (by rw [ho]; intro c hc'; cases hc')]
    simp [execOp, ho, resolve, invoke, builtin, hs, hx, hrun, Result.andThen]
    exact hK' _ _ (h v1 w1 (Kd.R_appended h0 hr hp hokp hfresh hown1 hg1 hat') ((HB.alloc hbase _).grown hg (by simp; omega) (own_base hown)) hg1 hat')
theorem find_Find.res {tmps : Array Value} {W : World} {v e : Value} (p2 : tmps.getD 8 undef = v) (p3 : tmps.getD 9 undef = e) : (results Tryd.f8 tmps).run Tryd.prog W = .ok (.tuple #[v, e]) W := by
  have h1 : tmps[8]?.getD undef = v := by simpa using p2
  have h2 : tmps[9]?.getD undef = e := by simpa using p3
  have hr : Tryd.f8.results = #[.tmp 8, .tmp 9] := rfl
  simp [results, hr, h1, h2, go_sem]
set_option maxRecDepth 100000 in
theorem find_runs.calls (A : Option Addr) (n c : Nat) (w : World) : Calls Tryd.prog 19 #[.slice A n c] w fun e w' => e = .returned (.func (.func 36) #[] #[.pointer (some ⟨w.heap.size, 0, none⟩)]) ∧ w' = w.alloc (.cells #[.slice A n c] 22) := by
  go_enter Tryd.func19, Tryd.ntmps19
  go_wp2
  go_ret
  exact ⟨rfl, rfl⟩
/-- The loop over the runs: what a round owes. -/
theorem find_Find.range {assign body : Code} {Q : Exit → Act → World → Prop} {a : Act} (text : List Int) (fold whole : Bool) (A0 : Option Addr) (c0 : Nat) (l0 : List S48) (lb ob wb : Nat) (w5 w7 : World) (hg : a.eval (.tmp 44) = .func (.func 36) #[] #[.pointer (some ⟨lb, 0, none⟩)])
    (hlb : w7.heap[lb]? = some (.cells #[.slice A0 l0.length c0] 22 (0, 0))) (hob : w7.heap[ob]? = some (.cells #[.slice none 0 0] 24 (0, 0))) (hb : Below w5.heap.size w5 w7) (hr : Kd.C k48 w5 A0 l0.length l0) (hl : l0.length ≤ 1000000)
    (hround : ∀ (fn B8 : Nat) (pre : List (Int × List Int)) (x : Int × List Int) (v : Value) (W1 : World), w7.heap.size ≤ B8 → find_Find.B (FindRec fn a.tmps #[45] assign body w7.heap.size) (w7.heap.size + 1) w7.heap.size ob wb w5 .ready (find_Find.all text fold whole pre) W1 → Kd.R (Kd.int .i64) 3 W1 B8 (fun _ => True) v x.2 → 0 ≤ x.1 → x.1 + (x.2.length : Int) ≤ (l0.length : Int) → 0 < x.2.length → find_runs.sum pre + x.2.length ≤ l0.length →
      assign.wpIn (Fence.wide.inRound (w7.heap.size + 1)) 1 Tryd.prog (Exit.then (fun a₁ w₁ => w₁.heap[w7.heap.size + 1]? = some (.loop (FindRec fn a.tmps #[45] assign body w7.heap.size .ready)) ∧
        body.wpIn (Fence.wide.inRound (w7.heap.size + 1)) 1 Tryd.prog (fun e _ w₂ => e = .normal ∧ w₂.heap[w7.heap.size + 1]? = some (.loop (FindRec fn a.tmps #[45] assign body w7.heap.size .busy)) ∧
          (find_Find.B (FindRec fn a.tmps #[45] assign body w7.heap.size) (w7.heap.size + 1) w7.heap.size ob wb w5 .ready (find_Find.all text fold whole (pre ++ [x])) (w₂.putObj (w7.heap.size + 1) (.loop (FindRec fn a.tmps #[45] assign body w7.heap.size .ready))) ∧ FindCon W1 (w₂.putObj (w7.heap.size + 1) (.loop (FindRec fn a.tmps #[45] assign body w7.heap.size .ready)))))
          a₁ (w₁.putObj (w7.heap.size + 1) (.loop (FindRec fn a.tmps #[45] assign body w7.heap.size .busy)))) (fun _ _ _ => False))
        { tmps := (#[45].zip #[Value.agg #[.int .i64 x.1, v]]).foldl (fun t (p, v) => t.setIfInBounds p v) a.tmps, defers := [] } W1)
    (hdone : ∀ (fn : Nat) (W2 : World) (o' : Obj), find_Find.B (FindRec fn a.tmps #[45] assign body w7.heap.size) (w7.heap.size + 1) w7.heap.size ob wb w5 .ready (find_Find.all text fold whole (find_runs.f l0)) W2 → Q .normal { a with defers := { target := .collected w7.heap.size, args := #[] } :: a.defers } (W2.putObj (w7.heap.size + 1) o')) :
    (Code.rangeFunc (.tmp 44) #[45] assign body).wp Tryd.prog Q a w7 := by
  refine (wpIn_wide (n := 3)).1 (FindRange.rule (gf := 36) (lb := #[.pointer (some ⟨lb, 0, none⟩)]) (by omega) hg (enters_of Tryd.func36 (by kernel_rfl) rfl) (fun fn => ?_))
  obtain ⟨W8, hW8⟩ : ∃ W8, (w7.alloc (.deferred (some []))).alloc (.loop (FindRec fn a.tmps #[45] assign body w7.heap.size .ready)) = W8 := ⟨_, rfl⟩
  have h8 : Below w7.heap.size w7 W8 := by rw [← hW8]; exact below_alloc (below_alloc (Below.refl _ _) _) _
  have hrec : W8.heap[w7.heap.size + 1]? = some (.loop (FindRec fn a.tmps #[45] assign body w7.heap.size .ready)) := by
    rw [← hW8]; have := blk_new (w7.alloc (.deferred (some []))) (.loop (FindRec fn a.tmps #[45] assign body w7.heap.size .ready)); rwa [World.size_alloc] at this
  have hdf : W8.heap[w7.heap.size]? = some (.deferred (some [])) := by rw [← hW8]; exact blk_alloc (blk_new _ _) _
  have hlb8 := blk_below hlb h8
  rw [hW8]
  refine (find_runs.it 1 (w7.heap.size + 1) lb A0 c0 l0 w5 W8 hr ((blk_cell hlb8 0).trans rfl) hl (fun pre W => find_Find.B (FindRec fn a.tmps #[45] assign body w7.heap.size) (w7.heap.size + 1) w7.heap.size ob wb w5 .ready (find_Find.all text fold whole pre) W)
    (fun pre A A' h k => h.it (Nat.le_trans hb.size h8.size) k) (fun pre A h => h.below) (fun pre a' p v W1 hB hR g0 g1 g2 g3 => FindRange.yield hB.rec_ rfl (hround fn _ pre (a', p) v W1 h8.size hB hR g0 g1 g2 g3))
    ⟨hrec, hdf, ⟨_, blk_below hob h8, Kd.R_nil _ _ _ _ _⟩, below_step hb h8⟩).mono ?_
  rintro e W2 ⟨hv, hB⟩
  exact ⟨hv, hB.rec_, fun o' => hdone fn W2 o' hB⟩
theorem find_Find.R_put {α : Type} {dd : Kd α} {e base L : Nat} {W : World} {v : Value} {xs : List α} {r : Loop} (h : Kd.R dd e W base (fun _ => True) v xs) (hL : W.heap[L]? = some (.loop r)) (o' : Obj) : Kd.R dd e (W.putObj L o') base (fun _ => True) v xs := by
  refine Kd.R_mono (Kd.R_grown (Kd.R_bound h) (grownBy_putObj' W L o') (fun k hk e => ?_)) (fun _ _ => trivial)
  obtain ⟨_, _, _, q, _, cells, hc⟩ := hk
  injection e with e
  subst e
  rw [hL] at hc
  cases hc
theorem find_Find.R_putD {α : Type} {dd : Kd α} {e base L : Nat} {W : World} {v : Value} {xs : List α} {r : Option (List Deferred)} (h : Kd.R dd e W base (fun _ => True) v xs) (hL : W.heap[L]? = some (.deferred r)) (o' : Obj) : Kd.R dd e (W.putObj L o') base (fun _ => True) v xs := by
  refine Kd.R_mono (Kd.R_grown (Kd.R_bound h) (grownBy_putObj' W L o') (fun k hk e => ?_)) (fun _ _ => trivial)
  obtain ⟨_, _, _, q, _, cells, hc⟩ := hk
  injection e with e
  subst e
  rw [hL] at hc
  cases hc
/-- What is known at a round's own loop. -/
structure find_Find.K (rc : LoopState → Loop) (L D ob wb rb B8 : Nat) (w5 W1 : World) (p q : List Int) (fold whole : Bool) (a : Int) (vq : Value) (done : List S28) (i : Int) (f : Nat) (d : List S28) (wr : World) : Prop where
  b : find_Find.B rc L D ob wb w5 .busy (done ++ d) wr
  run : wr.heap[rb]? = some (.cells #[.int .i64 a, vq] 61 (0, 0))
  row : Kd.R (Kd.int .i64) 3 wr B8 (fun _ => True) vq q
  con : FindCon W1 wr
  rest : find_Find.hits p fold whole (a, q) = d ++ find_Find.at_ p fold whole a q f i
  lo : 0 ≤ i
  hi : i ≤ (q.length : Int)
  fuel : (q.length : Int) < i + f
theorem find_Find.K.bel {rc : LoopState → Loop} {L D ob wb rb B8 : Nat} {w5 W1 : World} {p q : List Int} {fold whole : Bool} {a : Int} {vq : Value} {done : List S28} {i : Int} {f : Nat} {d : List S28} {wr w8 : World} (h : find_Find.K rc L D ob wb rb B8 w5 W1 p q fold whole a vq done i f d wr) (k : Below wr.heap.size wr w8) : find_Find.K rc L D ob wb rb B8 w5 W1 p q fold whole a vq done i f d w8 :=
  ⟨h.b.bel k, blk_below h.run k, Kd.R_below h.row k, h.con.trans (FindCon.bel k), h.rest, h.lo, h.hi, h.fuel⟩
theorem find_Find.K.push {rc : LoopState → Loop} {L D ob wb rb B8 : Nat} {w5 W1 : World} {p q : List Int} {fold whole : Bool} {a : Int} {vq : Value} {done : List S28} {i : Int} {f : Nat} {d : List S28} {w8 w9 : World} (h : find_Find.K rc L D ob wb rb B8 w5 W1 p q fold whole a vq done i f d w8) {v v1 : Value} {x : S28} (ho : w8.heap[ob]? = some (.cells #[v] 24 (0, 0))) (hr : Kd.R k28 28 w8 wb (fun _ => True) v (done ++ d)) (hob : w5.heap.size ≤ ob)
    (hr1 : Kd.R k28 28 w9 wb (fun _ => True) v1 (done ++ d ++ [x])) (hg : w8.grownBy w9 v.ownBlock) (hwb : ∀ k, v.ownBlock = some k → w5.heap.size ≤ k) {i' : Int} {f' : Nat} (hrest : find_Find.at_ p fold whole a q f i = x :: find_Find.at_ p fold whole a q f' i') (hi0 : 0 ≤ i') (hi1 : i' ≤ (q.length : Int)) (hf : (q.length : Int) < i' + f') :
    find_Find.K rc L D ob wb rb B8 w5 W1 p q fold whole a vq done i' f' (d ++ [x]) (w9.setCell ⟨ob, 0, none⟩ v1) := by
  have ho9 : w9.heap[ob]? = some (.cells #[v] 24 (0, 0)) := blk_grown ho hg (Kd.R_ne hr ho (by decide))
  have keep : ∀ (k : Nat) (o : Obj), w8.heap[k]? = some o → (∀ cs, o ≠ .cells cs 28 (0, 0)) → k ≠ ob → (w9.setCell ⟨ob, 0, none⟩ v1).heap[k]? = some o := fun k o hk hn hne => (Below.heap_setCell w9 ⟨ob, 0, none⟩ v1 k hne).trans (blk_grown hk hg (fun e => by
    obtain ⟨cs, hc⟩ := Kd.R_typed hr k e.symm
    rw [hk] at hc
    exact hn cs (Option.some.inj hc)))
  refine ⟨⟨keep _ _ h.b.rec_ (fun _ e => by cases e) (fun e => by have := h.b.rec_; rw [e, ho] at this; cases this), keep _ _ h.b.dfr (fun _ e => by cases e) (fun e => by have := h.b.dfr; rw [e, ho] at this; cases this), ⟨v1, blk_put ho9 0 v1 rfl, ?_⟩, ?_⟩, ?_, ?_, ?_, ?_, hi0, hi1, hf⟩
  · rw [← List.append_assoc]
    exact Kd.R_set hr1 ho9 (show ∀ q : Nat, q ∈ ([28] : List Nat) → q ≠ 24 by decide) 0 v1
  · exact (h.b.below.grown hg h.b.below.size hwb).setCell (p := ⟨ob, 0, none⟩) hob v1
  · exact keep _ _ h.run (fun _ e => by cases e) (fun e => by have := h.run; rw [e, ho] at this; cases this)
  · exact Kd.R_set (Kd.R_mono (Kd.R_grown (Kd.R_bound h.row) hg (fun k hk e => by
      obtain ⟨_, _, _, t, ht, cs, hc⟩ := hk
      have ht : t ∈ ([3] : List Nat) := ht
      obtain rfl := List.mem_singleton.1 ht
      exact Kd.R_ne hr hc (by decide) e)) (fun _ h => h.1)) ho9 (show ∀ q : Nat, q ∈ ([3] : List Nat) → q ≠ 24 by decide) 0 v1
  · exact (h.con.trans (FindCon.grown hr hg)).trans (FindCon.set ho9 (by decide) 0 v1)
  · rw [h.rest, hrest, List.append_assoc]
    rfl
section
attribute [local go_sem] find_Find.run_store_func Oper.semAt_some
set_option maxHeartbeats 16000000 in
set_option maxRecDepth 100000 in
theorem find_Find.calls (A0 : Option Addr) (c0 : Nat) (l0 : List S48) (a1 : ByteArray) (a2 a3 : Bool) (r1 : List S28) (r2 : Int) (w : World) (hr0 : Kd.C k48 w A0 l0.length l0) (hc0 : l0.length ≤ c0) (h : find_Find.f l0 a1 a2 a3 = some (r1, r2)) (hT_ : Lib.Utf8Tabs 0 1 w := by first | exact u8_below HU8_.out (by repeat (first | (with_reducible first | exact HB.out | apply below_alloc | apply pw_below_drewN | apply below_drew1) | exact HB.out)) | exact u8_below HT_.out (by repeat (first | (with_reducible first | exact HB.out | apply below_alloc | apply pw_below_drewN | apply below_drew1) | exact HB.out))) :
    Calls Tryd.prog 8 #[.slice A0 l0.length c0, .string a1, .bool a2, .bool a3] w fun e w' => ∃ v0_ : Value, e = .returned (.tuple #[v0_, .int .i64 r2]) ∧ Kd.R k28 28 w' w.heap.size (fun _ => True) v0_ r1 ∧ Below w.heap.size w w' := by
  have hu56 := Tryd.underlying56
  have hu61 := Tryd.underlying61
  have hu50 := Tryd.underlying50
  unfold find_Find.f at h
  obtain ⟨⟨q1, q2⟩, hq, h⟩ := Option.bind_eq_some_iff.1 h
  dsimp only at h
  have HR := Aside0.mk hr0
  have HC := Aside0.mk hc0
  have HQ := Aside0.mk hq
  have HT := Aside0.mk hT_
  have H := Aside0.mk h
  clear hr0 hc0 hq hT_ h
  refine (callsIn_wide (n := 3)).1 ?_
  refine callsIn_of_wp_marks Tryd.func8 rfl trivial ?_ rfl
  simp only [Tryd.ntmps8, List.size_toArray, List.length_cons, List.length_nil, Nat.reduceAdd, Nat.reduceSub, Array.replicate_succ, Array.replicate_zero, List.push_toArray, List.append_toArray, List.nil_append, List.cons_append]
  refine wpIn_wide.2 ?_
  go_wp2_with fail
  refine (flat_Check.calls A0 c0 l0 q1 q2 _ HR.out HC.out HQ.out).mono ?_
  rintro e w1 ⟨rfl, hb⟩
  have HB1 := Aside0.mk hb
  clear hb
  by_cases d1 : q2 = 0
  case neg =>
    have d1b : (q2 != 0) = true := bne_iff_ne.mpr d1
    have h := H.out
    rw [if_neg d1] at h
    obtain ⟨rfl, rfl⟩ := Prod.mk.inj (Option.some.inj h)
    clear h d1 H
    go_wp2
    exact ⟨_, find_Find.res rfl rfl, ⟨_, rfl, Kd.R_nil _ _ _ _ _, HB1.out⟩⟩
  have d1b : (q2 != 0) = false := bne_eq_false_iff_eq.mpr d1
  have h := H.out
  rw [if_pos d1] at h
  obtain ⟨⟨p, e2⟩, hp, h⟩ := Option.bind_eq_some_iff.1 h
  dsimp only at h
  have HP := Aside0.mk hp
  have H := Aside0.mk h
  have HT1 := Aside0.mk (u8_below HT.out HB1.out)
  clear h hp d1
  go_wp2_with fail
  refine (find_points.calls a1 p e2 _ HP.out HT1.out).mono ?_
  rintro e w2 ⟨v2, rfl, ho, hb⟩
  have HB2 := Aside0.mk (below_step HB1.out hb)
  obtain ⟨Ap, cp, hv⟩ := Kd.R_slice ho
  subst hv
  have PC := Aside0.mk (Kd.R_reads' ho).2.2
  have PL := Aside0.mk (find_points.len HP.out)
  clear ho hb
  go_upto_region 5 with (fail)
  have PB3 := Aside0.mk (blk_new w2 (.cells #[.slice Ap p.length cp] 50))
  have HB3 := Aside0.mk (below_alloc HB2.out (.cells #[.slice Ap p.length cp] 50))
  have PC3 := Aside0.mk (Kd.C_alloc PC.out (.cells #[.slice Ap p.length cp] 50))
  clear HB2 PC
  generalize w2.alloc (.cells #[.slice Ap p.length cp] 50) = w3 at *
  generalize w2.heap.size = pb at *
  by_cases d2 : e2 = 0
  case neg =>
    have d2b : (e2 != 0) = true := bne_iff_ne.mpr d2
    have h := H.out
    rw [if_neg d2] at h
    obtain ⟨rfl, rfl⟩ := Prod.mk.inj (Option.some.inj h)
    clear h d2 H
    go_wp2
    exact ⟨_, find_Find.res rfl rfl, ⟨_, rfl, Kd.R_nil _ _ _ _ _, HB3.out⟩⟩
  have d2b : (e2 != 0) = false := bne_eq_false_iff_eq.mpr d2
  have h := H.out
  rw [if_pos d2] at h
  have pb0 : w3.cell? ⟨pb, 0, none⟩ = some (.slice Ap p.length cp) := (blk_cell PB3.out 0).trans rfl
  by_cases d3 : p.length = 0
  · have d3b : ((p.length : Int) == 0) = true := beq_iff_eq.mpr (by omega)
    rw [if_pos d3] at h
    obtain ⟨rfl, rfl⟩ := Prod.mk.inj (Option.some.inj h)
    clear h d2 d3 H
    go_wp2
    exact ⟨_, find_Find.res rfl rfl, ⟨_, rfl, Kd.R_nil _ _ _ _ _, HB3.out⟩⟩
  have d3b : ((p.length : Int) == 0) = false := beq_eq_false_iff_ne.mpr (by omega)
  rw [if_neg d3] at h
  have hL : l0.length ≤ 1000000 := by
    by_cases hl : l0.length ≤ 1000000
    · exact hl
    · rw [if_neg hl] at h
      cases h
  rw [if_pos hL] at h
  obtain ⟨hr1, rfl⟩ := Prod.mk.inj (Option.some.inj h)
  have HR1 := Aside0.mk hr1
  have LL := Aside0.mk hL
  have P0 := Aside0.mk (show 0 < p.length by omega)
  obtain ⟨kf, hkf⟩ : ∃ f, find_looked.key a2 = .func (.func f) #[] #[] := by
    cases a2 with
    | false => exact ⟨31, rfl⟩
    | true => exact ⟨33, rfl⟩
  obtain ⟨ef, hef⟩ : ∃ f, find_looked.edge a3 = .func (.func f) #[] #[] := by
    cases a3 with
    | false => exact ⟨32, rfl⟩
    | true => exact ⟨34, rfl⟩
  have KF := Aside0.mk hkf
  have EF := Aside0.mk hef
  clear h d2 d3 hL hr1 H hkf hef
  go_wp2_with fail
  refine (find_looked.calls Ap p.length cp a2 a3 _).mono ?_
  rintro e w4 ⟨rfl, hb⟩
  rw [KF.out, EF.out]
  have HB4 := Aside0.mk (below_step HB3.out hb)
  have PB4 := Aside0.mk (blk_below PB3.out hb)
  have PC4 := Aside0.mk (Kd.C_below PC3.out hb)
  clear hb HB3 PB3 PC3 pb0
  go_upto_region 10 with (fail)
  have XB5 := Aside0.mk (blk_new w4 (.cells #[.slice Ap p.length cp, .func (.func kf) #[] #[], .func (.func ef) #[] #[]] 56))
  have HB5 := Aside0.mk (below_alloc HB4.out (.cells #[.slice Ap p.length cp, .func (.func kf) #[] #[], .func (.func ef) #[] #[]] 56))
  have PB5 := Aside0.mk (blk_alloc PB4.out (.cells #[.slice Ap p.length cp, .func (.func kf) #[] #[], .func (.func ef) #[] #[]] 56))
  have PC5 := Aside0.mk (Kd.C_alloc PC4.out (.cells #[.slice Ap p.length cp, .func (.func kf) #[] #[], .func (.func ef) #[] #[]] 56))
  clear HB4 PB4 PC4
  generalize w4.alloc (.cells #[.slice Ap p.length cp, .func (.func kf) #[] #[], .func (.func ef) #[] #[]] 56) = w5 at *
  generalize w4.heap.size = xb at *
  go_upto_region 11 with (fail)
  have OB6 := Aside0.mk (blk_new w5 (.cells #[.slice none 0 0] 24))
  have B56 := Aside0.mk (below_alloc (Below.refl w5.heap.size w5) (.cells #[.slice none 0 0] 24))
  have NB6 := Aside0.mk (World.size_alloc w5 (.cells #[.slice none 0 0] 24))
  generalize w5.alloc (.cells #[.slice none 0 0] 24) = w6 at *
  go_wp2_with fail
  refine (find_runs.calls A0 l0.length c0 _).mono ?_
  rintro e w7 ⟨rfl, hw7⟩
  have LB7 := Aside0.mk (show w7.heap[w6.heap.size]? = some (.cells #[.slice A0 l0.length c0] 22 (0, 0)) from by rw [hw7]; exact blk_new w6 (.cells #[.slice A0 l0.length c0] 22))
  have OB7 := Aside0.mk (show w7.heap[w5.heap.size]? = some (.cells #[.slice none 0 0] 24 (0, 0)) from by rw [hw7]; exact blk_alloc OB6.out (.cells #[.slice A0 l0.length c0] 22))
  have B57 := Aside0.mk (show Below w5.heap.size w5 w7 from by rw [hw7]; exact below_alloc B56.out (.cells #[.slice A0 l0.length c0] 22))
  have NB7 := Aside0.mk (show w7.heap.size = w6.heap.size + 1 ∧ w6.heap.size = w5.heap.size + 1 from by rw [hw7]; exact ⟨World.size_alloc _ _, NB6.out⟩)
  clear hw7 OB6 B56 NB6
  generalize w6.heap.size = lb at *
  go_wp2
  refine find_Find.range p a2 a3 A0 c0 l0 lb w5.heap.size w5.heap.size w5 w7 rfl LB7.out OB7.out B57.out (Kd.C_below HR.out HB5.out) LL.out ?r ?d
  case d =>
    intro fn W2 o' hB
    obtain ⟨v, hv1, hv2⟩ := hB.out
    obtain ⟨Ao, co, hv⟩ := Kd.R_slice hv2
    rw [HR1.out] at hv hv2
    subst hv
    have D3 := Aside0.mk (show (W2.putObj (w7.heap.size + 1) o').heap[w7.heap.size]? = some (.deferred (some [])) from (World.putObj_heap_other (by omega)).trans hB.dfr)
    have o3 := find_Find.cells_put (o' := o') hB.rec_ hv1
    have R3 := Aside0.mk (find_Find.R_put hv2 hB.rec_ o')
    have B3 := Aside0.mk (find_Find.below_put (o' := o') hB.below hB.rec_ (by have := B57.out.size; omega))
    clear hv1 hv2 hB
    generalize W2.putObj (w7.heap.size + 1) o' = W3 at *
    have o0 : W3.cell? ⟨w5.heap.size, 0, none⟩ = some (.slice Ao r1.length co) := (blk_cell o3 0).trans rfl
    clear o3
    go_wp2
    refine ⟨by simp, .inl ⟨_, _, rfl, run_takeDeferred D3.out, ?_⟩⟩
    exact ⟨_, find_Find.res rfl rfl, ⟨_, rfl, Kd.R_lower (find_Find.R_putD R3.out D3.out _) HB5.out.size, (HB5.out.trans (B3.out.mono HB5.out.size)).trans (belowK_b (w := w5) HB5.out.size _ _ _ _ (by have := B57.out.size; omega) D3.out rfl rfl)⟩⟩
  case r =>
    rintro fn B8 pre ⟨a, q⟩ v W1 h8 hB hrow g0 g1 g2 g3
    dsimp only at hrow g0 g1 g2 g3 ⊢
    obtain ⟨Aq, cq, hv⟩ := Kd.R_slice hrow
    subst hv
    generalize FindRec fn _ _ _ _ _ = rc at *
    have HB := Aside0.mk hB
    have HRO := Aside0.mk hrow
    have G := Aside0.mk (And.intro g0 (And.intro g1 (And.intro g2 g3)))
    have N7 := Aside0.mk (show w5.heap.size ≤ w7.heap.size ∧ w7.heap.size ≤ B8 from ⟨B57.out.size, h8⟩)
    clear hB hrow g0 g1 g2 g3 h8
    gi_wp2
    refine ⟨blk_alloc HB.out.rec_ _, ?_⟩
    have K0 := Aside0.mk (show find_Find.K rc (w7.heap.size + 1) w7.heap.size w5.heap.size w5.heap.size W1.heap.size B8 w5 W1 p q a2 a3 a (.slice Aq q.length cq) (find_Find.all p a2 a3 pre) 0 (q.length + 1) [] ((W1.alloc (.cells #[.int .i64 a, .slice Aq q.length cq] 61)).putObj (w7.heap.size + 1) (.loop (rc .busy))) from
      ⟨by rw [List.append_nil]; exact (HB.out.bel (below_alloc (Below.refl _ _) _)).put (by omega) (by have := N7.out; omega) .busy, find_Find.cells_put (blk_alloc HB.out.rec_ _) (blk_new _ _), find_Find.R_put (Kd.R_alloc HRO.out _) (blk_alloc HB.out.rec_ _) _, (FindCon.bel (below_alloc (Below.refl _ _) _)).trans (FindCon.put (blk_alloc HB.out.rec_ _) _), rfl, by omega, by omega, by omega⟩)
    clear HB HRO
    generalize (W1.alloc (.cells #[.int .i64 a, .slice Aq q.length cq] 61)).putObj (w7.heap.size + 1) (.loop (rc .busy)) = X0 at *
    gi_wp2
    gi_loopw [17] (fun v17 wr => ∃ (i : Int) (f : Nat) (d : List S28), v17 = .int .i64 i ∧ Aside0 (find_Find.K rc (w7.heap.size + 1) w7.heap.size w5.heap.size w5.heap.size W1.heap.size B8 w5 W1 p q a2 a3 a (.slice Aq q.length cq) (find_Find.all p a2 a3 pre) i f d wr)) (fun v17 _ => q.length - (intOf v17).toNat)
    case atStart => exact ⟨0, _, _, rfl, K0⟩
    case round =>
      clear K0
      obtain ⟨i, f, d, rfl, HK⟩ := hrel
      have y1 : wr.cell? ⟨W1.heap.size, 1, none⟩ = some (.slice Aq q.length cq) := (blk_cell HK.out.run 1).trans rfl
      by_cases c5 : i < (q.length : Int)
      · have c5b : decide (i < (q.length : Int)) = true := decide_eq_true c5
        obtain ⟨g, rfl⟩ : ∃ g, f = g + 1 := ⟨f - 1, by have := HK.out.fuel; omega⟩
        have XB := Aside0.mk ((HK.out.b.below.block xb (blk_lt XB5.out)).trans XB5.out)
        have x0 : wr.cell? ⟨xb, 0, none⟩ = some (.slice Ap p.length cp) := (blk_cell XB.out 0).trans rfl
        have x1 : wr.cell? ⟨xb, 1, none⟩ = some (.func (.func kf) #[] #[]) := (blk_cell XB.out 1).trans rfl
        have x2 : wr.cell? ⟨xb, 2, none⟩ = some (.func (.func ef) #[] #[]) := (blk_cell XB.out 2).trans rfl
        have fc := find_fits.calls p q a2 a3 Ap Aq cp cq i wr (Kd.C_below PC5.out HK.out.b.below) (Kd.R_reads' HK.out.row).2.2 ⟨HK.out.lo, HK.out.hi⟩ ⟨by have := PL.out; omega, by have := G.out; have := LL.out; omega⟩
        rw [KF.out, EF.out] at fc
        obtain ⟨bb, hbb⟩ : ∃ b, b = find_fits.f p q a2 a3 i := ⟨_, rfl⟩
        rw [← hbb] at fc
        have FC := Aside0.mk fc
        have BBH := Aside0.mk hbb
        have C5 := Aside0.mk c5
        clear fc hbb c5
        cases bb with
        | false =>
          have WI := Aside0.mk (show wrap64 (i + 1) = i + 1 from by have := HK.out.lo; have := C5.out; have := G.out; have := LL.out; unfold wrap64; omega)
          gi_wp2
          refine ⟨trivial, (FindIn.calls FC.out).mono ?_⟩
          rintro e w8 ⟨rfl, hb⟩
          have HK8 := Aside0.mk (HK.out.bel hb)
          clear hb HK y1 x0 x1 x2 XB FC
          gi_wp2
          go_roundw
          case rel =>
            rw [WI.out]
            refine ⟨i + 1, g, d, rfl, ⟨⟨HK8.out.b, HK8.out.run, HK8.out.row, HK8.out.con, ?_, by have := HK8.out.lo; omega, by have := C5.out; omega, by have := HK8.out.fuel; omega⟩⟩⟩
            have h := HK8.out.rest
            rw [find_Find.at_, if_pos C5.out, if_neg (by rw [← BBH.out]; decide)] at h
            exact h
          case measure => rw [WI.out]; simp only [intOf]; have := HK8.out.lo; have := C5.out; omega
        | true =>
          gi_wp2
          refine ⟨trivial, (FindIn.calls FC.out).mono ?_⟩
          rintro e w8 ⟨rfl, hb⟩
          have HK8 := Aside0.mk (HK.out.bel hb)
          clear hb HK y1 x0 x1 x2 XB FC
          obtain ⟨v, hv1, hv2⟩ := HK8.out.b.out
          obtain ⟨Ao, co, hv⟩ := Kd.R_slice hv2
          obtain ⟨no, hno⟩ : ∃ n, n = (find_Find.all p a2 a3 pre ++ d).length := ⟨_, rfl⟩
          rw [← hno] at hv
          subst hv
          have O8 := Aside0.mk hv1
          have R8 := Aside0.mk hv2
          have NO := Aside0.mk hno
          clear hv1 hv2 hno
          have o0 : w8.cell? ⟨w5.heap.size, 0, none⟩ = some (.slice Ao no co) := (blk_cell O8.out 0).trans rfl
          have y0 : w8.cell? ⟨W1.heap.size, 0, none⟩ = some (.int .i64 a) := (blk_cell HK8.out.run 0).trans rfl
          have PB8 := Aside0.mk ((HK8.out.b.below.block pb (blk_lt PB5.out)).trans PB5.out)
          have p0 : w8.cell? ⟨pb, 0, none⟩ = some (.slice Ap p.length cp) := (blk_cell PB8.out 0).trans rfl
          have W64 := Aside0.mk (show wrap64 (a + i) = a + i ∧ wrap64 (a + i + (p.length : Int)) = a + i + (p.length : Int) ∧ wrap64 (i + (p.length : Int)) = i + (p.length : Int) from by have := HK8.out.lo; have := C5.out; have := G.out; have := LL.out; have := PL.out; unfold wrap64; omega)
          have FI := Aside0.mk (show i + (p.length : Int) ≤ (q.length : Int) from by
            have h := BBH.out
            unfold find_fits.f at h
            by_cases hh : i + (p.length : Int) ≤ (q.length : Int)
            · exact hh
            · rw [decide_eq_false hh, Bool.false_and] at h
              cases h)
          have HL8 := Aside0.mk (show (find_Find.all p a2 a3 pre ++ d).length ≤ 1000000 from by
            have h1 := find_Find.all_len p P0.out a2 a3 (pre ++ [(a, q)])
            rw [find_Find.all_snoc, find_runs.sum_snoc, HK8.out.rest, ← List.append_assoc, List.length_append] at h1
            have := G.out
            have := LL.out
            dsimp only at h1
            omega)
          have hne1 : pb ≠ w5.heap.size := Nat.ne_of_lt (blk_lt PB5.out)
          have hne2 : w5.heap.size ≠ pb := Ne.symm hne1
          gi_wp2_with (first | ((with_reducible refine find_Find.gate_in (N := 73) rfl ?_); refine find_Find.append_in k28 (w0 := w8) w5.heap.size rfl (.tmp 59) (.tmp 72) 24 28 (.agg #[.int .i64 0, .int .i64 0]) 16 rfl Tryd.underlying24 info28 rfl (by decide) (by decide) (.slice Ao no co) (find_Find.all p a2 a3 pre ++ d) (⟨wrap64 (a + i), wrap64 (wrap64 (a + i) + (p.length : Int))⟩ : S28) [.int .i64 (wrap64 (a + i)), .int .i64 (wrap64 (wrap64 (a + i) + (p.length : Int)))] (fun _ => True) (fun _ => False) rfl rfl (k28_mkM _ _ _ _) (fun _ h => h.elim) (fun _ _ => trivial) R8.out (Below.refl _ _) HK8.out.b.below.size (by have := HL8.out; omega) ?_; intro v1 w9 ho hb9 hg hat; obtain ⟨A9, c9, hv9⟩ := Kd.R_slice ho; obtain ⟨n9, hn9⟩ : ∃ n, n = (find_Find.all p a2 a3 pre ++ d ++ [(⟨wrap64 (a + i), wrap64 (wrap64 (a + i) + (p.length : Int))⟩ : S28)]).length := ⟨_, rfl⟩; rw [← hn9] at hv9; subst hv9; have R9 := Aside0.mk ho; have G9 := Aside0.mk hg; have O9 := Aside0.mk (blk_grown O8.out hg (Kd.R_ne R8.out O8.out (by decide))); have P9 := Aside0.mk (blk_grown PB8.out hg (Kd.R_ne R8.out PB8.out (by decide))); have hco : w9.cell? ⟨w5.heap.size, 0, none⟩ = some (.slice Ao no co) := (blk_cell O9.out 0).trans rfl; have hfo := blk_frozen O9.out 0; have pb9 : w9.cell? ⟨pb, 0, none⟩ = some (.slice Ap p.length cp) := (blk_cell P9.out 0).trans rfl; clear ho hb9 hg hat hn9))
          go_roundw
          case rel =>
            rw [W64.out.2.2]
            have hx : (⟨wrap64 (a + i), wrap64 (wrap64 (a + i) + (p.length : Int))⟩ : S28) = ⟨a + i, a + i + (p.length : Int)⟩ := by rw [W64.out.1, W64.out.2.1]
            have r9 := R9.out
            rw [hx] at r9
            exact ⟨i + (p.length : Int), g, d ++ [⟨a + i, a + i + (p.length : Int)⟩], rfl, ⟨HK8.out.push O8.out R8.out (Nat.le_refl _) r9 G9.out (fun k e => Kd.R_base R8.out k e) (by rw [find_Find.at_, if_pos C5.out, if_pos (by rw [← BBH.out])]) (by have := HK8.out.lo; omega) FI.out (by have := HK8.out.fuel; have := P0.out; omega)⟩⟩
          case measure => rw [W64.out.2.2]; simp only [intOf]; have := HK8.out.lo; have := C5.out; have := P0.out; omega
      · have c5b : decide (i < (q.length : Int)) = false := decide_eq_false c5
        have C5 := Aside0.mk c5
        clear c5
        gi_wp2
        have hat : find_Find.at_ p a2 a3 a q f i = [] := by
          obtain ⟨g, rfl⟩ : ∃ g, f = g + 1 := ⟨f - 1, by have := HK.out.fuel; have := HK.out.hi; omega⟩
          rw [find_Find.at_, if_neg (by have := C5.out; omega)]
        have hr := HK.out.rest
        rw [hat, List.append_nil] at hr
        refine ⟨HK.out.b.rec_, ?_, HK.out.con.trans (FindCon.put HK.out.b.rec_ _)⟩
        rw [find_Find.all_snoc, hr]
        exact HK.out.b.put (by omega) (by have := N7.out; omega) .ready
end

end Go.Proofs.YtfcfomconcoimaaDoor.PFa
