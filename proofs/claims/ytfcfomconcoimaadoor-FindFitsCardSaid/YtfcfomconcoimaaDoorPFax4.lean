-- Written for this claim by a program (the kit's print, with hand-made contracts for what it does not take).
import Derived.Test.YtfcfomconcoimaaDoorPFax0
namespace Go.Proofs.YtfcfomconcoimaaDoor.PFa
open Go.RowKit Go.Proofs.YtfcfomconcoimaaDoorW.PrintWords Go.Proofs.YtfcfomconcoimaaDoorW.PrintLast Go.Proofs.YtfcfomconcoimaaDoorW.PrintMore
attribute [local go_sem] max2_int min2_int max_two min_two max_three min_three max_four min_four   -- for this text's walks alone
set_option linter.unusedVariables false
set_option linter.unusedSimpArgs false

/-! ### find_runs: function 19 -/
/-! ### Inside a round of a range over a function: a region's plain walk serves -/
theorem FindIn.calls {l n : Nat} {P : Program} {f : FuncId} {args : Array Value} {w : World} {R : Ending → World → Prop} (h : Calls P f args w R) : CallsIn (Fence.wide.inRound l) n P f args w R :=
  show CallsIn Fence.wide n P f args w R from callsIn_wide.2 h
def FindIn.noDefer (L : List Oper) : Bool := L.all fun o => match o.op with | .defer _ => false | _ => true
theorem FindIn.noDefer_cons {o : Oper} {L : List Oper} (h : FindIn.noDefer (o :: L) = true) : (∀ c, o.op ≠ .defer c) ∧ FindIn.noDefer L = true := by
  unfold FindIn.noDefer at h ⊢
  rw [List.all_cons, Bool.and_eq_true] at h
  exact ⟨fun c e => by simp [e] at h, h.2⟩
theorem FindIn.list {l n : Nat} {P : Program} {ops : Array Oper} {Q : Exit → Act → World → Prop} (hQ : ¬ LetsOut Q) : ∀ (L : List Oper) (a : Act) (w : World), FindIn.noDefer L = true → wpList P ops Q L a w → wpListIn (Fence.wide.inRound l) n P ops Q L a w
  | [], a, w, _, h => h
  | o :: L, a, w, hn, h => by
    obtain ⟨hd, hn⟩ := FindIn.noDefer_cons hn
    have ih := fun a w => FindIn.list (l := l) (n := n) (P := P) (ops := ops) hQ L a w hn
    simp only [wpList] at h
    simp only [wpListIn]
    by_cases hw : Region.wanted o (yielded ops a.tmps) = true
    · rw [if_pos hw] at h ⊢
      rcases h with h | ⟨_, h⟩
      · refine ⟨fun _ _ => trivial, ?_⟩
        rw [Oper.semAt_plain (Fence.wide.inRound l) _ _ hd]
        unfold Oper.wp at h
        generalize (execOp a.eval o).run P w = r at h
        have hdep : (Fence.wide.inRound l).depth.isSome = true → 1 ≤ n := fun h => by simp [Fence.wide, Fence.inRound] at h
        cases r with
        | ok x w' =>
          cases x with
          | value v => exact ih _ _ h
          | skip => exact ih _ _ h
          | defer d => exact ih _ _ h
          | enter f args =>
            refine ⟨hdep, FindIn.calls (Calls.mono h fun e w'' hh => ?_)⟩
            cases e with
            | returned v => exact ih _ _ hh
            | panicked c => exact hh
            | outgrown => exact hh
          | row r args => exact ⟨hdep, fun c cs _ => let ⟨v, w'', r, s⟩ := h c cs; ⟨v, w'', ih _ _ r, stepsIn_wide.2 s⟩⟩
          | _ => exact h.elim
        | halt x w' =>
          cases x with
          | panic v => exact h
          | _ => exact h.elim
      · exact (hQ h).elim
    · rw [if_neg hw] at h ⊢
      exact ⟨fun _ _ => trivial, ih _ _ h⟩
theorem FindIn.region {l n id : Nat} {P : Program} {L : List Oper} {Q : Exit → Act → World → Prop} {a : Act} {w : World} (hQ : ¬ LetsOut Q) (hn : FindIn.noDefer L = true) (h : wpList P L.toArray Q L a w) : (Code.region id L.toArray false).wpIn (Fence.wide.inRound l) n P Q a w :=
  wpIn_region_lit (FindIn.list hQ L a w hn h)
/-! ### The statement 'for .. := range g': its iterator's walk, and one round's -/
def FindRec (fn : FuncId) (tmps : Array Value) (ps : Array Tmp) (assign body : Code) (D : Nat) (st : LoopState) : Loop := { state := st, pending := none, fn, tmps, params := ps, assign, body, defers := D }
theorem FindRange.rule {n : Nat} {P : Program} {g : Operand} {ps : Array Tmp} {assign body : Code} {Q : Exit → Act → World → Prop} {a : Act} {w : World} {gf : Nat} {lb : Array Value} (h1 : 1 ≤ n) (hg : a.eval g = .func (.func gf) #[] lb) (eg : ∀ args w, (callFunc gf args).run P w = .ok (.enter gf args) w)
    (h : ∀ fn, Calls P gf (#[.func (.yield (w.heap.size + 1)) #[] #[]] ++ lb) ((w.alloc (.deferred (some []))).alloc (.loop (FindRec fn a.tmps ps assign body w.heap.size .ready))) fun e W2 => (∃ v, e = .returned v) ∧ W2.heap[w.heap.size + 1]? = some (.loop (FindRec fn a.tmps ps assign body w.heap.size .ready)) ∧
      ∀ o', Q .normal { a with defers := { target := .collected w.heap.size, args := #[] } :: a.defers } (W2.putObj (w.heap.size + 1) o')) :
    (Code.rangeFunc g ps assign body).wpIn Fence.wide n P Q a w := by
  refine wpIn_rangeFunc ?_
  intro fn hfn
  have hf := h fn
  have he := run_enterLoop_outer (P := P) (w := w) fn a.tmps ps assign body
  obtain ⟨W1, hW1⟩ : ∃ W1, (w.alloc (.deferred (some []))).alloc (.loop (FindRec fn a.tmps ps assign body w.heap.size .ready)) = W1 := ⟨_, rfl⟩
  rw [hW1] at hf
  refine ⟨w.heap.size + 1, [{ target := .collected w.heap.size, args := #[] }], W1, { target := .fn (.func gf) lb, args := #[.func (.yield (w.heap.size + 1)) #[] #[]] }, W1, gf,
    #[.func (.yield (w.heap.size + 1)) #[] #[]] ++ lb, W1, ?_, ?_, ?_, ?_, fun _ => h1, ?_⟩
  · rw [← hW1]; exact he
  · simp only [resolve, hg]
    simp [go_sem]
  · intro f' hf'
    trivial
  · simp [invoke, go_sem, eg]
  · refine (callsIn_wide.2 hf).mono ?_
    rintro e W2 ⟨⟨v, rfl⟩, hl, hq⟩
    exact ⟨none, _, run_endLoop (P := P) hl (by simp [FindRec]), hq _⟩
theorem FindRange.yield {m l D : Nat} {P : Program} {fn : FuncId} {tmps : Array Value} {ps : Array Tmp} {assign body : Code} {args : Array Value} {W : World} {R : World → Prop} (hl : W.heap[l]? = some (.loop (FindRec fn tmps ps assign body D .ready))) (hs : args.size = ps.size)
    (h : assign.wpIn (Fence.wide.inRound l) m P (Exit.then (fun a₁ w₁ => w₁.heap[l]? = some (.loop (FindRec fn tmps ps assign body D .ready)) ∧
      body.wpIn (Fence.wide.inRound l) m P (fun e _ w₂ => e = .normal ∧ w₂.heap[l]? = some (.loop (FindRec fn tmps ps assign body D .busy)) ∧ R (w₂.putObj l (.loop (FindRec fn tmps ps assign body D .ready)))) a₁ (w₁.putObj l (.loop (FindRec fn tmps ps assign body D .busy)))) (fun _ _ _ => False))
      { tmps := (ps.zip args).foldl (fun t (p, v) => t.setIfInBounds p v) tmps, defers := [] } W) :
    YieldAt Fence.wide m P l args W fun e W' => e = .returned (.bool true) ∧ R W' := by
  refine ⟨fn, _, assign, body, run_yield (P := P) (args := args) hl hs, roundIn_of_wpIn trivial (wpIn_mono h ?_)⟩
  rintro e a₁ w₁ hq
  cases e with
  | normal =>
    obtain ⟨hl1, hb⟩ := hq
    refine ⟨_, run_beginRound hl1 rfl, wpIn_mono hb ?_⟩
    rintro e a₂ w₂ ⟨rfl, hl2, hR⟩
    exact ⟨_, _, run_endRound (P := P) none hl2, rfl, hR⟩
  | exit id => exact hq.elim
  | goto t => exact hq.elim
  | ret => exact hq.elim
  | panic c => exact hq.elim
  | outgrown => exact hq.elim
/-! ### The runs: where they begin, their code points -/
def find_runs.go : List S48 → Int → Int → List Int → List (Int × List Int)
  | [], _, a, p => if p.length = 0 then [] else [(a, p)]
  | t :: ts, i, a, p =>
    if t.f0 = 0 then find_runs.go ts (i + 1) (if p.length = 0 then i else a) (p ++ [t.f2])
    else if p.length = 0 then find_runs.go ts (i + 1) 0 [] else (a, p) :: find_runs.go ts (i + 1) 0 []
def find_runs.f (l : List S48) : List (Int × List Int) := find_runs.go l 0 0 []
def find_runs.sum (l : List (Int × List Int)) : Nat := (l.map fun x => x.2.length).sum
theorem find_runs.sum_snoc (l : List (Int × List Int)) (x : Int × List Int) : find_runs.sum (l ++ [x]) = find_runs.sum l + x.2.length := by simp [find_runs.sum]
/-- What the iterator may turn: rows of numbers and its own run, from B on. -/
structure FindIt (B : Nat) (A A' : World) : Prop where
  below : Below B A A'
  same : ∀ (k : Nat) (o : Obj), A.heap[k]? = some o → (∀ cs t fr, o = .cells cs t fr → t ≠ 61 ∧ t ≠ 3) → A'.heap[k]? = some o
theorem FindIt.refl (B : Nat) (A : World) : FindIt B A A := ⟨Below.refl _ _, fun _ _ h _ => h⟩
theorem FindIt.trans {B : Nat} {a b c : World} (h : FindIt B a b) (k : FindIt B b c) : FindIt B a c := ⟨h.below.trans k.below, fun j o hj ho => k.same j o (h.same j o hj ho) ho⟩
theorem FindIt.alloc {B : Nat} {A : World} (hB : B ≤ A.heap.size) (o : Obj) : FindIt B A (A.alloc o) := ⟨(Below.refl _ _).alloc hB o, fun k o' h _ => blk_alloc h o⟩
theorem FindIt.set {B g j : Nat} {A : World} {cs : Array Value} {t : TypeId} (hB : B ≤ g) (hg : A.heap[g]? = some (.cells cs t (0, 0))) (ht : t = 61 ∨ t = 3) (u : Value) : FindIt B A (A.setCell ⟨g, j, none⟩ u) :=
  ⟨(Below.refl _ _).setCell (p := ⟨g, j, none⟩) hB u, fun k o h ho => (Below.heap_setCell A ⟨g, j, none⟩ u k (fun e => by
    have e : k = g := e
    subst e
    rw [hg] at h
    obtain rfl := Option.some.inj h
    have hh := ho _ _ _ rfl
    exact ht.elim hh.1 hh.2)).trans h⟩
theorem FindIt.grown {B : Nat} {A A' : World} {v : Value} {xs : List Int} (hr : Kd.R (Kd.int .i64) 3 A B (fun _ => True) v xs) (hB : B ≤ A.heap.size) (hg : A.grownBy A' v.ownBlock) : FindIt B A A' :=
  ⟨(Below.refl _ _).grown hg hB (fun k e => Kd.R_base hr k e), fun k o h ho => blk_grown h hg (fun e => by
    obtain ⟨cs, hc⟩ := Kd.R_typed hr k e.symm
    rw [hc] at h
    obtain rfl := Option.some.inj h
    exact (ho _ _ _ rfl).2 rfl)⟩
/-- What a round may not turn: runs. -/
structure FindCon (A A' : World) : Prop where
  size : A.heap.size ≤ A'.heap.size
  same : ∀ (k : Nat) (cs : Array Value), A.heap[k]? = some (.cells cs 61 (0, 0)) → A'.heap[k]? = some (.cells cs 61 (0, 0))
structure find_runs.I (J : List (Int × List Int) → World → Prop) (B rg : Nat) (zs : List S48) (pre : List (Int × List Int)) (i : Nat) (a : Int) (acc : List Int) (v : Value) (X : World) : Prop where
  box : X.heap[rg]? = some (.cells #[.int .i64 a, v] 61 (0, 0))
  row : Kd.R (Kd.int .i64) 3 X B (fun _ => True) v acc
  j : J pre X
  go : pre ++ find_runs.go (zs.drop i) (i : Int) a acc = find_runs.f zs
  lo : i ≤ zs.length
  at_ : acc.length ≠ 0 → 0 ≤ a ∧ a + (acc.length : Int) = (i : Int)
  sum : find_runs.sum pre + acc.length ≤ i
  base : B ≤ rg
  size : B ≤ X.heap.size
theorem find_runs.nil_len {acc : List Int} (h : acc.length = 0) : acc = [] := List.length_eq_zero_iff.1 h
set_option maxHeartbeats 8000000 in
set_option maxRecDepth 100000 in
/-- The iterator: for whatever round that keeps its word. -/
theorem find_runs.it (m L Bs : Nat) (A0 : Option Addr) (c0 : Nat) (zs : List S48) (w W : World) (hr0 : Kd.C k48 w A0 zs.length zs) (hBs : W.cell? ⟨Bs, 0, none⟩ = some (.slice A0 zs.length c0)) (hz : zs.length ≤ 1000000)
    (J : List (Int × List Int) → World → Prop) (hJk : ∀ pre A A', J pre A → FindIt W.heap.size A A' → J pre A') (hJb : ∀ pre A, J pre A → Below w.heap.size w A)
    (hY : ∀ pre a p v W1, J pre W1 → Kd.R (Kd.int .i64) 3 W1 W.heap.size (fun _ => True) v p → 0 ≤ a → a + (p.length : Int) ≤ (zs.length : Int) → 0 < p.length → find_runs.sum pre + p.length ≤ zs.length →
      YieldAt Fence.wide m Tryd.prog L #[.agg #[.int .i64 a, v]] W1 fun e W' => e = .returned (.bool true) ∧ (J (pre ++ [(a, p)]) W' ∧ FindCon W1 W'))
    (h0 : J [] W) :
    Calls Tryd.prog 36 #[.func (.yield L) #[] #[], .pointer (some ⟨Bs, 0, none⟩)] W fun e W' => (∃ v, e = .returned v) ∧ J (find_runs.f zs) W' := by
  have hu48 := Tryd.underlying48
  have hu61 := Tryd.underlying61
  have HR := Aside0.mk hr0
  have HZ := Aside0.mk hz
  have HJK := Aside0.mk hJk
  have HJB := Aside0.mk hJb
  have HY := Aside0.mk hY
  have z61 := blk_new W (.cells #[.int .i64 0, .slice none 0 0] 61)
  have hBs1 : (W.alloc (.cells #[.int .i64 0, .slice none 0 0] 61)).cell? ⟨Bs, 0, none⟩ = some (.slice A0 zs.length c0) := cell_grown (World.grownBy_alloc W (.cells #[.int .i64 0, .slice none 0 0] 61) none) hBs (by simp)
  have I0 := Aside0.mk (show find_runs.I J W.heap.size W.heap.size zs [] 0 0 [] (.slice none 0 0) (W.alloc (.cells #[.int .i64 0, .slice none 0 0] 61)) from
    ⟨z61, Kd.R_nil _ _ _ _ _, hJk _ _ _ h0 (FindIt.alloc (Nat.le_refl _) _), by rw [List.nil_append]; rfl, Nat.zero_le _, fun h => absurd rfl h, Nat.zero_le _, Nat.le_refl _, by simp⟩)
  clear hr0 hz hJk hJb hY h0 z61 hBs
  go_enter Tryd.func36, Tryd.ntmps36
  go_upto_region 1 with (fail)
  generalize W.alloc (.cells #[.int .i64 0, .slice none 0 0] 61) = W1 at *
  generalize W.heap.size = rg at *
  go_wp2
  go_loopg [4, 5, 8] (zs.length + 1) (fun kq v4 v5 v8 wr => ∃ (i : Nat) (a : Int) (acc : List Int) (v : Value) (pre : List (Int × List Int)), v8 = .int .i64 (i : Int) ∧ Aside0 (find_runs.I J rg rg zs pre i a acc v wr) ∧ Aside0 (zs.length + 1 ≤ i + kq))
  case atStart => exact ⟨0, 0, [], _, [], rfl, I0, ⟨by omega⟩⟩
  case round =>
    clear I0 hBs1
    obtain ⟨i, a, acc, v, pre, rfl, HI, HK⟩ := hrel
    have hn := HZ.out
    have hk := HK.out
    obtain ⟨f, rfl⟩ : ∃ f, gk = f + 1 := ⟨gk - 1, by have := HI.out.lo; omega⟩
    obtain ⟨A, c, hv⟩ := Kd.R_slice HI.out.row
    subst hv
    by_cases c5 : i < zs.length
    · have c5b : decide ((i : Int) < (zs.length : Int)) = true := decide_eq_true (by omega)
      have hbel := HJB.out _ _ HI.out.j
      obtain ⟨ad, eA, e0, e1, e2, e3⟩ := at_T48 (Kd.C_below HR.out hbel) (i : Int) (by omega) (by omega)
      subst eA
      rw [Int.toNat_natCast] at e0 e1 e2 e3
      have hrd : rd_T48 zs (i : Int) = zs[i] := by simp [rd_T48, List.getD_eq_getElem?_getD, List.getElem?_eq_getElem c5]
      have hgo := HI.out.go
      rw [List.drop_eq_getElem_cons c5, ← hrd] at hgo
      obtain ⟨t, ht⟩ : ∃ t, t = rd_T48 zs (i : Int) := ⟨_, rfl⟩
      rw [← ht] at hgo e0 e1 e2 e3
      have it0 : (0 : Int) ≤ (i : Int) := by omega
      have it1 : (i : Int) < (zs.length : Int) := by omega
      have WI := Aside0.mk (show wrap64 ((i : Int) + 1) = ((i + 1 : Nat) : Int) from by unfold wrap64; omega)
      have C5 := Aside0.mk c5
      have HGO := Aside0.mk hgo
      clear hgo hrd ht c5 hbel hn hk
      go_upto_region 4 with (fail)
      have BX := Aside0.mk (blk_alloc HI.out.box (.cells #[.int .i64 t.f0, .int .i64 t.f1, .int .i64 t.f2, .int .i64 t.f3] 48))
      have RX := Aside0.mk (Kd.R_alloc HI.out.row (.cells #[.int .i64 t.f0, .int .i64 t.f1, .int .i64 t.f2, .int .i64 t.f3] 48))
      have JX := Aside0.mk (HJK.out _ _ _ HI.out.j (FindIt.alloc HI.out.size (.cells #[.int .i64 t.f0, .int .i64 t.f1, .int .i64 t.f2, .int .i64 t.f3] 48)))
      have YX := Aside0.mk (blk_new wr (.cells #[.int .i64 t.f0, .int .i64 t.f1, .int .i64 t.f2, .int .i64 t.f3] 48))
      have NX := Aside0.mk (show i ≤ zs.length ∧ (acc.length ≠ 0 → 0 ≤ a ∧ a + (acc.length : Int) = (i : Int)) ∧ find_runs.sum pre + acc.length ≤ i ∧ rg ≤ rg ∧ rg ≤ (wr.alloc (.cells #[.int .i64 t.f0, .int .i64 t.f1, .int .i64 t.f2, .int .i64 t.f3] 48)).heap.size from ⟨HI.out.lo, HI.out.at_, HI.out.sum, Nat.le_refl _, by have := HI.out.size; simp; omega⟩)
      clear HI e0 e1 e2 e3
      generalize wr.alloc (.cells #[.int .i64 t.f0, .int .i64 t.f1, .int .i64 t.f2, .int .i64 t.f3] 48) = X at *
      generalize wr.heap.size = tb at *
      have y0 : X.cell? ⟨tb, 0, none⟩ = some (.int .i64 t.f0) := (blk_cell YX.out 0).trans rfl
      by_cases c0 : t.f0 = 0
      · have c0b : (t.f0 == 0) = true := beq_iff_eq.mpr c0
        have s1 : X.cell? ⟨rg, 1, none⟩ = some (.slice A acc.length c) := (blk_cell BX.out 1).trans rfl
        by_cases ca : acc.length = 0
        · have cab : ((acc.length : Int) == 0) = true := beq_iff_eq.mpr (by omega)
          have GO1 := Aside0.mk (show pre ++ find_runs.go (zs.drop (i + 1)) ((i + 1 : Nat) : Int) (i : Int) (acc ++ [t.f2]) = find_runs.f zs from by have h := HGO.out; rw [find_runs.go, if_pos c0, if_pos ca] at h; rw [show ((i + 1 : Nat) : Int) = (i : Int) + 1 from by omega]; exact h)
          have s0 : X.cell? ⟨rg, 0, none⟩ = some (.int .i64 a) := (blk_cell BX.out 0).trans rfl
          have f0 := blk_frozen BX.out 0
          have CA := Aside0.mk ca
          clear HGO c0 ca
          go_upto_region 7 with (fail)
          have NE : tb ≠ rg := blk_ne YX.out BX.out (by decide)
          have BX1 := Aside0.mk (blk_put BX.out 0 (.int .i64 (i : Int)) rfl)
          have RX1 := Aside0.mk (Kd.R_set RX.out BX.out (show ∀ q : Nat, q ∈ ([3] : List Nat) → q ≠ 61 by decide) 0 (.int .i64 (i : Int)))
          have JX1 := Aside0.mk (HJK.out _ _ _ JX.out (FindIt.set (j := 0) (Nat.le_refl rg) BX.out (.inl rfl) (.int .i64 (i : Int))))
          have YX1 := Aside0.mk (blk_far (p := ⟨rg, 0, none⟩) YX.out NE (.int .i64 (i : Int)))
          have NX1 := Aside0.mk (show i ≤ zs.length ∧ (acc.length ≠ 0 → 0 ≤ (i : Int) ∧ (i : Int) + (acc.length : Int) = (i : Int)) ∧ find_runs.sum pre + acc.length ≤ i ∧ rg ≤ rg ∧ rg ≤ (X.setCell ⟨rg, 0, none⟩ (.int .i64 (i : Int))).heap.size from ⟨NX.out.1, fun h => absurd CA.out h, NX.out.2.2.1, NX.out.2.2.2.1, by simpa using NX.out.2.2.2.2⟩)
          clear s0 s1 f0 y0 BX RX JX YX NX NE
          generalize X.setCell ⟨rg, 0, none⟩ (.int .i64 (i : Int)) = X1 at *
          have s1 : X1.cell? ⟨rg, 1, none⟩ = some (.slice A acc.length c) := (blk_cell BX1.out 1).trans rfl
          have y2 : X1.cell? ⟨tb, 2, none⟩ = some (.int .i64 t.f2) := (blk_cell YX1.out 2).trans rfl
          go_wp2_with (first | (at_builtin; refine Kd.R_append (Kd.int .i64) (w0 := X1) rg rfl (.tmp 23) (.tmp 26) 50 3 (.int .i64 0) 8 rfl Tryd.underlying50 info3 rfl (by decide) (by decide) (.slice A acc.length c) acc t.f2 [.int .i64 t.f2] (fun _ => True) (fun _ => False) rfl rfl rfl (fun _ h => h.elim) (fun _ _ => trivial) RX1.out (Below.refl _ _) NX1.out.2.2.2.2 (by have := NX1.out; have := C5.out; have := HZ.out; omega) ?_; intro v1 w8 ho hb hg hat; obtain ⟨A8, c8, hv8⟩ := Kd.R_slice ho; obtain ⟨n8, hn8⟩ : ∃ n, n = (acc ++ [t.f2]).length := ⟨_, rfl⟩; rw [← hn8] at hv8; subst hv8; have R8 := Aside0.mk ho; have B8 := Aside0.mk (blk_grown BX1.out hg (Kd.R_ne RX1.out BX1.out (by decide))); have J8 := Aside0.mk (HJK.out _ _ _ JX1.out (FindIt.grown RX1.out NX1.out.2.2.2.2 hg)); have S8 := Aside0.mk (Nat.le_trans NX1.out.2.2.2.2 hb.size); have hco : w8.cell? ⟨rg, 1, none⟩ = some (.slice A acc.length c) := (blk_cell B8.out 1).trans rfl; have hfo := blk_frozen B8.out 1; clear ho hb hg hat hn8))
          go_roundg f
          case measure => omega
          case rel => exact ⟨i + 1, (i : Int), acc ++ [t.f2], _, pre, by rw [WI.out], ⟨blk_put B8.out 1 _ rfl, Kd.R_set R8.out B8.out (show ∀ q : Nat, q ∈ ([3] : List Nat) → q ≠ 61 by decide) 1 _, HJK.out _ _ _ J8.out (FindIt.set NX1.out.2.2.2.1 B8.out (.inl rfl) _), GO1.out, C5.out, fun _ => by have := CA.out; rw [List.length_append, List.length_singleton]; omega, by have := NX1.out.2.2.1; rw [List.length_append, List.length_singleton]; omega, NX1.out.2.2.2.1, by simpa using S8.out⟩, ⟨by have := HK.out; omega⟩⟩
        · have cab : ((acc.length : Int) == 0) = false := beq_eq_false_iff_ne.mpr (by omega)
          have GO1 := Aside0.mk (show pre ++ find_runs.go (zs.drop (i + 1)) ((i + 1 : Nat) : Int) a (acc ++ [t.f2]) = find_runs.f zs from by have h := HGO.out; rw [find_runs.go, if_pos c0, if_neg ca] at h; rw [show ((i + 1 : Nat) : Int) = (i : Int) + 1 from by omega]; exact h)
          have CA := Aside0.mk ca
          clear HGO c0 ca
          go_upto_region 7 with (fail)
          clear s1 y0
          have s1 : X.cell? ⟨rg, 1, none⟩ = some (.slice A acc.length c) := (blk_cell BX.out 1).trans rfl
          have y2 : X.cell? ⟨tb, 2, none⟩ = some (.int .i64 t.f2) := (blk_cell YX.out 2).trans rfl
          go_wp2_with (first | (at_builtin; refine Kd.R_append (Kd.int .i64) (w0 := X) rg rfl (.tmp 23) (.tmp 26) 50 3 (.int .i64 0) 8 rfl Tryd.underlying50 info3 rfl (by decide) (by decide) (.slice A acc.length c) acc t.f2 [.int .i64 t.f2] (fun _ => True) (fun _ => False) rfl rfl rfl (fun _ h => h.elim) (fun _ _ => trivial) RX.out (Below.refl _ _) NX.out.2.2.2.2 (by have := NX.out; have := C5.out; have := HZ.out; omega) ?_; intro v1 w8 ho hb hg hat; obtain ⟨A8, c8, hv8⟩ := Kd.R_slice ho; obtain ⟨n8, hn8⟩ : ∃ n, n = (acc ++ [t.f2]).length := ⟨_, rfl⟩; rw [← hn8] at hv8; subst hv8; have R8 := Aside0.mk ho; have B8 := Aside0.mk (blk_grown BX.out hg (Kd.R_ne RX.out BX.out (by decide))); have J8 := Aside0.mk (HJK.out _ _ _ JX.out (FindIt.grown RX.out NX.out.2.2.2.2 hg)); have S8 := Aside0.mk (Nat.le_trans NX.out.2.2.2.2 hb.size); have hco : w8.cell? ⟨rg, 1, none⟩ = some (.slice A acc.length c) := (blk_cell B8.out 1).trans rfl; have hfo := blk_frozen B8.out 1; clear ho hb hg hat hn8))
          go_roundg f
          case measure => omega
          case rel => exact ⟨i + 1, a, acc ++ [t.f2], _, pre, by rw [WI.out], ⟨blk_put B8.out 1 _ rfl, Kd.R_set R8.out B8.out (show ∀ q : Nat, q ∈ ([3] : List Nat) → q ≠ 61 by decide) 1 _, HJK.out _ _ _ J8.out (FindIt.set NX.out.2.2.2.1 B8.out (.inl rfl) _), GO1.out, C5.out, fun _ => by have := NX.out.2.1 CA.out; rw [List.length_append, List.length_singleton]; omega, by have := NX.out.2.2.1; rw [List.length_append, List.length_singleton]; omega, NX.out.2.2.2.1, by simpa using S8.out⟩, ⟨by have := HK.out; omega⟩⟩
      · have c0b : (t.f0 == 0) = false := beq_eq_false_iff_ne.mpr c0
        have s1 : X.cell? ⟨rg, 1, none⟩ = some (.slice A acc.length c) := (blk_cell BX.out 1).trans rfl
        by_cases ca : acc.length = 0
        · have ca1 : decide ((0 : Int) < (acc.length : Int)) = false := decide_eq_false (by omega)
          have ca2 : decide (0 < acc.length) = false := decide_eq_false (by omega)
          have GO1 := Aside0.mk (show pre ++ find_runs.go (zs.drop (i + 1)) ((i + 1 : Nat) : Int) 0 [] = find_runs.f zs from by have h := HGO.out; rw [find_runs.go, if_neg c0, if_pos ca] at h; rw [show ((i + 1 : Nat) : Int) = (i : Int) + 1 from by omega]; exact h)
          have SM := Aside0.mk (show find_runs.sum pre ≤ i from by have := NX.out.2.2.1; omega)
          have SX := Aside0.mk NX.out.2.2.2.2
          clear HGO c0 ca s1
          have s0 : X.cell? ⟨rg, 0, none⟩ = some (.int .i64 a) := (blk_cell BX.out 0).trans rfl
          have s1 : X.cell? ⟨rg, 1, none⟩ = some (.slice A acc.length c) := (blk_cell BX.out 1).trans rfl
          have f0 := blk_frozen BX.out 0
          have f1 := blk_frozen BX.out 1
          go_wp2
          go_roundg f
          case measure => omega
          case rel => exact ⟨i + 1, 0, [], _, pre, by rw [WI.out], ⟨blk_put (blk_put BX.out 0 _ rfl) 1 _ rfl, Kd.R_nil _ _ _ _ _, HJK.out _ _ _ (HJK.out _ _ _ JX.out (FindIt.set NX.out.2.2.2.1 BX.out (.inl rfl) _)) (FindIt.set NX.out.2.2.2.1 (blk_put BX.out 0 _ rfl) (.inl rfl) _), GO1.out, C5.out, fun h => absurd rfl h, by have := NX.out.2.2.1; have := SM.out; simp only [List.length_nil]; omega, NX.out.2.2.2.1, by simpa using SX.out⟩, ⟨by have := HK.out; omega⟩⟩
        · have ca1 : decide ((0 : Int) < (acc.length : Int)) = true := decide_eq_true (by omega)
          have ca2 : decide (0 < acc.length) = true := decide_eq_true (by omega)
          have GO1 := Aside0.mk (show (pre ++ [(a, acc)]) ++ find_runs.go (zs.drop (i + 1)) ((i + 1 : Nat) : Int) 0 [] = find_runs.f zs from by have h := HGO.out; rw [find_runs.go, if_neg c0, if_neg ca] at h; rw [show ((i + 1 : Nat) : Int) = (i : Int) + 1 from by omega, List.append_assoc]; exact h)
          have hyy := HY.out pre a acc (.slice A acc.length c) X JX.out RX.out (NX.out.2.1 ca).1 (by have := (NX.out.2.1 ca).2; have := C5.out; omega) (by omega) (by have := NX.out.2.2.1; have := C5.out; omega)
          obtain ⟨fn, tmps, assign, body, hyi, hyr⟩ := hyy
          have HRD := Aside0.mk hyr
          have s0 : X.cell? ⟨rg, 0, none⟩ = some (.int .i64 a) := (blk_cell BX.out 0).trans rfl
          clear HGO c0 ca hyr
          go_upto_region 8 with (fail)
          refine (wpIn_wide (n := m + 1)).1 ?_
          gi_wp2
          refine HRD.out.mono ?_
          rintro e X3 ⟨rfl, hj3, hk3⟩
          have BX3 := Aside0.mk (hk3.same _ _ BX.out)
          have JX3 := Aside0.mk hj3
          have SX := Aside0.mk (Nat.le_trans NX.out.2.2.2.2 hk3.size)
          have SM := Aside0.mk (show find_runs.sum (pre ++ [(a, acc)]) ≤ i from by rw [find_runs.sum_snoc]; exact NX.out.2.2.1)
          clear hj3 hk3 s0 s1 hyi y0 BX RX JX YX
          have s0 : X3.cell? ⟨rg, 0, none⟩ = some (.int .i64 a) := (blk_cell BX3.out 0).trans rfl
          have s1 : X3.cell? ⟨rg, 1, none⟩ = some (.slice A acc.length c) := (blk_cell BX3.out 1).trans rfl
          have f0 := blk_frozen BX3.out 0
          have f1 := blk_frozen BX3.out 1
          gi_wp2
          go_wp2
          go_roundg f
          case measure => omega
          case rel => exact ⟨i + 1, 0, [], _, (pre ++ [(a, acc)]), by rw [WI.out], ⟨blk_put (blk_put BX3.out 0 _ rfl) 1 _ rfl, Kd.R_nil _ _ _ _ _, HJK.out _ _ _ (HJK.out _ _ _ JX3.out (FindIt.set NX.out.2.2.2.1 BX3.out (.inl rfl) _)) (FindIt.set NX.out.2.2.2.1 (blk_put BX3.out 0 _ rfl) (.inl rfl) _), GO1.out, C5.out, fun h => absurd rfl h, by have := NX.out.2.2.1; have := SM.out; simp only [List.length_nil]; omega, NX.out.2.2.2.1, by simpa using SX.out⟩, ⟨by have := HK.out; omega⟩⟩
    · have ei : i = zs.length := by have := HI.out.lo; omega
      have c5b : decide ((i : Int) < (zs.length : Int)) = false := decide_eq_false (by omega)
      have c5c : decide (i < zs.length) = false := decide_eq_false (by omega)
      have hgo := HI.out.go
      rw [ei, List.drop_length, find_runs.go] at hgo
      have BX := Aside0.mk HI.out.box
      have RX := Aside0.mk HI.out.row
      have JX := Aside0.mk HI.out.j
      have NX := Aside0.mk (And.intro HI.out.at_ (And.intro HI.out.sum ei))
      have s1 : wr.cell? ⟨rg, 1, none⟩ = some (.slice A acc.length c) := (blk_cell BX.out 1).trans rfl
      clear HI ei c5 hn hk
      by_cases ca : acc.length = 0
      · have ca1 : decide ((0 : Int) < (acc.length : Int)) = false := decide_eq_false (by omega)
        have ca2 : decide (0 < acc.length) = false := decide_eq_false (by omega)
        rw [if_pos ca, List.append_nil] at hgo
        have GO1 := Aside0.mk hgo
        clear hgo ca
        go_wp2
        go_end0
        exact ⟨⟨_, rfl⟩, by rw [← GO1.out]; exact JX.out⟩
      · have ca1 : decide ((0 : Int) < (acc.length : Int)) = true := decide_eq_true (by omega)
        have ca2 : decide (0 < acc.length) = true := decide_eq_true (by omega)
        rw [if_neg ca] at hgo
        have GO1 := Aside0.mk hgo
        have hyy := HY.out pre a acc (.slice A acc.length c) wr JX.out RX.out (NX.out.1 ca).1 (by have := (NX.out.1 ca).2; have := NX.out.2.2; omega) (by omega) (by have := NX.out.2; omega)
        obtain ⟨fn, tmps, assign, body, hyi, hyr⟩ := hyy
        have HRD := Aside0.mk hyr
        have s0 : wr.cell? ⟨rg, 0, none⟩ = some (.int .i64 a) := (blk_cell BX.out 0).trans rfl
        clear hgo ca hyr
        go_upto_region 12 with (fail)
        refine (wpIn_wide (n := m + 1)).1 ?_
        gi_wp2
        refine HRD.out.mono ?_
        rintro e X3 ⟨rfl, hj3, hk3⟩
        have JX3 := Aside0.mk hj3
        clear hj3 hk3 s0 s1 hyi BX RX JX
        gi_wp2
        go_wp2
        go_end0
        exact ⟨⟨_, rfl⟩, by rw [← GO1.out]; exact JX3.out⟩

end Go.Proofs.YtfcfomconcoimaaDoor.PFa
