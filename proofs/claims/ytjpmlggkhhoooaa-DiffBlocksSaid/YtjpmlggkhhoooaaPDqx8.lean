-- Written for this claim by a program (the kit's print, with hand-made contracts for what it does not take).
import Derived.Test.YtjpmlggkhhoooaaPDqx0
import Derived.Test.YtjpmlggkhhoooaaPDqx1
import Derived.Test.YtjpmlggkhhoooaaPDqx2
import Derived.Test.YtjpmlggkhhoooaaPDqx7
namespace Go.Proofs.Ytjpmlggkhhoooaa.PDq
open Go.RowKit Go.Proofs.YtjpmlggkhhoooaaW.PrintWords Go.Proofs.YtjpmlggkhhoooaaW.PrintLast Go.Proofs.YtjpmlggkhhoooaaW.PrintMore
attribute [local go_sem] max2_int min2_int max_two min_two max_three min_three max_four min_four   -- for this text's walks alone
set_option linter.unusedVariables false
set_option linter.unusedSimpArgs false

attribute [local go_sem high] eqA64 eqA76
/-! ### diff_Edits: function 13 -/
/-- What 'gaps' calls for, one call behind the other: from, to, and whether a pair comes behind. -/
def diff_gaps.trace (n m : Int) : Int × Int → List S76 → List ((Int × Int) × (Int × Int) × Bool)
  | last, [] => [(last, (n, m), false)]
  | last, p :: r => (last, (p.f0, p.f1), true) :: diff_gaps.trace n m (p.f0 + 1, p.f1 + 1) r
/-- All blocks of pairs stay. -/
def diff_gaps.Keep (W W' : World) : Prop := ∀ (g : Nat) (cs : Array Value), W.heap[g]? = some (.cells cs 76 (0, 0)) → W'.heap[g]? = some (.cells cs 76 (0, 0))
theorem diff_gaps.Keep.trans {A B C : World} (h : diff_gaps.Keep A B) (k : diff_gaps.Keep B C) : diff_gaps.Keep A C := fun g cs hg => k g cs (h g cs hg)
theorem diff_gaps.Keep.grown {A B : World} (h : A.grownBy B none) : diff_gaps.Keep A B := fun g cs hg => blk_grown hg h (by simp)
theorem diff_gaps.Keep.row {W W' : World} {B : Nat} {v : Value} {l : List S76} (h : diff_gaps.Keep W W') (hr : Kd.R k76 76 W B (fun _ => True) v l) : Kd.R k76 76 W' B (fun _ => True) v l := by
  refine Kd.R_mono (Kd.R_move (Kd.R_bound hr) (fun k hk => ?_)) (fun _ _ => trivial)
  obtain ⟨_, _, _, q, hq, cells, hc⟩ := hk
  have hq' : q = 76 := by simpa [k76, Kd.iso, Kd.pair, Kd.int, Kd.scalar] using hq
  subst hq'
  rw [h k cells hc, hc]
theorem diff_gaps.own_set {w W : World} {g : Nat} (hk : diff_gaps.Keep w W) (hg : w.heap.size ≤ g) (j : Nat) (u : Value) : diff_gaps.Keep w (W.setCell ⟨g, j, none⟩ u) := by
  intro k cs h
  have := (Array.getElem?_eq_some_iff.1 h).1
  rw [Below.heap_setCell W ⟨g, j, none⟩ u k (by simp; omega)]
  exact hk k cs h
theorem diff_gaps.trace_end {n m : Int} {l : List S76} {i : Nat} {pre : List ((Int × Int) × (Int × Int) × Bool)} {last : Int × Int} (h : diff_gaps.trace n m (0, 0) l = pre ++ diff_gaps.trace n m last (l.drop i)) (hi : l.length ≤ i) : diff_gaps.trace n m (0, 0) l = pre ++ [(last, (n, m), false)] := by
  rw [h, List.drop_eq_nil_of_le hi]
  rfl
theorem diff_gaps.trace_next {n m : Int} {l : List S76} {i : Nat} {pre : List ((Int × Int) × (Int × Int) × Bool)} {last : Int × Int} (h : diff_gaps.trace n m (0, 0) l = pre ++ diff_gaps.trace n m last (l.drop i)) (hi : i < l.length) :
    diff_gaps.trace n m (0, 0) l = (pre ++ [(last, ((rd_T76 l (i : Int)).f0, (rd_T76 l (i : Int)).f1), true)]) ++ diff_gaps.trace n m ((rd_T76 l (i : Int)).f0 + 1, (rd_T76 l (i : Int)).f1 + 1) (l.drop (i + 1)) := by
  have e : rd_T76 l (i : Int) = l[i] := by simp [rd_T76, List.getD_eq_getElem?_getD, List.getElem?_eq_getElem hi]
  rw [h, List.drop_eq_getElem_cons hi, e]
  simp [diff_gaps.trace]
theorem diff_gaps.rd_mem {l : List S76} {i : Nat} (hi : i < l.length) : rd_T76 l (i : Int) ∈ l := by
  have e : rd_T76 l (i : Int) = l[i] := by simp [rd_T76, List.getD_eq_getElem?_getD, List.getElem?_eq_getElem hi]
  rw [e]
  exact List.getElem_mem hi
set_option maxRecDepth 100000 in
set_option maxHeartbeats 4000000 in
theorem diff_gaps.calls (C : Nat) (bs : Array Value) (hent : ∀ (xs : Array Value) (W : World), (callFunc C xs).run Try.prog W = .ok (.enter C xs) W) (v : Value) (l : List S76) (n m : Int) (B : Nat) (w : World) (hR : Kd.R k76 76 w B (fun _ => True) v l)
    (hn : 0 ≤ n ∧ n ≤ 4000000) (hm : 0 ≤ m ∧ m ≤ 4000000) (hl : ∀ x ∈ l, (0 ≤ x.f0 ∧ x.f0 ≤ 4000000) ∧ (0 ≤ x.f1 ∧ x.f1 ≤ 4000000)) (J : List ((Int × Int) × (Int × Int) × Bool) → World → Prop) (hJ0 : J [] w)
    (hJa : ∀ pre W W', J pre W → W.grownBy W' none → J pre W') (hJs : ∀ pre W (g : Nat) (cs : Array Value) (j : Nat) (u : Value), J pre W → W.heap[g]? = some (.cells cs 76 (0, 0)) → w.heap.size ≤ g → J pre (W.setCell ⟨g, j, none⟩ u))
    (hcall : ∀ pre rest f t b W, diff_gaps.trace n m (0, 0) l = pre ++ (f, t, b) :: rest → J pre W → Calls Try.prog C (#[.agg #[.int .i64 f.1, .int .i64 f.2], .agg #[.int .i64 t.1, .int .i64 t.2], .bool b] ++ bs) W fun e W' => (∃ x, e = .returned x) ∧ J (pre ++ [(f, t, b)]) W' ∧ diff_gaps.Keep W W') :
    Calls Try.prog 33 #[v, .int .i64 n, .int .i64 m, .func (.func C) #[] bs] w fun e w' => (∃ x, e = .returned x) ∧ J (diff_gaps.trace n m (0, 0) l) w' := by
  obtain ⟨A, c, rfl⟩ := Kd.R_slice hR
  have HE := Aside0.mk hent
  have HC := Aside0.mk hcall
  have HJA := Aside0.mk hJa
  have HJS := Aside0.mk hJs
  have HJ := Aside0.mk hJ0
  have HR := Aside0.mk hR
  have HLB := Aside0.mk hl
  have HK := Aside0.mk (show diff_gaps.Keep w w from fun g cs hg => hg)
  have HLEN := Aside0.mk (Kd.R_reads' hR).2.2.2.1
  obtain ⟨n0, n1⟩ := hn
  obtain ⟨m0, m1⟩ := hm
  clear hent hcall hJa hJs hJ0 hR hl
  go_enter Try.func33, Try.ntmps33
  go_wp2
  have BK := Aside0.mk (heap_alloc_new w (.cells #[.int .i64 0, .int .i64 0] 76 (0, 0)))
  have n0_ := Aside0.mk (HJA.out _ _ _ HJ.out (World.grownBy_alloc w (.cells #[.int .i64 0, .int .i64 0] 76 (0, 0)) none))
  have n1_ := Aside0.mk (HK.out.trans (diff_gaps.Keep.grown (World.grownBy_alloc w (.cells #[.int .i64 0, .int .i64 0] 76 (0, 0)) none)))
  clear HJ HK
  have HJ := n0_
  have HK := n1_
  clear n0_ n1_
  go_loopw [14] (fun v14 wr => ∃ (i : Nat) (f0 f1 : Int) (pre : List ((Int × Int) × (Int × Int) × Bool)), v14 = .int .i64 (i : Int) ∧ Aside0 (i ≤ l.length) ∧ Aside0 (wr.heap[w.heap.size]? = some (.cells #[.int .i64 f0, .int .i64 f1] 76 (0, 0))) ∧ Aside0 (diff_gaps.trace n m (0, 0) l = pre ++ diff_gaps.trace n m (f0, f1) (l.drop i)) ∧ Aside0 (J pre wr) ∧ Aside0 (diff_gaps.Keep w wr)) (fun v14 _ => l.length - (intOf v14).toNat)
  case atStart => exact ⟨0, 0, 0, [], rfl, ⟨Nat.zero_le _⟩, BK, ⟨rfl⟩, HJ, HK⟩
  case round =>
    clear BK HJ HK
    obtain ⟨i, f0, f1, pre, rfl, HI, BK, HT, HJ, HK⟩ := hrel
    have hcz0 : wr.cell? ⟨w.heap.size, 0, none⟩ = some (.int .i64 f0) := (blk_cell BK.out 0).trans rfl
    have hcz1 : wr.cell? ⟨w.heap.size, 1, none⟩ = some (.int .i64 f1) := (blk_cell BK.out 1).trans rfl
    have hfz0 := blk_frozen BK.out 0
    have hfz1 := blk_frozen BK.out 1
    by_cases hlt : i < l.length
    · have q1 : decide ((i : Int) < (l.length : Int)) = true := decide_eq_true (by omega)
      have q2 : decide (i < l.length) = true := decide_eq_true hlt
      have q3 : (i : Int) < (l.length : Int) := by omega
      have q4 : (0 : Int) ≤ (i : Int) := by omega
      have q5 : (i : Int) ≤ 9223372036854775806 := by have := HLEN.out; omega
      obtain ⟨⟨p00, p01⟩, ⟨p10, p11⟩⟩ := HLB.out _ (diff_gaps.rd_mem hlt)
      have TR := Aside0.mk (diff_gaps.trace_next HT.out hlt)
      have HLT := Aside0.mk hlt
      obtain ⟨ad, rfl, x0, x1⟩ := at_T76 (Kd.R_reads' (HK.out.row HR.out)).2.2 (i : Int) q4 q3
      rw [Int.toNat_natCast] at x0 x1
      obtain ⟨y0, hy0⟩ : ∃ y, y = (rd_T76 l (i : Int)).f0 := ⟨_, rfl⟩
      obtain ⟨y1, hy1⟩ : ∃ y, y = (rd_T76 l (i : Int)).f1 := ⟨_, rfl⟩
      rw [← hy0] at x0 p00 p01
      rw [← hy1] at x1 p10 p11
      have TR2 := Aside0.mk (show diff_gaps.trace n m (0, 0) l = (pre ++ [((f0, f1), (y0, y1), true)]) ++ diff_gaps.trace n m (y0 + 1, y1 + 1) (l.drop (i + 1)) by rw [hy0, hy1]; exact TR.out)
      clear TR hy0 hy1 hlt
      go_wp2_with (first | ((with_reducible refine gate_dst (N := 10) rfl ?_); refine box_event ?hg (N := 10) ?hd (cs := #[.int .i64 0, .int .i64 0]) (t := 76) ?hr ?_; (case hd => rfl); (case hg => rfl); (case hr => first | (go_simp; done) | (go_simp; rfl)); intro gp hg w2 hbox hb; have GP := Aside0.mk (show w.heap.size < gp by rw [hg]; exact blk_lt BK.out); have n0_ := Aside0.mk (HJA.out _ _ _ HJ.out (grown_of_below hb none)); have n1_ := Aside0.mk (HK.out.trans (diff_gaps.Keep.grown (grown_of_below hb none))); have n2_ := Aside0.mk (blk_below BK.out hb); have BP := Aside0.mk hbox; clear HJ HK BK hg hbox hb hcz0 hcz1 hfz0 hfz1 x0 x1; have HJ := n0_; have HK := n1_; have BK := n2_; clear n0_ n1_ n2_; have hcz0 : w2.cell? ⟨w.heap.size, 0, none⟩ = some (.int .i64 f0) := (blk_cell BK.out 0).trans rfl; have hcz1 : w2.cell? ⟨w.heap.size, 1, none⟩ = some (.int .i64 f1) := (blk_cell BK.out 1).trans rfl; have hcp0 : w2.cell? ⟨gp, 0, none⟩ = some (.int .i64 0) := (blk_cell BP.out 0).trans rfl; have hcp1 : w2.cell? ⟨gp, 1, none⟩ = some (.int .i64 0) := (blk_cell BP.out 1).trans rfl; have hfp0 := blk_frozen BP.out 0; have hfp1 := blk_frozen BP.out 1; have hne1 : ¬ (gp = w.heap.size) := (by have := GP.out; omega); have hne2 : ¬ (w.heap.size = gp) := (by have := GP.out; omega)) | ((with_reducible refine gate_dst (N := 21) rfl ?_); refine diff_grid.goesV (some 21) rfl rfl HE.out #[.agg #[.int .i64 f0, .int .i64 f1], .agg #[.int .i64 y0, .int .i64 y1], .bool true] rfl rfl (by (try simp only [List.map_toArray, List.map_cons, List.map_nil]); first | done | rfl) ?_; refine (HC.out pre _ (f0, f1) (y0, y1) true _ (TR2.out.trans (by rw [List.append_assoc]; rfl)) (HJS.out _ _ gp _ 1 _ (HJS.out _ _ gp _ 0 _ HJ.out BP.out (Nat.le_of_lt GP.out)) (blk_set BP.out 0 _) (Nat.le_of_lt GP.out))).mono ?_; rintro e w5 ⟨⟨x, rfl⟩, hj5, hk5⟩; refine ⟨_, rfl, ?_⟩; have n0_ := Aside0.mk hj5; have n1_ := Aside0.mk ((diff_gaps.own_set (diff_gaps.own_set HK.out (Nat.le_of_lt GP.out) 0 _) (Nat.le_of_lt GP.out) 1 _).trans hk5); have n2_ := Aside0.mk (hk5 _ _ (blk_far (p := ⟨gp, 1, none⟩) (blk_far (p := ⟨gp, 0, none⟩) BK.out hne2 _) hne2 _)); have n3_ := Aside0.mk (hk5 _ _ (blk_put (cs' := #[.int .i64 y0, .int .i64 y1]) (blk_put (cs' := #[.int .i64 y0, .int .i64 0]) BP.out 0 _ rfl) 1 _ rfl)); clear HJ HK BK BP hj5 hk5 hcz0 hcz1 hcp0 hcp1 hfp0 hfp1; have HJ := n0_; have HK := n1_; have BK := n2_; have BP := n3_; clear n0_ n1_ n2_ n3_; have hcz0 : w5.cell? ⟨w.heap.size, 0, none⟩ = some (.int .i64 f0) := (blk_cell BK.out 0).trans rfl; have hcz1 : w5.cell? ⟨w.heap.size, 1, none⟩ = some (.int .i64 f1) := (blk_cell BK.out 1).trans rfl; have hfz0 := blk_frozen BK.out 0; have hfz1 := blk_frozen BK.out 1; have hcp0 : w5.cell? ⟨gp, 0, none⟩ = some (.int .i64 y0) := (blk_cell BP.out 0).trans rfl; have hcp1 : w5.cell? ⟨gp, 1, none⟩ = some (.int .i64 y1) := (blk_cell BP.out 1).trans rfl))
      go_roundw
      case rel => exact ⟨i + 1, y0 + 1, y1 + 1, pre ++ [((f0, f1), (y0, y1), true)], by first | rfl | go_num, ⟨by have := HLT.out; omega⟩, ⟨blk_put (cs' := #[.int .i64 (y0 + 1), .int .i64 (y1 + 1)]) (blk_put (cs' := #[.int .i64 (y0 + 1), .int .i64 f1]) BK.out 0 _ rfl) 1 _ rfl⟩, TR2, ⟨HJS.out _ _ _ _ 1 _ (HJS.out _ _ _ _ 0 _ HJ.out BK.out (Nat.le_refl _)) (blk_set BK.out 0 _) (Nat.le_refl _)⟩, ⟨diff_gaps.own_set (diff_gaps.own_set HK.out (Nat.le_refl _) 0 _) (Nat.le_refl _) 1 _⟩⟩
      case measure => have := HLT.out; simp [intOf]; omega
    · have q1 : decide ((i : Int) < (l.length : Int)) = false := decide_eq_false (by omega)
      have q2 : decide (i < l.length) = false := decide_eq_false hlt
      have TR := Aside0.mk (diff_gaps.trace_end HT.out (Nat.le_of_not_lt hlt))
      clear hlt
      go_wp2_with ((with_reducible refine gate_dst (N := 35) rfl ?_); refine diff_grid.goesV (some 35) rfl rfl HE.out #[.agg #[.int .i64 f0, .int .i64 f1], .agg #[.int .i64 n, .int .i64 m], .bool false] rfl rfl (by (try simp only [List.map_toArray, List.map_cons, List.map_nil]); first | done | rfl) ?_; refine (HC.out pre [] (f0, f1) (n, m) false _ TR.out HJ.out).mono ?_; rintro e w5 ⟨⟨x, rfl⟩, hj5, hk5⟩; refine ⟨_, rfl, ?_⟩; have n0_ := Aside0.mk hj5; clear hj5 hk5)
      go_end0
      rw [TR.out]
      exact ⟨⟨_, rfl⟩, n0_.out⟩
theorem diff_Edits.eqA (d : Nat) (w : World) (x0 y0 : Int) (x1 y1 : Int) :
    (Op.equalIn (d + 2) 76 (.agg #[.int .i64 x0, .int .i64 x1]) (.agg #[.int .i64 y0, .int .i64 y1])).run Try.prog w = .ok (x0 == y0 && (x1 == y1)) w := eqA76 d w x0 y0 x1 y1
attribute [local go_sem high] diff_Edits.eqA
def diff_Edits.add (f t : Int × Int) : List S41 := if f = t then [] else [⟨f.1, t.1 - f.1, t.2 - f.2⟩]
/-- What was found so far. -/
structure diff_Edits.St (bo B : Nat) (w0 : World) (out : List S41) (W : World) : Prop where
  ex : ∃ v, W.heap[bo]? = some (.cells #[v] 32 (0, 0)) ∧ Kd.R k41 41 W B (fun _ => True) v out
  below : Below B w0 W
theorem diff_Edits.St.grown {bo B : Nat} {w0 W W' : World} {out : List S41} (h : diff_Edits.St bo B w0 out W) (hB : B ≤ W.heap.size) (hg : W.grownBy W' none) : diff_Edits.St bo B w0 out W' := by
  obtain ⟨⟨v, h1, h2⟩, h3⟩ := h
  exact ⟨⟨v, blk_grown h1 hg (by simp), Kd.R_grown h2 hg (fun _ _ => by simp)⟩, h3.grown hg hB (fun r e => by cases e)⟩
theorem diff_Edits.St.set {bo B : Nat} {w0 W : World} {out : List S41} (h : diff_Edits.St bo B w0 out W) {g : Nat} {cs : Array Value} (hg : W.heap[g]? = some (.cells cs 76 (0, 0))) (hB : B ≤ g) (j : Nat) (u : Value) : diff_Edits.St bo B w0 out (W.setCell ⟨g, j, none⟩ u) := by
  obtain ⟨⟨v, h1, h2⟩, h3⟩ := h
  exact ⟨⟨v, blk_far h1 (blk_ne h1 hg (by decide)) u, Kd.R_set h2 hg (by decide) j u⟩, h3.setCell hB _⟩
set_option maxRecDepth 100000 in
set_option maxHeartbeats 4000000 in
theorem diff_Edits.one (bo B : Nat) (w0 : World) (f0 f1 t0 t1 : Int) (b : Bool) (out : List S41) (hlen : out.length ≤ 100000) (h00 : -4000001 ≤ f0 ∧ f0 ≤ 4000001) (h01 : -4000001 ≤ f1 ∧ f1 ≤ 4000001) (h10 : -4000001 ≤ t0 ∧ t0 ≤ 4000001) (h11 : -4000001 ≤ t1 ∧ t1 ≤ 4000001) (w : World) (hS : diff_Edits.St bo B w0 out w) (hB : B ≤ w.heap.size) (hBo : B ≤ bo) :
    Calls Try.prog 34 (#[.agg #[.int .i64 f0, .int .i64 f1], .agg #[.int .i64 t0, .int .i64 t1], .bool b] ++ #[.pointer (some ⟨bo, 0, none⟩)]) w fun e W' => (∃ x, e = .returned x) ∧ diff_Edits.St bo B w0 (out ++ diff_Edits.add (f0, f1) (t0, t1)) W' ∧ diff_gaps.Keep w W' := by
  have HS := Aside0.mk hS
  have HBB := Aside0.mk hB
  have HBO := Aside0.mk hBo
  have HL := Aside0.mk hlen
  obtain ⟨p0, p1⟩ := h00
  obtain ⟨p2, p3⟩ := h01
  obtain ⟨p4, p5⟩ := h10
  obtain ⟨p6, p7⟩ := h11
  clear hS hB hBo hlen
  by_cases he : f0 = t0 ∧ f1 = t1
  · obtain ⟨rfl, rfl⟩ := he
    go_enter Try.func34, Try.ntmps34
    go_wp2
    go_end0
    refine ⟨⟨_, rfl⟩, ?_, (diff_gaps.Keep.grown (World.grownBy_alloc _ _ none)).trans (diff_gaps.Keep.grown (World.grownBy_alloc _ _ none))⟩
    have h1 := HS.out.grown HBB.out (World.grownBy_alloc w (.cells #[.int .i64 f0, .int .i64 f1] 76 (0, 0)) none)
    have h2 := h1.grown (Nat.le_trans HBB.out (by simp)) (World.grownBy_alloc _ (.cells #[.int .i64 f0, .int .i64 f1] 76 (0, 0)) none)
    simpa [diff_Edits.add] using h2
  · have hadd : diff_Edits.add (f0, f1) (t0, t1) = [⟨f0, t0 - f0, t1 - f1⟩] := by
      unfold diff_Edits.add
      rw [if_neg (fun e => he (by simpa using e))]
    rw [hadd]
    by_cases h0 : f0 = t0
    · have h1 : ¬ f1 = t1 := fun h => he ⟨h0, h⟩
      have q0 : (f0 == t0) = true := beq_iff_eq.mpr h0
      have q1 : (f1 == t1) = false := beq_eq_false_iff_ne.mpr h1
      clear h0 h1 he hadd
      have q2 := True.intro
      go_enter Try.func34, Try.ntmps34
      go_wp2_with (first | ((with_reducible refine gate_dst (N := 4) rfl ?_); refine box_event ?hg (N := 4) ?hd (cs := #[.int .i64 f0, .int .i64 f1]) (t := 76) ?hr ?_; (case hd => rfl); (case hg => rfl); (case hr => first | (go_simp; done) | (go_simp; rfl)); intro ga hg4 w1 hbox4 hb4; have n0_ := Aside0.mk (HS.out.grown HBB.out (grown_of_below hb4 none)); have HB1 := Aside0.mk (Nat.le_trans HBB.out hb4.size); have K1 := Aside0.mk (diff_gaps.Keep.grown (grown_of_below hb4 none)); have BA := Aside0.mk hbox4; clear HS hg4 hbox4 hb4; have HS := n0_; clear n0_) | ((with_reducible refine gate_dst (N := 5) rfl ?_); refine box_event ?hg (N := 5) ?hd (cs := #[.int .i64 t0, .int .i64 t1]) (t := 76) ?hr ?_; (case hd => rfl); (case hg => rfl); (case hr => first | (go_simp; done) | (go_simp; rfl)); intro gb hg5 w2 hbox5 hb5; have n0_ := Aside0.mk (HS.out.grown HB1.out (grown_of_below hb5 none)); have HB2 := Aside0.mk (Nat.le_trans HB1.out hb5.size); have K2 := Aside0.mk (K1.out.trans (diff_gaps.Keep.grown (grown_of_below hb5 none))); have n1_ := Aside0.mk (blk_below BA.out hb5); have BB := Aside0.mk hbox5; clear HS BA K1 HB1 hg5 hbox5 hb5; have HS := n0_; have BA := n1_; clear n0_ n1_; have hca0 : w2.cell? ⟨ga, 0, none⟩ = some (.int .i64 f0) := (blk_cell BA.out 0).trans rfl; have hca1 : w2.cell? ⟨ga, 1, none⟩ = some (.int .i64 f1) := (blk_cell BA.out 1).trans rfl; have hcb0 : w2.cell? ⟨gb, 0, none⟩ = some (.int .i64 t0) := (blk_cell BB.out 0).trans rfl; have hcb1 : w2.cell? ⟨gb, 1, none⟩ = some (.int .i64 t1) := (blk_cell BB.out 1).trans rfl; obtain ⟨⟨vo, hbo_, hro_⟩, hbel_⟩ := HS.out; have BO := Aside0.mk hbo_; have RO := Aside0.mk hro_; have BL := Aside0.mk hbel_; clear hbo_ hro_ hbel_; have hco : w2.cell? ⟨bo, 0, none⟩ = some vo := (blk_cell BO.out 0).trans rfl; have hfo := blk_frozen BO.out 0) | (at_builtin; refine Kd.R_append k41 (w0 := w0) B rfl (.tmp 10) (.tmp 24) 32 41 (.agg #[.int .i64 0, .int .i64 0, .int .i64 0]) 24 rfl Try.underlying32 info41 rfl (by decide) (by decide) vo out (⟨f0, t0 - f0, t1 - f1⟩ : S41) [.int .i64 f0, .int .i64 (t0 - f0), .int .i64 (t1 - f1)] (fun _ => True) (fun _ => False) rfl rfl (k41_mkM _ _ _ _) (fun _ h => h.elim) (fun _ _ => trivial) RO.out BL.out HB2.out (by have := HL.out; omega) ?_; intro v1 w8 hR1 hb8 hg1 hat1; obtain ⟨av_, cv_, hv1_⟩ := Kd.R_slice hR1; obtain ⟨nv_, hnv_⟩ : ∃ n, n = (out ++ [(⟨f0, t0 - f0, t1 - f1⟩ : S41)]).length := ⟨_, rfl⟩; rw [← hnv_] at hv1_; subst hv1_; have R8 := Aside0.mk hR1; have B8 := Aside0.mk hb8; have O8 := Aside0.mk (blk_grown BO.out hg1 (Kd.R_ne RO.out BO.out (by decide))); have K8 := Aside0.mk (show diff_gaps.Keep w2 w8 from fun g cs hg => blk_grown hg hg1 (Kd.R_ne RO.out hg (by decide))); clear hca0 hca1 hcb0 hcb1 hco hfo hR1 hb8 hg1 hat1 hnv_; have hco : w8.cell? ⟨bo, 0, none⟩ = some vo := (blk_cell O8.out 0).trans rfl; have hfo := blk_frozen O8.out 0))
      go_end0
      refine ⟨⟨_, rfl⟩, ⟨⟨_, (blk_set O8.out 0 _).trans rfl, Kd.R_set R8.out O8.out (by decide) 0 _⟩, B8.out.setCell HBO.out _⟩, fun g cs hg => ?_⟩
      exact blk_far (K8.out g cs (K2.out g cs hg)) (fun e_ => blk_ne O8.out (K8.out g cs (K2.out g cs hg)) (by decide) e_.symm) _
    · have q0 : (f0 == t0) = false := beq_eq_false_iff_ne.mpr h0
      clear h0 he hadd
      have q2 := True.intro
      go_enter Try.func34, Try.ntmps34
      go_wp2_with (first | ((with_reducible refine gate_dst (N := 4) rfl ?_); refine box_event ?hg (N := 4) ?hd (cs := #[.int .i64 f0, .int .i64 f1]) (t := 76) ?hr ?_; (case hd => rfl); (case hg => rfl); (case hr => first | (go_simp; done) | (go_simp; rfl)); intro ga hg4 w1 hbox4 hb4; have n0_ := Aside0.mk (HS.out.grown HBB.out (grown_of_below hb4 none)); have HB1 := Aside0.mk (Nat.le_trans HBB.out hb4.size); have K1 := Aside0.mk (diff_gaps.Keep.grown (grown_of_below hb4 none)); have BA := Aside0.mk hbox4; clear HS hg4 hbox4 hb4; have HS := n0_; clear n0_) | ((with_reducible refine gate_dst (N := 5) rfl ?_); refine box_event ?hg (N := 5) ?hd (cs := #[.int .i64 t0, .int .i64 t1]) (t := 76) ?hr ?_; (case hd => rfl); (case hg => rfl); (case hr => first | (go_simp; done) | (go_simp; rfl)); intro gb hg5 w2 hbox5 hb5; have n0_ := Aside0.mk (HS.out.grown HB1.out (grown_of_below hb5 none)); have HB2 := Aside0.mk (Nat.le_trans HB1.out hb5.size); have K2 := Aside0.mk (K1.out.trans (diff_gaps.Keep.grown (grown_of_below hb5 none))); have n1_ := Aside0.mk (blk_below BA.out hb5); have BB := Aside0.mk hbox5; clear HS BA K1 HB1 hg5 hbox5 hb5; have HS := n0_; have BA := n1_; clear n0_ n1_; have hca0 : w2.cell? ⟨ga, 0, none⟩ = some (.int .i64 f0) := (blk_cell BA.out 0).trans rfl; have hca1 : w2.cell? ⟨ga, 1, none⟩ = some (.int .i64 f1) := (blk_cell BA.out 1).trans rfl; have hcb0 : w2.cell? ⟨gb, 0, none⟩ = some (.int .i64 t0) := (blk_cell BB.out 0).trans rfl; have hcb1 : w2.cell? ⟨gb, 1, none⟩ = some (.int .i64 t1) := (blk_cell BB.out 1).trans rfl; obtain ⟨⟨vo, hbo_, hro_⟩, hbel_⟩ := HS.out; have BO := Aside0.mk hbo_; have RO := Aside0.mk hro_; have BL := Aside0.mk hbel_; clear hbo_ hro_ hbel_; have hco : w2.cell? ⟨bo, 0, none⟩ = some vo := (blk_cell BO.out 0).trans rfl; have hfo := blk_frozen BO.out 0) | (at_builtin; refine Kd.R_append k41 (w0 := w0) B rfl (.tmp 10) (.tmp 24) 32 41 (.agg #[.int .i64 0, .int .i64 0, .int .i64 0]) 24 rfl Try.underlying32 info41 rfl (by decide) (by decide) vo out (⟨f0, t0 - f0, t1 - f1⟩ : S41) [.int .i64 f0, .int .i64 (t0 - f0), .int .i64 (t1 - f1)] (fun _ => True) (fun _ => False) rfl rfl (k41_mkM _ _ _ _) (fun _ h => h.elim) (fun _ _ => trivial) RO.out BL.out HB2.out (by have := HL.out; omega) ?_; intro v1 w8 hR1 hb8 hg1 hat1; obtain ⟨av_, cv_, hv1_⟩ := Kd.R_slice hR1; obtain ⟨nv_, hnv_⟩ : ∃ n, n = (out ++ [(⟨f0, t0 - f0, t1 - f1⟩ : S41)]).length := ⟨_, rfl⟩; rw [← hnv_] at hv1_; subst hv1_; have R8 := Aside0.mk hR1; have B8 := Aside0.mk hb8; have O8 := Aside0.mk (blk_grown BO.out hg1 (Kd.R_ne RO.out BO.out (by decide))); have K8 := Aside0.mk (show diff_gaps.Keep w2 w8 from fun g cs hg => blk_grown hg hg1 (Kd.R_ne RO.out hg (by decide))); clear hca0 hca1 hcb0 hcb1 hco hfo hR1 hb8 hg1 hat1 hnv_; have hco : w8.cell? ⟨bo, 0, none⟩ = some vo := (blk_cell O8.out 0).trans rfl; have hfo := blk_frozen O8.out 0))
      go_end0
      refine ⟨⟨_, rfl⟩, ⟨⟨_, (blk_set O8.out 0 _).trans rfl, Kd.R_set R8.out O8.out (by decide) 0 _⟩, B8.out.setCell HBO.out _⟩, fun g cs hg => ?_⟩
      exact blk_far (K8.out g cs (K2.out g cs hg)) (fun e_ => blk_ne O8.out (K8.out g cs (K2.out g cs hg)) (by decide) e_.symm) _
def diff_Edits.outs (l : List ((Int × Int) × (Int × Int) × Bool)) : List S41 := l.flatMap fun c => diff_Edits.add c.1 c.2.1
theorem diff_Edits.outs_len : ∀ l : List ((Int × Int) × (Int × Int) × Bool), (diff_Edits.outs l).length ≤ l.length
  | [] => by simp [diff_Edits.outs]
  | c :: r => by
    have := diff_Edits.outs_len r
    have h : (diff_Edits.add c.1 c.2.1).length ≤ 1 := by unfold diff_Edits.add; split <;> simp
    simp only [diff_Edits.outs, List.flatMap_cons, List.length_append, List.length_cons] at this ⊢
    omega
theorem diff_gaps.trace_len (n m : Int) : ∀ (l : List S76) (last : Int × Int), (diff_gaps.trace n m last l).length = l.length + 1
  | [], _ => rfl
  | p :: r, _ => by simp [diff_gaps.trace, diff_gaps.trace_len n m r]
theorem diff_gaps.trace_mem (n m : Int) (hn : 0 ≤ n ∧ n ≤ 4000000) (hm : 0 ≤ m ∧ m ≤ 4000000) : ∀ (l : List S76) (last : Int × Int), (0 ≤ last.1 ∧ last.1 ≤ 4000001) → (0 ≤ last.2 ∧ last.2 ≤ 4000001) → (∀ x ∈ l, (0 ≤ x.f0 ∧ x.f0 ≤ 4000000) ∧ (0 ≤ x.f1 ∧ x.f1 ≤ 4000000)) →
    ∀ c ∈ diff_gaps.trace n m last l, (0 ≤ c.1.1 ∧ c.1.1 ≤ 4000001) ∧ (0 ≤ c.1.2 ∧ c.1.2 ≤ 4000001) ∧ (0 ≤ c.2.1.1 ∧ c.2.1.1 ≤ 4000001) ∧ (0 ≤ c.2.1.2 ∧ c.2.1.2 ≤ 4000001)
  | [], last, h1, h2, hl, c, hc => by
    simp only [diff_gaps.trace, List.mem_singleton] at hc
    subst hc
    exact ⟨h1, h2, by simp; omega, by simp; omega⟩
  | p :: r, last, h1, h2, hl, c, hc => by
    obtain ⟨a, b⟩ := hl p (List.mem_cons_self ..)
    simp only [diff_gaps.trace, List.mem_cons] at hc
    rcases hc with rfl | hc
    · exact ⟨h1, h2, by simp; omega, by simp; omega⟩
    · exact diff_gaps.trace_mem n m hn hm r _ (by simp; omega) (by simp; omega) (fun x hx => hl x (List.mem_cons_of_mem _ hx)) c hc
theorem diff_grid.enc_bound {like : Nat → Nat → Bool} {n m : Nat} (hn : n ≤ 400) (hm : m ≤ 400) : ∀ {i j : Nat} {l : List (Nat × Nat)}, DiffT.Rise like n m i j l → ∀ x ∈ diff_grid.enc l, (0 ≤ x.f0 ∧ x.f0 ≤ 4000000) ∧ (0 ≤ x.f1 ∧ x.f1 ≤ 4000000) := by
  intro i j l h
  induction h with
  | nil => intro x hx; simp [diff_grid.enc] at hx
  | cons i j p q l h1 h2 h3 h4 h5 h ih =>
    intro x hx
    simp only [diff_grid.enc, List.map_cons, List.mem_cons] at hx
    rcases hx with rfl | hx
    · simp; omega
    · exact ih x hx
def diff_Edits.f (l0 l1 : List S64) : Option (List S41 × Int) := some (if l0.length > 400 ∨ l1.length > 400 then ([], 2) else (diff_Edits.outs (diff_gaps.trace l0.length l1.length (0, 0) (diff_grid.enc (DiffT.P (diff_Pairs.like l0 l1) l0.length l1.length l0.length 0 0))), 0))
theorem diff_Edits.mono : ∀ a0 a1, LeO (diff_Edits.f a0 a1) (diff_Edits.f a0 a1) := fun _ _ => LeO.refl _
set_option maxRecDepth 100000 in
set_option maxHeartbeats 4000000 in
theorem diff_Edits.calls (A0 : Option Addr) (c0 : Nat) (l0 : List S64) (A1 : Option Addr) (c1 : Nat) (l1 : List S64) (r1 : List S41) (r2 : Int) (w : World) (hr0 : Kd.C k64 w A0 l0.length l0) (hc0 : l0.length ≤ c0) (hr1 : Kd.C k64 w A1 l1.length l1) (hc1 : l1.length ≤ c1) (h : diff_Edits.f l0 l1 = some (r1, r2)) :
    Calls Try.prog 13 #[.slice A0 l0.length c0, .slice A1 l1.length c1] w fun e w' => ∃ v0_ : Value, e = .returned (.tuple #[v0_, .int .i64 r2]) ∧ Kd.R k41 41 w' w.heap.size (fun _ => True) v0_ r1 ∧ Below w.heap.size w w' := by
  have h := Option.some.inj h
  have HR0 := Aside0.mk hr0
  have HR1 := Aside0.mk hr1
  have HC0 := Aside0.mk hc0
  have HC1 := Aside0.mk hc1
  clear hr0 hr1 hc0 hc1
  by_cases hbig : l0.length > 400 ∨ l1.length > 400
  · rw [if_pos hbig] at h
    simp only [Prod.mk.injEq] at h
    obtain ⟨rfl, rfl⟩ := h
    have HP := Aside0.mk (show diff_Pairs.f l0 l1 = some ([], 2) by unfold diff_Pairs.f; rw [if_pos hbig])
    clear hbig
    go_enter Try.func13, Try.ntmps13
    go_wp2_with (go_at_call 11; refine (diff_Pairs.calls A0 c0 l0 A1 c1 l1 [] 2 _ HR0.out HC0.out HR1.out HC1.out HP.out).mono ?_; rintro e w1 ⟨v, rfl, hR, hb⟩; have HB := Aside0.mk hb; clear hR hb)
    go_ret2
    exact ⟨_, rfl, Kd.R_nil _ _ _ _ _, HB.out⟩
  · rw [if_neg hbig] at h
    simp only [Prod.mk.injEq] at h
    obtain ⟨rfl, rfl⟩ := h
    have HN := Aside0.mk (show l0.length ≤ 400 by omega)
    have HM := Aside0.mk (show l1.length ≤ 400 by omega)
    have HP := Aside0.mk (show diff_Pairs.f l0 l1 = some (diff_grid.enc (DiffT.P (diff_Pairs.like l0 l1) l0.length l1.length l0.length 0 0), 0) by unfold diff_Pairs.f; rw [if_neg hbig])
    have HE := Aside0.mk (fun xs W => enters_ (P := Try.prog) Try.func34 (by kernel_rfl) rfl xs W)
    have HLB := Aside0.mk (diff_grid.enc_bound (like := diff_Pairs.like l0 l1) HN.out HM.out (DiffT.P_rise l0.length 0 0))
    have HPL := Aside0.mk (show (diff_grid.enc (DiffT.P (diff_Pairs.like l0 l1) l0.length l1.length l0.length 0 0)).length ≤ 400 by
      have h1 := DiffT.T_le (like := diff_Pairs.like l0 l1) (n := l0.length) (m := l1.length) _ 0 0 rfl
      have h2 := DiffT.P_length (like := diff_Pairs.like l0 l1) (n := l0.length) (m := l1.length) l0.length 0 0 (by omega)
      have h3 := HN.out
      simp only [diff_grid.enc, List.length_map]
      omega)
    obtain ⟨L, hL⟩ : ∃ L, L = diff_grid.enc (DiffT.P (diff_Pairs.like l0 l1) l0.length l1.length l0.length 0 0) := ⟨_, rfl⟩
    rw [← hL] at HP HLB HPL ⊢
    clear hbig hL
    go_enter Try.func13, Try.ntmps13
    go_wp2_with (first | (go_at_call 11; refine (diff_Pairs.calls A0 c0 l0 A1 c1 l1 L 0 _ HR0.out HC0.out HR1.out HC1.out HP.out).mono ?_; rintro e w1 ⟨v, rfl, hR, hb⟩; have HR := Aside0.mk hR; have HB := Aside0.mk hb; clear hR hb) | ((with_reducible refine gate_dst (N := 8) rfl ?_); refine box_event ?hg (N := 8) ?hd (cs := #[.slice none 0 0]) (t := 32) ?hr ?_; (case hd => rfl); (case hg => rfl); (case hr => first | (go_simp; done) | (go_simp; rfl)); intro bo hg w2 hbox hb; have n0_ := Aside0.mk (Kd.R_below HR.out hb); have ST := Aside0.mk (show diff_Edits.St bo w.heap.size w [] w2 from ⟨⟨_, hbox, Kd.R_nil _ _ _ _ _⟩, below_step HB.out hb⟩); have HBO := Aside0.mk (show w.heap.size ≤ bo by rw [hg]; exact HB.out.size); clear HR HB hg hbox hb; have HR := n0_; clear n0_))
    refine (diff_gaps.calls 34 #[.pointer (some ⟨bo, 0, none⟩)] HE.out v L (l0.length : Int) (l1.length : Int) w.heap.size w2 HR.out ⟨by omega, by have := HN.out; omega⟩ ⟨by omega, by have := HM.out; omega⟩ HLB.out (fun pre W => diff_Edits.St bo w.heap.size w (diff_Edits.outs pre) W) ST.out (fun pre W W' hj hg => hj.grown hj.below.size hg) (fun pre W g cs j u hj hg hle => hj.set hg (Nat.le_trans ST.out.below.size hle) j u) ?_).mono ?_
    · intro pre rest f t b W htr hj
      have hmem := diff_gaps.trace_mem (l0.length : Int) (l1.length : Int) ⟨by omega, by have := HN.out; omega⟩ ⟨by omega, by have := HM.out; omega⟩ L (0, 0) (by simp) (by simp) HLB.out (f, t, b) (by rw [htr]; simp)
      have hpl : pre.length ≤ 401 := by
        have h1 := diff_gaps.trace_len (l0.length : Int) (l1.length : Int) L (0, 0)
        rw [htr] at h1
        simp only [List.length_append, List.length_cons] at h1
        have := HPL.out
        omega
      have hol := diff_Edits.outs_len pre
      simp only at hmem
      refine (diff_Edits.one bo w.heap.size w f.1 f.2 t.1 t.2 b (diff_Edits.outs pre) (by omega) (by omega) (by omega) (by omega) (by omega) W hj hj.below.size HBO.out).mono ?_
      rintro e W' ⟨h1, h2, h3⟩
      refine ⟨h1, ?_, h3⟩
      have e : diff_Edits.outs (pre ++ [(f, t, b)]) = diff_Edits.outs pre ++ diff_Edits.add (f.1, f.2) (t.1, t.2) := by simp [diff_Edits.outs]
      rw [e]
      exact h2
    · rintro e w3 ⟨⟨x, rfl⟩, hj⟩
      obtain ⟨⟨vo, hbo, hro⟩, hbel⟩ := hj
      have RO := Aside0.mk hro
      have BL := Aside0.mk hbel
      have hco : w3.cell? ⟨bo, 0, none⟩ = some vo := (blk_cell hbo 0).trans rfl
      clear hbo hro hbel
      go_wp2
      go_ret2
      exact ⟨_, rfl, RO.out, BL.out⟩

/-! ### mark_Right: function 59 -/
def mark_Right.f (a0 : Int) : Option (Bool) := if a0 ≥ 0 then (some (decide (a0 ≤ 4))) else (some false)
set_option maxHeartbeats 8000000 in
set_option maxRecDepth 100000 in
theorem mark_Right.calls (a0 : Int) (r : Bool) (w : World) (h : mark_Right.f a0 = some r) :
    Calls Try.prog 59 #[.int .i64 a0] w fun e w' => e = .returned (.bool r) ∧ Drawn0 w w' := by
  have H : (if a0 ≥ 0 then (some (decide (a0 ≤ 4))) else (some false)) = some r := h
  clear h
  by_cases c2 : a0 ≥ 0
  · rw [if_pos c2] at H
    have c2b0 : decide (0 ≤ a0) = true := decide_eq_true c2
    clear c2
    obtain rfl := Option.some.inj H
    go_enter Try.func59, Try.ntmps59
    go_wp2
    go_ret
    exact ⟨by first | rfl | (simp; done) | (simp [*]; done), by repeat (first | exact Drawn0.refl _ | apply Drawn0.step)⟩
  · rw [if_neg c2] at H
    have c2b0 : decide (0 ≤ a0) = false := decide_eq_false c2
    clear c2
    obtain rfl := Option.some.inj H
    go_enter Try.func59, Try.ntmps59
    go_wp2
    go_ret
    exact ⟨by first | rfl | (simp; done) | (simp [*]; done), by repeat (first | exact Drawn0.refl _ | apply Drawn0.step)⟩

end Go.Proofs.Ytjpmlggkhhoooaa.PDq
