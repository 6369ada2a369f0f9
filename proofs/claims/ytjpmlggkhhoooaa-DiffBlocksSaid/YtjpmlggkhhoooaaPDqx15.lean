-- Written for this claim by a program (the kit's print, with hand-made contracts for what it does not take).
import Derived.Test.YtjpmlggkhhoooaaPDqx0
import Derived.Test.YtjpmlggkhhoooaaPDqx1
import Derived.Test.YtjpmlggkhhoooaaPDqx2
import Derived.Test.YtjpmlggkhhoooaaPDqx7
import Derived.Test.YtjpmlggkhhoooaaPDqx8
import Derived.Test.YtjpmlggkhhoooaaPDqx10
import Derived.Test.YtjpmlggkhhoooaaPDqx14
namespace Go.Proofs.Ytjpmlggkhhoooaa.PDq
open Go.RowKit Go.Proofs.YtjpmlggkhhoooaaW.PrintWords Go.Proofs.YtjpmlggkhhoooaaW.PrintLast Go.Proofs.YtjpmlggkhhoooaaW.PrintMore
attribute [local go_sem] max2_int min2_int max_two min_two max_three min_three max_four min_four   -- for this text's walks alone
set_option linter.unusedVariables false
set_option linter.unusedSimpArgs false

attribute [local go_sem high] eqA64 eqA76
/-! ### diff_Rows: function 21 -/
def diff_Rows.k0 (l0 l1 : List S64) : Nat := 4 * (l0.length + l1.length) + 3000
def diff_Rows.like (k : Nat) (xs ys : List S86) (i j : Nat) : Bool := (flat_Same.f k (rd_T86 xs (i : Int)).f1 (rd_T86 ys (j : Int)).f1).getD false
def diff_Rows.ok (k : Nat) (xs ys : List S86) : Bool := xs.all fun x => ys.all fun y => (flat_Same.f k x.f1 y.f1).isSome
theorem diff_Rows.mem {xs : List S86} {i : Nat} (hi : i < xs.length) : rd_T86 xs (i : Int) ∈ xs := by
  have e : rd_T86 xs (i : Int) = xs[i] := by simp [rd_T86, List.getD_eq_getElem?_getD, List.getElem?_eq_getElem hi]
  rw [e]
  exact List.getElem_mem hi
theorem diff_Rows.same {k : Nat} {xs ys : List S86} (h : diff_Rows.ok k xs ys = true) {i j : Nat} (hi : i < xs.length) (hj : j < ys.length) : flat_Same.f k (rd_T86 xs (i : Int)).f1 (rd_T86 ys (j : Int)).f1 = some (diff_Rows.like k xs ys i j) := by
  have h1 := List.all_eq_true.1 (List.all_eq_true.1 h _ (diff_Rows.mem hi)) _ (diff_Rows.mem hj)
  unfold diff_Rows.like
  cases e : flat_Same.f k (rd_T86 xs (i : Int)).f1 (rd_T86 ys (j : Int)).f1 with
  | none => rw [e] at h1; cases h1
  | some b => rfl
set_option maxRecDepth 100000 in
set_option maxHeartbeats 4000000 in
theorem diff_Rows.one1 (bx bz : Nat) (AX AY : Option Addr) (cx cy : Nat) (xs ys : List S86) (k i j : Nat) (hi : i < xs.length) (hj : j < ys.length) (r : Bool) (hs : flat_Same.f k (rd_T86 xs (i : Int)).f1 (rd_T86 ys (j : Int)).f1 = some r) (w : World)
    (h0 : w.cell? ⟨bx, 0, none⟩ = some (.slice AX xs.length cx)) (h1 : w.cell? ⟨bz, 0, none⟩ = some (.slice AY ys.length cy)) (hX : Kd.C k86 w AX xs.length xs) (hY : Kd.C k86 w AY ys.length ys) :
    Calls Try.prog 40 (#[.int .i64 (i : Int), .int .i64 (j : Int)] ++ #[.pointer (some ⟨bx, 0, none⟩), .pointer (some ⟨bz, 0, none⟩)]) w fun e w' => e = .returned (.bool r) ∧ Below w.heap.size w w' := by
  obtain ⟨x, hx⟩ : ∃ x : Int, x = (i : Int) := ⟨_, rfl⟩
  obtain ⟨y, hy⟩ : ∃ y : Int, y = (j : Int) := ⟨_, rfl⟩
  rw [← hx, ← hy] at hs ⊢
  have q1 : (0 : Int) ≤ x := by omega
  have q2 : x < (xs.length : Int) := by omega
  have q3 : (0 : Int) ≤ y := by omega
  have q4 : y < (ys.length : Int) := by omega
  obtain ⟨ad, A1, c1, rfl, a0, a1, al, aC⟩ := at_T86 hX x q1 q2
  obtain ⟨bd, B1, d1, rfl, b0, b1, bl, bC⟩ := at_T86 hY y q3 q4
  generalize (rd_T86 xs x).f1 = p at hs a1 al aC
  generalize (rd_T86 ys y).f1 = q at hs b1 bl bC
  have HS := Aside0.mk hs
  have HA := Aside0.mk aC
  have HB := Aside0.mk bC
  have HAL := Aside0.mk al
  have HBL := Aside0.mk bl
  clear hX hY hx hy hs aC bC al bl hi hj a0 b0
  go_enter Try.func40, Try.ntmps40
  go_wp2
  go_quiet ((go_at_call 41; refine Calls.quiet_of (v := .bool r) ((flat_Same.calls k A1 c1 p B1 d1 q r _ (Kd.C_drewN HA.out _) HAL.out (Kd.C_drewN HB.out _) HBL.out HS.out).mono ?_); rintro e w' ⟨rfl, ⟨nd, rfl⟩⟩; exact ⟨rfl, nd, rfl⟩))
  go_wp2
  go_ret
  exact ⟨rfl, Drawn0.below ⟨⟨_, rfl⟩⟩⟩
def diff_Rows.gone (p : S86) : S55 := ⟨1, p.f0, -1⟩
def diff_Rows.come (p : S86) : S55 := ⟨2, -1, p.f0⟩
def diff_Rows.add (xs ys : List S86) (c : (Int × Int) × (Int × Int) × Bool) : List S55 := ((xs.take c.2.1.1.toNat).drop c.1.1.toNat).map diff_Rows.gone ++ ((ys.take c.2.1.2.toNat).drop c.1.2.toNat).map diff_Rows.come ++ (if c.2.2 = true then [⟨0, (rd_T86 xs c.2.1.1).f0, (rd_T86 ys c.2.1.2).f0⟩] else [])
def diff_Rows.outs (xs ys : List S86) (l : List ((Int × Int) × (Int × Int) × Bool)) : List S55 := l.flatMap (diff_Rows.add xs ys)
def diff_Rows.T12 : Bool × List (List Nat × List Nat) := (true, [([], []), ([], []), ([], []), ([2], [2]), ([1, 3], [1, 3]), ([4], [4]), ([5], [5]), ([], []), ([], []), ([8], [8]), ([7, 9], [7, 9]), ([10], [10]), ([11], [11]), ([6, 12], [6, 12]), ([13], [13]), ([0, 14], [0, 14]), ([15, 15, 0, 1, 2, 3, 4, 5, 6, 7, 8, 9, 10, 11, 12, 13, 14, 15], [15])])
def diff_Rows.B12 : List Nat := [0, 0, 0, 4, 14, 30, 62, 0, 0, 256, 896, 1920, 3968, 8190, 16382, 32767, 65535]
theorem diff_Rows.tab12 : rtab .any (opsOf Try.f42 12) = diff_Rows.T12 := by kernel_rfl
theorem diff_Rows.bits12 : waitsOk diff_Rows.T12.2 diff_Rows.B12 = true := by kernel_rfl
/-- What was found so far. -/
structure diff_Rows.St (bo : Nat) (w0 : World) (out : List S55) (W : World) : Prop where
  ex : ∃ v, W.heap[bo]? = some (.cells #[v] 49 (0, 0)) ∧ Kd.R k55 55 W w0.heap.size (fun _ => True) v out
  below : Below w0.heap.size w0 W
theorem diff_Rows.St.grown {bo : Nat} {w0 W W' : World} {out : List S55} (h : diff_Rows.St bo w0 out W) (hg : W.grownBy W' none) : diff_Rows.St bo w0 out W' := by
  obtain ⟨⟨v, h1, h2⟩, h3⟩ := h
  exact ⟨⟨v, blk_grown h1 hg (by simp), Kd.R_grown h2 hg (fun _ _ => by simp)⟩, h3.grown hg h3.size (fun r e => by cases e)⟩
theorem diff_Rows.St.set {bo : Nat} {w0 W : World} {out : List S55} (h : diff_Rows.St bo w0 out W) {g : Nat} {cs : Array Value} (hg : W.heap[g]? = some (.cells cs 76 (0, 0))) (hB : w0.heap.size ≤ g) (j : Nat) (u : Value) : diff_Rows.St bo w0 out (W.setCell ⟨g, j, none⟩ u) := by
  obtain ⟨⟨v, h1, h2⟩, h3⟩ := h
  exact ⟨⟨v, blk_far h1 (blk_ne h1 hg (by decide)) u, Kd.R_set h2 hg (by decide) j u⟩, h3.setCell hB _⟩
theorem diff_Rows.snoc (b : List S55) (f : S86 → S55) (l : List S86) {i : Nat} (h : i < l.length) : b ++ (l.take (i + 1)).map f = (b ++ (l.take i).map f) ++ [f (rd_T86 l (i : Int))] := by
  have e : rd_T86 l (i : Int) = l[i] := by simp [rd_T86, List.getD_eq_getElem?_getD, List.getElem?_eq_getElem h]
  rw [e, List.take_succ_eq_append_getElem h, List.map_append, ← List.append_assoc]
  rfl
/-- A block that is neither the box nor the row stays over both stores and the append. -/
theorem diff_Rows.past {w2 w8 : World} {B gp g : Nat} {vo : Value} {cur : List S55} {cs cp : Array Value} {t : TypeId} {u0 u1 : Value} (hR : Kd.R k55 55 w2 B (fun _ => True) vo cur) (hP : w2.heap[gp]? = some (.cells cp 86 (0, 0))) (hg : ((w2.setCell ⟨gp, 0, none⟩ u0).setCell ⟨gp, 1, none⟩ u1).grownBy w8 vo.ownBlock) (h : w2.heap[g]? = some (.cells cs t (0, 0))) (h1 : t ≠ 86) (h2 : 55 ≠ t) : w8.heap[g]? = some (.cells cs t (0, 0)) :=
  blk_grown (blk_far (blk_far h (blk_ne h hP h1) _) (blk_ne h hP h1) _) hg (Kd.R_ne hR h h2)
theorem diff_Rows.pastK {w2 w8 : World} {B gp : Nat} {vo : Value} {cur : List S55} {cp : Array Value} {u0 u1 : Value} (hR : Kd.R k55 55 w2 B (fun _ => True) vo cur) (hP : w2.heap[gp]? = some (.cells cp 86 (0, 0))) (hg : ((w2.setCell ⟨gp, 0, none⟩ u0).setCell ⟨gp, 1, none⟩ u1).grownBy w8 vo.ownBlock) : diff_gaps.Keep w2 w8 :=
  fun g cs h => diff_Rows.past hR hP hg h (by decide) (by decide)
set_option maxRecDepth 100000 in
set_option maxHeartbeats 8000000 in
theorem diff_Rows.one2 (bx bo bz : Nat) (w0 : World) (AX AY : Option Addr) (cx cy : Nat) (xs ys : List S86) (h0 : w0.heap[bx]? = some (.cells #[.slice AX xs.length cx] 83 (0, 0))) (h1 : w0.heap[bz]? = some (.cells #[.slice AY ys.length cy] 83 (0, 0))) (hX : Kd.C k86 w0 AX xs.length xs) (hxc : xs.length ≤ cx) (hY : Kd.C k86 w0 AY ys.length ys) (hyc : ys.length ≤ cy)
    (f0 f1 t0 t1 : Int) (b : Bool) (out : List S55) (hlen : out.length ≤ 100000) (hf0 : 0 ≤ f0) (hf0t : f0 ≤ t0) (ht0 : t0 ≤ (xs.length : Int)) (hf1 : 0 ≤ f1) (hf1t : f1 ≤ t1) (ht1 : t1 ≤ (ys.length : Int)) (hxl : xs.length ≤ 200) (hyl : ys.length ≤ 200) (hb : b = true → t0 < (xs.length : Int) ∧ t1 < (ys.length : Int)) (w : World) (hS : diff_Rows.St bo w0 out w) (hBo : w0.heap.size ≤ bo) :
    Calls Try.prog 42 (#[.agg #[.int .i64 f0, .int .i64 f1], .agg #[.int .i64 t0, .int .i64 t1], .bool b] ++ #[.pointer (some ⟨bx, 0, none⟩), .pointer (some ⟨bo, 0, none⟩), .pointer (some ⟨bz, 0, none⟩)]) w fun e W' => (∃ x, e = .returned x) ∧ diff_Rows.St bo w0 (out ++ diff_Rows.add xs ys ((f0, f1), (t0, t1), b)) W' ∧ diff_gaps.Keep w W' := by
  obtain ⟨i86, hi86, _, hsz86, _⟩ := info_parts info86
  have hcutx := cut_mid (P := Try.prog) 83 86 .i64 .i64 Try.underlying83 hi86 2 hsz86 AX xs.length cx f0 t0 hf0 hf0t ht0 hxc
  have hcuty := cut_mid (P := Try.prog) 83 86 .i64 .i64 Try.underlying83 hi86 2 hsz86 AY ys.length cy f1 t1 hf1 hf1t ht1 hyc
  have hCX := Kd.C_mid (lo := f0.toNat) (hi := t0.toNat) (c := cx) hX (by omega) (by omega) hxc
  have hCY := Kd.C_mid (lo := f1.toNat) (hi := t1.toNat) (c := cy) hY (by omega) (by omega) hyc
  have hlx : ((xs.take t0.toNat).drop f0.toNat).length = t0.toNat - f0.toNat := by rw [List.length_drop, List.length_take]; omega
  have hly : ((ys.take t1.toNat).drop f1.toNat).length = t1.toNat - f1.toNat := by rw [List.length_drop, List.length_take]; omega
  have hadd : diff_Rows.add xs ys ((f0, f1), (t0, t1), b) = ((xs.take t0.toNat).drop f0.toNat).map diff_Rows.gone ++ ((ys.take t1.toNat).drop f1.toNat).map diff_Rows.come ++ (if b = true then [⟨0, (rd_T86 xs t0).f0, (rd_T86 ys t1).f0⟩] else []) := rfl
  rw [hadd]
  obtain ⟨px, hpx⟩ : ∃ p, p = (xs.take t0.toNat).drop f0.toNat := ⟨_, rfl⟩
  obtain ⟨py, hpy⟩ : ∃ p, p = (ys.take t1.toNat).drop f1.toNat := ⟨_, rfl⟩
  obtain ⟨DX, hDX⟩ : ∃ A, A = (if cx = f0.toNat then AX else AX.map (·.add (f0.toNat * 2))) := ⟨_, rfl⟩
  obtain ⟨DY, hDY⟩ : ∃ A, A = (if cy = f1.toNat then AY else AY.map (·.add (f1.toNat * 2))) := ⟨_, rfl⟩
  obtain ⟨dx, hdx⟩ : ∃ c, c = cx - f0.toNat := ⟨_, rfl⟩
  obtain ⟨dy, hdy⟩ : ∃ c, c = cy - f1.toNat := ⟨_, rfl⟩
  rw [← hpx] at hlx hCX ⊢
  rw [← hpy] at hly hCY ⊢
  rw [← hlx, ← hDX, ← hdx] at hcutx
  rw [← hly, ← hDY, ← hdy] at hcuty
  have CX := Aside0.mk (show Kd.C k86 w0 DX px.length px by rw [hDX]; exact hCX)
  have CY := Aside0.mk (show Kd.C k86 w0 DY py.length py by rw [hDY]; exact hCY)
  have HLX := Aside0.mk (show px.length ≤ 200 by omega)
  have HLY := Aside0.mk (show py.length ≤ 200 by omega)
  have HLBX := Aside0.mk (show out.length ≤ 100000 from hlen)
  have HLBY := Aside0.mk (show (out ++ px.map diff_Rows.gone).length ≤ 100200 by rw [List.length_append, List.length_map]; omega)
  have HX := Aside0.mk hX
  have HY := Aside0.mk hY
  have HBX := Aside0.mk h0
  have HBZ := Aside0.mk h1
  have HBO := Aside0.mk hBo
  have HS := Aside0.mk hS
  have HBB := Aside0.mk hb
  have HT := Aside0.mk (And.intro (show (0 : Int) ≤ t0 by omega) (show (0 : Int) ≤ t1 by omega))
  clear hX hY h0 h1 hBo hS hb hlen hxc hyc hCX hCY hlx hly hpx hpy hDX hDY hdx hdy hadd hi86 hsz86 hf0 hf0t ht0 hf1 hf1t ht1 hxl hyl
  go_enter Try.func42, Try.ntmps42
  go_wp2_with (first | ((with_reducible refine gate_dst (N := 6) rfl ?_); refine box_event ?hg (N := 6) ?hd (cs := #[.int .i64 f0, .int .i64 f1]) (t := 76) ?hr ?_; (case hd => rfl); (case hg => rfl); (case hr => first | (go_simp; done) | (go_simp; rfl)); intro ga hg6 w1 hb6x hb6; have n0_ := Aside0.mk (HS.out.grown (grown_of_below hb6 none)); have n1_ := Aside0.mk (diff_gaps.Keep.grown (grown_of_below hb6 none)); have BA := Aside0.mk hb6x; clear HS hg6 hb6x hb6; have HS := n0_; have HK := n1_; clear n0_ n1_) | ((with_reducible refine gate_dst (N := 7) rfl ?_); refine box_event ?hg (N := 7) ?hd (cs := #[.int .i64 t0, .int .i64 t1]) (t := 76) ?hr ?_; (case hd => rfl); (case hg => rfl); (case hr => first | (go_simp; done) | (go_simp; rfl)); intro gb hg7 w2 hb7x hb7; have n0_ := Aside0.mk (HS.out.grown (grown_of_below hb7 none)); have n1_ := Aside0.mk (HK.out.trans (diff_gaps.Keep.grown (grown_of_below hb7 none))); have n2_ := Aside0.mk (blk_below BA.out hb7); have BB := Aside0.mk hb7x; clear HS HK BA hg7 hb7x hb7; have HS := n0_; have HK := n1_; have BA := n2_; clear n0_ n1_ n2_; have hca0 : w2.cell? ⟨ga, 0, none⟩ = some (.int .i64 f0) := (blk_cell BA.out 0).trans rfl; have hcb0 : w2.cell? ⟨gb, 0, none⟩ = some (.int .i64 t0) := (blk_cell BB.out 0).trans rfl; have hcx : w2.cell? ⟨bx, 0, none⟩ = some (.slice AX xs.length cx) := (blk_cell (blk_below HBX.out HS.out.below) 0).trans rfl))
  clear hca0 hcb0 hcx
  go_loopw [20] (fun v20 wr => ∃ (i : Nat), v20 = .int .i64 (i : Int) ∧ Aside0 (i ≤ px.length) ∧ Aside0 (diff_Rows.St bo w0 (out ++ (px.take i).map diff_Rows.gone) wr) ∧ Aside0 (wr.heap[ga]? = some (.cells #[.int .i64 f0, .int .i64 f1] 76 (0, 0))) ∧ Aside0 (wr.heap[gb]? = some (.cells #[.int .i64 t0, .int .i64 t1] 76 (0, 0))) ∧ Aside0 (diff_gaps.Keep w wr)) (fun v20 _ => px.length - (intOf v20).toNat)
  case atStart => exact ⟨0, rfl, ⟨Nat.zero_le _⟩, ⟨by rw [List.take_zero, List.map_nil, List.append_nil]; exact HS.out⟩, BA, BB, HK⟩
  case round =>
    clear HS BA BB HK
    obtain ⟨i, rfl, HI, HS, BA, BB, HK⟩ := hrel
    by_cases hlt : i < px.length
    · have q1 : decide ((i : Int) < (px.length : Int)) = true := decide_eq_true (by omega)
      have q2 : decide (i < px.length) = true := decide_eq_true hlt
      have q3 : (i : Int) < (px.length : Int) := by omega
      have q4 : (0 : Int) ≤ (i : Int) := by omega
      have q5 : (i : Int) ≤ 9223372036854775806 := by have := HLX.out; omega
      have HLT := Aside0.mk hlt
      obtain ⟨ad, A1, c1, rfl, x0, x1, xl, xC⟩ := at_T86 (Kd.C_below CX.out HS.out.below) (i : Int) q4 q3
      rw [Int.toNat_natCast] at x0 x1
      have TK := Aside0.mk (diff_Rows.snoc out diff_Rows.gone px hlt)
      obtain ⟨kk, hkk⟩ : ∃ k, k = (rd_T86 px (i : Int)).f0 := ⟨_, rfl⟩
      obtain ⟨pp, hpp⟩ : ∃ k, k = (rd_T86 px (i : Int)).f1 := ⟨_, rfl⟩
      unfold diff_Rows.gone at TK
      rw [← hkk] at x0 TK
      rw [← hpp] at x1 xl xC
      obtain ⟨cur, hcur⟩ : ∃ c, c = out ++ (px.take i).map diff_Rows.gone := ⟨_, rfl⟩
      have HCL := Aside0.mk (show cur.length ≤ 150000 by have h1 := HLX.out; have h2 := HLBX.out; rw [hcur, List.length_append, List.length_map, List.length_take]; omega)
      unfold diff_Rows.gone at hcur
      unfold diff_Rows.gone at HS
      rw [← hcur] at HS TK
      clear hkk hpp hcur hlt xl xC
      go_wp2_with (first | ((with_reducible refine gate_dst (N := 10) rfl ?_); refine box_event ?hg (N := 10) ?hd (cs := #[.int .i64 0, .slice none 0 0]) (t := 86) ?hr ?_; (case hd => rfl); (case hg => rfl); (case hr => first | (go_simp; done) | (go_simp; rfl)); intro gp hg w2 hbox hb; have n0_ := Aside0.mk (HS.out.grown (grown_of_below hb none)); have HGP := Aside0.mk (show w0.heap.size ≤ gp by rw [hg]; exact HS.out.below.size); have n1_ := Aside0.mk (HK.out.trans (diff_gaps.Keep.grown (grown_of_below hb none))); have n2_ := Aside0.mk (blk_below BA.out hb); have n3_ := Aside0.mk (blk_below BB.out hb); have BP := Aside0.mk hbox; clear HS HK BA BB hg hbox hb x0 x1; have HS := n0_; have HK := n1_; have BA := n2_; have BB := n3_; clear n0_ n1_ n2_ n3_; obtain ⟨⟨vo, hbo_, hro_⟩, hbel_⟩ := HS.out; have BO := Aside0.mk hbo_; have RO := Aside0.mk hro_; have BL := Aside0.mk hbel_; clear HS hbo_ hro_ hbel_; have hco : w2.cell? ⟨bo, 0, none⟩ = some vo := (blk_cell BO.out 0).trans rfl; have hfo := blk_frozen BO.out 0; have hcp0 : w2.cell? ⟨gp, 0, none⟩ = some (.int .i64 0) := (blk_cell BP.out 0).trans rfl; have hcp1 : w2.cell? ⟨gp, 1, none⟩ = some (.slice none 0 0) := (blk_cell BP.out 1).trans rfl; have hfp0 := blk_frozen BP.out 0; have hfp1 := blk_frozen BP.out 1; have hn1 : ¬ (bo = gp) := blk_ne BO.out BP.out (by decide); have hn2 : ¬ (gp = bo) := fun e => hn1 e.symm) | (at_builtin; refine Kd.R_append k55 (w0 := w0) w0.heap.size rfl (.tmp 24) (.tmp 28) 49 55 (.agg #[.int .i64 0, .int .i64 0, .int .i64 0]) 24 rfl Try.underlying49 info55 rfl (by decide) (by decide) vo cur (⟨1, kk, -1⟩ : S55) [.int .i64 1, .int .i64 kk, .int .i64 (-1)] (fun _ => True) (fun _ => False) rfl (by first | (go_simp; done) | (go_simp; rfl)) (k55_mkM _ _ _ _) (fun _ h => h.elim) (fun _ _ => trivial) (Kd.R_set (Kd.R_set RO.out BP.out (by decide) 0 _) (blk_set BP.out 0 _) (by decide) 1 _) ((BL.out.setCell HGP.out _).setCell HGP.out _) ((BL.out.setCell HGP.out _).setCell HGP.out _).size (by have := HCL.out; omega) ?_; intro v1 w8 hR1 hb8 hg1 hat1; obtain ⟨av_, cv_, hv1_⟩ := Kd.R_slice hR1; obtain ⟨nv_, hnv_⟩ : ∃ n, n = (cur ++ [(⟨1, kk, -1⟩ : S55)]).length := ⟨_, rfl⟩; rw [← hnv_] at hv1_; subst hv1_; have R8 := Aside0.mk hR1; have B8 := Aside0.mk hb8; have O8 := Aside0.mk (diff_Rows.past RO.out BP.out hg1 BO.out (by decide) (by decide)); have A8 := Aside0.mk (diff_Rows.past RO.out BP.out hg1 BA.out (by decide) (by decide)); have BB8 := Aside0.mk (diff_Rows.past RO.out BP.out hg1 BB.out (by decide) (by decide)); have K8 := Aside0.mk (HK.out.trans (diff_Rows.pastK RO.out BP.out hg1)); clear hco hfo hcp0 hcp1 hfp0 hfp1 hn1 hn2 hR1 hb8 hg1 hat1 hnv_; have hco : w8.cell? ⟨bo, 0, none⟩ = some vo := (blk_cell O8.out 0).trans rfl; have hfo := blk_frozen O8.out 0))
      go_roundw
      case rel => exact ⟨i + 1, by first | rfl | go_num, ⟨by have := HLT.out; omega⟩, ⟨by unfold diff_Rows.gone; rw [TK.out]; exact ⟨⟨_, (blk_set O8.out 0 _).trans rfl, Kd.R_set R8.out O8.out (by decide) 0 _⟩, B8.out.setCell HBO.out _⟩⟩, ⟨blk_far A8.out (blk_ne A8.out O8.out (by decide)) _⟩, ⟨blk_far BB8.out (blk_ne BB8.out O8.out (by decide)) _⟩, ⟨fun g cs hg => blk_far (K8.out g cs hg) (fun e_ => blk_ne O8.out (K8.out g cs hg) (by decide) e_.symm) _⟩⟩
      case measure => have := HLT.out; simp [intOf]; omega
    · have q1 : decide ((i : Int) < (px.length : Int)) = false := decide_eq_false (by omega)
      have q2 : decide (i < px.length) = false := decide_eq_false hlt
      have n0_ := Aside0.mk (show diff_Rows.St bo w0 (out ++ px.map diff_Rows.gone) wr by have h1 := HS.out; rwa [List.take_of_length_le (Nat.le_of_not_lt hlt)] at h1)
      clear HS HI hlt
      have HS := n0_
      clear n0_
      have hca1 : wr.cell? ⟨ga, 1, none⟩ = some (.int .i64 f1) := (blk_cell BA.out 1).trans rfl
      have hcb1 : wr.cell? ⟨gb, 1, none⟩ = some (.int .i64 t1) := (blk_cell BB.out 1).trans rfl
      have hcz : wr.cell? ⟨bz, 0, none⟩ = some (.slice AY ys.length cy) := (blk_cell (blk_below HBZ.out HS.out.below) 0).trans rfl
      go_wp2
      clear hca1 hcb1 hcz q1 q2
      go_loopw [38] (fun v38 wr => ∃ (i : Nat), v38 = .int .i64 (i : Int) ∧ Aside0 (i ≤ py.length) ∧ Aside0 (diff_Rows.St bo w0 ((out ++ px.map diff_Rows.gone) ++ (py.take i).map diff_Rows.come) wr) ∧ Aside0 (wr.heap[ga]? = some (.cells #[.int .i64 f0, .int .i64 f1] 76 (0, 0))) ∧ Aside0 (wr.heap[gb]? = some (.cells #[.int .i64 t0, .int .i64 t1] 76 (0, 0))) ∧ Aside0 (diff_gaps.Keep w wr)) (fun v38 _ => py.length - (intOf v38).toNat)
      case atStart => exact ⟨0, rfl, ⟨Nat.zero_le _⟩, ⟨by rw [List.take_zero, List.map_nil, List.append_nil]; exact HS.out⟩, BA, BB, HK⟩
      case round =>
        clear HS BA BB HK
        obtain ⟨i, rfl, HI, HS, BA, BB, HK⟩ := hrel
        by_cases hlt : i < py.length
        · have q1 : decide ((i : Int) < (py.length : Int)) = true := decide_eq_true (by omega)
          have q2 : decide (i < py.length) = true := decide_eq_true hlt
          have q3 : (i : Int) < (py.length : Int) := by omega
          have q4 : (0 : Int) ≤ (i : Int) := by omega
          have q5 : (i : Int) ≤ 9223372036854775806 := by have := HLY.out; omega
          have HLT := Aside0.mk hlt
          obtain ⟨ad, A1, c1, rfl, x0, x1, xl, xC⟩ := at_T86 (Kd.C_below CY.out HS.out.below) (i : Int) q4 q3
          rw [Int.toNat_natCast] at x0 x1
          have TK := Aside0.mk (diff_Rows.snoc (out ++ px.map diff_Rows.gone) diff_Rows.come py hlt)
          obtain ⟨kk, hkk⟩ : ∃ k, k = (rd_T86 py (i : Int)).f0 := ⟨_, rfl⟩
          obtain ⟨pp, hpp⟩ : ∃ k, k = (rd_T86 py (i : Int)).f1 := ⟨_, rfl⟩
          unfold diff_Rows.come at TK
          rw [← hkk] at x0 TK
          rw [← hpp] at x1 xl xC
          obtain ⟨cur, hcur⟩ : ∃ c, c = (out ++ px.map diff_Rows.gone) ++ (py.take i).map diff_Rows.come := ⟨_, rfl⟩
          have HCL := Aside0.mk (show cur.length ≤ 150000 by have h1 := HLY.out; have h2 := HLBY.out; rw [hcur, List.length_append, List.length_map, List.length_take]; omega)
          unfold diff_Rows.come at hcur
          unfold diff_Rows.come at HS
          rw [← hcur] at HS TK
          clear hkk hpp hcur hlt xl xC
          go_wp2_with (first | ((with_reducible refine gate_dst (N := 12) rfl ?_); refine box_event ?hg (N := 12) ?hd (cs := #[.int .i64 0, .slice none 0 0]) (t := 86) ?hr ?_; (case hd => rfl); (case hg => rfl); (case hr => first | (go_simp; done) | (go_simp; rfl)); intro gp hg w2 hbox hb; have n0_ := Aside0.mk (HS.out.grown (grown_of_below hb none)); have HGP := Aside0.mk (show w0.heap.size ≤ gp by rw [hg]; exact HS.out.below.size); have n1_ := Aside0.mk (HK.out.trans (diff_gaps.Keep.grown (grown_of_below hb none))); have n2_ := Aside0.mk (blk_below BA.out hb); have n3_ := Aside0.mk (blk_below BB.out hb); have BP := Aside0.mk hbox; clear HS HK BA BB hg hbox hb x0 x1; have HS := n0_; have HK := n1_; have BA := n2_; have BB := n3_; clear n0_ n1_ n2_ n3_; obtain ⟨⟨vo, hbo_, hro_⟩, hbel_⟩ := HS.out; have BO := Aside0.mk hbo_; have RO := Aside0.mk hro_; have BL := Aside0.mk hbel_; clear HS hbo_ hro_ hbel_; have hco : w2.cell? ⟨bo, 0, none⟩ = some vo := (blk_cell BO.out 0).trans rfl; have hfo := blk_frozen BO.out 0; have hcp0 : w2.cell? ⟨gp, 0, none⟩ = some (.int .i64 0) := (blk_cell BP.out 0).trans rfl; have hcp1 : w2.cell? ⟨gp, 1, none⟩ = some (.slice none 0 0) := (blk_cell BP.out 1).trans rfl; have hfp0 := blk_frozen BP.out 0; have hfp1 := blk_frozen BP.out 1; have hn1 : ¬ (bo = gp) := blk_ne BO.out BP.out (by decide); have hn2 : ¬ (gp = bo) := fun e => hn1 e.symm) | (at_builtin; refine Kd.R_append k55 (w0 := w0) w0.heap.size rfl (.tmp 42) (.tmp 46) 49 55 (.agg #[.int .i64 0, .int .i64 0, .int .i64 0]) 24 rfl Try.underlying49 info55 rfl (by decide) (by decide) vo cur (⟨2, -1, kk⟩ : S55) [.int .i64 2, .int .i64 (-1), .int .i64 kk] (fun _ => True) (fun _ => False) rfl (by first | (go_simp; done) | (go_simp; rfl)) (k55_mkM _ _ _ _) (fun _ h => h.elim) (fun _ _ => trivial) (Kd.R_set (Kd.R_set RO.out BP.out (by decide) 0 _) (blk_set BP.out 0 _) (by decide) 1 _) ((BL.out.setCell HGP.out _).setCell HGP.out _) ((BL.out.setCell HGP.out _).setCell HGP.out _).size (by have := HCL.out; omega) ?_; intro v1 w8 hR1 hb8 hg1 hat1; obtain ⟨av_, cv_, hv1_⟩ := Kd.R_slice hR1; obtain ⟨nv_, hnv_⟩ : ∃ n, n = (cur ++ [(⟨2, -1, kk⟩ : S55)]).length := ⟨_, rfl⟩; rw [← hnv_] at hv1_; subst hv1_; have R8 := Aside0.mk hR1; have B8 := Aside0.mk hb8; have O8 := Aside0.mk (diff_Rows.past RO.out BP.out hg1 BO.out (by decide) (by decide)); have A8 := Aside0.mk (diff_Rows.past RO.out BP.out hg1 BA.out (by decide) (by decide)); have BB8 := Aside0.mk (diff_Rows.past RO.out BP.out hg1 BB.out (by decide) (by decide)); have K8 := Aside0.mk (HK.out.trans (diff_Rows.pastK RO.out BP.out hg1)); clear hco hfo hcp0 hcp1 hfp0 hfp1 hn1 hn2 hR1 hb8 hg1 hat1 hnv_; have hco : w8.cell? ⟨bo, 0, none⟩ = some vo := (blk_cell O8.out 0).trans rfl; have hfo := blk_frozen O8.out 0))
          go_roundw
          case rel => exact ⟨i + 1, by first | rfl | go_num, ⟨by have := HLT.out; omega⟩, ⟨by unfold diff_Rows.come; rw [TK.out]; exact ⟨⟨_, (blk_set O8.out 0 _).trans rfl, Kd.R_set R8.out O8.out (by decide) 0 _⟩, B8.out.setCell HBO.out _⟩⟩, ⟨blk_far A8.out (blk_ne A8.out O8.out (by decide)) _⟩, ⟨blk_far BB8.out (blk_ne BB8.out O8.out (by decide)) _⟩, ⟨fun g cs hg => blk_far (K8.out g cs hg) (fun e_ => blk_ne O8.out (K8.out g cs hg) (by decide) e_.symm) _⟩⟩
          case measure => have := HLT.out; simp [intOf]; omega
        · have q1 : decide ((i : Int) < (py.length : Int)) = false := decide_eq_false (by omega)
          have q2 : decide (i < py.length) = false := decide_eq_false hlt
          have n0_ := Aside0.mk (show diff_Rows.St bo w0 ((out ++ px.map diff_Rows.gone) ++ py.map diff_Rows.come) wr by have h1 := HS.out; rwa [List.take_of_length_le (Nat.le_of_not_lt hlt)] at h1)
          clear HS HI hlt
          have HS := n0_
          clear n0_
          cases b with
          | false =>
            go_wp2
            go_end0
            exact ⟨⟨_, rfl⟩, by simpa using HS.out, HK.out⟩
          | true =>
            obtain ⟨qx, qy⟩ := HBB.out rfl
            obtain ⟨ux, uy⟩ := HT.out
            obtain ⟨ax, A1, c1, eX, x0, x1, xl, xC⟩ := at_T86 (Kd.C_below HX.out HS.out.below) t0 ux qx
            obtain ⟨ay, A2, c2, eY, y0, y1, yl, yC⟩ := at_T86 (Kd.C_below HY.out HS.out.below) t1 uy qy
            subst eX
            subst eY
            obtain ⟨kx, hkx⟩ : ∃ k, k = (rd_T86 xs t0).f0 := ⟨_, rfl⟩
            obtain ⟨ky, hky⟩ : ∃ k, k = (rd_T86 ys t1).f0 := ⟨_, rfl⟩
            rw [← hkx] at x0
            rw [← hky] at y0
            have HKX := Aside0.mk hkx
            have HKY := Aside0.mk hky
            obtain ⟨cur, hcur⟩ : ∃ c, c = out ++ px.map diff_Rows.gone ++ py.map diff_Rows.come := ⟨_, rfl⟩
            have HCL := Aside0.mk (show cur.length ≤ 150000 by have h1 := HLX.out; have h2 := HLY.out; have h3 := HLBX.out; rw [hcur, List.length_append, List.length_append, List.length_map, List.length_map]; omega)
            rw [← hcur] at HS
            have HCUR := Aside0.mk hcur
            obtain ⟨⟨vo, hbo_, hro_⟩, hbel_⟩ := HS.out
            have s0 : wr.cell? ⟨bo, 0, none⟩ = some vo := (blk_cell hbo_ 0).trans rfl
            have s1 : wr.cell? ⟨bx, 0, none⟩ = some (.slice (some ax) xs.length cx) := (blk_cell (blk_below HBX.out hbel_) 0).trans rfl
            have s2 : wr.cell? ⟨gb, 0, none⟩ = some (.int .i64 t0) := (blk_cell BB.out 0).trans rfl
            have s4 : wr.cell? ⟨bz, 0, none⟩ = some (.slice (some ay) ys.length cy) := (blk_cell (blk_below HBZ.out hbel_) 0).trans rfl
            have s5 : wr.cell? ⟨gb, 1, none⟩ = some (.int .i64 t1) := (blk_cell BB.out 1).trans rfl
            go_wp2
            refine start_ (n := 17) (S := fun w' => w'.cell? ⟨bo, 0, none⟩ = some vo ∧ w'.cell? ⟨bx, 0, none⟩ = some (.slice (some ax) xs.length cx) ∧ w'.cell? ⟨gb, 0, none⟩ = some (.int .i64 t0) ∧ w'.cell? (ax.add (t0.toNat * 2)) = some (.int .i64 kx) ∧ w'.cell? ⟨bz, 0, none⟩ = some (.slice (some ay) ys.length cy) ∧ w'.cell? ⟨gb, 1, none⟩ = some (.int .i64 t1) ∧ w'.cell? (ay.add (t1.toNat * 2)) = some (.int .i64 ky)) (ds := [15, 16]) #[false, false, false, false, false, false, false, false, false, false, false, false, false, false, false, false, false] (by kernel_rfl) rfl rfl ⟨s0, s1, s2, x0, s4, s5, y0⟩ (fun hHeld => ?_); refine with_tabW diff_Rows.tab12 diff_Rows.bits12 (fun HT_ HW_ => ?_)
            have BO := Aside0.mk (blk_drew hbo_)
            have RO := Aside0.mk (Kd.R_drew hro_)
            have BL := Aside0.mk (below_drew1 hbel_)
            have n0_ := Aside0.mk (show diff_gaps.Keep w wr.drew from fun g cs h => blk_drew (HK.out g cs h))
            clear HK HS BA BB s0 s1 s2 s4 s5 x0 x1 y0 y1 xl yl xC yC hbo_ hro_ hbel_ hkx hky hcur
            have HK := n0_
            clear n0_
            generalize wr.drew = w13 at BO RO BL HK hHeld ⊢
            have qx1 := eq_true qx
            have qy1 := eq_true qy
            have ux1 := eq_true ux
            have uy1 := eq_true uy
            refine take_ (i := 0) (N := some 50) (v := ?_) (a' := ?_) #[true, false, false, false, false, false, false, false, false, false, false, false, false, false, false, false, false] rfl rfl (take_ofW HT_.out HW_.out (by kernel_rfl)) (fun _ _ _ h => h) (Or.inl ⟨by rfl, ?_⟩) hHeld ?_ ?_
            rotate_left
            · rintro w' ⟨s0, s1, s2, s3, s4, s5, s6⟩
              go_simp
              with_reducible rfl
            rotate_left
            · simp only [Act.put, List.setIfInBounds_toArray, List.set_cons_zero, List.set_cons_succ, i64_w, i32_w]
              rfl
            refine take_ (i := 1) (N := some 51) (v := ?_) (a' := ?_) #[true, true, false, false, false, false, false, false, false, false, false, false, false, false, false, false, false] rfl rfl (take_ofW HT_.out HW_.out (by kernel_rfl)) (fun _ _ _ h => h) (Or.inl ⟨by rfl, ?_⟩) hHeld ?_ ?_
            rotate_left
            · rintro w' ⟨s0, s1, s2, s3, s4, s5, s6⟩
              go_simp
              with_reducible rfl
            rotate_left
            · simp only [Act.put, List.setIfInBounds_toArray, List.set_cons_zero, List.set_cons_succ, i64_w, i32_w]
              rfl
            refine pure_ (i := 2) (N := some 52) (v := ?_) (a' := ?_) #[true, true, true, false, false, false, false, false, false, false, false, false, false, false, false, false, false] rfl rfl (any_of HT_.out (by kernel_rfl)) (fun _ _ _ h => h) (Or.inl ⟨by rfl, ?_⟩) ?_ ?_
            rotate_left
            · intro w'
              go_simp
              with_reducible rfl
            rotate_left
            · simp only [Act.put, List.setIfInBounds_toArray, List.set_cons_zero, List.set_cons_succ, i64_w, i32_w]
              rfl
            refine take_ (i := 3) (N := some 53) (v := ?_) (a' := ?_) #[true, true, true, true, false, false, false, false, false, false, false, false, false, false, false, false, false] rfl rfl (take_ofW HT_.out HW_.out (by kernel_rfl)) (fun _ _ _ h => h) (Or.inl ⟨by rfl, ?_⟩) hHeld ?_ ?_
            rotate_left
            · rintro w' ⟨s0, s1, s2, s3, s4, s5, s6⟩
              go_simp
              with_reducible rfl
            rotate_left
            · simp only [Act.put, List.setIfInBounds_toArray, List.set_cons_zero, List.set_cons_succ, i64_w, i32_w]
              rfl
            refine pure_ (i := 4) (N := some 54) (v := ?_) (a' := ?_) #[true, true, true, true, true, false, false, false, false, false, false, false, false, false, false, false, false] rfl rfl (any_of HT_.out (by kernel_rfl)) (fun _ _ _ h => h) (Or.inl ⟨by rfl, ?_⟩) ?_ ?_
            rotate_left
            · intro w'
              go_simp
              with_reducible rfl
            rotate_left
            · simp only [Act.put, List.setIfInBounds_toArray, List.set_cons_zero, List.set_cons_succ, i64_w, i32_w]
              rfl
            refine pure_ (i := 5) (N := some 55) (v := ?_) (a' := ?_) #[true, true, true, true, true, true, false, false, false, false, false, false, false, false, false, false, false] rfl rfl (any_of HT_.out (by kernel_rfl)) (fun _ _ _ h => h) (Or.inl ⟨by rfl, ?_⟩) ?_ ?_
            rotate_left
            · intro w'
              go_simp
              with_reducible rfl
            rotate_left
            · simp only [Act.put, List.setIfInBounds_toArray, List.set_cons_zero, List.set_cons_succ, i64_w, i32_w]
              rfl
            refine take_ (i := 6) (N := some 56) (v := ?_) (a' := ?_) #[true, true, true, true, true, true, true, false, false, false, false, false, false, false, false, false, false] rfl rfl (take_ofW HT_.out HW_.out (by kernel_rfl)) (fun _ _ _ h => h) (Or.inl ⟨by rfl, ?_⟩) hHeld ?_ ?_
            rotate_left
            · rintro w' ⟨s0, s1, s2, s3, s4, s5, s6⟩
              go_simp
              with_reducible rfl
            rotate_left
            · simp only [Act.put, List.setIfInBounds_toArray, List.set_cons_zero, List.set_cons_succ, i64_w, i32_w]
              rfl
            refine take_ (i := 7) (N := some 57) (v := ?_) (a' := ?_) #[true, true, true, true, true, true, true, true, false, false, false, false, false, false, false, false, false] rfl rfl (take_ofW HT_.out HW_.out (by kernel_rfl)) (fun _ _ _ h => h) (Or.inl ⟨by rfl, ?_⟩) hHeld ?_ ?_
            rotate_left
            · rintro w' ⟨s0, s1, s2, s3, s4, s5, s6⟩
              go_simp
              with_reducible rfl
            rotate_left
            · simp only [Act.put, List.setIfInBounds_toArray, List.set_cons_zero, List.set_cons_succ, i64_w, i32_w]
              rfl
            refine pure_ (i := 8) (N := some 58) (v := ?_) (a' := ?_) #[true, true, true, true, true, true, true, true, true, false, false, false, false, false, false, false, false] rfl rfl (any_of HT_.out (by kernel_rfl)) (fun _ _ _ h => h) (Or.inl ⟨by rfl, ?_⟩) ?_ ?_
            rotate_left
            · intro w'
              go_simp
              with_reducible rfl
            rotate_left
            · simp only [Act.put, List.setIfInBounds_toArray, List.set_cons_zero, List.set_cons_succ, i64_w, i32_w]
              rfl
            refine take_ (i := 9) (N := some 59) (v := ?_) (a' := ?_) #[true, true, true, true, true, true, true, true, true, true, false, false, false, false, false, false, false] rfl rfl (take_ofW HT_.out HW_.out (by kernel_rfl)) (fun _ _ _ h => h) (Or.inl ⟨by rfl, ?_⟩) hHeld ?_ ?_
            rotate_left
            · rintro w' ⟨s0, s1, s2, s3, s4, s5, s6⟩
              go_simp
              with_reducible rfl
            rotate_left
            · simp only [Act.put, List.setIfInBounds_toArray, List.set_cons_zero, List.set_cons_succ, i64_w, i32_w]
              rfl
            refine pure_ (i := 10) (N := some 60) (v := ?_) (a' := ?_) #[true, true, true, true, true, true, true, true, true, true, true, false, false, false, false, false, false] rfl rfl (any_of HT_.out (by kernel_rfl)) (fun _ _ _ h => h) (Or.inl ⟨by rfl, ?_⟩) ?_ ?_
            rotate_left
            · intro w'
              go_simp
              with_reducible rfl
            rotate_left
            · simp only [Act.put, List.setIfInBounds_toArray, List.set_cons_zero, List.set_cons_succ, i64_w, i32_w]
              rfl
            refine pure_ (i := 11) (N := some 61) (v := ?_) (a' := ?_) #[true, true, true, true, true, true, true, true, true, true, true, true, false, false, false, false, false] rfl rfl (any_of HT_.out (by kernel_rfl)) (fun _ _ _ h => h) (Or.inl ⟨by rfl, ?_⟩) ?_ ?_
            rotate_left
            · intro w'
              go_simp
              with_reducible rfl
            rotate_left
            · simp only [Act.put, List.setIfInBounds_toArray, List.set_cons_zero, List.set_cons_succ, i64_w, i32_w]
              rfl
            refine take_ (i := 12) (N := some 62) (v := ?_) (a' := ?_) #[true, true, true, true, true, true, true, true, true, true, true, true, true, false, false, false, false] rfl rfl (take_ofW HT_.out HW_.out (by kernel_rfl)) (fun _ _ _ h => h) (Or.inl ⟨by rfl, ?_⟩) hHeld ?_ ?_
            rotate_left
            · rintro w' ⟨s0, s1, s2, s3, s4, s5, s6⟩
              go_simp
              with_reducible rfl
            rotate_left
            · simp only [Act.put, List.setIfInBounds_toArray, List.set_cons_zero, List.set_cons_succ, i64_w, i32_w]
              rfl
            refine pure_ (i := 13) (N := some 63) (v := ?_) (a' := ?_) #[true, true, true, true, true, true, true, true, true, true, true, true, true, true, false, false, false] rfl rfl (any_of HT_.out (by kernel_rfl)) (fun _ _ _ h => h) (Or.inl ⟨by rfl, ?_⟩) ?_ ?_
            rotate_left
            · intro w'
              go_simp
              with_reducible rfl
            rotate_left
            · simp only [Act.put, List.setIfInBounds_toArray, List.set_cons_zero, List.set_cons_succ, i64_w, i32_w]
              rfl
            refine one_ (i := 14) (N := some 64) #[true, true, true, true, true, true, true, true, true, true, true, true, true, true, true, false, false] rfl rfl (one_of HT_.out (by kernel_rfl)) (by decide) (fun K hK => ?_)
            refine value_ (w1 := ?_) (v := ?_) (by rfl) rfl ?_ ?_
            rotate_left 2
            · go_simp
              constructor
              · rfl
              · rfl
            refine hK.out _ _ ⟨cell_grown (World.grownBy_alloc w13 (.cells #[.int .i64 0, .int .i64 kx, .int .i64 ky] 55 (0, 0)) none) hHeld.1 (by simp), cell_grown (World.grownBy_alloc w13 (.cells #[.int .i64 0, .int .i64 kx, .int .i64 ky] 55 (0, 0)) none) hHeld.2.1 (by simp), cell_grown (World.grownBy_alloc w13 (.cells #[.int .i64 0, .int .i64 kx, .int .i64 ky] 55 (0, 0)) none) hHeld.2.2.1 (by simp), cell_grown (World.grownBy_alloc w13 (.cells #[.int .i64 0, .int .i64 kx, .int .i64 ky] 55 (0, 0)) none) hHeld.2.2.2.1 (by simp), cell_grown (World.grownBy_alloc w13 (.cells #[.int .i64 0, .int .i64 kx, .int .i64 ky] 55 (0, 0)) none) hHeld.2.2.2.2.1 (by simp), cell_grown (World.grownBy_alloc w13 (.cells #[.int .i64 0, .int .i64 kx, .int .i64 ky] 55 (0, 0)) none) hHeld.2.2.2.2.2.1 (by simp), cell_grown (World.grownBy_alloc w13 (.cells #[.int .i64 0, .int .i64 kx, .int .i64 ky] 55 (0, 0)) none) hHeld.2.2.2.2.2.2 (by simp)⟩ (fun hHeld => ?_)
            clear hK K
            refine norm_ (a' := ?_) ?_ ?_
            rotate_left
            · show Act.put _ (some 64) _ = _
              simp only [Act.put, List.setIfInBounds_toArray, List.set_cons_zero, List.set_cons_succ, i64_w, i32_w]
              rfl
            refine last_ (i := 15) (N := some 65) #[true, true, true, true, true, true, true, true, true, true, true, true, true, true, true, true, false] rfl rfl (one_of HT_.out (by kernel_rfl)) (by decide) (fun K hK => ?_)
            refine Kd.R_append_step k55 (w0 := w0) w0.heap.size (by rfl) (.tmp 50) (.tmp 64) 49 55 (.agg #[.int .i64 0, .int .i64 0, .int .i64 0]) 24 rfl Try.underlying49 info55 rfl (by decide) (by omega) vo cur (⟨0, kx, ky⟩ : S55) [.int .i64 0, .int .i64 kx, .int .i64 ky] (fun _ => True) (fun _ => False) rfl rfl (k55_mkM _ _ _ _) (fun _ hk => hk.elim) (fun _ _ => trivial) RO.out BL.out BL.out.size (by have := HCL.out; omega) ?_
            intro v1 w8 hR1 hb8 hg1 hat1
            obtain ⟨av_, cv_, hv1_⟩ := Kd.R_slice hR1
            obtain ⟨nv_, hnv_⟩ : ∃ n, n = (cur ++ [(⟨0, kx, ky⟩ : S55)]).length := ⟨_, rfl⟩
            rw [← hnv_] at hv1_
            subst hv1_
            have R8 := Aside0.mk hR1
            have B8 := Aside0.mk hb8
            have O8 := Aside0.mk (blk_grown BO.out hg1 (Kd.R_ne RO.out BO.out (by decide)))
            have K8 := Aside0.mk (show diff_gaps.Keep w13 w8 from fun g cs hg => blk_grown hg hg1 (Kd.R_ne RO.out hg (by decide)))
            clear hR1 hb8 hg1 hat1 hnv_
            have hco : w8.cell? ⟨bo, 0, none⟩ = some vo := (blk_cell O8.out 0).trans rfl
            have hfo := blk_frozen O8.out 0
            refine hK.out _ _ ?_
            clear hK K
            refine norm_ (a' := ?_) ?_ ?_
            rotate_left
            · show Act.put _ (some 65) _ = _
              simp only [Act.put, List.setIfInBounds_toArray, List.set_cons_zero, List.set_cons_succ, i64_w, i32_w]
              rfl
            refine last_ (i := 16) (N := none) #[true, true, true, true, true, true, true, true, true, true, true, true, true, true, true, true, true] rfl rfl (one_of HT_.out (by kernel_rfl)) (by decide) (fun K hK => ?_)
            refine skip_ (w1 := ?_) (by rfl) rfl ?_ ?_
            rotate_left
            · go_simp
              rfl
            refine hK.out _ _ ?_
            clear hK K
            refine done_ (done_of HT_.out (by kernel_rfl)) ?_
            go_wp2
            go_end0
            rw [← HKX.out, ← HKY.out]
            refine ⟨⟨_, rfl⟩, ⟨⟨_, (blk_set O8.out 0 _).trans rfl, ?_⟩, B8.out.setCell HBO.out _⟩, fun g cs hg => ?_⟩
            · have h1 := Kd.R_set R8.out O8.out (by decide) 0 (.slice av_ nv_ cv_)
              rw [HCUR.out] at h1
              simpa [List.append_assoc] using h1
            · exact blk_far (K8.out g cs (HK.out g cs hg)) (fun e_ => blk_ne O8.out (K8.out g cs (HK.out g cs hg)) (by decide) e_.symm) _
def diff_Rows.f (l0 l1 : List S64) : Option (List S55 × Int) := (diff_both.f l0 l1).bind fun e => if e = 0 then ((diff_parts.f (diff_Rows.k0 l0 l1) l0).bind fun xs => (diff_parts.f (diff_Rows.k0 l0 l1) l1).bind fun ys => if xs.length > 200 ∨ ys.length > 200 then some ([], 2) else if diff_Rows.ok (diff_Rows.k0 l0 l1) xs ys = true then some (diff_Rows.outs xs ys (diff_gaps.trace xs.length ys.length (0, 0) (diff_grid.enc (DiffT.P (diff_Rows.like (diff_Rows.k0 l0 l1) xs ys) xs.length ys.length xs.length 0 0))), 0) else none) else some ([], e)
theorem diff_Rows.mono : ∀ a0 a1, LeO (diff_Rows.f a0 a1) (diff_Rows.f a0 a1) := fun _ _ => LeO.refl _
theorem diff_Rows.outs_len (xs ys : List S86) (h1 : xs.length ≤ 200) (h2 : ys.length ≤ 200) : ∀ l : List ((Int × Int) × (Int × Int) × Bool), (diff_Rows.outs xs ys l).length ≤ 401 * l.length
  | [] => by simp [diff_Rows.outs]
  | c :: r => by
    have := diff_Rows.outs_len xs ys h1 h2 r
    have h : (diff_Rows.add xs ys c).length ≤ 401 := by
      unfold diff_Rows.add
      rw [List.length_append, List.length_append, List.length_map, List.length_map, List.length_drop, List.length_drop, List.length_take, List.length_take]
      split <;> simp <;> omega
    simp only [diff_Rows.outs, List.flatMap_cons, List.length_append, List.length_cons] at this ⊢
    omega
/-- The places that 'gaps' calls with rise. -/
theorem diff_Rows.trace_rise {like : Nat → Nat → Bool} {n m : Nat} : ∀ {i j : Nat} {l : List (Nat × Nat)}, DiffT.Rise like n m i j l → i ≤ n → j ≤ m → ∀ c ∈ diff_gaps.trace (n : Int) (m : Int) ((i : Int), (j : Int)) (diff_grid.enc l),
    (0 ≤ c.1.1 ∧ c.1.1 ≤ c.2.1.1 ∧ c.2.1.1 ≤ (n : Int)) ∧ (0 ≤ c.1.2 ∧ c.1.2 ≤ c.2.1.2 ∧ c.2.1.2 ≤ (m : Int)) ∧ (c.2.2 = true → c.2.1.1 < (n : Int) ∧ c.2.1.2 < (m : Int)) := by
  intro i j l h
  induction h with
  | nil i j =>
    intro hi hj c hc
    simp only [diff_grid.enc, List.map_nil, diff_gaps.trace, List.mem_singleton] at hc
    subst hc
    exact ⟨⟨by simp <;> omega, by simp <;> omega, by simp⟩, ⟨by simp <;> omega, by simp <;> omega, by simp⟩, fun h => by cases h⟩
  | cons i j p q l h1 h2 h3 h4 h5 h ih =>
    intro hi hj c hc
    simp only [diff_grid.enc, List.map_cons, diff_gaps.trace, List.mem_cons] at hc
    rcases hc with rfl | hc
    · exact ⟨⟨by simp <;> omega, by simp <;> omega, by simp <;> omega⟩, ⟨by simp <;> omega, by simp <;> omega, by simp <;> omega⟩, fun _ => ⟨by simp <;> omega, by simp <;> omega⟩⟩
    · exact ih (by omega) (by omega) c hc
set_option maxRecDepth 100000 in
set_option maxHeartbeats 8000000 in
theorem diff_Rows.calls (A0 : Option Addr) (c0 : Nat) (l0 : List S64) (A1 : Option Addr) (c1 : Nat) (l1 : List S64) (r1 : List S55) (r2 : Int) (w : World) (hr0 : Kd.C k64 w A0 l0.length l0) (hc0 : l0.length ≤ c0) (hr1 : Kd.C k64 w A1 l1.length l1) (hc1 : l1.length ≤ c1) (h : diff_Rows.f l0 l1 = some (r1, r2)) :
    Calls Try.prog 21 #[.slice A0 l0.length c0, .slice A1 l1.length c1] w fun e w' => ∃ v0_ : Value, e = .returned (.tuple #[v0_, .int .i64 r2]) ∧ Kd.R k55 55 w' w.heap.size (fun _ => True) v0_ r1 ∧ Below w.heap.size w w' := by
  have HR0 := Aside0.mk hr0
  have HR1 := Aside0.mk hr1
  have HC0 := Aside0.mk hc0
  have HC1 := Aside0.mk hc1
  clear hr0 hr1 hc0 hc1
  unfold diff_Rows.f at h
  obtain ⟨e0, he, h⟩ := Option.bind_eq_some_iff.mp h
  by_cases ce : e0 = 0
  · rw [if_pos ce] at h
    subst ce
    have HE0 := Aside0.mk he
    obtain ⟨xs, hxs, h⟩ := Option.bind_eq_some_iff.mp h
    obtain ⟨ys, hys, h⟩ := Option.bind_eq_some_iff.mp h
    have HXS := Aside0.mk hxs
    have HYS := Aside0.mk hys
    obtain ⟨kf, hkf⟩ : ∃ k, k = diff_Rows.k0 l0 l1 := ⟨_, rfl⟩
    rw [← hkf] at HXS HYS h
    clear he hxs hys hkf
    have hx : xs.length < ys.length ∨ ¬ xs.length < ys.length := Decidable.em _
    by_cases hbig : xs.length > 200 ∨ ys.length > 200
    · rw [if_pos hbig] at h
      simp only [Option.some.injEq, Prod.mk.injEq] at h
      obtain ⟨rfl, rfl⟩ := h
      rcases hx with hx | hx
      · have q1 := eq_true hx
        have q2 : decide (200 < (ys.length : Int)) = true := decide_eq_true (by omega)
        have q3 : decide (200 < ys.length) = true := decide_eq_true (by omega)
        have q4 : decide (xs.length < ys.length) = true := decide_eq_true hx
        have q5 : ((xs.length : Int) < (ys.length : Int)) = True := eq_true (by omega)
        clear hx hbig
        go_enter Try.func21, Try.ntmps21
        go_wp2_with (first | (go_at_call 35; refine (diff_both.calls A0 c0 l0 A1 c1 l1 0 w HR0.out HC0.out HR1.out HC1.out HE0.out).mono ?_; rintro e w1 ⟨rfl, hb⟩; have HB1 := Aside0.mk hb; clear hb) | (go_at_call_of 39 (Value.slice A0 l0.length c0); refine (diff_parts.calls kf (fun k_ => k_ < w.heap.size) A0 c0 l0 xs w1 (Kd.V_below (w1 := w1) (Kd.V_mk HC0.out (Kd.C_F k64_heap HR0.out)) HB1.out) HXS.out).mono ?_; rintro e w2 ⟨v0, rfl, hN, hb⟩; obtain ⟨AX, cx, rfl, hle, hC⟩ := Kd.N_reads hN; have CX := Aside0.mk hC; have LX := Aside0.mk hle; have HB2 := Aside0.mk (below_step HB1.out hb); clear hN hb hle hC) | (go_at_call_of 39 (Value.slice A1 l1.length c1); refine (diff_parts.calls kf (fun k_ => k_ < w.heap.size) A1 c1 l1 ys w2 (Kd.V_below (w1 := w2) (Kd.V_mk HC1.out (Kd.C_F k64_heap HR1.out)) HB2.out) HYS.out).mono ?_; rintro e w3 ⟨v1, rfl, hN, hb⟩; obtain ⟨AY, cy, rfl, hle, hC⟩ := Kd.N_reads hN; have CY := Aside0.mk hC; have LY := Aside0.mk hle; have n0_ := Aside0.mk (Kd.C_below CX.out hb); have HB3 := Aside0.mk (below_step HB2.out hb); clear CX hN hb hle hC; have CX := n0_; clear n0_) | ((with_reducible refine gate_dst (N := 7) rfl ?_); refine box_event ?hg (N := 7) ?hd (cs := #[.slice none 0 0]) (t := 83) ?hr ?_; (case hd => rfl); (case hg => rfl); (case hr => first | (go_simp; done) | (go_simp; rfl)); intro bx hg w4 hbox hb; have BX := Aside0.mk hbox; have GX := Aside0.mk (show w3.heap.size ≤ bx by rw [hg]; exact Nat.le_refl _); have H34 := Aside0.mk hb; clear hbox hb hg) | ((with_reducible refine gate_dst (N := 8) rfl ?_); refine box_event ?hg (N := 8) ?hd (cs := #[.slice none 0 0]) (t := 83) ?hr ?_; (case hd => rfl); (case hg => rfl); (case hr => first | (go_simp; done) | (go_simp; rfl)); intro bz hg w5 hbox hb; have BZ := Aside0.mk hbox; have NXZ := Aside0.mk (show bx ≠ bz by rw [hg]; exact Nat.ne_of_lt (blk_lt BX.out)); have n0_ := Aside0.mk (blk_below BX.out hb); have H35 := Aside0.mk (below_step H34.out hb); have GZ := Aside0.mk (show w3.heap.size ≤ bz by rw [hg]; exact H34.out.size); clear BX hbox hb hg; have BX := n0_; clear n0_; have hx0 : w5.cell? ⟨bx, 0, none⟩ = some (.slice none 0 0) := (blk_cell BX.out 0).trans rfl; have hz0 : w5.cell? ⟨bz, 0, none⟩ = some (.slice none 0 0) := (blk_cell BZ.out 0).trans rfl; have hfx0 := blk_frozen BX.out 0; have hfz0 := blk_frozen BZ.out 0; have hn1 : ¬ (bx = bz) := NXZ.out; have hn2 : ¬ (bz = bx) := fun e => NXZ.out e.symm))
        go_ret2
        exact ⟨_, rfl, Kd.R_nil _ _ _ _ _, (below_step HB3.out ((H35.out.setCell GX.out _).setCell GZ.out _))⟩
      · have q1 := eq_false hx
        have q2 : decide (200 < (xs.length : Int)) = true := decide_eq_true (by omega)
        have q3 : decide (200 < xs.length) = true := decide_eq_true (by omega)
        have q4 : decide (xs.length < ys.length) = false := decide_eq_false hx
        have q5 : ((xs.length : Int) < (ys.length : Int)) = False := eq_false (by omega)
        clear hx hbig
        go_enter Try.func21, Try.ntmps21
        go_wp2_with (first | (go_at_call 35; refine (diff_both.calls A0 c0 l0 A1 c1 l1 0 w HR0.out HC0.out HR1.out HC1.out HE0.out).mono ?_; rintro e w1 ⟨rfl, hb⟩; have HB1 := Aside0.mk hb; clear hb) | (go_at_call_of 39 (Value.slice A0 l0.length c0); refine (diff_parts.calls kf (fun k_ => k_ < w.heap.size) A0 c0 l0 xs w1 (Kd.V_below (w1 := w1) (Kd.V_mk HC0.out (Kd.C_F k64_heap HR0.out)) HB1.out) HXS.out).mono ?_; rintro e w2 ⟨v0, rfl, hN, hb⟩; obtain ⟨AX, cx, rfl, hle, hC⟩ := Kd.N_reads hN; have CX := Aside0.mk hC; have LX := Aside0.mk hle; have HB2 := Aside0.mk (below_step HB1.out hb); clear hN hb hle hC) | (go_at_call_of 39 (Value.slice A1 l1.length c1); refine (diff_parts.calls kf (fun k_ => k_ < w.heap.size) A1 c1 l1 ys w2 (Kd.V_below (w1 := w2) (Kd.V_mk HC1.out (Kd.C_F k64_heap HR1.out)) HB2.out) HYS.out).mono ?_; rintro e w3 ⟨v1, rfl, hN, hb⟩; obtain ⟨AY, cy, rfl, hle, hC⟩ := Kd.N_reads hN; have CY := Aside0.mk hC; have LY := Aside0.mk hle; have n0_ := Aside0.mk (Kd.C_below CX.out hb); have HB3 := Aside0.mk (below_step HB2.out hb); clear CX hN hb hle hC; have CX := n0_; clear n0_) | ((with_reducible refine gate_dst (N := 7) rfl ?_); refine box_event ?hg (N := 7) ?hd (cs := #[.slice none 0 0]) (t := 83) ?hr ?_; (case hd => rfl); (case hg => rfl); (case hr => first | (go_simp; done) | (go_simp; rfl)); intro bx hg w4 hbox hb; have BX := Aside0.mk hbox; have GX := Aside0.mk (show w3.heap.size ≤ bx by rw [hg]; exact Nat.le_refl _); have H34 := Aside0.mk hb; clear hbox hb hg) | ((with_reducible refine gate_dst (N := 8) rfl ?_); refine box_event ?hg (N := 8) ?hd (cs := #[.slice none 0 0]) (t := 83) ?hr ?_; (case hd => rfl); (case hg => rfl); (case hr => first | (go_simp; done) | (go_simp; rfl)); intro bz hg w5 hbox hb; have BZ := Aside0.mk hbox; have NXZ := Aside0.mk (show bx ≠ bz by rw [hg]; exact Nat.ne_of_lt (blk_lt BX.out)); have n0_ := Aside0.mk (blk_below BX.out hb); have H35 := Aside0.mk (below_step H34.out hb); have GZ := Aside0.mk (show w3.heap.size ≤ bz by rw [hg]; exact H34.out.size); clear BX hbox hb hg; have BX := n0_; clear n0_; have hx0 : w5.cell? ⟨bx, 0, none⟩ = some (.slice none 0 0) := (blk_cell BX.out 0).trans rfl; have hz0 : w5.cell? ⟨bz, 0, none⟩ = some (.slice none 0 0) := (blk_cell BZ.out 0).trans rfl; have hfx0 := blk_frozen BX.out 0; have hfz0 := blk_frozen BZ.out 0; have hn1 : ¬ (bx = bz) := NXZ.out; have hn2 : ¬ (bz = bx) := fun e => NXZ.out e.symm))
        go_ret2
        exact ⟨_, rfl, Kd.R_nil _ _ _ _ _, (below_step HB3.out ((H35.out.setCell GX.out _).setCell GZ.out _))⟩
    · rw [if_neg hbig] at h
      by_cases hok : diff_Rows.ok kf xs ys = true
      · rw [if_pos hok] at h
        simp only [Option.some.injEq, Prod.mk.injEq] at h
        obtain ⟨rfl, rfl⟩ := h
        have HOK := Aside0.mk hok
        have HN := Aside0.mk (show xs.length ≤ 200 by omega)
        have HM := Aside0.mk (show ys.length ≤ 200 by omega)
        have HE := Aside0.mk (fun x W => enters_ (P := Try.prog) Try.func40 (by kernel_rfl) rfl x W)
        have HG := Aside0.mk (fun x W => enters_ (P := Try.prog) Try.func42 (by kernel_rfl) rfl x W)
        have FIN := Aside0.mk (fun (AX AY : Option Addr) (cx cy bx bz : Nat) (w5 : World) (k0 : w5.heap[bx]? = some (.cells #[.slice AX xs.length cx] 83 (0, 0))) (k1 : w5.heap[bz]? = some (.cells #[.slice AY ys.length cy] 83 (0, 0))) (hX : Kd.C k86 w5 AX xs.length xs) (hY : Kd.C k86 w5 AY ys.length ys) (W : World) (hb : Below w5.heap.size w5 W) (i j : Nat) (hi : i < xs.length) (hj : j < ys.length) =>
          diff_Rows.one1 bx bz AX AY cx cy xs ys kf i j hi hj (diff_Rows.like kf xs ys i j) (diff_Rows.same HOK.out hi hj) W ((blk_cell (blk_below k0 hb) 0).trans rfl) ((blk_cell (blk_below k1 hb) 0).trans rfl) (Kd.C_below hX hb) (Kd.C_below hY hb))
        have RISE := Aside0.mk (DiffT.P_rise (like := diff_Rows.like kf xs ys) (n := xs.length) (m := ys.length) xs.length 0 0)
        have HLB := Aside0.mk (diff_grid.enc_bound (show xs.length ≤ 400 by omega) (show ys.length ≤ 400 by omega) RISE.out)
        have HTR := Aside0.mk (show ∀ c ∈ diff_gaps.trace (xs.length : Int) (ys.length : Int) (0, 0) (diff_grid.enc (DiffT.P (diff_Rows.like kf xs ys) xs.length ys.length xs.length 0 0)), (0 ≤ c.1.1 ∧ c.1.1 ≤ c.2.1.1 ∧ c.2.1.1 ≤ (xs.length : Int)) ∧ (0 ≤ c.1.2 ∧ c.1.2 ≤ c.2.1.2 ∧ c.2.1.2 ≤ (ys.length : Int)) ∧ (c.2.2 = true → c.2.1.1 < (xs.length : Int) ∧ c.2.1.2 < (ys.length : Int)) from diff_Rows.trace_rise RISE.out (Nat.zero_le _) (Nat.zero_le _))
        have HPL := Aside0.mk (show (diff_grid.enc (DiffT.P (diff_Rows.like kf xs ys) xs.length ys.length xs.length 0 0)).length ≤ 200 by
          have h1 := DiffT.T_le (like := diff_Rows.like kf xs ys) (n := xs.length) (m := ys.length) _ 0 0 rfl
          have h2 := DiffT.P_length (like := diff_Rows.like kf xs ys) (n := xs.length) (m := ys.length) xs.length 0 0 (by omega)
          simp only [diff_grid.enc, List.length_map]
          omega)
        obtain ⟨LK, hLK⟩ : ∃ L, L = diff_Rows.like kf xs ys := ⟨_, rfl⟩
        rw [← hLK] at FIN RISE HLB HTR HPL ⊢
        obtain ⟨L, hL⟩ : ∃ L, L = diff_grid.enc (DiffT.P LK xs.length ys.length xs.length 0 0) := ⟨_, rfl⟩
        have HL := Aside0.mk hL
        rw [← hL] at HLB HTR HPL ⊢
        clear hok RISE hLK hL
        rcases hx with hx | hx
        · have q1 := eq_true hx
          have q2 : decide (200 < (ys.length : Int)) = false := decide_eq_false (by omega)
          have q3 : decide (200 < ys.length) = false := decide_eq_false (by omega)
          have q4 : decide (xs.length < ys.length) = true := decide_eq_true hx
          have q5 : ((xs.length : Int) < (ys.length : Int)) = True := eq_true (by omega)
          clear hx hbig
          go_enter Try.func21, Try.ntmps21
          go_wp2_with (first | (go_at_call 35; refine (diff_both.calls A0 c0 l0 A1 c1 l1 0 w HR0.out HC0.out HR1.out HC1.out HE0.out).mono ?_; rintro e w1 ⟨rfl, hb⟩; have HB1 := Aside0.mk hb; clear hb) | (go_at_call_of 39 (Value.slice A0 l0.length c0); refine (diff_parts.calls kf (fun k_ => k_ < w.heap.size) A0 c0 l0 xs w1 (Kd.V_below (w1 := w1) (Kd.V_mk HC0.out (Kd.C_F k64_heap HR0.out)) HB1.out) HXS.out).mono ?_; rintro e w2 ⟨v0, rfl, hN, hb⟩; obtain ⟨AX, cx, rfl, hle, hC⟩ := Kd.N_reads hN; have CX := Aside0.mk hC; have LX := Aside0.mk hle; have HB2 := Aside0.mk (below_step HB1.out hb); clear hN hb hle hC) | (go_at_call_of 39 (Value.slice A1 l1.length c1); refine (diff_parts.calls kf (fun k_ => k_ < w.heap.size) A1 c1 l1 ys w2 (Kd.V_below (w1 := w2) (Kd.V_mk HC1.out (Kd.C_F k64_heap HR1.out)) HB2.out) HYS.out).mono ?_; rintro e w3 ⟨v1, rfl, hN, hb⟩; obtain ⟨AY, cy, rfl, hle, hC⟩ := Kd.N_reads hN; have CY := Aside0.mk hC; have LY := Aside0.mk hle; have n0_ := Aside0.mk (Kd.C_below CX.out hb); have HB3 := Aside0.mk (below_step HB2.out hb); clear CX hN hb hle hC; have CX := n0_; clear n0_) | ((with_reducible refine gate_dst (N := 7) rfl ?_); refine box_event ?hg (N := 7) ?hd (cs := #[.slice none 0 0]) (t := 83) ?hr ?_; (case hd => rfl); (case hg => rfl); (case hr => first | (go_simp; done) | (go_simp; rfl)); intro bx hg w4 hbox hb; have BX := Aside0.mk hbox; have GX := Aside0.mk (show w3.heap.size ≤ bx by rw [hg]; exact Nat.le_refl _); have H34 := Aside0.mk hb; clear hbox hb hg) | ((with_reducible refine gate_dst (N := 8) rfl ?_); refine box_event ?hg (N := 8) ?hd (cs := #[.slice none 0 0]) (t := 83) ?hr ?_; (case hd => rfl); (case hg => rfl); (case hr => first | (go_simp; done) | (go_simp; rfl)); intro bz hg w5 hbox hb; have BZ := Aside0.mk hbox; have NXZ := Aside0.mk (show bx ≠ bz by rw [hg]; exact Nat.ne_of_lt (blk_lt BX.out)); have n0_ := Aside0.mk (blk_below BX.out hb); have H35 := Aside0.mk (below_step H34.out hb); have GZ := Aside0.mk (show w3.heap.size ≤ bz by rw [hg]; exact H34.out.size); clear BX hbox hb hg; have BX := n0_; clear n0_; have hx0 : w5.cell? ⟨bx, 0, none⟩ = some (.slice none 0 0) := (blk_cell BX.out 0).trans rfl; have hz0 : w5.cell? ⟨bz, 0, none⟩ = some (.slice none 0 0) := (blk_cell BZ.out 0).trans rfl; have hfx0 := blk_frozen BX.out 0; have hfz0 := blk_frozen BZ.out 0; have hn1 : ¬ (bx = bz) := NXZ.out; have hn2 : ¬ (bz = bx) := fun e => NXZ.out e.symm))
          have n0_ := Aside0.mk (show ((w5.setCell ⟨bx, 0, none⟩ (.slice AX xs.length cx)).setCell ⟨bz, 0, none⟩ (.slice AY ys.length cy)).heap[bx]? = some (.cells #[.slice AX xs.length cx] 83 (0, 0)) from blk_far (blk_put BX.out 0 _ rfl) NXZ.out _)
          have n1_ := Aside0.mk (show ((w5.setCell ⟨bx, 0, none⟩ (.slice AX xs.length cx)).setCell ⟨bz, 0, none⟩ (.slice AY ys.length cy)).heap[bz]? = some (.cells #[.slice AY ys.length cy] 83 (0, 0)) from blk_put (blk_far BZ.out (fun e => NXZ.out e.symm) _) 0 _ rfl)
          have n2_ := Aside0.mk (show Below w3.heap.size w3 ((w5.setCell ⟨bx, 0, none⟩ (.slice AX xs.length cx)).setCell ⟨bz, 0, none⟩ (.slice AY ys.length cy)) from (H35.out.setCell GX.out _).setCell GZ.out _)
          clear BX BZ hx0 hz0 hfx0 hfz0 hn1 hn2 H34 H35
          generalize (w5.setCell ⟨bx, 0, none⟩ (.slice AX xs.length cx)).setCell ⟨bz, 0, none⟩ (.slice AY ys.length cy) = w6 at n0_ n1_ n2_ ⊢
          have BX := n0_
          have BZ := n1_
          have X6 := Aside0.mk (Kd.C_below CX.out n2_.out)
          have Y6 := Aside0.mk (Kd.C_below CY.out n2_.out)
          have HB6 := Aside0.mk (below_step HB3.out n2_.out)
          clear n0_ n1_ n2_ CX CY HB3 HB2 HB1
          refine (diff_filled.calls xs.length ys.length (by have := HN.out; omega) (by have := HM.out; omega) 40 #[.pointer (some ⟨bx, 0, none⟩), .pointer (some ⟨bz, 0, none⟩)] HE.out LK w6 (FIN.out AX AY cx cy bx bz w6 BX.out BZ.out X6.out Y6.out)).mono ?_
          rintro e w7 ⟨gb, rb, cap, best, rfl, hge, hblk, hC, hlen, hT, hb3⟩
          have G := Aside0.mk (And.intro hblk (And.intro hC (And.intro hlen (And.intro hT hb3))))
          clear hge hblk hC hlen hT hb3
          go_wp2_with fail
          refine (diff_pairs.calls xs.length ys.length (by have := HN.out; omega) (by have := HM.out; omega) 40 #[.pointer (some ⟨bx, 0, none⟩), .pointer (some ⟨bz, 0, none⟩)] HE.out LK w7 (fun W hb i j hi hj => FIN.out AX AY cx cy bx bz w6 BX.out BZ.out X6.out Y6.out W (below_step G.out.2.2.2.2 hb) i j hi hj) gb rb cap best ⟨G.out.1, G.out.2.1, Below.refl _ _⟩ G.out.2.2.1 G.out.2.2.2.1).mono ?_
          rintro e w8 ⟨v, rfl, hR, hb4⟩
          rw [← HL.out] at hR
          have HR := Aside0.mk hR
          have H68 := Aside0.mk (below_step G.out.2.2.2.2 hb4)
          have BX8 := Aside0.mk (blk_below BX.out H68.out)
          have BZ8 := Aside0.mk (blk_below BZ.out H68.out)
          have X8 := Aside0.mk (Kd.C_below X6.out H68.out)
          have Y8 := Aside0.mk (Kd.C_below Y6.out H68.out)
          have HB8 := Aside0.mk (below_step HB6.out H68.out)
          clear hR hb4 G BX BZ X6 Y6 H68 HB6 FIN
          have hx8 : w8.cell? ⟨bx, 0, none⟩ = some (.slice AX xs.length cx) := (blk_cell BX8.out 0).trans rfl
          have hz8 : w8.cell? ⟨bz, 0, none⟩ = some (.slice AY ys.length cy) := (blk_cell BZ8.out 0).trans rfl
          go_wp2_with ((with_reducible refine gate_dst (N := 10) rfl ?_); refine box_event ?hg (N := 10) ?hd (cs := #[.slice none 0 0]) (t := 49) ?hr ?_; (case hd => rfl); (case hg => rfl); (case hr => first | (go_simp; done) | (go_simp; rfl)); intro bo hg w9 hbox hb; have n0_ := Aside0.mk (Kd.R_below HR.out hb); have ST := Aside0.mk (show diff_Rows.St bo w8 [] w9 from ⟨⟨_, hbox, Kd.R_nil _ _ _ _ _⟩, hb⟩); have HBO := Aside0.mk (show w8.heap.size ≤ bo by rw [hg]; exact Nat.le_refl _); clear HR hg hbox hx8 hz8; have HR := n0_; clear n0_; have hx9 : w9.cell? ⟨bx, 0, none⟩ = some (.slice AX xs.length cx) := (blk_cell (blk_below BX8.out hb) 0).trans rfl; have hz9 : w9.cell? ⟨bz, 0, none⟩ = some (.slice AY ys.length cy) := (blk_cell (blk_below BZ8.out hb) 0).trans rfl; clear hb)
          refine (diff_gaps.calls 42 #[.pointer (some ⟨bx, 0, none⟩), .pointer (some ⟨bo, 0, none⟩), .pointer (some ⟨bz, 0, none⟩)] HG.out v L (xs.length : Int) (ys.length : Int) w7.heap.size w9 HR.out ⟨by omega, by have := HN.out; omega⟩ ⟨by omega, by have := HM.out; omega⟩ HLB.out (fun pre W => diff_Rows.St bo w8 (diff_Rows.outs xs ys pre) W) ST.out (fun pre W W' hj hg => hj.grown hg) (fun pre W g cs j u hj hg hle => hj.set hg (Nat.le_trans ST.out.below.size hle) j u) ?_).mono ?_
          · intro pre rest f t b W htr hj
            have hm := HTR.out (f, t, b) (by rw [htr]; simp)
            have hpl : pre.length ≤ 201 := by
              have h1 := diff_gaps.trace_len (xs.length : Int) (ys.length : Int) L (0, 0)
              rw [htr] at h1
              simp only [List.length_append, List.length_cons] at h1
              have := HPL.out
              omega
            have hol := diff_Rows.outs_len xs ys HN.out HM.out pre
            simp only at hm
            refine (diff_Rows.one2 bx bo bz w8 AX AY cx cy xs ys BX8.out BZ8.out X8.out LX.out Y8.out LY.out f.1 f.2 t.1 t.2 b (diff_Rows.outs xs ys pre) (by omega) hm.1.1 hm.1.2.1 hm.1.2.2 hm.2.1.1 hm.2.1.2.1 hm.2.1.2.2 HN.out HM.out hm.2.2 W hj HBO.out).mono ?_
            rintro e W' ⟨h1, h2, h3⟩
            refine ⟨h1, ?_, h3⟩
            have e1 : diff_Rows.outs xs ys (pre ++ [(f, t, b)]) = diff_Rows.outs xs ys pre ++ diff_Rows.add xs ys ((f.1, f.2), (t.1, t.2), b) := by simp [diff_Rows.outs]
            rw [e1]
            exact h2
          · rintro e w10 ⟨⟨x, rfl⟩, hj⟩
            obtain ⟨⟨vo, hbo, hro⟩, hbel⟩ := hj
            have RO := Aside0.mk hro
            have BL := Aside0.mk hbel
            have hco : w10.cell? ⟨bo, 0, none⟩ = some vo := (blk_cell hbo 0).trans rfl
            clear hbo hro hbel
            go_wp2
            go_ret2
            exact ⟨_, rfl, Kd.R_lower RO.out HB8.out.size, below_step HB8.out BL.out⟩
        · have q1 := eq_false hx
          have q2 : decide (200 < (xs.length : Int)) = false := decide_eq_false (by omega)
          have q3 : decide (200 < xs.length) = false := decide_eq_false (by omega)
          have q4 : decide (xs.length < ys.length) = false := decide_eq_false hx
          have q5 : ((xs.length : Int) < (ys.length : Int)) = False := eq_false (by omega)
          clear hx hbig
          go_enter Try.func21, Try.ntmps21
          go_wp2_with (first | (go_at_call 35; refine (diff_both.calls A0 c0 l0 A1 c1 l1 0 w HR0.out HC0.out HR1.out HC1.out HE0.out).mono ?_; rintro e w1 ⟨rfl, hb⟩; have HB1 := Aside0.mk hb; clear hb) | (go_at_call_of 39 (Value.slice A0 l0.length c0); refine (diff_parts.calls kf (fun k_ => k_ < w.heap.size) A0 c0 l0 xs w1 (Kd.V_below (w1 := w1) (Kd.V_mk HC0.out (Kd.C_F k64_heap HR0.out)) HB1.out) HXS.out).mono ?_; rintro e w2 ⟨v0, rfl, hN, hb⟩; obtain ⟨AX, cx, rfl, hle, hC⟩ := Kd.N_reads hN; have CX := Aside0.mk hC; have LX := Aside0.mk hle; have HB2 := Aside0.mk (below_step HB1.out hb); clear hN hb hle hC) | (go_at_call_of 39 (Value.slice A1 l1.length c1); refine (diff_parts.calls kf (fun k_ => k_ < w.heap.size) A1 c1 l1 ys w2 (Kd.V_below (w1 := w2) (Kd.V_mk HC1.out (Kd.C_F k64_heap HR1.out)) HB2.out) HYS.out).mono ?_; rintro e w3 ⟨v1, rfl, hN, hb⟩; obtain ⟨AY, cy, rfl, hle, hC⟩ := Kd.N_reads hN; have CY := Aside0.mk hC; have LY := Aside0.mk hle; have n0_ := Aside0.mk (Kd.C_below CX.out hb); have HB3 := Aside0.mk (below_step HB2.out hb); clear CX hN hb hle hC; have CX := n0_; clear n0_) | ((with_reducible refine gate_dst (N := 7) rfl ?_); refine box_event ?hg (N := 7) ?hd (cs := #[.slice none 0 0]) (t := 83) ?hr ?_; (case hd => rfl); (case hg => rfl); (case hr => first | (go_simp; done) | (go_simp; rfl)); intro bx hg w4 hbox hb; have BX := Aside0.mk hbox; have GX := Aside0.mk (show w3.heap.size ≤ bx by rw [hg]; exact Nat.le_refl _); have H34 := Aside0.mk hb; clear hbox hb hg) | ((with_reducible refine gate_dst (N := 8) rfl ?_); refine box_event ?hg (N := 8) ?hd (cs := #[.slice none 0 0]) (t := 83) ?hr ?_; (case hd => rfl); (case hg => rfl); (case hr => first | (go_simp; done) | (go_simp; rfl)); intro bz hg w5 hbox hb; have BZ := Aside0.mk hbox; have NXZ := Aside0.mk (show bx ≠ bz by rw [hg]; exact Nat.ne_of_lt (blk_lt BX.out)); have n0_ := Aside0.mk (blk_below BX.out hb); have H35 := Aside0.mk (below_step H34.out hb); have GZ := Aside0.mk (show w3.heap.size ≤ bz by rw [hg]; exact H34.out.size); clear BX hbox hb hg; have BX := n0_; clear n0_; have hx0 : w5.cell? ⟨bx, 0, none⟩ = some (.slice none 0 0) := (blk_cell BX.out 0).trans rfl; have hz0 : w5.cell? ⟨bz, 0, none⟩ = some (.slice none 0 0) := (blk_cell BZ.out 0).trans rfl; have hfx0 := blk_frozen BX.out 0; have hfz0 := blk_frozen BZ.out 0; have hn1 : ¬ (bx = bz) := NXZ.out; have hn2 : ¬ (bz = bx) := fun e => NXZ.out e.symm))
          have n0_ := Aside0.mk (show ((w5.setCell ⟨bx, 0, none⟩ (.slice AX xs.length cx)).setCell ⟨bz, 0, none⟩ (.slice AY ys.length cy)).heap[bx]? = some (.cells #[.slice AX xs.length cx] 83 (0, 0)) from blk_far (blk_put BX.out 0 _ rfl) NXZ.out _)
          have n1_ := Aside0.mk (show ((w5.setCell ⟨bx, 0, none⟩ (.slice AX xs.length cx)).setCell ⟨bz, 0, none⟩ (.slice AY ys.length cy)).heap[bz]? = some (.cells #[.slice AY ys.length cy] 83 (0, 0)) from blk_put (blk_far BZ.out (fun e => NXZ.out e.symm) _) 0 _ rfl)
          have n2_ := Aside0.mk (show Below w3.heap.size w3 ((w5.setCell ⟨bx, 0, none⟩ (.slice AX xs.length cx)).setCell ⟨bz, 0, none⟩ (.slice AY ys.length cy)) from (H35.out.setCell GX.out _).setCell GZ.out _)
          clear BX BZ hx0 hz0 hfx0 hfz0 hn1 hn2 H34 H35
          generalize (w5.setCell ⟨bx, 0, none⟩ (.slice AX xs.length cx)).setCell ⟨bz, 0, none⟩ (.slice AY ys.length cy) = w6 at n0_ n1_ n2_ ⊢
          have BX := n0_
          have BZ := n1_
          have X6 := Aside0.mk (Kd.C_below CX.out n2_.out)
          have Y6 := Aside0.mk (Kd.C_below CY.out n2_.out)
          have HB6 := Aside0.mk (below_step HB3.out n2_.out)
          clear n0_ n1_ n2_ CX CY HB3 HB2 HB1
          refine (diff_filled.calls xs.length ys.length (by have := HN.out; omega) (by have := HM.out; omega) 40 #[.pointer (some ⟨bx, 0, none⟩), .pointer (some ⟨bz, 0, none⟩)] HE.out LK w6 (FIN.out AX AY cx cy bx bz w6 BX.out BZ.out X6.out Y6.out)).mono ?_
          rintro e w7 ⟨gb, rb, cap, best, rfl, hge, hblk, hC, hlen, hT, hb3⟩
          have G := Aside0.mk (And.intro hblk (And.intro hC (And.intro hlen (And.intro hT hb3))))
          clear hge hblk hC hlen hT hb3
          go_wp2_with fail
          refine (diff_pairs.calls xs.length ys.length (by have := HN.out; omega) (by have := HM.out; omega) 40 #[.pointer (some ⟨bx, 0, none⟩), .pointer (some ⟨bz, 0, none⟩)] HE.out LK w7 (fun W hb i j hi hj => FIN.out AX AY cx cy bx bz w6 BX.out BZ.out X6.out Y6.out W (below_step G.out.2.2.2.2 hb) i j hi hj) gb rb cap best ⟨G.out.1, G.out.2.1, Below.refl _ _⟩ G.out.2.2.1 G.out.2.2.2.1).mono ?_
          rintro e w8 ⟨v, rfl, hR, hb4⟩
          rw [← HL.out] at hR
          have HR := Aside0.mk hR
          have H68 := Aside0.mk (below_step G.out.2.2.2.2 hb4)
          have BX8 := Aside0.mk (blk_below BX.out H68.out)
          have BZ8 := Aside0.mk (blk_below BZ.out H68.out)
          have X8 := Aside0.mk (Kd.C_below X6.out H68.out)
          have Y8 := Aside0.mk (Kd.C_below Y6.out H68.out)
          have HB8 := Aside0.mk (below_step HB6.out H68.out)
          clear hR hb4 G BX BZ X6 Y6 H68 HB6 FIN
          have hx8 : w8.cell? ⟨bx, 0, none⟩ = some (.slice AX xs.length cx) := (blk_cell BX8.out 0).trans rfl
          have hz8 : w8.cell? ⟨bz, 0, none⟩ = some (.slice AY ys.length cy) := (blk_cell BZ8.out 0).trans rfl
          go_wp2_with ((with_reducible refine gate_dst (N := 10) rfl ?_); refine box_event ?hg (N := 10) ?hd (cs := #[.slice none 0 0]) (t := 49) ?hr ?_; (case hd => rfl); (case hg => rfl); (case hr => first | (go_simp; done) | (go_simp; rfl)); intro bo hg w9 hbox hb; have n0_ := Aside0.mk (Kd.R_below HR.out hb); have ST := Aside0.mk (show diff_Rows.St bo w8 [] w9 from ⟨⟨_, hbox, Kd.R_nil _ _ _ _ _⟩, hb⟩); have HBO := Aside0.mk (show w8.heap.size ≤ bo by rw [hg]; exact Nat.le_refl _); clear HR hg hbox hx8 hz8; have HR := n0_; clear n0_; have hx9 : w9.cell? ⟨bx, 0, none⟩ = some (.slice AX xs.length cx) := (blk_cell (blk_below BX8.out hb) 0).trans rfl; have hz9 : w9.cell? ⟨bz, 0, none⟩ = some (.slice AY ys.length cy) := (blk_cell (blk_below BZ8.out hb) 0).trans rfl; clear hb)
          refine (diff_gaps.calls 42 #[.pointer (some ⟨bx, 0, none⟩), .pointer (some ⟨bo, 0, none⟩), .pointer (some ⟨bz, 0, none⟩)] HG.out v L (xs.length : Int) (ys.length : Int) w7.heap.size w9 HR.out ⟨by omega, by have := HN.out; omega⟩ ⟨by omega, by have := HM.out; omega⟩ HLB.out (fun pre W => diff_Rows.St bo w8 (diff_Rows.outs xs ys pre) W) ST.out (fun pre W W' hj hg => hj.grown hg) (fun pre W g cs j u hj hg hle => hj.set hg (Nat.le_trans ST.out.below.size hle) j u) ?_).mono ?_
          · intro pre rest f t b W htr hj
            have hm := HTR.out (f, t, b) (by rw [htr]; simp)
            have hpl : pre.length ≤ 201 := by
              have h1 := diff_gaps.trace_len (xs.length : Int) (ys.length : Int) L (0, 0)
              rw [htr] at h1
              simp only [List.length_append, List.length_cons] at h1
              have := HPL.out
              omega
            have hol := diff_Rows.outs_len xs ys HN.out HM.out pre
            simp only at hm
            refine (diff_Rows.one2 bx bo bz w8 AX AY cx cy xs ys BX8.out BZ8.out X8.out LX.out Y8.out LY.out f.1 f.2 t.1 t.2 b (diff_Rows.outs xs ys pre) (by omega) hm.1.1 hm.1.2.1 hm.1.2.2 hm.2.1.1 hm.2.1.2.1 hm.2.1.2.2 HN.out HM.out hm.2.2 W hj HBO.out).mono ?_
            rintro e W' ⟨h1, h2, h3⟩
            refine ⟨h1, ?_, h3⟩
            have e1 : diff_Rows.outs xs ys (pre ++ [(f, t, b)]) = diff_Rows.outs xs ys pre ++ diff_Rows.add xs ys ((f.1, f.2), (t.1, t.2), b) := by simp [diff_Rows.outs]
            rw [e1]
            exact h2
          · rintro e w10 ⟨⟨x, rfl⟩, hj⟩
            obtain ⟨⟨vo, hbo, hro⟩, hbel⟩ := hj
            have RO := Aside0.mk hro
            have BL := Aside0.mk hbel
            have hco : w10.cell? ⟨bo, 0, none⟩ = some vo := (blk_cell hbo 0).trans rfl
            clear hbo hro hbel
            go_wp2
            go_ret2
            exact ⟨_, rfl, Kd.R_lower RO.out HB8.out.size, below_step HB8.out BL.out⟩
      · rw [if_neg hok] at h
        cases h
  · rw [if_neg ce] at h
    simp only [Option.some.injEq, Prod.mk.injEq] at h
    obtain ⟨rfl, rfl⟩ := h
    have HE0 := Aside0.mk he
    have b0 : (e0 != 0) = true := bne_iff_ne.mpr ce
    have b1 : (e0 == 0) = false := beq_eq_false_iff_ne.mpr ce
    clear he ce
    go_enter Try.func21, Try.ntmps21
    go_wp2_with (go_at_call 35; refine (diff_both.calls A0 c0 l0 A1 c1 l1 e0 w HR0.out HC0.out HR1.out HC1.out HE0.out).mono ?_; rintro e w1 ⟨rfl, hb⟩; have HB := Aside0.mk hb; clear hb)
    go_ret2
    exact ⟨_, rfl, Kd.R_nil _ _ _ _ _, HB.out⟩

end Go.Proofs.Ytjpmlggkhhoooaa.PDq
