-- Written for this claim by a program (the kit's print, with hand-made contracts for what it does not take).
import Derived.Test.YtcoolajjjnkfpaaPPax0
import Derived.Test.YtcoolajjjnkfpaaPPax2
namespace Go.Proofs.Ytcoolajjjnkfpaa.PPa
open Go.RowKit Go.Proofs.YtcoolajjjnkfpaaW.PrintWords Go.Proofs.YtcoolajjjnkfpaaW.PrintLast Go.Proofs.YtcoolajjjnkfpaaW.PrintMore
attribute [local go_sem] max2_int min2_int max_two min_two max_three min_three max_four min_four   -- for this text's walks alone
set_option linter.unusedVariables false
set_option linter.unusedSimpArgs false

/-! ### pos_each: function 30 -/

section
attribute [local go_sem] Oper.semAt_some
/-- How far the ranges ahead of number k have moved what lies behind them. -/
def pos_each.sh (zs : List S37) (k : Nat) : Int := ((zs.take k).map fun r => r.f2 - r.f1).sum
/-- Where range number i stands behind the change. -/
def pos_each.beg (zs : List S37) (i : Nat) : Int := (rd_T37 zs (i : Int)).f0 + pos_each.sh zs i
abbrev pos_each.encs (zs : List S37) (x : Fin zs.length) : Array Value := #[Value.int .i64 ((x.val : Nat) : Int), Value.int .i64 (pos_each.beg zs x.val)]
def pos_each.upto (zs : List S37) (k : Nat) : List (Fin zs.length) := (List.finRange zs.length).take k
theorem pos_each.upto_succ (zs : List S37) (k : Nat) (h : k < zs.length) : pos_each.upto zs (k + 1) = pos_each.upto zs k ++ [⟨k, h⟩] := by
  unfold pos_each.upto
  rw [List.take_succ_eq_append_getElem (by simpa using h)]
  simp
theorem pos_each.upto_length (zs : List S37) (k : Nat) (h : k ≤ zs.length) : (pos_each.upto zs k).length = k := by simp [pos_each.upto]; omega
theorem pos_each.upto_all (zs : List S37) : pos_each.upto zs zs.length = List.finRange zs.length := by unfold pos_each.upto; rw [List.take_of_length_le (by simp)]
theorem pos_each.upto_rest (zs : List S37) (k : Nat) : ∃ rest, pos_each.upto zs k ++ rest = List.finRange zs.length := ⟨(List.finRange zs.length).drop k, List.take_append_drop k _⟩
theorem pos_each.sh_zero (zs : List S37) : pos_each.sh zs 0 = 0 := rfl
theorem pos_each.sh_succ (zs : List S37) (i : Int) (h : i.toNat < zs.length) : pos_each.sh zs (i.toNat + 1) = pos_each.sh zs i.toNat + ((rd_T37 zs i).f2 - (rd_T37 zs i).f1) := by
  have e : rd_T37 zs i = zs[i.toNat] := by simp [rd_T37, List.getD_eq_getElem?_getD, List.getElem?_eq_getElem h]
  unfold pos_each.sh
  rw [List.take_succ_eq_append_getElem h, List.map_append, List.sum_append, e]
  simp
/-- A map that is right is small. -/
def pos_each.Ok (zs : List S37) : Prop := zs.length ≤ 4 ∧ ∀ r ∈ zs, (0 ≤ r.f0 ∧ r.f0 ≤ 65536) ∧ (0 ≤ r.f1 ∧ r.f1 ≤ 65536) ∧ (0 ≤ r.f2 ∧ r.f2 ≤ 65536)
theorem pos_each.Ok.get {zs : List S37} (h : pos_each.Ok zs) (i : Int) (hi : i.toNat < zs.length) : (0 ≤ (rd_T37 zs i).f0 ∧ (rd_T37 zs i).f0 ≤ 65536) ∧ (0 ≤ (rd_T37 zs i).f1 ∧ (rd_T37 zs i).f1 ≤ 65536) ∧ (0 ≤ (rd_T37 zs i).f2 ∧ (rd_T37 zs i).f2 ≤ 65536) := by
  have e : rd_T37 zs i = zs[i.toNat] := by simp [rd_T37, List.getD_eq_getElem?_getD, List.getElem?_eq_getElem hi]
  rw [e]
  exact h.2 _ (List.getElem_mem hi)
theorem pos_each.sh_bound {zs : List S37} (h : pos_each.Ok zs) : ∀ k : Nat, k ≤ zs.length → -65536 * (k : Int) ≤ pos_each.sh zs k ∧ pos_each.sh zs k ≤ 65536 * (k : Int)
  | 0, _ => by rw [pos_each.sh_zero]; omega
  | k + 1, hk => by
    have ih := pos_each.sh_bound h k (by omega)
    have hg := h.get (k : Int) (by omega)
    have hs := pos_each.sh_succ zs (k : Int) (by omega)
    rw [Int.toNat_natCast] at hs
    rw [hs]
    omega
/-- What a round of the caller's may do: blocks below n₀ stay, and all cells but the caller's own ones. -/
structure pos_each.Keeps (n₀ : Nat) (Own : World → Nat → Prop) (A B : World) : Prop where
  below : Below n₀ A B
  size : A.heap.size ≤ B.heap.size
  same : ∀ k cs t fr, A.heap[k]? = some (.cells cs t fr) → ¬ Own A k → B.heap[k]? = some (.cells cs t fr)
  valid : (∀ k, Own A k → k < A.heap.size) → ∀ k, Own B k → k < B.heap.size
  fresh : ∀ k, Own B k → Own A k ∨ A.heap.size ≤ k
theorem pos_each.Keeps.trans {n₀ : Nat} {Own : World → Nat → Prop} {A B C : World} (h : pos_each.Keeps n₀ Own A B) (k : pos_each.Keeps n₀ Own B C) : pos_each.Keeps n₀ Own A C :=
  ⟨h.below.trans k.below, Nat.le_trans h.size k.size, fun j cs t fr hj ho => k.same j cs t fr (h.same j cs t fr hj ho) (fun hb => (h.fresh j hb).elim ho (fun hl => by have := (Array.getElem?_eq_some_iff.1 hj).1; omega)),
    fun hv => k.valid (h.valid hv), fun j hj => (k.fresh j hj).elim (fun hb => h.fresh j hb) (fun hl => .inr (Nat.le_trans h.size hl))⟩
theorem pos_each.Keeps.putObj {n₀ m : Nat} {Own : World → Nat → Prop} (hloc : ∀ A B : World, (∀ k, k < m → B.heap[k]? = A.heap[k]?) → ∀ k, Own B k → Own A k) {w : World} (hn : n₀ ≤ w.heap.size) (hm : m ≤ w.heap.size) (W : World) (l : Nat) (o o' : Obj) (hl : w.heap.size ≤ l) (h : W.heap[l]? = some o) (hc : o.isCells = false) (hw : o.isWalk = false) : pos_each.Keeps n₀ Own W (W.putObj l o') := by
  have hne : ∀ k, k ≠ l → (W.putObj l o').heap[k]? = W.heap[k]? := fun k hk => World.putObj_heap_other hk
  have hO : ∀ k, Own (W.putObj l o') k → Own W k := hloc _ _ (fun k hk => hne k (by omega))
  have hs : W.heap.size ≤ (W.putObj l o').heap.size := (grownBy_putObj' W l o').size
  refine ⟨belowK_b hn W l o o' hl h hc hw, hs, fun k cs t fr hk _ => ?_, fun hv k hk => Nat.lt_of_lt_of_le (hv k (hO k hk)) hs, fun k hk => .inl (hO k hk)⟩
  rw [hne k ?_]
  · exact hk
  · rintro rfl
    rw [h] at hk
    obtain rfl := Option.some.inj hk
    cases hc
/-- 'each' boxes its slice and hands back a function value. -/
theorem pos_each.calls_in (F : Fence) (n : Nat) (hE : F.fn 30) (hro : F.round = none) (a : Option Addr) (len cap : Nat) (w : World) :
    CallsIn F n Try.prog 30 #[.slice a len cap] w fun e w' => e = .returned (.func (.func 34) #[] #[.pointer (some ⟨w.heap.size, 0, none⟩)]) ∧ w' = w.alloc (.cells #[.slice a len cap] 22) := by
  refine callsIn_of_wp Try.func30 rfl hE ?_ hro
  simp only [Try.ntmps30, List.size_toArray, List.length_cons, List.length_nil, Nat.reduceAdd, Nat.reduceSub, Array.replicate_succ, Array.replicate_zero, List.push_toArray, List.append_toArray, List.nil_append, List.cons_append]
  gi_wp2
  go_ret
  exact ⟨rfl, rfl⟩
set_option maxRecDepth 100000 in
set_option maxHeartbeats 2000000 in
/-- The function value of 'each': for whatever loop body that keeps its word. -/
theorem pos_each.one_in (F : Fence) (n : Nat) (hC : F.fn 34) (hro : F.round = none) (hn : 1 ≤ n) (l Bs m : Nat) (A0 : Option Addr) (c0 : Nat) (zs : List S37) (hok : pos_each.Ok zs) (w : World) (hr0 : Kd.C k37 w A0 zs.length zs)
    (Own : World → Nat → Prop) (hloc : ∀ A B : World, (∀ k, k < m → B.heap[k]? = A.heap[k]?) → ∀ k, Own B k → Own A k) (J Jx : List (Fin zs.length) → World → Prop) (W : World) (hJ : AbidesFrom W.heap.size J)
    (hY : ∀ pre x W1, J pre W1 → pre.length < zs.length → YieldAt F (n - 1) Try.prog l (pos_each.encs zs x) W1 fun e W' => (e = .returned (.bool true) ∧ J (pre ++ [x]) W' ∧ pos_each.Keeps w.heap.size Own W1 W') ∨ (e = .returned (.bool false) ∧ Jx (pre ++ [x]) W'))
    (hBs : W.cell? ⟨Bs, 0, none⟩ = some (.slice A0 zs.length c0)) (hB : Below w.heap.size w W) (hm : m ≤ W.heap.size) (hOv : ∀ k, Own W k → k < W.heap.size) (h0 : J [] W) :
    CallsIn F n Try.prog 34 #[.func (.yield l) #[] #[], .pointer (some ⟨Bs, 0, none⟩)] W fun e W' => (∃ v, e = .returned v) ∧
      ((∃ ys, ys = pos_each.upto zs zs.length ∧ J ys W') ∨ (∃ pre, (∃ k, k ≤ zs.length ∧ pre = pos_each.upto zs k) ∧ Jx pre W')) := by
  refine callsIn_of_wp Try.func34 rfl hC ?_ hro
  simp only [Try.ntmps34, List.size_toArray, List.length_cons, List.length_nil, Nat.reduceAdd, Nat.reduceSub, Array.replicate_succ, Array.replicate_zero, List.push_toArray, List.append_toArray, List.nil_append, List.cons_append]
  have HBW := Aside0.mk hB
  have HR0 := Aside0.mk hr0
  have HJ := Aside0.mk hJ
  have HY := Aside0.mk hY
  have HLOC := Aside0.mk hloc
  have HOV := Aside0.mk hOv
  have HM := Aside0.mk hm
  have HL4 := hok.1
  clear hr0 hJ hY hloc hOv hm hB
  gi_wp2
  gi_loopw [3, 8] (fun d i wr => ∃ ii dd : Int, i = .int .i64 ii ∧ d = .int .i64 dd ∧ Aside0 (0 ≤ ii ∧ ii ≤ zs.length) ∧ Aside0 (dd = pos_each.sh zs ii.toNat) ∧ Aside0 (J (pos_each.upto zs ii.toNat) wr) ∧ Aside0 (Below w.heap.size w wr) ∧ Aside0 (∀ k, Own wr k → k < wr.heap.size) ∧ Aside0 (W.heap.size ≤ wr.heap.size))
    (fun _ i _ => zs.length - (intOf i).toNat)
  case atStart => exact ⟨0, 0, rfl, rfl, ⟨by omega⟩, ⟨rfl⟩, ⟨h0⟩, HBW, HOV, ⟨Nat.le_refl _⟩⟩
  case round =>
    clear HBW HOV
    obtain ⟨ii, dd, rfl, rfl, HI, HD, HJs, HB, HV, HS⟩ := hrel
    have hI := HI.out
    by_cases hlt : ii < (zs.length : Int)
    · have hi : ii.toNat < zs.length := by omega
      obtain ⟨⟨a1, a2⟩, ⟨b1, b2⟩, ⟨c1, c2⟩⟩ := hok.get ii hi
      have hsb := pos_each.sh_bound hok ii.toNat (by omega)
      obtain ⟨ad, e_, hx0, hx1, hx2⟩ := at_T37 HR0.out ii hI.1 hlt
      subst e_
      replace hx0 := (HB.out.cell (World.block_lt_of_cell? w _ hx0)).trans hx0
      replace hx1 := (HB.out.cell (World.block_lt_of_cell? w _ hx1)).trans hx1
      replace hx2 := (HB.out.cell (World.block_lt_of_cell? w _ hx2)).trans hx2
      have hdd0 : -262144 ≤ dd := by rw [HD.out]; omega
      have hdd1 : dd ≤ 262144 := by rw [HD.out]; omega
      have hJ1 : J (pos_each.upto zs ii.toNat) (wr.alloc (.cells #[.int .i64 (rd_T37 zs ii).f0, .int .i64 (rd_T37 zs ii).f1, .int .i64 (rd_T37 zs ii).f2] 37)) :=
        HJ.out _ wr _ none HJs.out (World.grownBy_alloc wr _ none) (fun r e => by cases e)
      have hYx := HY.out (pos_each.upto zs ii.toNat) ⟨ii.toNat, hi⟩ _ hJ1 (by rw [pos_each.upto_length _ _ (by omega)]; exact hi)
      dsimp only [pos_each.encs, pos_each.beg] at hYx
      rw [show ((ii.toNat : Nat) : Int) = ii by omega, ← HD.out] at hYx
      obtain ⟨fn, tmps, assign, body, hy, hR⟩ := hYx
      have HR := Aside0.mk hR
      clear hJ1 hR
      have hi0 := hI.1
      clear hI hsb
      have HSZ := Aside0.mk (show wr.heap.size + 1 = (wr.alloc (.cells #[.int .i64 (rd_T37 zs ii).f0, .int .i64 (rd_T37 zs ii).f1, .int .i64 (rd_T37 zs ii).f2] 37)).heap.size from by simp)
      gi_wp2
      refine HR.out.mono ?_
      rintro e W3 (⟨rfl, hJ3, hk3⟩ | ⟨rfl, hJx3⟩)
      · -- the round goes on
        have hOwn1 : ∀ k, Own (wr.alloc (.cells #[.int .i64 (rd_T37 zs ii).f0, .int .i64 (rd_T37 zs ii).f1, .int .i64 (rd_T37 zs ii).f2] 37)) k → Own wr k :=
          HLOC.out _ _ (fun k hk => Below.heap_alloc wr _ k (by have := HM.out; have := HS.out; omega))
        have hb3 : W3.heap[wr.heap.size]? = some (.cells #[.int .i64 (rd_T37 zs ii).f0, .int .i64 (rd_T37 zs ii).f1, .int .i64 (rd_T37 zs ii).f2] 37 (0, 0)) :=
          hk3.same _ _ _ _ (World.alloc_heap_new wr _) (fun ho => Nat.lt_irrefl _ (HV.out _ (hOwn1 _ ho)))
        have hz1 : W3.cell? ⟨wr.heap.size, 1, none⟩ = some (.int .i64 (rd_T37 zs ii).f1) := (blk_cell hb3 1).trans rfl
        have hz2 : W3.cell? ⟨wr.heap.size, 2, none⟩ = some (.int .i64 (rd_T37 zs ii).f2) := (blk_cell hb3 2).trans rfl
        have HK3 := Aside0.mk hk3
        have HJ3 := Aside0.mk hJ3
        have HO1 := Aside0.mk hOwn1
        clear hk3 hJ3 hOwn1 hb3
        gi_wp2
        go_roundw
        case rel =>
          refine ⟨ii + 1, dd + ((rd_T37 zs ii).f2 - (rd_T37 zs ii).f1), by first | rfl | go_num, by first | rfl | go_num, ⟨by omega⟩, ⟨?_⟩, ⟨?_⟩, ⟨?_⟩, ⟨?_⟩, ⟨?_⟩⟩
          · rw [show (ii + 1).toNat = ii.toNat + 1 by omega, pos_each.sh_succ zs ii hi, HD.out]
          · rw [show (ii + 1).toNat = ii.toNat + 1 by omega, pos_each.upto_succ _ _ hi]
            exact HJ3.out
          · exact (((HB.out).alloc HB.out.size _).trans HK3.out.below)
          · exact HK3.out.valid (fun k hk => by have := HV.out k (HO1.out k hk); simp; omega)
          · have := HK3.out.size
            have := HSZ.out
            have := HS.out
            omega
        case measure => simp [intOf]; omega
      · gi_wp2
        refine bodyPost_ret (results_none rfl _ _ _) rfl ?_
        refine ⟨⟨_, rfl⟩, .inr ⟨_, ⟨ii.toNat + 1, by omega, ?_⟩, hJx3⟩⟩
        exact (pos_each.upto_succ _ _ hi).symm
    · obtain rfl : ii = (zs.length : Int) := by omega
      have HJs' : J (pos_each.upto zs zs.length) wr := by have := HJs.out; rw [Int.toNat_natCast] at this; exact this
      have HJE := Aside0.mk HJs'
      clear HJs' hI
      gi_wp2
      go_end0
      exact ⟨⟨_, rfl⟩, .inl HJE.out⟩
/-- The contract of the function value. -/
theorem pos_each.stops (F : Fence) (n : Nat) (hC : F.fn 34) (hro : F.round = none) (hn : 1 ≤ n) (Bs m : Nat) (A0 : Option Addr) (c0 : Nat) (zs : List S37) (hok : pos_each.Ok zs) (w : World) (hr0 : Kd.C k37 w A0 zs.length zs)
    (Own : World → Nat → Prop) (hloc : ∀ A B : World, (∀ k, k < m → B.heap[k]? = A.heap[k]?) → ∀ k, Own B k → Own A k) (w1 : World) (hBs : w1.cell? ⟨Bs, 0, none⟩ = some (.slice A0 zs.length c0)) (hB : Below w.heap.size w w1) (hm : m ≤ w1.heap.size) (hOv : ∀ k, Own w1 k → k < w1.heap.size) :
    SeqStopsK F n Try.prog 34 #[.pointer (some ⟨Bs, 0, none⟩)] (pos_each.encs zs) (pos_each.Keeps w.heap.size Own) (fun ys => ys = pos_each.upto zs zs.length) (fun pre => ∃ k, k ≤ zs.length ∧ pre = pos_each.upto zs k) zs.length w1 := fun l J Jx W hW hJ _ hY h0 => by
  have hlt := World.block_lt_of_cell? w1 _ hBs
  refine pos_each.one_in F n hC hro hn l Bs m A0 c0 zs hok w hr0 Own hloc J Jx W hJ hY ((hW.cell hlt).trans hBs) (hB.trans (hW.mono hB.size)) (Nat.le_trans hm hW.size) (fun k hk => ?_) h0
  exact Nat.lt_of_lt_of_le (hOv k (hloc _ _ (fun j hj => hW.block j (by omega)) k hk)) hW.size
end
/-! ### Right, in plain words -/
theorem pos_Right.w64 (n : Int) (h : -9223372036854775808 ≤ n ∧ n ≤ 9223372036854775807) : wrap64 n = n := by unfold wrap64; omega
def pos_Right.okL : Int → List S37 → Bool
  | _, [] => true
  | last, r :: rs => if r.f0 < last then false else if mx (mx r.f0 r.f1) r.f2 > 65536 then false else if mn r.f1 r.f2 < 0 then false else pos_Right.okL (r.f0 + r.f1) rs
def pos_Right.okB (l : List S37) : Bool := pos_Right.okL 0 l && decide ((l.length : Int) ≤ 4)
theorem pos_Right.okL_mem : ∀ (l : List S37) (last : Int), 0 ≤ last → pos_Right.okL last l = true → ∀ r ∈ l, (0 ≤ r.f0 ∧ r.f0 ≤ 65536) ∧ (0 ≤ r.f1 ∧ r.f1 ≤ 65536) ∧ (0 ≤ r.f2 ∧ r.f2 ≤ 65536)
  | [], _, _, _, _, hr => by cases hr
  | x :: xs, last, h0, h, r, hr => by
    unfold pos_Right.okL at h
    unfold mx mn at h
    by_cases a1 : x.f0 < last
    · simp [a1] at h
    by_cases a2 : (if (if x.f0 < x.f1 then x.f1 else x.f0) < x.f2 then x.f2 else if x.f0 < x.f1 then x.f1 else x.f0) > 65536
    · rw [if_neg a1, if_pos a2] at h; cases h
    by_cases a3 : (if x.f2 < x.f1 then x.f2 else x.f1) < 0
    · rw [if_neg a1, if_neg a2, if_pos a3] at h; cases h
    rw [if_neg a1, if_neg a2, if_neg a3] at h
    have b : (0 ≤ x.f0 ∧ x.f0 ≤ 65536) ∧ (0 ≤ x.f1 ∧ x.f1 ≤ 65536) ∧ (0 ≤ x.f2 ∧ x.f2 ≤ 65536) := by
      split at a2 <;> split at a2 <;> split at a3 <;> omega
    rcases List.mem_cons.1 hr with rfl | hr
    · exact b
    · exact pos_Right.okL_mem xs _ (by omega) h r hr
theorem pos_Right.ok_of {l : List S37} (h : pos_Right.okB l = true) : pos_each.Ok l := by
  unfold pos_Right.okB at h
  simp only [Bool.and_eq_true, decide_eq_true_eq] at h
  exact ⟨by omega, pos_Right.okL_mem l 0 (by omega) h.1⟩
theorem pos_Right.l0_eq (l : List S37) : ∀ (k : Nat) (i : Nat) (last : Int), i ≤ l.length → l.length - i < k → 0 ≤ last → l.length ≤ 4611686018427387904 → pos_Right.l0 k l last l (l.length : Int) (i : Int) = some (pos_Right.okL last (l.drop i) && decide ((l.length : Int) ≤ 4))
  | 0, _, _, _, h, _, _ => by omega
  | k + 1, i, last, hi, hk, h0, hs => by
    unfold pos_Right.l0
    have w2 : wrap64 ((i : Int) + 1) = ((i + 1 : Nat) : Int) := pos_Right.w64 _ (by omega)
    by_cases hlt : i < l.length
    · have e : rd_T37 l (i : Int) = l[i] := by simp [rd_T37, List.getD_eq_getElem?_getD, List.getElem?_eq_getElem hlt]
      have k1 : i + 1 ≤ l.length := hlt
      have k2 : l.length - (i + 1) < k := by omega
      rw [if_pos (by omega), if_pos (by omega), if_pos (by omega), e, List.drop_eq_getElem_cons hlt]
      unfold pos_Right.okL
      by_cases a1 : l[i].f0 < last
      · rw [if_pos a1, if_pos a1]; rfl
      by_cases a2 : mx (mx l[i].f0 l[i].f1) l[i].f2 > 65536
      · rw [if_neg a1, if_neg a1, if_pos a2, if_pos a2]; rfl
      by_cases a3 : mn l[i].f1 l[i].f2 < 0
      · rw [if_neg a1, if_neg a1, if_neg a2, if_neg a2, if_pos a3, if_pos a3]; rfl
      rw [if_neg a1, if_neg a1, if_neg a2, if_neg a2, if_neg a3, if_neg a3]
      have hb : 0 ≤ l[i].f0 + l[i].f1 ∧ l[i].f0 + l[i].f1 ≤ 131072 := by
        unfold mx at a2; unfold mn at a3
        split at a2 <;> split at a2 <;> split at a3 <;> omega
      have w1 : wrap64 (l[i].f0 + l[i].f1) = l[i].f0 + l[i].f1 := pos_Right.w64 _ (by omega)
      rw [w1, w2]
      exact pos_Right.l0_eq l k (i + 1) _ k1 k2 hb.1 hs
    · rw [if_neg (by omega), List.drop_of_length_le (by omega)]
      rfl
theorem pos_Right.l0_true : ∀ (k : Nat) (x0 : List S37) (x3 : Int) (x6 : List S37) (x7 x8 : Int), pos_Right.l0 k x0 x3 x6 x7 x8 = some true → (x0.length : Int) ≤ 4
  | 0, _, _, _, _, _, h => by simp [pos_Right.l0] at h
  | k + 1, x0, x3, x6, x7, x8, h => by
    unfold pos_Right.l0 at h
    split at h
    · split at h
      · split at h
        · split at h
          · cases h
          · split at h
            · cases h
            · split at h
              · cases h
              · exact pos_Right.l0_true k _ _ _ _ _ h
        · cases h
      · cases h
    · simpa using h
theorem pos_Right.mono_le (l : List S37) (k : Nat) (b : Bool) (h : pos_Right.f k l = some b) : ∀ j, pos_Right.f (k + j) l = some b
  | 0 => h
  | j + 1 => pos_Right.mono l (k + j) b (pos_Right.mono_le l k b h j)
theorem pos_Right.f_eq (l : List S37) (hs : l.length ≤ 4611686018427387904) : pos_Right.f (l.length + 2) l = some (pos_Right.okB l) := by
  have := pos_Right.l0_eq l (l.length + 2) 0 0 (by omega) (by omega) (by omega) hs
  exact this
theorem pos_Right.ok_true {k : Nat} {l : List S37} (h : pos_Right.f k l = some true) : pos_each.Ok l := by
  have h4 := pos_Right.l0_true k _ _ _ _ _ h
  have h1 := pos_Right.mono_le l k true h (l.length + 2)
  have h2 := pos_Right.mono_le l (l.length + 2) _ (pos_Right.f_eq l (by omega)) k
  rw [Nat.add_comm] at h2
  rw [h2] at h1
  exact pos_Right.ok_of (Option.some.inj h1)

/-! ### pos_within: function 31 -/
def pos_within.f (a0_0 : Int) (a0_1 : Int) (a0_2 : Int) (a1 : Int) (a2 : Int) (a3 : Int) : Option (Int × Bool × Int × Int) := if a0_1 = 0 then (if a3 < 0 then (some (a1, false, (-1), 0)) else (some (wrap64 (a1 + a0_2), false, (-1), 0))) else (if a2 = a0_0 then (some (a1, false, (-1), 0)) else (if a2 = (wrap64 (a0_0 + a0_1)) then (some (wrap64 (a1 + a0_2), false, (-1), 0)) else (if a3 < 0 then (some (a1, true, (-1), 0)) else (some (wrap64 (a1 + a0_2), true, (-1), 0)))))
section
theorem pos_within.fin {w : World} {A S : Obj} {q0 q1 q2 q3 v : Value} {a : Act} (ht : a.tmps.getD 8 undef = .pointer (some ⟨w.heap.size + 1, 0, none⟩)) (hd : a.defers = []) (hv : v = .agg #[q0, q1, q2, q3]) :
    bodyPost Try.prog Try.f31 (fun e w' => e = .returned v ∧ Below w.heap.size w w') .ret a (((w.alloc A).alloc (.cells #[q0, q1, q2, q3] 24)).alloc S) := by
  subst hv
  have hb : (((w.alloc A).alloc (.cells #[q0, q1, q2, q3] 24)).alloc S).heap[w.heap.size + 1]? = some (.cells #[q0, q1, q2, q3] 24 (0, 0)) := by
    have := blk_new (w.alloc A) (.cells #[q0, q1, q2, q3] 24)
    rw [World.size_alloc] at this
    exact blk_alloc this _
  have hr := results_cell_row (fn := Try.f31) rfl a.tmps _ (w.heap.size + 1) 24 #[q0, q1, q2, q3] (0, 0) _ ht hb Try.underlying24 rfl (by kernel_rfl)
  exact bodyPost_ret hr hd ⟨rfl, below_alloc (below_alloc (below_alloc (Below.refl _ _) _) _) _⟩
set_option maxRecDepth 100000 in
set_option maxHeartbeats 4000000 in
theorem pos_within.calls (a0_0 : Int) (a0_1 : Int) (a0_2 : Int) (a1 : Int) (a2 : Int) (a3 : Int) (r1 : Int) (r2 : Bool) (r3 : Int) (r4 : Int) (w : World) (h : pos_within.f a0_0 a0_1 a0_2 a1 a2 a3 = some (r1, r2, r3, r4)) :
    Calls Try.prog 31 #[.agg #[.int .i64 a0_0, .int .i64 a0_1, .int .i64 a0_2], .int .i64 a1, .int .i64 a2, .int .i64 a3] w fun e w' => e = .returned (.agg #[.int .i64 r1, .bool r2, .int .i64 r3, .int .i64 r4]) ∧ Below w.heap.size w w' := by
  have hu37 := Try.underlying37
  have hu24 := Try.underlying24
  unfold pos_within.f at h
  refine (callsIn_wide (n := 1)).1 ?_
  refine callsIn_of_wp Try.func31 rfl trivial ?_ rfl
  simp only [Try.ntmps31, List.size_toArray, List.length_cons, List.length_nil, Nat.reduceAdd, Nat.reduceSub, Array.replicate_succ, Array.replicate_zero, List.push_toArray, List.append_toArray, List.nil_append, List.cons_append]
  have hx0 : (((w.alloc (.cells #[.int .i64 a0_0, .int .i64 a0_1, .int .i64 a0_2] 37)).alloc (.cells #[.int .i64 0, .bool false, .int .i64 0, .int .i64 0] 24)).alloc (.cells #[.int .i64 a1, .bool false, .int .i64 (-1), .int .i64 0] 24)).cell? ⟨w.heap.size, 0, none⟩ = some (.int .i64 a0_0) := (blk_cell (blk_alloc (blk_alloc (blk_new _ _) _) _) 0).trans rfl
  have hx1 : (((w.alloc (.cells #[.int .i64 a0_0, .int .i64 a0_1, .int .i64 a0_2] 37)).alloc (.cells #[.int .i64 0, .bool false, .int .i64 0, .int .i64 0] 24)).alloc (.cells #[.int .i64 a1, .bool false, .int .i64 (-1), .int .i64 0] 24)).cell? ⟨w.heap.size, 1, none⟩ = some (.int .i64 a0_1) := (blk_cell (blk_alloc (blk_alloc (blk_new _ _) _) _) 1).trans rfl
  have hx2 : (((w.alloc (.cells #[.int .i64 a0_0, .int .i64 a0_1, .int .i64 a0_2] 37)).alloc (.cells #[.int .i64 0, .bool false, .int .i64 0, .int .i64 0] 24)).alloc (.cells #[.int .i64 a1, .bool false, .int .i64 (-1), .int .i64 0] 24)).cell? ⟨w.heap.size, 2, none⟩ = some (.int .i64 a0_2) := (blk_cell (blk_alloc (blk_alloc (blk_new _ _) _) _) 2).trans rfl
  by_cases c5 : a0_1 = 0
  · rw [if_pos c5] at h
    have c5b : (a0_1 == 0) = true := beq_iff_eq.mpr c5
    clear c5
    by_cases c6 : a3 < 0
    · rw [if_pos c6] at h
      have c6b : decide (a3 < 0) = true := decide_eq_true c6
      clear c6
      simp only [Option.some.injEq, Prod.mk.injEq] at h
      obtain ⟨rfl, rfl, rfl, rfl⟩ := h
      gi_wp2
      exact pos_within.fin rfl rfl rfl
    · rw [if_neg c6] at h
      have c6b : decide (a3 < 0) = false := decide_eq_false c6
      clear c6
      simp only [Option.some.injEq, Prod.mk.injEq] at h
      obtain ⟨rfl, rfl, rfl, rfl⟩ := h
      gi_wp2
      exact pos_within.fin rfl rfl rfl
  · rw [if_neg c5] at h
    have c5b : (a0_1 == 0) = false := beq_eq_false_iff_ne.mpr c5
    clear c5
    by_cases c7 : a2 = a0_0
    · rw [if_pos c7] at h
      have c7b : (a2 == a0_0) = true := beq_iff_eq.mpr c7
      clear c7
      simp only [Option.some.injEq, Prod.mk.injEq] at h
      obtain ⟨rfl, rfl, rfl, rfl⟩ := h
      gi_wp2
      exact pos_within.fin rfl rfl rfl
    · rw [if_neg c7] at h
      have c7b : (a2 == a0_0) = false := beq_eq_false_iff_ne.mpr c7
      clear c7
      by_cases c8 : a2 = wrap64 (a0_0 + a0_1)
      · rw [if_pos c8] at h
        have c8b : (a2 == wrap64 (a0_0 + a0_1)) = true := beq_iff_eq.mpr c8
        clear c8
        simp only [Option.some.injEq, Prod.mk.injEq] at h
        obtain ⟨rfl, rfl, rfl, rfl⟩ := h
        gi_wp2
        exact pos_within.fin rfl rfl rfl
      · rw [if_neg c8] at h
        have c8b : (a2 == wrap64 (a0_0 + a0_1)) = false := beq_eq_false_iff_ne.mpr c8
        clear c8
        by_cases c6 : a3 < 0
        · rw [if_pos c6] at h
          have c6b : decide (a3 < 0) = true := decide_eq_true c6
          clear c6
          simp only [Option.some.injEq, Prod.mk.injEq] at h
          obtain ⟨rfl, rfl, rfl, rfl⟩ := h
          gi_wp2
          exact pos_within.fin rfl rfl rfl
        · rw [if_neg c6] at h
          have c6b : decide (a3 < 0) = false := decide_eq_false c6
          clear c6
          simp only [Option.some.injEq, Prod.mk.injEq] at h
          obtain ⟨rfl, rfl, rfl, rfl⟩ := h
          gi_wp2
          exact pos_within.fin rfl rfl rfl
end

end Go.Proofs.Ytcoolajjjnkfpaa.PPa
