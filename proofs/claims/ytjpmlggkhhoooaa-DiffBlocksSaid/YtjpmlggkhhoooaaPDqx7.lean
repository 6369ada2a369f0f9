-- Written for this claim by a program (the kit's print, with hand-made contracts for what it does not take).
import Derived.Test.YtjpmlggkhhoooaaPDqx0
import Derived.Test.YtjpmlggkhhoooaaPDqx1
namespace Go.Proofs.Ytjpmlggkhhoooaa.PDq
open Go.RowKit Go.Proofs.YtjpmlggkhhoooaaW.PrintWords Go.Proofs.YtjpmlggkhhoooaaW.PrintLast Go.Proofs.YtjpmlggkhhoooaaW.PrintMore
attribute [local go_sem] max2_int min2_int max_two min_two max_three min_three max_four min_four   -- for this text's walks alone
set_option linter.unusedVariables false
set_option linter.unusedSimpArgs false

attribute [local go_sem high] eqA64
/-! ### diff_Pairs: function 11 -/
/-- A call of a function value with what it holds, in a plain region. -/
theorem diff_grid.goesV {P : Program} {ops : Array Oper} {Q : Exit → Act → World → Prop} {rest : List Oper} {oi : Oper} {a : Act} {w : World} (N : Option Tmp) (hd : oi.dst = N) (hg : oi.guard = none) {f : FuncId} {bs : Array Value} (hent : ∀ (xs : Array Value) (W : World), (callFunc f xs).run P W = .ok (.enter f xs) W) {ys : Array Operand} {ts : Array TypeId} {x : Operand} (args : Array Value)
    (hop : oi.op = .call { callee := .value x, args := ys, argTypes := ts }) (hx : a.eval x = .func (.func f) #[] bs) (hargs : ys.map a.eval = args)
    (h : Calls P f (args ++ bs) w fun e w' => ∃ v, e = .returned v ∧ wpList P ops Q rest (a.put N v) w') : wpList P ops Q (oi :: rest) a w := by
  refine wpList_plain hg fun K hK => ?_
  have hrun : (execOp a.eval oi).run P w = .ok (.enter f (args ++ bs)) w := by
    unfold execOp
    simp [hop, resolve, Deferred.ofValue, invoke, hx, hargs, hent]
  unfold Oper.wp
  rw [hrun, Oper.upon_enter]
  refine h.mono fun e w'' hh => ?_
  obtain ⟨v, rfl, hk⟩ := hh
  subst hd
  exact hK _ _ hk
theorem diff_grid.w64 {n : Int} (h : -9223372036854775808 ≤ n ∧ n ≤ 9223372036854775807) : IntKind.i64.wrap n = n := IntWalk.i64_in n h
/-- A row of whole numbers, an element read. -/
theorem diff_grid.cell {w : World} {A : Option Addr} {xs : List Int} (h : Kd.C (Kd.int .i64) w A xs.length xs) (i : Nat) (hi : i < xs.length) : ∃ ad, A = some ad ∧ w.cell? (ad.add i) = some (.int .i64 (xs.getD i 0)) := by
  obtain ⟨ad, c, rfl, hc, hk, hcell⟩ := Kd.C_get h 0 (i : Int) (by omega) (by omega)
  refine ⟨ad, rfl, ?_⟩
  have hk' : c = [.int .i64 (xs.getD i 0)] := by simpa [Kd.int, Kd.scalar] using hk
  subst hk'
  have := hcell 0 _ rfl
  simpa [Kd.int, Kd.scalar] using this
set_option maxRecDepth 100000 in
set_option maxHeartbeats 1000000 in
theorem diff_grid.at_calls (g n m : Nat) (A : Option Addr) (c : Nat) (best : List Int) (lv : Value) (i j : Nat) (hn : n ≤ 400) (hm : m ≤ 400) (hi : i ≤ n) (hj : j ≤ m) (hl : best.length = (n + 1) * (m + 1)) (w : World)
    (hg : w.heap[g]? = some (.cells #[.int .i64 (n : Int), .int .i64 (m : Int), .slice A best.length c, lv] 90 (0, 0))) (hr : Kd.C (Kd.int .i64) w A best.length best) :
    Calls Try.prog 48 #[.pointer (some ⟨g, 0, none⟩), .int .i64 (i : Int), .int .i64 (j : Int)] w fun e w' => e = .returned (.int .i64 (best.getD (i * (m + 1) + j) 0)) ∧ Drawn0 w w' := by
  have h1 : i * (m + 1) ≤ n * (m + 1) := Nat.mul_le_mul_right _ hi
  have h1' : n * (m + 1) ≤ 400 * 401 := Nat.mul_le_mul hn (by omega)
  have h2 : i * (m + 1) + j < best.length := by rw [hl, Nat.add_mul]; omega
  obtain ⟨ad, rfl, hcell⟩ := diff_grid.cell hr _ h2
  have hz1 : w.cell? ⟨g, 1, none⟩ = some (.int .i64 (m : Int)) := (blk_cell hg 1).trans rfl
  have hz2 : w.cell? ⟨g, 2, none⟩ = some (.slice (some ad) best.length c) := (blk_cell hg 2).trans rfl
  obtain ⟨k, hk⟩ : ∃ k, k = i * (m + 1) := ⟨_, rfl⟩
  have e1 : IntKind.i64.wrap ((m : Int) + 1) = (m : Int) + 1 := diff_grid.w64 (by omega)
  have e2 : IntKind.i64.wrap ((i : Int) * ((m : Int) + 1)) = (k : Int) := by
    rw [show (i : Int) * ((m : Int) + 1) = (k : Int) by rw [hk]; push_cast; rfl]
    exact diff_grid.w64 (by omega)
  have e3 : IntKind.i64.wrap ((k : Int) + (j : Int)) = (k : Int) + (j : Int) := diff_grid.w64 (by omega)
  rw [← hk] at h2 hcell ⊢
  have e4 : (0 : Int) ≤ (k : Int) + (j : Int) := by omega
  have e5 : (k : Int) + (j : Int) < (best.length : Int) := by omega
  have e6 : ((k : Int) + (j : Int)).toNat = k + j := by omega
  obtain ⟨x, hx⟩ : ∃ x, x = best.getD (k + j) 0 := ⟨_, rfl⟩
  rw [← hx] at hcell ⊢
  clear hx h2 hk h1 h1' hl hi hj hn hm hr hg
  go_enter Try.func48, Try.ntmps48
  go_wp2
  go_quiet (fail)
  go_wp2
  go_ret
  exact ⟨rfl, ⟨⟨_, rfl⟩⟩⟩
/-- The table that is made, as far as it is made: rows behind i, of row i what stands from jj on, and the ends of all rows. -/
def diff_grid.Inv (like : Nat → Nat → Bool) (n m : Nat) (best : List Int) (i jj : Nat) : Prop :=
  best.length = (n + 1) * (m + 1) ∧ ∀ i' j', i' ≤ n → j' ≤ m → (i < i' ∨ (i' = i ∧ jj ≤ j') ∨ j' = m) → best.getD (i' * (m + 1) + j') 0 = (DiffT.T like n m i' j' : Int)
theorem diff_grid.inj {m i j i' j' : Nat} (hj : j ≤ m) (hj' : j' ≤ m) (h : i * (m + 1) + j = i' * (m + 1) + j') : i = i' ∧ j = j' := by
  rcases Nat.lt_trichotomy i i' with hl | hl | hl
  · have := Nat.mul_le_mul_right (m + 1) (Nat.succ_le_of_lt hl)
    rw [Nat.succ_mul] at this
    omega
  · subst hl
    exact ⟨rfl, by omega⟩
  · have := Nat.mul_le_mul_right (m + 1) (Nat.succ_le_of_lt hl)
    rw [Nat.succ_mul] at this
    omega
theorem diff_grid.inv_zero (like : Nat → Nat → Bool) (n m : Nat) : diff_grid.Inv like n m (List.replicate ((n + 1) * (m + 1)) 0) n 0 ∨ True := .inr trivial
theorem diff_grid.inv_start (like : Nat → Nat → Bool) (n m : Nat) (N : Nat) (hN : N = (n + 1) * (m + 1)) : ∀ i' j', i' ≤ n → j' ≤ m → (n ≤ i' ∨ j' = m) → (List.replicate N (0 : Int)).getD (i' * (m + 1) + j') 0 = (DiffT.T like n m i' j' : Int) := by
  intro i' j' h1 h2 h3
  rw [DiffT.T_out (by omega), List.getD_eq_getElem?_getD, List.getElem?_replicate]
  split <;> rfl
theorem diff_grid.inv_set {like : Nat → Nat → Bool} {n m : Nat} {best : List Int} {i j : Nat} (hi : i < n) (hj : j < m) (h : diff_grid.Inv like n m best i (j + 1)) (v : Int) (hv : v = (DiffT.T like n m i j : Int)) : diff_grid.Inv like n m (best.set (i * (m + 1) + j) v) i j := by
  obtain ⟨hl, hb⟩ := h
  have h1 : i * (m + 1) + j < best.length := by
    have := Nat.mul_le_mul_right (m + 1) (Nat.succ_le_of_lt hi)
    rw [Nat.succ_mul] at this
    rw [hl, Nat.succ_mul]
    omega
  refine ⟨by rw [List.length_set, hl], fun i' j' a b c => ?_⟩
  by_cases e : i * (m + 1) + j = i' * (m + 1) + j'
  · obtain ⟨rfl, rfl⟩ := diff_grid.inj (by omega) b e
    rw [List.getD_eq_getElem?_getD, List.getElem?_set_self h1, hv]
    rfl
  · rw [List.getD_eq_getElem?_getD, List.getElem?_set_ne e, ← List.getD_eq_getElem?_getD]
    refine hb i' j' a b ?_
    rcases c with c | ⟨rfl, c⟩ | c
    · exact .inl c
    · refine .inr (.inl ⟨rfl, ?_⟩)
      rcases Nat.eq_or_lt_of_le c with rfl | c
      · exact absurd rfl e
      · exact c
    · exact .inr (.inr c)
theorem diff_grid.inside {n m i : Nat} (hi : i < n) : i * (m + 1) + m < (n + 1) * (m + 1) := by
  have h := Nat.mul_le_mul_right (m + 1) (show i + 1 ≤ n from hi)
  rw [Nat.succ_mul] at h
  rw [Nat.succ_mul]
  omega
theorem diff_grid.prod {i m k : Nat} (h : k = i * (m + 1)) (hk : k ≤ 160801) : wrap64 ((i : Int) * ((m : Int) + 1)) = (k : Int) := by
  rw [show (i : Int) * ((m : Int) + 1) = (k : Int) by rw [h]; push_cast; rfl]
  unfold wrap64; omega
/-- The grid in memory. -/
structure diff_grid.St (n m C : Nat) (bs : Array Value) (w : World) (gb rb cap : Nat) (best : List Int) (W : World) : Prop where
  blk : W.heap[gb]? = some (.cells #[.int .i64 (n : Int), .int .i64 (m : Int), .slice (some ⟨rb, 0, none⟩) best.length cap, .func (.func C) #[] bs] 90 (0, 0))
  row : (Kd.int .i64).R 3 W w.heap.size (fun _ => True) (.slice (some ⟨rb, 0, none⟩) best.length cap) best
  below : Below w.heap.size w W
theorem diff_grid.St.step {n m C : Nat} {bs : Array Value} {w : World} {gb rb cap : Nat} {best : List Int} {W W2 : World} (h : diff_grid.St n m C bs w gb rb cap best W) (hb : Below W.heap.size W W2) : diff_grid.St n m C bs w gb rb cap best W2 :=
  ⟨blk_below h.blk hb, Kd.R_below h.row hb, below_step h.below hb⟩
theorem diff_grid.St.at_ {n m C : Nat} {bs : Array Value} {w : World} {gb rb cap : Nat} {best : List Int} {W : World} (h : diff_grid.St n m C bs w gb rb cap best W) (i j : Nat) (x y z : Int) (hx : x = (i : Int)) (hy : y = (j : Int)) (hn : n ≤ 400) (hm : m ≤ 400) (hi : i ≤ n) (hj : j ≤ m) (hl : best.length = (n + 1) * (m + 1)) (hb : best.getD (i * (m + 1) + j) 0 = z) :
    Calls Try.prog 48 #[.pointer (some ⟨gb, 0, none⟩), .int .i64 x, .int .i64 y] W fun e W' => e = .returned (.int .i64 z) ∧ Below W.heap.size W W' := by
  subst hx hy hb
  exact (diff_grid.at_calls gb n m _ cap best _ i j hn hm hi hj hl W h.blk (Kd.R_reads' h.row).2.2).mono fun e W' ⟨he, hd⟩ => ⟨he, hd.below⟩
theorem diff_grid.St.ne {n m C : Nat} {bs : Array Value} {w : World} {gb rb cap : Nat} {best : List Int} {W : World} (h : diff_grid.St n m C bs w gb rb cap best W) (h0 : 0 < best.length) : gb ≠ rb := by
  rintro rfl
  have := Kd.R_ne h.row h.blk (by decide)
  simp [Value.ownBlock] at this
theorem diff_grid.St.cell {n m C : Nat} {bs : Array Value} {w : World} {gb rb cap : Nat} {best : List Int} {W : World} (h : diff_grid.St n m C bs w gb rb cap best W) (i : Nat) (hi : i < best.length) : (∃ x, W.cell? ⟨rb, i, none⟩ = some (.int .i64 x)) ∧ W.frozen? ⟨rb, i, none⟩ = false := by
  obtain ⟨c, hcl, hM, hcc, hfr⟩ := Kd.R_elem h.row 0 (i : Int) (by omega) (by omega)
  have hc : c = [.int .i64 (best.getD i 0)] := by simpa [Kd.int, Kd.scalar] using hM
  subst hc
  refine ⟨⟨best.getD i 0, ?_⟩, ?_⟩
  · have := hcc 0 _ rfl
    simpa [Kd.int, Kd.scalar] using this
  · have := hfr 0
    simpa [Kd.int, Kd.scalar] using this
theorem diff_grid.St.put {n m C : Nat} {bs : Array Value} {w : World} {gb rb cap : Nat} {best : List Int} {W : World} (h : diff_grid.St n m C bs w gb rb cap best W) (i : Nat) (h0 : 0 < best.length) (x : Int) : diff_grid.St n m C bs w gb rb cap (best.set i x) (W.setCell ⟨rb, i, none⟩ (.int .i64 x)) := by
  have hb : w.heap.size ≤ rb := Kd.R_base h.row rb (by simp [Value.ownBlock])
  refine ⟨?_, ?_, below_set h.below hb⟩
  · rw [List.length_set]
    exact blk_far h.blk (h.ne h0) _
  · rw [List.length_set]
    exact Kd.R_putn h.row (i : Int) x
/-- What a round of the inner loop knows. -/
theorem diff_grid.round {like : Nat → Nat → Bool} {n m i j : Nat} {best : List Int} (hn : n ≤ 400) (hm : m ≤ 400) (hi : i < n) (hj : j < m) (h : diff_grid.Inv like n m best i (j + 1)) :
    ∃ k0, Aside0 (k0 = i * (m + 1) ∧ wrap64 ((i : Int) * ((m : Int) + 1)) = (k0 : Int) ∧ (k0 : Int) ≤ 160801 ∧ ∃ x1 x2 x3, Aside0 ((0 ≤ x1 ∧ x1 ≤ 400) ∧ (0 ≤ x2 ∧ x2 ≤ 400) ∧ (0 ≤ x3 ∧ x3 ≤ 400) ∧ x1 = (DiffT.T like n m (i + 1) j : Int) ∧ x2 = (DiffT.T like n m i (j + 1) : Int) ∧ x3 = (DiffT.T like n m (i + 1) (j + 1) : Int) ∧
      best.getD ((i + 1) * (m + 1) + j) 0 = x1 ∧ best.getD (i * (m + 1) + (j + 1)) 0 = x2 ∧ best.getD ((i + 1) * (m + 1) + (j + 1)) 0 = x3 ∧ k0 + j < best.length ∧
      ((DiffT.T like n m i j : Int) = (if like i j = true then (if (if x1 < x2 then x2 else x1) < 1 + x3 then 1 + x3 else (if x1 < x2 then x2 else x1)) else (if x1 < x2 then x2 else x1))))) := by
  have hk := diff_grid.inside (m := m) hi
  have hN : (n + 1) * (m + 1) ≤ 401 * 401 := Nat.mul_le_mul (by omega) (by omega)
  have t1 := h.2 (i + 1) j (by omega) (by omega) (.inl (by omega))
  have t2 := h.2 i (j + 1) (by omega) (by omega) (.inr (.inl ⟨rfl, by omega⟩))
  have t3 := h.2 (i + 1) (j + 1) (by omega) (by omega) (.inl (by omega))
  have tT := DiffT.T_in (like := like) hi hj
  have l1 := DiffT.T_le (like := like) (n := n) (m := m) _ (i + 1) j rfl
  have l2 := DiffT.T_le (like := like) (n := n) (m := m) _ i (j + 1) rfl
  have l3 := DiffT.T_le (like := like) (n := n) (m := m) _ (i + 1) (j + 1) rfl
  have hl := h.1
  obtain ⟨k0, hk0⟩ : ∃ k, k = i * (m + 1) := ⟨_, rfl⟩
  have hkb : k0 ≤ 160801 := by rw [hk0]; omega
  refine ⟨k0, ⟨hk0, diff_grid.prod hk0 hkb, by omega, _, _, _, ⟨⟨by omega, by omega⟩, ⟨by omega, by omega⟩, ⟨by omega, by omega⟩, rfl, rfl, rfl, t1, t2, t3, by rw [hl, hk0]; omega, ?_⟩⟩⟩
  rw [tT]
  generalize DiffT.T like n m (i + 1) j = a
  generalize DiffT.T like n m i (j + 1) = b
  generalize DiffT.T like n m (i + 1) (j + 1) = c
  clear t1 t2 t3 tT l1 l2 l3 hl hk hN hkb hk0
  by_cases hb : like i j = true
  · rw [if_pos hb, if_pos hb]
    split <;> split <;> omega
  · rw [if_neg hb, if_neg hb]
    split <;> omega
set_option maxRecDepth 100000 in
set_option maxHeartbeats 4000000 in
theorem diff_filled.calls (n m : Nat) (hn : n ≤ 400) (hm : m ≤ 400) (C : Nat) (bs : Array Value) (hent : ∀ (xs : Array Value) (W : World), (callFunc C xs).run Try.prog W = .ok (.enter C xs) W) (like : Nat → Nat → Bool) (w : World)
    (HL : ∀ W : World, Below w.heap.size w W → ∀ i j : Nat, i < n → j < m → Calls Try.prog C (#[.int .i64 (i : Int), .int .i64 (j : Int)] ++ bs) W fun e W' => e = .returned (.bool (like i j)) ∧ Below W.heap.size W W') :
    Calls Try.prog 29 #[.int .i64 (n : Int), .int .i64 (m : Int), .func (.func C) #[] bs] w fun e w' => ∃ (g rb cap : Nat) (best : List Int), e = .returned (.pointer (some ⟨g, 0, none⟩)) ∧ w.heap.size ≤ g ∧ w'.heap[g]? = some (.cells #[.int .i64 (n : Int), .int .i64 (m : Int), .slice (some ⟨rb, 0, none⟩) best.length cap, .func (.func C) #[] bs] 90 (0, 0)) ∧
      Kd.C (Kd.int .i64) w' (some ⟨rb, 0, none⟩) best.length best ∧ best.length = (n + 1) * (m + 1) ∧ (∀ i j, i ≤ n → j ≤ m → best.getD (i * (m + 1) + j) 0 = (DiffT.T like n m i j : Int)) ∧ Below w.heap.size w w' := by
  have HE := Aside0.mk hent
  have HLK := Aside0.mk HL
  have HN := Aside0.mk hn
  have HM := Aside0.mk hm
  have HB := Aside0.mk (Below.refl w.heap.size w)
  obtain ⟨N, hN⟩ : ∃ N, N = (n + 1) * (m + 1) := ⟨_, rfl⟩
  have hN1 : N ≤ 401 * 401 := by rw [hN]; exact Nat.mul_le_mul (by omega) (by omega)
  have e1 : wrap64 (((n : Int) + 1) * ((m : Int) + 1)) = (N : Int) := by
    rw [show ((n : Int) + 1) * ((m : Int) + 1) = (N : Int) by rw [hN]; push_cast; rfl]
    unfold wrap64; omega
  have HNN := Aside0.mk hN
  have HN1 := Aside0.mk hN1
  have b1 : (0 : Int) ≤ (n : Int) := by omega
  have b2 : (n : Int) ≤ 400 := by omega
  have b3 : (0 : Int) ≤ (m : Int) := by omega
  have b4 : (m : Int) ≤ 400 := by omega
  clear hent HL hn hm hN hN1
  go_enter Try.func29, Try.ntmps29
  go_wp2_with (first | (at_make; refine Kd.R_make (Kd.int .i64) (w0 := w) w.heap.size 3 rfl rfl 52 (.tmp 17) (.tmp 17) rfl (wrap64 (((n : Int) + 1) * ((m : Int) + 1))) rfl rfl Try.underlying52 (.int .i64 0) 8 info3 rfl (by decide) (by omega) (0 : Int) (ok := fun _ => True) (okp := fun _ => False) rfl (fun _ h => h.elim) trivial (by rw [e1]; omega) (by rw [e1]; have := HN1.out; omega) HB.out HB.out.size ?_; intro v1 w1 hR hb1 hg1 hat; rw [e1, Int.toNat_natCast] at hR; obtain ⟨b_, hb_, hle_⟩ := hat; obtain ⟨h0_, inner_, hown_, hr_⟩ := hR; obtain ⟨rb, cap, cur_, rfl, hbg_, hh_, hnc_, hcm_, hcs_, htk_⟩ := hown_.2.resolve_left (fun h => by rw [h.1] at hb_; simp [Value.ownBlock] at hb_); have HR := Aside0.mk (show (Kd.int .i64).R 3 w1 w.heap.size (fun _ => True) (.slice (some ⟨rb, 0, none⟩) (List.replicate N (0 : Int)).length cap) (List.replicate N (0 : Int)) from ⟨h0_, inner_, hown_, hr_⟩); have HB1 := Aside0.mk hb1; clear h0_ hown_ hr_ hb_ hle_ hbg_ hh_ hnc_ hcm_ hcs_ htk_ hb1 hg1 HB) | ((with_reducible refine gate_dst (N := 21) rfl ?_); refine box_event ?hg (N := 21) ?hd (cs := #[.int .i64 (n : Int), .int .i64 (m : Int), .slice (some ⟨rb, 0, none⟩) (List.replicate N (0 : Int)).length cap, .func (.func C) #[] bs]) (t := 90) ?hr ?_; (case hd => rfl); (case hg => rfl); (case hr => first | (go_simp; done) | (go_simp; rfl)); intro gb hg w2 hbox hb; have HB2 := Aside0.mk (below_step HB1.out hb); have HR2 := Aside0.mk (Kd.R_below HR.out hb); have BK := Aside0.mk hbox; have GE := Aside0.mk (show w.heap.size ≤ gb by rw [hg]; exact HB1.out.size); clear HB1 HR hg hbox hb))
  have ST := Aside0.mk (show diff_grid.St n m C bs w gb rb cap (List.replicate N (0 : Int)) w2 from ⟨BK.out, HR2.out, HB2.out⟩)
  have HI0 := Aside0.mk (diff_grid.inv_start like n m N HNN.out)
  clear BK HR2 HB2 e1
  go_loopw [8] (fun v8 wr => ∃ (ii : Nat) (best : List Int), v8 = .int .i64 ((ii : Int) - 1) ∧ Aside0 (ii ≤ n) ∧ Aside0 (diff_grid.St n m C bs w gb rb cap best wr) ∧ Aside0 (best.length = N ∧ ∀ i' j', i' ≤ n → j' ≤ m → (ii ≤ i' ∨ j' = m) → best.getD (i' * (m + 1) + j') 0 = (DiffT.T like n m i' j' : Int))) (fun v8 _ => (intOf v8 + 1).toNat)
  case atStart => exact ⟨n, List.replicate N (0 : Int), rfl, ⟨Nat.le_refl _⟩, ST, ⟨List.length_replicate, HI0.out⟩⟩
  case round =>
    clear ST HI0
    obtain ⟨ii, best, rfl, HI, ST, HV⟩ := hrel
    rcases Nat.eq_zero_or_pos ii with h0 | h0
    · subst h0
      clear HI
      go_wp2
      go_ret
      exact ⟨gb, rb, cap, best, rfl, GE.out, ST.out.blk, (Kd.R_reads' ST.out.row).2.2, HV.out.1.trans HNN.out, fun i j a b => HV.out.2 i j a b (.inl (Nat.zero_le _)), ST.out.below⟩
    · obtain ⟨i, rfl⟩ : ∃ i, ii = i + 1 := ⟨ii - 1, by omega⟩
      have hI := HI.out
      have q1 : (((i + 1 : Nat) : Int) - 1) = (i : Int) := by omega
      rw [q1]
      have q2 : (0 : Int) ≤ (i : Int) := by omega
      have q3 : (i : Int) ≤ 400 := by omega
      obtain ⟨wo, rfl⟩ : ∃ wo : World, wo = wr := ⟨_, rfl⟩
      clear h0 hI q1
      go_wp2
      go_loopw [9] (fun v9 wr => ∃ (jj : Nat) (best : List Int), v9 = .int .i64 ((jj : Int) - 1) ∧ Aside0 (jj ≤ m) ∧ Aside0 (diff_grid.St n m C bs w gb rb cap best wr) ∧ Aside0 (diff_grid.Inv like n m best i jj)) (fun v9 _ => (intOf v9 + 1).toNat)
      case atStart => exact ⟨m, best, rfl, ⟨Nat.le_refl _⟩, ST, ⟨HV.out.1.trans HNN.out, fun i' j' a b c => HV.out.2 i' j' a b (by omega)⟩⟩
      case round =>
        clear ST HV
        obtain ⟨jj, best, rfl, HJ, ST, HV⟩ := hrel
        rcases Nat.eq_zero_or_pos jj with h0 | h0
        · subst h0
          clear HJ
          go_wp2
          go_roundw
          case rel => exact ⟨i, best, by first | rfl | go_num, ⟨by have := HI.out; omega⟩, ST, ⟨HV.out.1.trans HNN.out.symm, fun i' j' a b c => HV.out.2 i' j' a b (by omega)⟩⟩
          case measure => simp [intOf]
        · obtain ⟨j, rfl⟩ : ∃ j, jj = j + 1 := ⟨jj - 1, by omega⟩
          have hI := HI.out
          have hJ := HJ.out
          have q4 : (((j + 1 : Nat) : Int) - 1) = (j : Int) := by omega
          rw [q4]
          have q5 : (0 : Int) ≤ (j : Int) := by omega
          have q6 : (j : Int) ≤ 400 := by omega
          have HIN := Aside0.mk (show i < n by omega)
          have HJM := Aside0.mk (show j < m by omega)
          clear h0 q4 hI hJ
          obtain ⟨k0, HK⟩ := diff_grid.round HN.out HM.out HIN.out HJM.out HV.out
          obtain ⟨x1, x2, x3, HX⟩ := HK.out.2.2.2
          have e2 := HK.out.2.1
          have b11 : (0 : Int) ≤ (k0 : Int) := Int.natCast_nonneg k0
          have b12 : (k0 : Int) ≤ 160801 := HK.out.2.2.1
          have b5 := HX.out.1.1
          have b6 := HX.out.1.2
          have b7 := HX.out.2.1.1
          have b8 := HX.out.2.1.2
          have b9 := HX.out.2.2.1.1
          have b10 := HX.out.2.2.1.2
          go_wp2_with fail
          refine (ST.out.at_ (i + 1) (j) _ _ x1 (by first | rfl | (push_cast; rfl)) (by first | rfl | (push_cast; rfl)) HN.out HM.out (by have := HIN.out; omega) (by have := HJM.out; omega) HV.out.1 HX.out.2.2.2.2.2.2.1).mono ?_
          rintro e w3 ⟨rfl, hb3⟩
          have n0_ := Aside0.mk (ST.out.step hb3)
          clear ST hb3
          have ST := n0_
          clear n0_
          go_wp2_with fail
          refine (ST.out.at_ (i) (j + 1) _ _ x2 (by first | rfl | (push_cast; rfl)) (by first | rfl | (push_cast; rfl)) HN.out HM.out (by have := HIN.out; omega) (by have := HJM.out; omega) HV.out.1 HX.out.2.2.2.2.2.2.2.1).mono ?_
          rintro e w4 ⟨rfl, hb4⟩
          have n0_ := Aside0.mk (ST.out.step hb4)
          clear ST hb4
          have ST := n0_
          clear n0_
          cases hlk : like i j with
          | true =>
            have HLT := Aside0.mk hlk
            clear hlk
            rcases Int.lt_or_le x1 x2 with hc | hc
            · have hc1 : decide (x1 < x2) = true := decide_eq_true hc
              have hc2 : (x1 < x2) = True := eq_true hc
              have HCC := Aside0.mk hc
              clear hc
              go_wp2_with ((with_reducible refine gate_dst (N := 48) rfl ?_); refine diff_grid.goesV (some 48) rfl rfl HE.out #[.int .i64 (i : Int), .int .i64 (j : Int)] rfl rfl (by (try simp only [List.map_toArray, List.map_cons, List.map_nil]); first | done | rfl) ?_; refine (HLK.out _ ST.out.below i j HIN.out HJM.out).mono ?_; rw [HLT.out]; rintro e w5 ⟨rfl, hb5⟩; refine ⟨_, rfl, ?_⟩; have n0_ := Aside0.mk (ST.out.step hb5); clear ST hb5; have ST := n0_; clear n0_)
              go_wp2_with fail
              refine (ST.out.at_ (i + 1) (j + 1) _ _ x3 (by first | rfl | (push_cast; rfl)) (by first | rfl | (push_cast; rfl)) HN.out HM.out (by have := HIN.out; omega) (by have := HJM.out; omega) HV.out.1 HX.out.2.2.2.2.2.2.2.2.1).mono ?_
              rintro e w6 ⟨rfl, hb6⟩
              have n0_ := Aside0.mk (ST.out.step hb6)
              clear ST hb6
              have ST := n0_
              clear n0_
              rcases Int.lt_or_le x2 (1 + x3) with hd | hd
              · have hd1 : decide (x2 < 1 + x3) = true := decide_eq_true hd
                have hd2 : (x2 < 1 + x3) = True := eq_true hd
                have HDD := Aside0.mk hd
                clear hd
                have hidx : k0 + j < best.length := HX.out.2.2.2.2.2.2.2.2.2.1
                obtain ⟨⟨old, hcell⟩, hfz⟩ := ST.out.cell (k0 + j) hidx
                have hz2 := (blk_cell ST.out.blk 2).trans rfl
                have e4 : (0 : Int) ≤ (k0 : Int) + (j : Int) := by omega
                have e5 : (k0 : Int) + (j : Int) < (best.length : Int) := by omega
                have e6 : ((k0 : Int) + (j : Int)).toNat = k0 + j := by omega
                go_wp2
                go_roundw
                case rel =>
                  refine ⟨j, best.set (k0 + j) (1 + x3), by first | rfl | go_num, ⟨by have := HJM.out; omega⟩, ⟨ST.out.put (k0 + j) (by omega) _⟩, ⟨?_⟩⟩
                  have hk := HK.out.1
                  rw [hk]
                  refine diff_grid.inv_set HIN.out HJM.out HV.out _ ?_
                  have hT := HX.out.2.2.2.2.2.2.2.2.2.2
                  rw [HLT.out] at hT
                  rw [hT]
                  rw [if_pos rfl]; rw [if_pos HCC.out]; rw [if_pos HDD.out]
                case measure => simp [intOf]; try omega
              · have hd1 : decide (x2 < 1 + x3) = false := decide_eq_false (Int.not_lt.mpr hd)
                have hd2 : (x2 < 1 + x3) = False := eq_false (Int.not_lt.mpr hd)
                have HDD := Aside0.mk hd
                clear hd
                have hidx : k0 + j < best.length := HX.out.2.2.2.2.2.2.2.2.2.1
                obtain ⟨⟨old, hcell⟩, hfz⟩ := ST.out.cell (k0 + j) hidx
                have hz2 := (blk_cell ST.out.blk 2).trans rfl
                have e4 : (0 : Int) ≤ (k0 : Int) + (j : Int) := by omega
                have e5 : (k0 : Int) + (j : Int) < (best.length : Int) := by omega
                have e6 : ((k0 : Int) + (j : Int)).toNat = k0 + j := by omega
                go_wp2
                go_roundw
                case rel =>
                  refine ⟨j, best.set (k0 + j) x2, by first | rfl | go_num, ⟨by have := HJM.out; omega⟩, ⟨ST.out.put (k0 + j) (by omega) _⟩, ⟨?_⟩⟩
                  have hk := HK.out.1
                  rw [hk]
                  refine diff_grid.inv_set HIN.out HJM.out HV.out _ ?_
                  have hT := HX.out.2.2.2.2.2.2.2.2.2.2
                  rw [HLT.out] at hT
                  rw [hT]
                  rw [if_pos rfl]; rw [if_pos HCC.out]; rw [if_neg (Int.not_lt.mpr HDD.out)]
                case measure => simp [intOf]; try omega
            · have hc1 : decide (x1 < x2) = false := decide_eq_false (Int.not_lt.mpr hc)
              have hc2 : (x1 < x2) = False := eq_false (Int.not_lt.mpr hc)
              have HCC := Aside0.mk hc
              clear hc
              go_wp2_with ((with_reducible refine gate_dst (N := 48) rfl ?_); refine diff_grid.goesV (some 48) rfl rfl HE.out #[.int .i64 (i : Int), .int .i64 (j : Int)] rfl rfl (by (try simp only [List.map_toArray, List.map_cons, List.map_nil]); first | done | rfl) ?_; refine (HLK.out _ ST.out.below i j HIN.out HJM.out).mono ?_; rw [HLT.out]; rintro e w5 ⟨rfl, hb5⟩; refine ⟨_, rfl, ?_⟩; have n0_ := Aside0.mk (ST.out.step hb5); clear ST hb5; have ST := n0_; clear n0_)
              go_wp2_with fail
              refine (ST.out.at_ (i + 1) (j + 1) _ _ x3 (by first | rfl | (push_cast; rfl)) (by first | rfl | (push_cast; rfl)) HN.out HM.out (by have := HIN.out; omega) (by have := HJM.out; omega) HV.out.1 HX.out.2.2.2.2.2.2.2.2.1).mono ?_
              rintro e w6 ⟨rfl, hb6⟩
              have n0_ := Aside0.mk (ST.out.step hb6)
              clear ST hb6
              have ST := n0_
              clear n0_
              rcases Int.lt_or_le x1 (1 + x3) with hd | hd
              · have hd1 : decide (x1 < 1 + x3) = true := decide_eq_true hd
                have hd2 : (x1 < 1 + x3) = True := eq_true hd
                have HDD := Aside0.mk hd
                clear hd
                have hidx : k0 + j < best.length := HX.out.2.2.2.2.2.2.2.2.2.1
                obtain ⟨⟨old, hcell⟩, hfz⟩ := ST.out.cell (k0 + j) hidx
                have hz2 := (blk_cell ST.out.blk 2).trans rfl
                have e4 : (0 : Int) ≤ (k0 : Int) + (j : Int) := by omega
                have e5 : (k0 : Int) + (j : Int) < (best.length : Int) := by omega
                have e6 : ((k0 : Int) + (j : Int)).toNat = k0 + j := by omega
                go_wp2
                go_roundw
                case rel =>
                  refine ⟨j, best.set (k0 + j) (1 + x3), by first | rfl | go_num, ⟨by have := HJM.out; omega⟩, ⟨ST.out.put (k0 + j) (by omega) _⟩, ⟨?_⟩⟩
                  have hk := HK.out.1
                  rw [hk]
                  refine diff_grid.inv_set HIN.out HJM.out HV.out _ ?_
                  have hT := HX.out.2.2.2.2.2.2.2.2.2.2
                  rw [HLT.out] at hT
                  rw [hT]
                  rw [if_pos rfl]; rw [if_neg (Int.not_lt.mpr HCC.out)]; rw [if_pos HDD.out]
                case measure => simp [intOf]; try omega
              · have hd1 : decide (x1 < 1 + x3) = false := decide_eq_false (Int.not_lt.mpr hd)
                have hd2 : (x1 < 1 + x3) = False := eq_false (Int.not_lt.mpr hd)
                have HDD := Aside0.mk hd
                clear hd
                have hidx : k0 + j < best.length := HX.out.2.2.2.2.2.2.2.2.2.1
                obtain ⟨⟨old, hcell⟩, hfz⟩ := ST.out.cell (k0 + j) hidx
                have hz2 := (blk_cell ST.out.blk 2).trans rfl
                have e4 : (0 : Int) ≤ (k0 : Int) + (j : Int) := by omega
                have e5 : (k0 : Int) + (j : Int) < (best.length : Int) := by omega
                have e6 : ((k0 : Int) + (j : Int)).toNat = k0 + j := by omega
                go_wp2
                go_roundw
                case rel =>
                  refine ⟨j, best.set (k0 + j) x1, by first | rfl | go_num, ⟨by have := HJM.out; omega⟩, ⟨ST.out.put (k0 + j) (by omega) _⟩, ⟨?_⟩⟩
                  have hk := HK.out.1
                  rw [hk]
                  refine diff_grid.inv_set HIN.out HJM.out HV.out _ ?_
                  have hT := HX.out.2.2.2.2.2.2.2.2.2.2
                  rw [HLT.out] at hT
                  rw [hT]
                  rw [if_pos rfl]; rw [if_neg (Int.not_lt.mpr HCC.out)]; rw [if_neg (Int.not_lt.mpr HDD.out)]
                case measure => simp [intOf]; try omega
          | false =>
            have HLT := Aside0.mk hlk
            clear hlk
            rcases Int.lt_or_le x1 x2 with hc | hc
            · have hc1 : decide (x1 < x2) = true := decide_eq_true hc
              have hc2 : (x1 < x2) = True := eq_true hc
              have HCC := Aside0.mk hc
              clear hc
              go_wp2_with ((with_reducible refine gate_dst (N := 48) rfl ?_); refine diff_grid.goesV (some 48) rfl rfl HE.out #[.int .i64 (i : Int), .int .i64 (j : Int)] rfl rfl (by (try simp only [List.map_toArray, List.map_cons, List.map_nil]); first | done | rfl) ?_; refine (HLK.out _ ST.out.below i j HIN.out HJM.out).mono ?_; rw [HLT.out]; rintro e w5 ⟨rfl, hb5⟩; refine ⟨_, rfl, ?_⟩; have n0_ := Aside0.mk (ST.out.step hb5); clear ST hb5; have ST := n0_; clear n0_; have hidx : k0 + j < best.length := HX.out.2.2.2.2.2.2.2.2.2.1; obtain ⟨⟨old, hcell⟩, hfz⟩ := ST.out.cell (k0 + j) hidx; have hz2 := (blk_cell ST.out.blk 2).trans rfl; have e4 : (0 : Int) ≤ (k0 : Int) + (j : Int) := (by omega); have e5 : (k0 : Int) + (j : Int) < (best.length : Int) := (by omega); have e6 : ((k0 : Int) + (j : Int)).toNat = k0 + j := (by omega))
              go_roundw
              case rel =>
                refine ⟨j, best.set (k0 + j) x2, by first | rfl | go_num, ⟨by have := HJM.out; omega⟩, ⟨ST.out.put (k0 + j) (by omega) _⟩, ⟨?_⟩⟩
                have hk := HK.out.1
                rw [hk]
                refine diff_grid.inv_set HIN.out HJM.out HV.out _ ?_
                have hT := HX.out.2.2.2.2.2.2.2.2.2.2
                rw [HLT.out] at hT
                rw [hT]
                rw [if_neg (by decide)]; rw [if_pos HCC.out]
              case measure => simp [intOf]; try omega
            · have hc1 : decide (x1 < x2) = false := decide_eq_false (Int.not_lt.mpr hc)
              have hc2 : (x1 < x2) = False := eq_false (Int.not_lt.mpr hc)
              have HCC := Aside0.mk hc
              clear hc
              go_wp2_with ((with_reducible refine gate_dst (N := 48) rfl ?_); refine diff_grid.goesV (some 48) rfl rfl HE.out #[.int .i64 (i : Int), .int .i64 (j : Int)] rfl rfl (by (try simp only [List.map_toArray, List.map_cons, List.map_nil]); first | done | rfl) ?_; refine (HLK.out _ ST.out.below i j HIN.out HJM.out).mono ?_; rw [HLT.out]; rintro e w5 ⟨rfl, hb5⟩; refine ⟨_, rfl, ?_⟩; have n0_ := Aside0.mk (ST.out.step hb5); clear ST hb5; have ST := n0_; clear n0_; have hidx : k0 + j < best.length := HX.out.2.2.2.2.2.2.2.2.2.1; obtain ⟨⟨old, hcell⟩, hfz⟩ := ST.out.cell (k0 + j) hidx; have hz2 := (blk_cell ST.out.blk 2).trans rfl; have e4 : (0 : Int) ≤ (k0 : Int) + (j : Int) := (by omega); have e5 : (k0 : Int) + (j : Int) < (best.length : Int) := (by omega); have e6 : ((k0 : Int) + (j : Int)).toNat = k0 + j := (by omega))
              go_roundw
              case rel =>
                refine ⟨j, best.set (k0 + j) x1, by first | rfl | go_num, ⟨by have := HJM.out; omega⟩, ⟨ST.out.put (k0 + j) (by omega) _⟩, ⟨?_⟩⟩
                have hk := HK.out.1
                rw [hk]
                refine diff_grid.inv_set HIN.out HJM.out HV.out _ ?_
                have hT := HX.out.2.2.2.2.2.2.2.2.2.2
                rw [HLT.out] at hT
                rw [hT]
                rw [if_neg (by decide)]; rw [if_neg (Int.not_lt.mpr HCC.out)]
              case measure => simp [intOf]; try omega
/-- The grid in memory, read alone. -/
structure diff_grid.Rd (n m C : Nat) (bs : Array Value) (gb rb cap : Nat) (best : List Int) (w W : World) : Prop where
  blk : W.heap[gb]? = some (.cells #[.int .i64 (n : Int), .int .i64 (m : Int), .slice (some ⟨rb, 0, none⟩) best.length cap, .func (.func C) #[] bs] 90 (0, 0))
  row : Kd.C (Kd.int .i64) W (some ⟨rb, 0, none⟩) best.length best
  below : Below w.heap.size w W
theorem diff_grid.Rd.step {n m C : Nat} {bs : Array Value} {gb rb cap : Nat} {best : List Int} {w W W2 : World} (h : diff_grid.Rd n m C bs gb rb cap best w W) (hb : Below W.heap.size W W2) : diff_grid.Rd n m C bs gb rb cap best w W2 :=
  ⟨blk_below h.blk hb, Kd.C_below h.row hb, below_step h.below hb⟩
theorem diff_grid.Rd.at_ {like : Nat → Nat → Bool} {n m C : Nat} {bs : Array Value} {gb rb cap : Nat} {best : List Int} {w W : World} (h : diff_grid.Rd n m C bs gb rb cap best w W) (hT : ∀ i j, i ≤ n → j ≤ m → best.getD (i * (m + 1) + j) 0 = (DiffT.T like n m i j : Int)) (i j : Nat) (x y z : Int) (hx : x = (i : Int)) (hy : y = (j : Int)) (hz : z = (DiffT.T like n m i j : Int)) (hn : n ≤ 400) (hm : m ≤ 400) (hi : i ≤ n) (hj : j ≤ m) (hl : best.length = (n + 1) * (m + 1)) :
    Calls Try.prog 48 #[.pointer (some ⟨gb, 0, none⟩), .int .i64 x, .int .i64 y] W fun e W' => e = .returned (.int .i64 z) ∧ Below W.heap.size W W' := by
  subst hx hy hz
  rw [← hT i j hi hj]
  exact (diff_grid.at_calls gb n m _ cap best _ i j hn hm hi hj hl W h.blk h.row).mono fun e W' ⟨he, hd⟩ => ⟨he, hd.below⟩
def diff_grid.enc (l : List (Nat × Nat)) : List S76 := l.map fun x => ⟨(x.1 : Int), (x.2 : Int)⟩
theorem diff_grid.P_step {like : Nat → Nat → Bool} {n m i j p q k : Nat} {L out : List (Nat × Nat)} (hL : L = out ++ DiffT.P like n m (k + 1) i j) (h0 : 0 < DiffT.T like n m i j) (hf : DiffT.first (DiffT.Fit like n m i j) n m i j = some (p, q)) : L = (out ++ [(p, q)]) ++ DiffT.P like n m k (p + 1) (q + 1) := by
  rw [hL, DiffT.P, if_neg (by omega), hf]
  simp
theorem diff_grid.P_done {like : Nat → Nat → Bool} {n m i j k : Nat} {L out : List (Nat × Nat)} (hL : L = out ++ DiffT.P like n m k i j) (h0 : DiffT.T like n m i j = 0) : L = out := by
  rw [hL]
  cases k with
  | zero => simp [DiffT.P]
  | succ k => simp [DiffT.P, h0]
theorem diff_grid.row_end {f : Nat → Nat → Bool} {n m p j q : Nat} {r : Option (Nat × Nat)} (hp : p < n) (hr : DiffT.first f n m p j = r) (hq : DiffT.inRow (f p) m j = DiffT.inRow (f p) m q) (hm : ¬ q < m) : DiffT.first f n m (p + 1) j = r := by
  rw [DiffT.first, dif_pos hp, hq, DiffT.inRow, dif_neg hm] at hr
  exact hr
theorem diff_grid.row_no {f : Nat → Nat → Bool} {m p j q : Nat} (hq : DiffT.inRow (f p) m j = DiffT.inRow (f p) m q) (hm : q < m) (hf : f p q = false) : DiffT.inRow (f p) m j = DiffT.inRow (f p) m (q + 1) := by
  rw [hq]
  conv => lhs; rw [DiffT.inRow, dif_pos hm, if_neg (by rw [hf]; decide)]
theorem diff_grid.row_yes {f : Nat → Nat → Bool} {n m p j q : Nat} {r : Option (Nat × Nat)} (hp : p < n) (hr : DiffT.first f n m p j = r) (hq : DiffT.inRow (f p) m j = DiffT.inRow (f p) m q) (hm : q < m) (hf : f p q = true) : r = some (p, q) := by
  rw [DiffT.first, dif_pos hp, hq, DiffT.inRow, dif_pos hm, if_pos hf] at hr
  exact hr.symm
set_option maxRecDepth 100000 in
set_option maxHeartbeats 4000000 in
theorem diff_pairs.calls (n m : Nat) (hn : n ≤ 400) (hm : m ≤ 400) (C : Nat) (bs : Array Value) (hent : ∀ (xs : Array Value) (W : World), (callFunc C xs).run Try.prog W = .ok (.enter C xs) W) (like : Nat → Nat → Bool) (w : World)
    (HL : ∀ W : World, Below w.heap.size w W → ∀ i j : Nat, i < n → j < m → Calls Try.prog C (#[.int .i64 (i : Int), .int .i64 (j : Int)] ++ bs) W fun e W' => e = .returned (.bool (like i j)) ∧ Below W.heap.size W W')
    (gb rb cap : Nat) (best : List Int) (hR : diff_grid.Rd n m C bs gb rb cap best w w) (hl : best.length = (n + 1) * (m + 1)) (hT : ∀ i j, i ≤ n → j ≤ m → best.getD (i * (m + 1) + j) 0 = (DiffT.T like n m i j : Int)) :
    Calls Try.prog 31 #[.pointer (some ⟨gb, 0, none⟩)] w fun e w' => ∃ v, e = .returned v ∧ Kd.R k76 76 w' w.heap.size (fun _ => True) v (diff_grid.enc (DiffT.P like n m n 0 0)) ∧ Below w.heap.size w w' := by
  have HE := Aside0.mk hent
  have HLK := Aside0.mk HL
  have HN := Aside0.mk hn
  have HM := Aside0.mk hm
  have HLN := Aside0.mk hl
  have HT := Aside0.mk hT
  have hb := Below.refl w.heap.size w
  have ST := Aside0.mk hR
  have HR0 := Aside0.mk hR
  obtain ⟨L, hL⟩ : ∃ L, L = DiffT.P like n m n 0 0 := ⟨_, rfl⟩
  rw [← hL]
  have HL0 := Aside0.mk (show L = [] ++ DiffT.P like n m n 0 0 from hL)
  have b1 : (0 : Int) ≤ (n : Int) := by omega
  have b2 : (n : Int) ≤ 400 := by omega
  have b3 : (0 : Int) ≤ (m : Int) := by omega
  have b4 : (m : Int) ≤ 400 := by omega
  clear hent HL hn hm hl hT hR hb hL
  go_enter Try.func31, Try.ntmps31
  go_wp2
  go_loopg [3, 4, 5] n (fun gq v3 v4 v5 wr => ∃ (i j k : Nat) (out : List (Nat × Nat)), v4 = .int .i64 (i : Int) ∧ v5 = .int .i64 (j : Int) ∧ Aside0 (gq + i = n) ∧ Aside0 (i ≤ n ∧ j ≤ m ∧ n ≤ k + i ∧ out.length ≤ i) ∧ Aside0 (L = out ++ DiffT.P like n m k i j) ∧ Aside0 (diff_grid.Rd n m C bs gb rb cap best w wr) ∧ Aside0 (Kd.R k76 76 wr w.heap.size (fun _ => True) v3 (diff_grid.enc out)))
  case atStart => exact ⟨0, 0, n, [], rfl, rfl, ⟨by omega⟩, ⟨by omega, by omega, by omega, by simp⟩, HL0, ST, ⟨Kd.R_nil _ _ _ _ _⟩⟩
  case round =>
    clear HL0 ST
    obtain ⟨i, j, k, out, rfl, rfl, HG, HI, HL, ST, HO⟩ := hrel
    obtain ⟨vo, rfl⟩ : ∃ vo : Value, vo = u3 := ⟨_, rfl⟩
    have HG0 := Aside0.mk HG.out
    clear HG
    have hI := HI.out
    have q1 : (0 : Int) ≤ (i : Int) := by omega
    have q2 : (i : Int) ≤ 400 := by have := HN.out; omega
    have q3 : (0 : Int) ≤ (j : Int) := by omega
    have q4 : (j : Int) ≤ 400 := by have := HM.out; omega
    obtain ⟨t, ht⟩ : ∃ t : Int, t = (DiffT.T like n m i j : Int) := ⟨_, rfl⟩
    have HTT := Aside0.mk ht
    rcases Nat.eq_zero_or_pos (DiffT.T like n m i j) with h0 | h0
    · have ht0 : t = 0 := by omega
      subst ht0
      have HLe := Aside0.mk (diff_grid.P_done HL.out h0)
      clear hI h0 ht
      go_wp2_with (go_at_call 48; refine (ST.out.at_ HT.out i j _ _ 0 rfl rfl HTT.out HN.out HM.out HI.out.1 HI.out.2.1 HLN.out).mono ?_; rintro e w2 ⟨rfl, hb2⟩; have n0_ := Aside0.mk (ST.out.step hb2); have n1_ := Aside0.mk (Kd.R_below HO.out hb2); clear ST HO hb2; have ST := n0_; have HO := n1_; clear n0_ n1_)
      go_ret
      rw [HLe.out]
      exact ⟨_, rfl, HO.out, ST.out.below⟩
    · have ht0 : decide (0 < t) = true := decide_eq_true (by omega)
      obtain ⟨p0, q0, hfst, hp1, hp2, hq1, hq2, hlk, hTp⟩ := DiffT.step h0
      have l1 := DiffT.T_le (like := like) (n := n) (m := m) _ i j rfl
      have HF := Aside0.mk hfst
      have HF0 := Aside0.mk hfst
      have HP := Aside0.mk (And.intro hp1 (And.intro hp2 (And.intro hq1 (And.intro hq2 h0))))
      have t0 : 0 ≤ t := by omega
      have t1 : t ≤ 400 := by have := HN.out; omega
      clear hI h0 ht hfst hp1 hp2 hq1 hq2 hlk hTp l1
      go_wp2_with (go_at_call 48; refine (ST.out.at_ HT.out i j _ _ t rfl rfl HTT.out HN.out HM.out HI.out.1 HI.out.2.1 HLN.out).mono ?_; rintro e w2 ⟨rfl, hb2⟩; have n0_ := Aside0.mk (ST.out.step hb2); have n1_ := Aside0.mk (Kd.R_below HO.out hb2); clear ST HO hb2; have ST := n0_; have HO := n1_; clear n0_ n1_)
      go_step3
      go_wp2
      go_step3
      go_wp2
      obtain ⟨wo, rfl⟩ : ∃ wo : World, wo = w2 := ⟨_, rfl⟩
      go_loopg [3, 4, 5, 6] (n - i) (fun gq v3' v4 v5 v6 wr => ∃ (p : Nat), v3' = vo ∧ v4 = .int .i64 (i : Int) ∧ v5 = .int .i64 (j : Int) ∧ v6 = .int .i64 (p : Int) ∧ Aside0 (gq + p = n ∧ i ≤ p) ∧ Aside0 (DiffT.first (DiffT.Fit like n m i j) n m p j = some (p0, q0)) ∧ Aside0 (diff_grid.Rd n m C bs gb rb cap best w wr) ∧ Aside0 (Kd.R k76 76 wr w.heap.size (fun _ => True) vo (diff_grid.enc out)))
      case atStart => exact ⟨i, rfl, rfl, rfl, rfl, ⟨by have := HI.out; omega, Nat.le_refl _⟩, HF, ST, HO⟩
      case round =>
        clear HF ST HO
        obtain ⟨p, rfl, rfl, rfl, rfl, HGP, HF, ST, HO⟩ := hrel
        obtain ⟨vo, rfl⟩ : ∃ vo : Value, vo = u3 := ⟨_, rfl⟩
        have hz0 : wr.cell? ⟨gb, 0, none⟩ = some (.int .i64 (n : Int)) := (blk_cell ST.out.blk 0).trans rfl
        have hp0 : p < n := by
          rcases Nat.lt_or_ge p n with h | h
          · exact h
          · have := HF.out
            rw [DiffT.first, dif_neg (by omega)] at this
            cases this
        have hpn : decide ((p : Int) < (n : Int)) = true := decide_eq_true (by omega)
        have hpn2 : decide (p < n) = true := decide_eq_true hp0
        have HPN := Aside0.mk hp0
        have q5 : (0 : Int) ≤ (p : Int) := by omega
        have q6 : (p : Int) ≤ 400 := by have := HN.out; omega
        clear hp0
        obtain ⟨wo, rfl⟩ : ∃ wo : World, wo = wr := ⟨_, rfl⟩
        go_wp2
        clear hz0
        go_loopg [3, 4, 5, 7] (m - j) (fun gq v3' v4 v5 v7 wr => ∃ (q : Nat), v3' = vo ∧ v4 = .int .i64 (i : Int) ∧ v5 = .int .i64 (j : Int) ∧ v7 = .int .i64 (q : Int) ∧ Aside0 (gq + q = m ∧ j ≤ q) ∧ Aside0 (DiffT.inRow (DiffT.Fit like n m i j p) m j = DiffT.inRow (DiffT.Fit like n m i j p) m q) ∧ Aside0 (diff_grid.Rd n m C bs gb rb cap best w wr) ∧ Aside0 (Kd.R k76 76 wr w.heap.size (fun _ => True) vo (diff_grid.enc out)))
        case atStart => exact ⟨j, rfl, rfl, rfl, rfl, ⟨by have := HI.out; omega, Nat.le_refl _⟩, ⟨rfl⟩, ST, HO⟩
        case round =>
          clear ST HO
          obtain ⟨q, rfl, rfl, rfl, rfl, HGQ, HQ, ST, HO⟩ := hrel
          obtain ⟨vo, rfl⟩ : ∃ vo : Value, vo = u3 := ⟨_, rfl⟩
          have hz1 : wr.cell? ⟨gb, 1, none⟩ = some (.int .i64 (m : Int)) := (blk_cell ST.out.blk 1).trans rfl
          rcases Nat.lt_or_ge q m with hq0 | hq0
          · have hqm : decide ((q : Int) < (m : Int)) = true := decide_eq_true (by omega)
            have hqm2 : decide (q < m) = true := decide_eq_true hq0
            have HQM := Aside0.mk hq0
            have hz3 : wr.cell? ⟨gb, 3, none⟩ = some (.func (.func C) #[] bs) := (blk_cell ST.out.blk 3).trans rfl
            have q7 : (0 : Int) ≤ (q : Int) := by omega
            have q8 : (q : Int) ≤ 400 := by have := HM.out; omega
            obtain ⟨z, hz⟩ : ∃ z : Int, z = (DiffT.T like n m (p + 1) (q + 1) : Int) := ⟨_, rfl⟩
            have HZ := Aside0.mk hz
            have l3 := DiffT.T_le (like := like) (n := n) (m := m) _ (p + 1) (q + 1) rfl
            have q9 : 0 ≤ z := by omega
            have q10 : z ≤ 400 := by have := HN.out; omega
            clear hz l3 hq0
            cases hlk : like p q with
            | false =>
              have HLT := Aside0.mk hlk
              clear hlk
              go_wp2_with (first | ((with_reducible refine gate_dst (N := 37) rfl ?_); refine diff_grid.goesV (some 37) rfl rfl HE.out #[.int .i64 (p : Int), .int .i64 (q : Int)] rfl rfl (by (try simp only [List.map_toArray, List.map_cons, List.map_nil]); first | done | rfl) ?_; refine (HLK.out _ ST.out.below p q HPN.out HQM.out).mono ?_; rw [HLT.out]; rintro e w5 ⟨rfl, hb5⟩; refine ⟨_, rfl, ?_⟩; have n0_ := Aside0.mk (ST.out.step hb5); have n1_ := Aside0.mk (Kd.R_below HO.out hb5); clear ST HO hb5 hz1 hz3; have ST := n0_; have HO := n1_; clear n0_ n1_))
              go_roundg (m - (q + 1))
              case measure => have := HGQ.out; have := HQM.out; omega
              case rel => exact ⟨q + 1, rfl, rfl, rfl, by first | rfl | go_num, ⟨by have := HQM.out; omega, by have := HGQ.out; omega⟩, ⟨diff_grid.row_no HQ.out HQM.out (by simp [DiffT.Fit, HLT.out])⟩, ST, HO⟩
            | true =>
              have HLT := Aside0.mk hlk
              clear hlk
              by_cases hc : 1 + z = t
              · have hc1 : ((1 + z : Int) == t) = true := beq_iff_eq.mpr hc
                have HCC := Aside0.mk hc
                clear hc
                have hfit : DiffT.Fit like n m i j p q = true := by
                  rw [DiffT.fit_iff]
                  exact ⟨HLT.out, by have h1 := HZ.out; have h2 := HTT.out; have h3 := HCC.out; omega⟩
                have HFS := Aside0.mk (diff_grid.row_yes HPN.out HF.out HQ.out HQM.out hfit)
                clear hfit
                go_wp2_with ((with_reducible refine gate_dst (N := 37) rfl ?_); refine diff_grid.goesV (some 37) rfl rfl HE.out #[.int .i64 (p : Int), .int .i64 (q : Int)] rfl rfl (by (try simp only [List.map_toArray, List.map_cons, List.map_nil]); first | done | rfl) ?_; refine (HLK.out _ ST.out.below p q HPN.out HQM.out).mono ?_; rw [HLT.out]; rintro e w5 ⟨rfl, hb5⟩; refine ⟨_, rfl, ?_⟩; have n0_ := Aside0.mk (ST.out.step hb5); have n1_ := Aside0.mk (Kd.R_below HO.out hb5); clear ST HO hb5 hz1 hz3; have ST := n0_; have HO := n1_; clear n0_ n1_)
                refine (ST.out.at_ HT.out (p + 1) (q + 1) _ _ z (by first | rfl | (push_cast; rfl)) (by first | rfl | (push_cast; rfl)) HZ.out HN.out HM.out (by have := HPN.out; omega) (by have := HQM.out; omega) HLN.out).mono ?_
                rintro e w6 ⟨rfl, hb6⟩
                have n0_ := Aside0.mk (ST.out.step hb6)
                have n1_ := Aside0.mk (Kd.R_below HO.out hb6)
                clear ST HO hb6
                have ST := n0_
                have HO := n1_
                clear n0_ n1_
                go_wp2_with fail
                refine (ST.out.at_ HT.out i j _ _ t rfl rfl HTT.out HN.out HM.out HI.out.1 HI.out.2.1 HLN.out).mono ?_
                rintro e w7 ⟨rfl, hb7⟩
                have n0_ := Aside0.mk (ST.out.step hb7)
                have n1_ := Aside0.mk (Kd.R_below HO.out hb7)
                clear ST HO hb7
                have ST := n0_
                have HO := n1_
                clear n0_ n1_
                go_wp2_with (at_builtin; refine Kd.R_append k76 (w0 := w) w.heap.size rfl (.tmp 52) (.tmp 56) 26 76 (.agg #[.int .i64 0, .int .i64 0]) 16 rfl Try.underlying26 info76 rfl (by decide) (by decide) vo (diff_grid.enc out) (⟨(p : Int), (q : Int)⟩ : S76) [.int .i64 (p : Int), .int .i64 (q : Int)] (fun _ => True) (fun _ => False) rfl rfl (k76_mkM _ _ _ _) (fun _ h => h.elim) (fun _ _ => trivial) HO.out ST.out.below ST.out.below.size (by have := HI.out; have := HN.out; simp [diff_grid.enc]; omega) ?_; intro v1 w8 hR1 hb8 hg1 hat1; have n0_ := Aside0.mk (HR0.out.step hb8); have n1_ := Aside0.mk hR1; clear ST HO hb8 hR1 hg1 hat1; have ST := n0_; have HO := n1_; clear n0_ n1_)
                rw [Exit.noGoto_normal]
                go_wp2
                go_roundg (n - (p + 1))
                case measure => have := HG0.out; have := HP.out; have := HGP.out; have := HPN.out; omega
                case rel =>
                  have hfs := HFS.out
                  simp only [Option.some.injEq, Prod.mk.injEq] at hfs
                  obtain ⟨e1, e2⟩ := hfs
                  have hI := HI.out
                  have hpn := HPN.out
                  have hqm := HQM.out
                  have hgp := HGP.out
                  obtain ⟨k', hk'⟩ : ∃ k', k = k' + 1 := ⟨k - 1, by omega⟩
                  have hl := HL.out
                  rw [hk'] at hl
                  have hf := HF0.out
                  rw [e1, e2] at hf
                  exact ⟨p + 1, q + 1, k', out ++ [(p, q)], by first | rfl | go_num, by first | rfl | go_num, ⟨by omega⟩, ⟨by omega, by omega, by omega, by rw [List.length_append]; simp; omega⟩, ⟨diff_grid.P_step hl HP.out.2.2.2.2 hf⟩, ST, ⟨by have h_ := HO.out; simp only [diff_grid.enc, List.map_append, List.map_cons, List.map_nil] at h_ ⊢; exact h_⟩⟩
              · have hc1 : ((1 + z : Int) == t) = false := beq_eq_false_iff_ne.mpr hc
                have HCC := Aside0.mk hc
                clear hc
                go_wp2_with ((with_reducible refine gate_dst (N := 37) rfl ?_); refine diff_grid.goesV (some 37) rfl rfl HE.out #[.int .i64 (p : Int), .int .i64 (q : Int)] rfl rfl (by (try simp only [List.map_toArray, List.map_cons, List.map_nil]); first | done | rfl) ?_; refine (HLK.out _ ST.out.below p q HPN.out HQM.out).mono ?_; rw [HLT.out]; rintro e w5 ⟨rfl, hb5⟩; refine ⟨_, rfl, ?_⟩; have n0_ := Aside0.mk (ST.out.step hb5); have n1_ := Aside0.mk (Kd.R_below HO.out hb5); clear ST HO hb5 hz1 hz3; have ST := n0_; have HO := n1_; clear n0_ n1_)
                refine (ST.out.at_ HT.out (p + 1) (q + 1) _ _ z (by first | rfl | (push_cast; rfl)) (by first | rfl | (push_cast; rfl)) HZ.out HN.out HM.out (by have := HPN.out; omega) (by have := HQM.out; omega) HLN.out).mono ?_
                rintro e w6 ⟨rfl, hb6⟩
                have n0_ := Aside0.mk (ST.out.step hb6)
                have n1_ := Aside0.mk (Kd.R_below HO.out hb6)
                clear ST HO hb6
                have ST := n0_
                have HO := n1_
                clear n0_ n1_
                go_wp2_with fail
                refine (ST.out.at_ HT.out i j _ _ t rfl rfl HTT.out HN.out HM.out HI.out.1 HI.out.2.1 HLN.out).mono ?_
                rintro e w7 ⟨rfl, hb7⟩
                have n0_ := Aside0.mk (ST.out.step hb7)
                have n1_ := Aside0.mk (Kd.R_below HO.out hb7)
                clear ST HO hb7
                have ST := n0_
                have HO := n1_
                clear n0_ n1_
                go_wp2
                go_roundg (m - (q + 1))
                case measure => have := HGQ.out; have := HQM.out; omega
                case rel => exact ⟨q + 1, rfl, rfl, rfl, by first | rfl | go_num, ⟨by have := HQM.out; omega, by have := HGQ.out; omega⟩, ⟨diff_grid.row_no HQ.out HQM.out (by have h1 := HZ.out; have h2 := HTT.out; have h3 := HCC.out; simp only [DiffT.Fit, HLT.out, Bool.true_and]; exact decide_eq_false (by omega))⟩, ST, HO⟩
          · have hqm : decide ((q : Int) < (m : Int)) = false := decide_eq_false (by omega)
            have hqm2 : decide (q < m) = false := decide_eq_false (by omega)
            have HQM := Aside0.mk hq0
            clear hq0
            go_wp2
            go_roundg (n - (p + 1))
            case measure => have := HGP.out; have := HPN.out; omega
            case rel => exact ⟨p + 1, rfl, rfl, rfl, by first | rfl | go_num, ⟨by have := HPN.out; omega, by have := HGP.out; omega⟩, ⟨diff_grid.row_end HPN.out HF.out HQ.out (by have := HQM.out; omega)⟩, ST, HO⟩
attribute [local go_sem high] eqA64
/-- The same token? -/
def diff_Pairs.same (x y : S64) : Bool := x.f0 == y.f0 && (x.f1 == y.f1 && (x.f2 == y.f2 && (x.f3 == y.f3)))
def diff_Pairs.like (l0 l1 : List S64) (i j : Nat) : Bool := diff_Pairs.same (rd_T64 l0 (i : Int)) (rd_T64 l1 (j : Int))
set_option maxRecDepth 100000 in
set_option maxHeartbeats 2000000 in
theorem diff_Pairs.one (ba bb : Nat) (A0 A1 : Option Addr) (c0 c1 : Nat) (l0 l1 : List S64) (i j : Nat) (hi : i < l0.length) (hj : j < l1.length) (w : World) (h0 : w.cell? ⟨ba, 0, none⟩ = some (.slice A0 l0.length c0)) (h1 : w.cell? ⟨bb, 0, none⟩ = some (.slice A1 l1.length c1)) (hr0 : Kd.C k64 w A0 l0.length l0) (hr1 : Kd.C k64 w A1 l1.length l1) :
    Calls Try.prog 30 (#[.int .i64 (i : Int), .int .i64 (j : Int)] ++ #[.pointer (some ⟨ba, 0, none⟩), .pointer (some ⟨bb, 0, none⟩)]) w fun e w' => e = .returned (.bool (diff_Pairs.like l0 l1 i j)) ∧ Below w.heap.size w w' := by
  unfold diff_Pairs.like diff_Pairs.same
  obtain ⟨x, hx⟩ : ∃ x : Int, x = (i : Int) := ⟨_, rfl⟩
  obtain ⟨y, hy⟩ : ∃ y : Int, y = (j : Int) := ⟨_, rfl⟩
  rw [← hx, ← hy]
  have q1 : (0 : Int) ≤ x := by omega
  have q2 : x < (l0.length : Int) := by omega
  have q3 : (0 : Int) ≤ y := by omega
  have q4 : y < (l1.length : Int) := by omega
  obtain ⟨ad, rfl, a0, a1, a2, a3⟩ := at_T64 hr0 x q1 q2
  obtain ⟨bd, rfl, b0, b1, b2, b3⟩ := at_T64 hr1 y q3 q4
  generalize (rd_T64 l0 x).f0 = x0 at a0 ⊢
  generalize (rd_T64 l0 x).f1 = x1 at a1 ⊢
  generalize (rd_T64 l0 x).f2 = x2 at a2 ⊢
  generalize (rd_T64 l0 x).f3 = x3 at a3 ⊢
  generalize (rd_T64 l1 y).f0 = y0 at b0 ⊢
  generalize (rd_T64 l1 y).f1 = y1 at b1 ⊢
  generalize (rd_T64 l1 y).f2 = y2 at b2 ⊢
  generalize (rd_T64 l1 y).f3 = y3 at b3 ⊢
  clear hr0 hr1 hx hy
  go_enter Try.func30, Try.ntmps30
  go_wp2
  go_quiet (fail)
  go_wp2
  go_ret
  exact ⟨rfl, Drawn0.below ⟨⟨_, rfl⟩⟩⟩
def diff_Pairs.f (l0 l1 : List S64) : Option (List S76 × Int) := some (if l0.length > 400 ∨ l1.length > 400 then ([], 2) else (diff_grid.enc (DiffT.P (diff_Pairs.like l0 l1) l0.length l1.length l0.length 0 0), 0))
theorem diff_Pairs.mono : ∀ a0 a1, LeO (diff_Pairs.f a0 a1) (diff_Pairs.f a0 a1) := fun _ _ => LeO.refl _
set_option maxRecDepth 100000 in
set_option maxHeartbeats 2000000 in
theorem diff_Pairs.calls (A0 : Option Addr) (c0 : Nat) (l0 : List S64) (A1 : Option Addr) (c1 : Nat) (l1 : List S64) (r1 : List S76) (r2 : Int) (w : World) (hr0 : Kd.C k64 w A0 l0.length l0) (hc0 : l0.length ≤ c0) (hr1 : Kd.C k64 w A1 l1.length l1) (hc1 : l1.length ≤ c1) (h : diff_Pairs.f l0 l1 = some (r1, r2)) :
    Calls Try.prog 11 #[.slice A0 l0.length c0, .slice A1 l1.length c1] w fun e w' => ∃ v0_ : Value, e = .returned (.tuple #[v0_, .int .i64 r2]) ∧ Kd.R k76 76 w' w.heap.size (fun _ => True) v0_ r1 ∧ Below w.heap.size w w' := by
  have h := Option.some.inj h
  have HR0 := Aside0.mk hr0
  have HR1 := Aside0.mk hr1
  have HB0 := Aside0.mk (Below.refl w.heap.size w)
  clear hr0 hr1 hc0 hc1
  have hx : l0.length < l1.length ∨ ¬ l0.length < l1.length := Decidable.em _
  by_cases hbig : l0.length > 400 ∨ l1.length > 400
  · rw [if_pos hbig] at h
    simp only [Prod.mk.injEq] at h
    obtain ⟨rfl, rfl⟩ := h
    rcases hx with hx | hx
    · have q1 := eq_true hx
      have q2 : decide (400 < (l1.length : Int)) = true := decide_eq_true (by omega)
      have q3 : decide (400 < l1.length) = true := decide_eq_true (by omega)
      have q4 : decide (l0.length < l1.length) = true := decide_eq_true hx
      have q5 : ((l0.length : Int) < (l1.length : Int)) = True := eq_true (by omega)
      clear hx hbig
      go_enter Try.func11, Try.ntmps11
      go_wp2
      go_ret2
      exact ⟨_, rfl, Kd.R_nil _ _ _ _ _, below_alloc (below_alloc HB0.out _) _⟩
    · have q1 := eq_false hx
      have q2 : decide (400 < (l0.length : Int)) = true := decide_eq_true (by omega)
      have q3 : decide (400 < l0.length) = true := decide_eq_true (by omega)
      have q4 : decide (l0.length < l1.length) = false := decide_eq_false hx
      have q5 : ((l0.length : Int) < (l1.length : Int)) = False := eq_false (by omega)
      clear hx hbig
      go_enter Try.func11, Try.ntmps11
      go_wp2
      go_ret2
      exact ⟨_, rfl, Kd.R_nil _ _ _ _ _, below_alloc (below_alloc HB0.out _) _⟩
  · rw [if_neg hbig] at h
    simp only [Prod.mk.injEq] at h
    obtain ⟨rfl, rfl⟩ := h
    have HN := Aside0.mk (show l0.length ≤ 400 by omega)
    have HM := Aside0.mk (show l1.length ≤ 400 by omega)
    have fin : ∀ (ba bb : Nat) (w2 : World), w2.heap[ba]? = some (.cells #[.slice A0 l0.length c0] 22 (0, 0)) → w2.heap[bb]? = some (.cells #[.slice A1 l1.length c1] 22 (0, 0)) → Below w.heap.size w w2 → ∀ W : World, Below w2.heap.size w2 W → ∀ i j : Nat, i < l0.length → j < l1.length → Calls Try.prog 30 (#[.int .i64 (i : Int), .int .i64 (j : Int)] ++ #[.pointer (some ⟨ba, 0, none⟩), .pointer (some ⟨bb, 0, none⟩)]) W fun e W' => e = .returned (.bool (diff_Pairs.like l0 l1 i j)) ∧ Below W.heap.size W W' :=
      fun ba bb w2 k0 k1 kb W hb i j hi hj => diff_Pairs.one ba bb A0 A1 c0 c1 l0 l1 i j hi hj W ((blk_cell (blk_below k0 hb) 0).trans rfl) ((blk_cell (blk_below k1 hb) 0).trans rfl) (Kd.C_below HR0.out (below_step kb hb)) (Kd.C_below HR1.out (below_step kb hb))
    have FIN := Aside0.mk fin
    have HE := Aside0.mk (fun xs W => enters_ (P := Try.prog) Try.func30 (by kernel_rfl) rfl xs W)
    clear fin hbig
    rcases hx with hx | hx
    · have q1 := eq_true hx
      have q4 : decide (l0.length < l1.length) = true := decide_eq_true hx
      have q5 : ((l0.length : Int) < (l1.length : Int)) = True := eq_true (by omega)
      have q2 : decide (400 < (l1.length : Int)) = false := decide_eq_false (by have := HM.out; omega)
      have q3 : decide (400 < l1.length) = false := decide_eq_false (by have := HM.out; omega)
      clear hx
      go_enter Try.func11, Try.ntmps11
      go_wp2_with (first | ((with_reducible refine gate_dst (N := 2) rfl ?_); refine box_event ?hg (N := 2) ?hd (cs := #[.slice A0 l0.length c0]) (t := 22) ?hr ?_; (case hd => rfl); (case hg => rfl); (case hr => first | (go_simp; done) | (go_simp; rfl)); intro ba hg2 w1 hbox2 hb2; have K0 := Aside0.mk hbox2; have HB1 := Aside0.mk (below_step HB0.out hb2); clear HB0 hg2 hbox2 hb2) | ((with_reducible refine gate_dst (N := 3) rfl ?_); refine box_event ?hg (N := 3) ?hd (cs := #[.slice A1 l1.length c1]) (t := 22) ?hr ?_; (case hd => rfl); (case hg => rfl); (case hr => first | (go_simp; done) | (go_simp; rfl)); intro bb hg3 w2 hbox3 hb3; have K1 := Aside0.mk hbox3; have n0_ := Aside0.mk (blk_below K0.out hb3); have HB2 := Aside0.mk (below_step HB1.out hb3); clear HB1 K0 hg3 hbox3 hb3; have K0 := n0_; clear n0_; have hz0 : w2.cell? ⟨ba, 0, none⟩ = some (.slice A0 l0.length c0) := (blk_cell K0.out 0).trans rfl; have hz1 : w2.cell? ⟨bb, 0, none⟩ = some (.slice A1 l1.length c1) := (blk_cell K1.out 0).trans rfl))
      refine (diff_filled.calls l0.length l1.length HN.out HM.out 30 #[.pointer (some ⟨ba, 0, none⟩), .pointer (some ⟨bb, 0, none⟩)] HE.out (diff_Pairs.like l0 l1) w2 (FIN.out ba bb w2 K0.out K1.out HB2.out)).mono ?_
      rintro e w3 ⟨gb, rb, cap, best, rfl, hge, hblk, hC, hlen, hT, hb3⟩
      have G := Aside0.mk (And.intro hblk (And.intro hC (And.intro hlen (And.intro hT hb3))))
      clear hge hblk hC hlen hT hb3 hz0 hz1
      go_wp2_with fail
      refine (diff_pairs.calls l0.length l1.length HN.out HM.out 30 #[.pointer (some ⟨ba, 0, none⟩), .pointer (some ⟨bb, 0, none⟩)] HE.out (diff_Pairs.like l0 l1) w3 (fun W hb i j hi hj => FIN.out ba bb w2 K0.out K1.out HB2.out W (below_step G.out.2.2.2.2 hb) i j hi hj) gb rb cap best ⟨G.out.1, G.out.2.1, Below.refl _ _⟩ G.out.2.2.1 G.out.2.2.2.1).mono ?_
      rintro e w4 ⟨v, rfl, hR, hb4⟩
      have n0_ := Aside0.mk hR
      have n1_ := Aside0.mk hb4
      clear hR hb4
      go_wp2
      go_ret2
      exact ⟨_, rfl, Kd.R_lower n0_.out (Nat.le_trans HB2.out.size G.out.2.2.2.2.size), below_step (below_step HB2.out G.out.2.2.2.2) n1_.out⟩
    · have q1 := eq_false hx
      have q4 : decide (l0.length < l1.length) = false := decide_eq_false hx
      have q5 : ((l0.length : Int) < (l1.length : Int)) = False := eq_false (by omega)
      have q2 : decide (400 < (l0.length : Int)) = false := decide_eq_false (by have := HN.out; omega)
      have q3 : decide (400 < l0.length) = false := decide_eq_false (by have := HN.out; omega)
      clear hx
      go_enter Try.func11, Try.ntmps11
      go_wp2_with (first | ((with_reducible refine gate_dst (N := 2) rfl ?_); refine box_event ?hg (N := 2) ?hd (cs := #[.slice A0 l0.length c0]) (t := 22) ?hr ?_; (case hd => rfl); (case hg => rfl); (case hr => first | (go_simp; done) | (go_simp; rfl)); intro ba hg2 w1 hbox2 hb2; have K0 := Aside0.mk hbox2; have HB1 := Aside0.mk (below_step HB0.out hb2); clear HB0 hg2 hbox2 hb2) | ((with_reducible refine gate_dst (N := 3) rfl ?_); refine box_event ?hg (N := 3) ?hd (cs := #[.slice A1 l1.length c1]) (t := 22) ?hr ?_; (case hd => rfl); (case hg => rfl); (case hr => first | (go_simp; done) | (go_simp; rfl)); intro bb hg3 w2 hbox3 hb3; have K1 := Aside0.mk hbox3; have n0_ := Aside0.mk (blk_below K0.out hb3); have HB2 := Aside0.mk (below_step HB1.out hb3); clear HB1 K0 hg3 hbox3 hb3; have K0 := n0_; clear n0_; have hz0 : w2.cell? ⟨ba, 0, none⟩ = some (.slice A0 l0.length c0) := (blk_cell K0.out 0).trans rfl; have hz1 : w2.cell? ⟨bb, 0, none⟩ = some (.slice A1 l1.length c1) := (blk_cell K1.out 0).trans rfl))
      refine (diff_filled.calls l0.length l1.length HN.out HM.out 30 #[.pointer (some ⟨ba, 0, none⟩), .pointer (some ⟨bb, 0, none⟩)] HE.out (diff_Pairs.like l0 l1) w2 (FIN.out ba bb w2 K0.out K1.out HB2.out)).mono ?_
      rintro e w3 ⟨gb, rb, cap, best, rfl, hge, hblk, hC, hlen, hT, hb3⟩
      have G := Aside0.mk (And.intro hblk (And.intro hC (And.intro hlen (And.intro hT hb3))))
      clear hge hblk hC hlen hT hb3 hz0 hz1
      go_wp2_with fail
      refine (diff_pairs.calls l0.length l1.length HN.out HM.out 30 #[.pointer (some ⟨ba, 0, none⟩), .pointer (some ⟨bb, 0, none⟩)] HE.out (diff_Pairs.like l0 l1) w3 (fun W hb i j hi hj => FIN.out ba bb w2 K0.out K1.out HB2.out W (below_step G.out.2.2.2.2 hb) i j hi hj) gb rb cap best ⟨G.out.1, G.out.2.1, Below.refl _ _⟩ G.out.2.2.1 G.out.2.2.2.1).mono ?_
      rintro e w4 ⟨v, rfl, hR, hb4⟩
      have n0_ := Aside0.mk hR
      have n1_ := Aside0.mk hb4
      clear hR hb4
      go_wp2
      go_ret2
      exact ⟨_, rfl, Kd.R_lower n0_.out (Nat.le_trans HB2.out.size G.out.2.2.2.2.size), below_step (below_step HB2.out G.out.2.2.2.2) n1_.out⟩

end Go.Proofs.Ytjpmlggkhhoooaa.PDq
