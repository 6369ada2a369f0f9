-- Written for this claim by a program (the kit's print, with hand-made contracts for what it does not take).
import Derived.Test.YtgafgkojbbndmaaPAsx0
namespace Go.Proofs.Ytgafgkojbbndmaa.PAs
open Go.RowKit Go.Proofs.YtgafgkojbbndmaaW.PrintWords Go.Proofs.YtgafgkojbbndmaaW.PrintLast Go.Proofs.YtgafgkojbbndmaaW.PrintMore
attribute [local go_sem] max2_int min2_int max_two min_two max_three min_three max_four min_four   -- for this text's walks alone
set_option linter.unusedVariables false
set_option linter.unusedSimpArgs false

/-! ### anchor_New: function 8 -/
theorem anc_grown {W w1 : World} {row : Option Nat} (hg : W.grownBy w1 row) {a : Addr} {v : Value} (h : W.cell? a = some v) (hne : some a.block ≠ row) : w1.cell? a = some v := Go.Proofs.YtgafgkojbbndmaaW.PrintWords.cell_grown hg h hne
/-! ### Notes by their ids -/
def anc_ent (n : S35) : Lit × DataW Unit := (.int .i64 n.f0, .agg [.lit (.int .i64 n.f0), .lit (.int .i64 n.f1), .lit (.int .i64 n.f2)])
def anc_D (l : List S35) : DataW Unit := .map (l.map anc_ent)
def anc_V (n : S35) : Value := .agg #[.int .i64 n.f0, .int .i64 n.f1, .int .i64 n.f2]
def anc_R : Value → Option (DataW Unit × List MemPlace)
  | .agg cs => (match cs.toList with
    | [.int .i64 a, .int .i64 b, .int .i64 c] => some (.agg [.lit (.int .i64 a), .lit (.int .i64 b), .lit (.int .i64 c)], [])
    | _ => none)
  | _ => none
theorem anc_R_mk (n : S35) : anc_R (anc_V n) = some ((anc_ent n).2, []) := rfl
theorem anc_R_inv {v : Value} {y : DataW Unit × List MemPlace} (h : anc_R v = some y) : ∃ n : S35, v = anc_V n ∧ y = ((anc_ent n).2, []) := by
  unfold anc_R at h
  split at h
  · next cs =>
    split at h
    · next a b c e =>
      refine ⟨⟨a, b, c⟩, ?_, (Option.some.inj h).symm⟩
      obtain ⟨l⟩ := cs
      simp only at e
      rw [e]
      rfl
    · cases h
  · cases h
theorem anc_has (l : List S35) (i : Int) : Maps.has (anc_D l) (.int .i64 i) = l.any (fun n => decide (n.f0 = i)) := by
  unfold anc_D
  rw [Maps.has_eq, List.any_map]
  congr 1
  funext n
  simp [anc_ent, Lit.sameKey]
def anc_ins (n : S35) : List S35 → List S35
  | [] => [n]
  | x :: r => if n.f0 < x.f0 then n :: x :: r else x :: anc_ins n r
theorem anc_insert (n : S35) : ∀ l : List S35, DataW.insert (anc_ent n) (l.map anc_ent) = (anc_ins n l).map anc_ent
  | [] => rfl
  | x :: r => by
    rw [List.map_cons, DataW.insert, anc_ins]
    by_cases h : n.f0 < x.f0
    · rw [if_pos h, if_pos (show Lit.before (anc_ent n).1 (anc_ent x).1 = true from decide_eq_true h)]
      rfl
    · rw [if_neg h, if_neg (show ¬ Lit.before (anc_ent n).1 (anc_ent x).1 = true from fun e => h (of_decide_eq_true e)), anc_insert n r]
      rfl
theorem anc_put (l : List S35) (n : S35) (h : l.any (fun x => decide (x.f0 = n.f0)) = false) : (anc_D l).put (.int .i64 n.f0) (anc_ent n).2 = anc_D (anc_ins n l) := by
  show DataW.map (DataW.insert (anc_ent n) ((l.map anc_ent).filter fun p => !p.1.sameKey (.int .i64 n.f0))) = _
  rw [List.filter_eq_self.2, anc_insert]
  · rfl
  · intro p hp
    obtain ⟨x, hx, rfl⟩ := List.mem_map.1 hp
    have := (List.any_eq_false.1 h) x hx
    simp only [decide_eq_true_eq] at this
    simp [anc_ent, Lit.sameKey, this]
theorem anc_del (l : List S35) (i : Int) : (anc_D l).del (.int .i64 i) = anc_D (l.filter fun n => !decide (n.f0 = i)) := by
  show DataW.map ((l.map anc_ent).filter fun p => !p.1.sameKey (.int .i64 i)) = _
  rw [List.filter_map]
  unfold anc_D
  congr 2
  congr 1
  funext n
  simp [anc_ent, Lit.sameKey]
theorem anc_size (l : List S35) : Maps.size (anc_D l) = l.length := by unfold anc_D; rw [Maps.size_eq, List.length_map]
theorem anc_at {l : List S35} {i : Int} {y : DataW Unit} (h : ∀ zd, (anc_D l).atKey (.int .i64 i) zd = y) : ∃ n ∈ l, n.f0 = i ∧ y = (anc_ent n).2 := by
  have h1 := h .nil
  have h2 := h (.agg [])
  unfold anc_D DataW.atKey at h1 h2
  simp only at h1 h2
  cases e : (l.map anc_ent).find? (fun p => p.1.sameKey (.int .i64 i)) with
  | none =>
    rw [e] at h1 h2
    rw [← h1] at h2
    cases h2
  | some p =>
    rw [e] at h1
    have hp := List.find?_some e
    obtain ⟨n, hn, rfl⟩ := List.mem_map.1 (List.mem_of_find?_eq_some e)
    simp only [anc_ent, Lit.sameKey, decide_eq_true_eq] at hp
    exact ⟨n, hn, hp.2, h1.symm⟩
theorem anc_tight {W : World} {g n : Nat} {D : DataW Unit} (h : W.ownsMap Try.prog 3 anc_R g n D) : W.ownsMap Try.prog 3 anc_R g (Maps.size D) D := by
  obtain ⟨es, clock, hb, F, hs, rfl⟩ := h
  refine ⟨es, clock, hb, F, ?_, rfl⟩
  rw [Maps.size_eq, length_read]
  exact Nat.le_refl _
theorem anc_K : Maps.Keyed Try.prog 3 := Maps.int_keyed (q := .i64) Try.underlying3
/-- A set of notes at a place: its notes, their ids rising. -/
structure anc_M (B b : Nat) (l : List S35) (W : World) : Prop where
  ex : ∃ g, W.heap[b]? = some (.cells #[.map (some g)] 46 (0, 0)) ∧ W.ownsMap Try.prog 3 anc_R g l.length (anc_D l) ∧ B ≤ g
  base : B ≤ b
  le : l.length ≤ 200
  inc : l.Pairwise (fun x y => x.f0 < y.f0)
theorem anc_owns_below {W W1 : World} {g n : Nat} {D : DataW Unit} (h : W.ownsMap Try.prog 3 anc_R g n D) (hb : Below W.heap.size W W1) : W1.ownsMap Try.prog 3 anc_R g n D := by
  have hl := h.lt
  obtain ⟨es, clock, h1, F, hs, e⟩ := h
  exact ⟨es, clock, (hb.block g hl).trans h1, F, hs, e⟩
theorem anc_M.below {B b : Nat} {l : List S35} {W W1 : World} (h : anc_M B b l W) (hb : Below W.heap.size W W1) : anc_M B b l W1 := by
  obtain ⟨⟨g, h1, h2, h3⟩, h4, h5, h6⟩ := h
  exact ⟨⟨g, blk_below h1 hb, anc_owns_below h2 hb, h3⟩, h4, h5, h6⟩
set_option maxRecDepth 100000 in
theorem anc_New.calls (w : World) : Calls Try.prog 8 #[] w fun e w' => ∃ b, e = .returned (.pointer (some ⟨b, 0, none⟩)) ∧ anc_M w.heap.size b [] w' ∧ Below w.heap.size w w' := by
  have hmm := @run_makeMap Try.prog
  have hu46 := Try.underlying46
  go_enter Try.func8, Try.ntmps8
  go_wp2
  go_ret
  have h1 : Below w.heap.size w (w.alloc (.map #[] 0)) := below_alloc (Below.refl _ _) _
  have e1 : (w.alloc (.map #[] 0)).heap.size = w.heap.size + 1 := by simp
  have hn := blk_new (w.alloc (.map #[] 0)) (.cells #[.map (some w.heap.size)] 46 (0, 0))
  rw [e1] at hn
  exact ⟨_, rfl, ⟨⟨w.heap.size, hn, anc_owns_below (World.ownsMap_made w Try.prog 3 anc_R) (below_alloc (Below.refl _ _) _), Nat.le_refl _⟩, Nat.le_succ _, Nat.zero_le _, List.Pairwise.nil⟩, below_alloc h1 _⟩
theorem anc_none.calls (B b : Nat) (l : List S35) (w : World) (h : anc_M B b l w) : Calls Try.prog 20 #[.pointer (some ⟨b, 0, none⟩)] w fun e w' => e = .returned (.bool false) ∧ w' = w := by
  have hu46 := Try.underlying46
  obtain ⟨⟨g, h1, h2, h3⟩, h4, _, _⟩ := h
  have hc : w.cell? ⟨b, 0, none⟩ = some (.map (some g)) := (blk_cell h1 0).trans rfl
  have hq : ∀ (W : World), (binOp .eql 44 (.map (some g)) (.map none)).run Try.prog W = .ok (.bool false) W := fun W => run_eql_map_nil W _ _ _ (some g) Try.underlying44
  clear h1 h2 h3 h4
  go_enter Try.func20, Try.ntmps20
  go_wp2
  go_ret
  exact ⟨rfl, rfl⟩

/-! ### anchor_Set_none: function 20 -/

/-! ### anchor_Set_Add: function 9 -/
/-! ### One more note -/
theorem anc_ins_len (n : S35) : ∀ l : List S35, (anc_ins n l).length = l.length + 1
  | [] => rfl
  | x :: r => by
    rw [anc_ins]
    by_cases h : n.f0 < x.f0
    · rw [if_pos h]
      rfl
    · rw [if_neg h, List.length_cons, List.length_cons, anc_ins_len n r]
theorem anc_ins_mem (n : S35) : ∀ (l : List S35) (x : S35), x ∈ anc_ins n l ↔ x = n ∨ x ∈ l
  | [], x => by simp [anc_ins]
  | y :: r, x => by
    rw [anc_ins]
    by_cases h : n.f0 < y.f0
    · rw [if_pos h, List.mem_cons]
    · rw [if_neg h, List.mem_cons, anc_ins_mem n r x, List.mem_cons]
      constructor
      · rintro (h | h | h)
        · exact .inr (.inl h)
        · exact .inl h
        · exact .inr (.inr h)
      · rintro (h | h | h)
        · exact .inr (.inl h)
        · exact .inl h
        · exact .inr (.inr h)
theorem anc_ins_inc (n : S35) : ∀ l : List S35, l.Pairwise (fun x y => x.f0 < y.f0) → l.any (fun x => decide (x.f0 = n.f0)) = false → (anc_ins n l).Pairwise (fun x y => x.f0 < y.f0)
  | [], _, _ => List.pairwise_singleton _ _
  | y :: r, hp, ha => by
    obtain ⟨h1, h2⟩ := List.pairwise_cons.1 hp
    rw [List.any_cons, Bool.or_eq_false_iff] at ha
    have hy : ¬ y.f0 = n.f0 := of_decide_eq_false ha.1
    rw [anc_ins]
    by_cases h : n.f0 < y.f0
    · rw [if_pos h]
      refine List.pairwise_cons.2 ⟨fun x hx => ?_, hp⟩
      rcases List.mem_cons.1 hx with rfl | hx
      · exact h
      · exact Int.lt_trans h (h1 x hx)
    · rw [if_neg h]
      refine List.pairwise_cons.2 ⟨fun x hx => ?_, anc_ins_inc n r h2 ha.2⟩
      rcases (anc_ins_mem n r x).1 hx with rfl | hx
      · omega
      · exact h1 x hx
/-- What Add answers. -/
def anc_Add.e (l : List S35) (n : S35) : Int := if n.f1 < 0 ∨ n.f1 ≥ n.f2 ∨ n.f2 > 2048 then 1 else if l.any (fun x => decide (x.f0 = n.f0)) = true then 4 else if (l.length : Int) ≥ 200 then 2 else 0
def anc_Add.l (l : List S35) (n : S35) : List S35 := if anc_Add.e l n = 0 then anc_ins n l else l
theorem anc_zero (w : World) : (zeroValue 35).run Try.prog w = .ok (anc_V ⟨0, 0, 0⟩) w := Try.zeroValue35 w
/-- Blocks that are neither sets nor maps stay. -/
def anc_Keep (w w' : World) : Prop := ∀ (g : Nat) (cs : Array Value) (t : TypeId), t ≠ 46 → w.heap[g]? = some (.cells cs t (0, 0)) → w'.heap[g]? = some (.cells cs t (0, 0))
theorem anc_Keep.refl (w : World) : anc_Keep w w := fun _ _ _ _ h => h
theorem anc_Keep.of_below {w w' : World} (hb : Below w.heap.size w w') : anc_Keep w w' := fun _ _ _ _ h => blk_below h hb
theorem anc_Keep.trans {a b c : World} (h : anc_Keep a b) (k : anc_Keep b c) : anc_Keep a c := fun g cs t h1 h2 => k g cs t h1 (h g cs t h1 h2)
theorem anc_Keep.of_grown {w w' : World} {g n : Nat} {D : DataW Unit} (h : w.ownsMap Try.prog 3 anc_R g n D) (hg : w.grownBy w' (some g)) : anc_Keep w w' := fun k cs t _ hk => by
  obtain ⟨es, clock, h1, _⟩ := h
  refine (hg.block k (Array.getElem?_eq_some_iff.1 hk).1 (fun e => ?_)).trans hk
  rw [Option.some.inj e, h1] at hk
  cases hk
theorem anc_look {ops : Array Oper} {rest : List Oper} {o : Oper} {a : Act} {Q : Exit → Act → World → Prop} {w : World} (hg : o.guard = none) (m x : Operand) (hop : o.op = Op.lookup 44 m x true) (g : Nat) (l : List S35) (i : Int)
    (hm : a.eval m = .map (some g)) (hown : w.ownsMap Try.prog 3 anc_R g l.length (anc_D l)) (hx : a.eval x = .int .i64 i) (hid : (Lit.int .i64 i).wf = true) (q : Bool) (hq : l.any (fun x => decide (x.f0 = i)) = q)
    (hK : ∀ u0 u1 u2 : Int, wpList Try.prog ops Q rest (a.put o.dst (.tuple #[.agg #[.int .i64 u0, .int .i64 u1, .int .i64 u2], .bool q])) w) : wpList Try.prog ops Q (o :: rest) a w := by
  refine wpList_lookup_own_ok w hg m x 44 hop 3 35 anc_K Try.underlying44 anc_R (anc_zero _) _ [] (anc_R_mk ⟨0, 0, 0⟩) g l.length (anc_D l) hm hown _ _ hx (Maps.keyOf_int_mk Try.underlying3 hid) fun v ps hv => ?_
  obtain ⟨u, rfl, _⟩ := anc_R_inv hv
  rw [anc_has, hq]
  exact hK u.f0 u.f1 u.f2
theorem anc_len {ops : Array Oper} {rest : List Oper} {o : Oper} {a : Act} {Q : Exit → Act → World → Prop} {w : World} (hg : o.guard = none) (m : Operand) (hop : o.op = Op.call { callee := Callee.builtin Builtin.len, args := #[m], argTypes := #[44] }) (g : Nat) (l : List S35)
    (hm : a.eval m = .map (some g)) (hown : w.ownsMap Try.prog 3 anc_R g l.length (anc_D l)) (hK : wpList Try.prog ops Q rest (a.put o.dst (.int .i64 (l.length : Int))) w) : wpList Try.prog ops Q (o :: rest) a w := by
  refine wpList_len_own w hg m 44 hop 3 35 Try.underlying44 anc_R g l.length (anc_D l) hm hown ?_
  rw [anc_size]
  exact hK
theorem anc_M.put {B b : Nat} {l : List S35} {n : S35} {w W w2 : World} {g : Nat} (h : anc_M B b l w) (hb : Below w.heap.size w W) (hm : w.heap[b]? = some (.cells #[.map (some g)] 46 (0, 0))) (h3 : B ≤ g) (hlen : (l.length : Int) < 200) (hany : l.any (fun x => decide (x.f0 = n.f0)) = false)
    (hown : w2.ownsMap Try.prog 3 anc_R g (l.length + 1) ((anc_D l).put (.int .i64 n.f0) (anc_ent n).2)) (hown0 : W.ownsMap Try.prog 3 anc_R g l.length (anc_D l)) (ht : W.mapTurned w2 g) : anc_M B b (anc_ins n l) w2 := by
  rw [anc_put l n hany, ← anc_ins_len n l] at hown
  have hmW := blk_below hm hb
  refine ⟨⟨g, (ht.grown.block b (Array.getElem?_eq_some_iff.1 hmW).1 (fun e => ?_)).trans hmW, hown, h3⟩, h.base, by rw [anc_ins_len]; omega, anc_ins_inc n l h.inc hany⟩
  obtain ⟨es, clock, h1, _⟩ := hown0
  rw [Option.some.inj e, h1] at hmW
  cases hmW
set_option maxHeartbeats 8000000 in
set_option maxRecDepth 100000 in
theorem anc_Add.calls (B b : Nat) (l : List S35) (n : S35) (w0 w : World) (h : anc_M B b l w) (hB : Below B w0 w) (hBw : B ≤ w.heap.size) (hid : (Lit.int .i64 n.f0).wf = true) :
    Calls Try.prog 9 #[.pointer (some ⟨b, 0, none⟩), .int .i64 n.f0, .int .i64 n.f1, .int .i64 n.f2] w fun e w' => e = .returned (.int .i64 (anc_Add.e l n)) ∧ anc_M B b (anc_Add.l l n) w' ∧ Below B w0 w' ∧ anc_Keep w w' := by
  have hu46 := Try.underlying46
  have HM := Aside0.mk h
  have HBL := Aside0.mk hB
  have HBW := Aside0.mk hBw
  have HID := Aside0.mk hid
  have HSELF := Aside0.mk (Below.refl w.heap.size w)
  obtain ⟨⟨g, h1, h2, h3⟩, h4, h5, h6⟩ := h
  have hc : w.cell? ⟨b, 0, none⟩ = some (.map (some g)) := (blk_cell h1 0).trans rfl
  have HOWN := Aside0.mk h2
  have HL := Aside0.mk h5
  clear h2 h4 h6 hB hBw hid
  obtain ⟨n0, n1, n2⟩ := n
  simp only at HID ⊢
  have H1 := Aside0.mk (show w.heap[b]? = some (.cells #[.map (some g)] 46 (0, 0)) from h1)
  have H3 := Aside0.mk h3
  clear h1 h3
  have early : anc_Add.e l ⟨n0, n1, n2⟩ = 1 → Calls Try.prog 9 #[.pointer (some ⟨b, 0, none⟩), .int .i64 n0, .int .i64 n1, .int .i64 n2] w (fun e w' => e = .returned (.int .i64 1) ∧ w' = w) → Calls Try.prog 9 #[.pointer (some ⟨b, 0, none⟩), .int .i64 n0, .int .i64 n1, .int .i64 n2] w fun e w' => e = .returned (.int .i64 (anc_Add.e l ⟨n0, n1, n2⟩)) ∧ anc_M B b (anc_Add.l l ⟨n0, n1, n2⟩) w' ∧ Below B w0 w' ∧ anc_Keep w w' := fun he hc => hc.mono fun e w' ⟨h1, h2⟩ => by
    subst h2
    have : anc_Add.l l ⟨n0, n1, n2⟩ = l := by unfold anc_Add.l; rw [he, if_neg (by decide)]
    rw [he, this]
    exact ⟨h1, HM.out, HBL.out, anc_Keep.refl _⟩
  by_cases c1 : n1 < 0
  · refine early (by unfold anc_Add.e; rw [if_pos (.inl c1)]) ?_
    have d1 : decide (n1 < 0) = true := decide_eq_true c1
    clear early c1
    go_enter Try.func9, Try.ntmps9
    go_wp2_with ((with_reducible refine gate_callee (f := 20) rfl ?_); refine goesL_ (some 13) rfl rfl Try.func20 (by kernel_rfl) rfl #[.pointer (some ⟨b, 0, none⟩)] rfl (by (try simp only [List.map_toArray, List.map_cons, List.map_nil]); first | done | rfl) ?_; refine (anc_none.calls B b l w HM.out).mono ?_; rintro e w1 ⟨rfl, hw1⟩; obtain rfl := hw1.symm; refine ⟨_, rfl, ?_⟩)
    go_ret
    exact ⟨rfl, rfl⟩
  have d1 : decide (n1 < 0) = false := decide_eq_false c1
  by_cases c2 : n1 ≥ n2
  · refine early (by unfold anc_Add.e; rw [if_pos (.inr (.inl c2))]) ?_
    have d2 : decide (n2 ≤ n1) = true := decide_eq_true c2
    clear early c1 c2
    go_enter Try.func9, Try.ntmps9
    go_wp2_with ((with_reducible refine gate_callee (f := 20) rfl ?_); refine goesL_ (some 13) rfl rfl Try.func20 (by kernel_rfl) rfl #[.pointer (some ⟨b, 0, none⟩)] rfl (by (try simp only [List.map_toArray, List.map_cons, List.map_nil]); first | done | rfl) ?_; refine (anc_none.calls B b l w HM.out).mono ?_; rintro e w1 ⟨rfl, hw1⟩; obtain rfl := hw1.symm; refine ⟨_, rfl, ?_⟩)
    go_ret
    exact ⟨rfl, rfl⟩
  have d2 : decide (n2 ≤ n1) = false := decide_eq_false c2
  by_cases c3 : n2 > 2048
  · refine early (by unfold anc_Add.e; rw [if_pos (.inr (.inr c3))]) ?_
    have d3 : decide (2048 < n2) = true := decide_eq_true c3
    clear early c1 c2 c3
    go_enter Try.func9, Try.ntmps9
    go_wp2_with ((with_reducible refine gate_callee (f := 20) rfl ?_); refine goesL_ (some 13) rfl rfl Try.func20 (by kernel_rfl) rfl #[.pointer (some ⟨b, 0, none⟩)] rfl (by (try simp only [List.map_toArray, List.map_cons, List.map_nil]); first | done | rfl) ?_; refine (anc_none.calls B b l w HM.out).mono ?_; rintro e w1 ⟨rfl, hw1⟩; obtain rfl := hw1.symm; refine ⟨_, rfl, ?_⟩)
    go_ret
    exact ⟨rfl, rfl⟩
  have d3 : decide (2048 < n2) = false := decide_eq_false c3
  have c0 : ¬ (n1 < 0 ∨ n1 ≥ n2 ∨ n2 > 2048) := by omega
  clear early c1 c2 c3
  cases hany : l.any (fun x => decide (x.f0 = n0)) with
  | true =>
    have he : anc_Add.e l ⟨n0, n1, n2⟩ = 4 := by unfold anc_Add.e; rw [if_neg c0]; exact if_pos hany
    have hl : anc_Add.l l ⟨n0, n1, n2⟩ = l := by unfold anc_Add.l; rw [he, if_neg (by decide)]
    rw [he, hl]
    have HANY := Aside0.mk hany
    clear hany he hl c0
    go_enter Try.func9, Try.ntmps9
    go_wp2_with (first | ((with_reducible refine gate_callee (f := 20) rfl ?_); refine goesL_ (some 13) rfl rfl Try.func20 (by kernel_rfl) rfl #[.pointer (some ⟨b, 0, none⟩)] rfl (by (try simp only [List.map_toArray, List.map_cons, List.map_nil]); first | done | rfl) ?_; refine (anc_none.calls B b l w HM.out).mono ?_; rintro e w1 ⟨rfl, hw1⟩; obtain rfl := hw1.symm; refine ⟨_, rfl, ?_⟩) | (at_lookup; refine anc_look rfl _ _ rfl g l n0 rfl HOWN.out rfl HID.out true HANY.out ?_; intro u0 u1 u2) | ((with_reducible refine gate_dst (N := 9) rfl ?_); refine box_event ?hg (N := 9) ?hd (cs := #[.int .i64 0, .int .i64 0, .int .i64 0]) (t := 35) ?hr ?_; (case hd => rfl); (case hg => rfl); (case hr => first | (go_simp; done) | (go_simp; rfl)); intro g9 hg9 w3 hbox hb3; have HB3 := Aside0.mk hb3; have hc3 : w3.cell? ⟨b, 0, none⟩ = some (.map (some g)) := (blk_cell (blk_below H1.out hb3) 0).trans rfl; have hnb : b ≠ g9 := by { have := (Array.getElem?_eq_some_iff.1 H1.out).1; omega }; have hnc : g9 ≠ b := fun e => hnb e.symm; have GE := Aside0.mk (show w.heap.size ≤ g9 by omega); have HB4 := Aside0.mk (below_set (v := .int .i64 u2) (j := 2) (below_set (v := .int .i64 u1) (j := 1) (below_set (v := .int .i64 u0) (j := 0) HB3.out GE.out) GE.out) GE.out); have hz0 : w3.cell? ⟨g9, 0, none⟩ = some (.int .i64 0) := (blk_cell hbox 0).trans rfl; have hz1 : w3.cell? ⟨g9, 1, none⟩ = some (.int .i64 0) := (blk_cell hbox 1).trans rfl; have hz2 : w3.cell? ⟨g9, 2, none⟩ = some (.int .i64 0) := (blk_cell hbox 2).trans rfl; have hf0 : w3.frozen? ⟨g9, 0, none⟩ = false := blk_frozen hbox 0; have hf1 : w3.frozen? ⟨g9, 1, none⟩ = false := blk_frozen hbox 1; have hf2 : w3.frozen? ⟨g9, 2, none⟩ = false := blk_frozen hbox 2; clear hbox hb3 hg9 hc))
    go_ret
    exact ⟨rfl, HM.out.below HB4.out, below_then HBL.out HBW.out HB4.out, anc_Keep.of_below HB4.out⟩
  | false =>
    by_cases c4 : (l.length : Int) ≥ 200
    · have he : anc_Add.e l ⟨n0, n1, n2⟩ = 2 := by unfold anc_Add.e; rw [if_neg c0]; exact (if_neg (by rw [hany]; decide)).trans (if_pos c4)
      have hl : anc_Add.l l ⟨n0, n1, n2⟩ = l := by unfold anc_Add.l; rw [he, if_neg (by decide)]
      rw [he, hl]
      have d4 : decide (200 ≤ (l.length : Int)) = true := decide_eq_true c4
      have d5 : decide (200 ≤ l.length) = true := decide_eq_true (by omega)
      have HANY := Aside0.mk hany
      clear hany he hl c0 c4
      go_enter Try.func9, Try.ntmps9
      go_wp2_with (first | ((with_reducible refine gate_callee (f := 20) rfl ?_); refine goesL_ (some 13) rfl rfl Try.func20 (by kernel_rfl) rfl #[.pointer (some ⟨b, 0, none⟩)] rfl (by (try simp only [List.map_toArray, List.map_cons, List.map_nil]); first | done | rfl) ?_; refine (anc_none.calls B b l w HM.out).mono ?_; rintro e w1 ⟨rfl, hw1⟩; obtain rfl := hw1.symm; refine ⟨_, rfl, ?_⟩) | (at_lookup; refine anc_look rfl _ _ rfl g l n0 rfl HOWN.out rfl HID.out false HANY.out ?_; intro u0 u1 u2) | ((with_reducible refine gate_dst (N := 9) rfl ?_); refine box_event ?hg (N := 9) ?hd (cs := #[.int .i64 0, .int .i64 0, .int .i64 0]) (t := 35) ?hr ?_; (case hd => rfl); (case hg => rfl); (case hr => first | (go_simp; done) | (go_simp; rfl)); intro g9 hg9 w3 hbox hb3; have HB3 := Aside0.mk hb3; have hc3 : w3.cell? ⟨b, 0, none⟩ = some (.map (some g)) := (blk_cell (blk_below H1.out hb3) 0).trans rfl; have hnb : b ≠ g9 := by { have := (Array.getElem?_eq_some_iff.1 H1.out).1; omega }; have hnc : g9 ≠ b := fun e => hnb e.symm; have GE := Aside0.mk (show w.heap.size ≤ g9 by omega); have HB4 := Aside0.mk (below_set (v := .int .i64 u2) (j := 2) (below_set (v := .int .i64 u1) (j := 1) (below_set (v := .int .i64 u0) (j := 0) HB3.out GE.out) GE.out) GE.out); have hz0 : w3.cell? ⟨g9, 0, none⟩ = some (.int .i64 0) := (blk_cell hbox 0).trans rfl; have hz1 : w3.cell? ⟨g9, 1, none⟩ = some (.int .i64 0) := (blk_cell hbox 1).trans rfl; have hz2 : w3.cell? ⟨g9, 2, none⟩ = some (.int .i64 0) := (blk_cell hbox 2).trans rfl; have hf0 : w3.frozen? ⟨g9, 0, none⟩ = false := blk_frozen hbox 0; have hf1 : w3.frozen? ⟨g9, 1, none⟩ = false := blk_frozen hbox 1; have hf2 : w3.frozen? ⟨g9, 2, none⟩ = false := blk_frozen hbox 2; clear hbox hb3 hg9 hc) | (at_len; refine anc_len rfl _ rfl g l rfl (anc_owns_below HOWN.out HB4.out) ?_))
      go_ret
      exact ⟨rfl, HM.out.below HB4.out, below_then HBL.out HBW.out HB4.out, anc_Keep.of_below HB4.out⟩
    · have he : anc_Add.e l ⟨n0, n1, n2⟩ = 0 := by unfold anc_Add.e; rw [if_neg c0]; exact (if_neg (by rw [hany]; decide)).trans (if_neg c4)
      have hl : anc_Add.l l ⟨n0, n1, n2⟩ = anc_ins ⟨n0, n1, n2⟩ l := by unfold anc_Add.l; rw [he, if_pos rfl]
      rw [he, hl]
      have d4 : decide (200 ≤ (l.length : Int)) = false := decide_eq_false c4
      have d5 : decide (200 ≤ l.length) = false := decide_eq_false (by omega)
      have HANY := Aside0.mk hany
      have HLE := Aside0.mk (show (l.length : Int) < 200 by omega)
      have HMX := Aside0.mk (show l.length < maxLen from Nat.lt_trans (show l.length < 200 by omega) (by decide))
      clear hany he hl c0 c4
      go_enter Try.func9, Try.ntmps9
      go_wp2_with (first | ((with_reducible refine gate_callee (f := 20) rfl ?_); refine goesL_ (some 13) rfl rfl Try.func20 (by kernel_rfl) rfl #[.pointer (some ⟨b, 0, none⟩)] rfl (by (try simp only [List.map_toArray, List.map_cons, List.map_nil]); first | done | rfl) ?_; refine (anc_none.calls B b l w HM.out).mono ?_; rintro e w1 ⟨rfl, hw1⟩; obtain rfl := hw1.symm; refine ⟨_, rfl, ?_⟩) | (at_lookup; refine anc_look rfl _ _ rfl g l n0 rfl HOWN.out rfl HID.out false HANY.out ?_; intro u0 u1 u2) | ((with_reducible refine gate_dst (N := 9) rfl ?_); refine box_event ?hg (N := 9) ?hd (cs := #[.int .i64 0, .int .i64 0, .int .i64 0]) (t := 35) ?hr ?_; (case hd => rfl); (case hg => rfl); (case hr => first | (go_simp; done) | (go_simp; rfl)); intro g9 hg9 w3 hbox hb3; have HB3 := Aside0.mk hb3; have hc3 : w3.cell? ⟨b, 0, none⟩ = some (.map (some g)) := (blk_cell (blk_below H1.out hb3) 0).trans rfl; have hnb : b ≠ g9 := by { have := (Array.getElem?_eq_some_iff.1 H1.out).1; omega }; have hnc : g9 ≠ b := fun e => hnb e.symm; have GE := Aside0.mk (show w.heap.size ≤ g9 by omega); have HB4 := Aside0.mk (below_set (v := .int .i64 u2) (j := 2) (below_set (v := .int .i64 u1) (j := 1) (below_set (v := .int .i64 u0) (j := 0) HB3.out GE.out) GE.out) GE.out); have hz0 : w3.cell? ⟨g9, 0, none⟩ = some (.int .i64 0) := (blk_cell hbox 0).trans rfl; have hz1 : w3.cell? ⟨g9, 1, none⟩ = some (.int .i64 0) := (blk_cell hbox 1).trans rfl; have hz2 : w3.cell? ⟨g9, 2, none⟩ = some (.int .i64 0) := (blk_cell hbox 2).trans rfl; have hf0 : w3.frozen? ⟨g9, 0, none⟩ = false := blk_frozen hbox 0; have hf1 : w3.frozen? ⟨g9, 1, none⟩ = false := blk_frozen hbox 1; have hf2 : w3.frozen? ⟨g9, 2, none⟩ = false := blk_frozen hbox 2; clear hbox hb3 hg9 hc) | (at_len; refine anc_len rfl _ rfl g l rfl (anc_owns_below HOWN.out HB4.out) ?_) | (at_mapUpdate; refine wpList_mapUpdate_in _ rfl _ _ _ 44 rfl 3 35 anc_K Try.underlying44 anc_R g l.length (anc_D l) rfl (anc_owns_below HOWN.out HB4.out) HMX.out _ _ _ rfl rfl (Maps.keyOf_int_mk Try.underlying3 HID.out) _ [] (anc_R_mk ⟨n0, n1, n2⟩) ?_; intro w2 hown2 hturn2))
      go_ret
      have hb := HB4.out
      have hg := hturn2.grown
      exact ⟨rfl, HM.out.put hb H1.out H3.out HLE.out HANY.out hown2 (anc_owns_below HOWN.out hb) hturn2, (below_then HBL.out HBW.out hb).grown hg (Nat.le_trans HBW.out (below_size hb)) (fun j hj => by cases hj; exact H3.out), (anc_Keep.of_below hb).trans (anc_Keep.of_grown (anc_owns_below HOWN.out hb) hg)⟩

end Go.Proofs.Ytgafgkojbbndmaa.PAs
