-- Written for this claim by a program (the kit's print, with hand-made contracts for what it does not take).
import Derived.Test.YtcoolajjjnkfpaaPPdx0
import Derived.Test.YtcoolajjjnkfpaaPPdx1
namespace Go.Proofs.Ytcoolajjjnkfpaa.PPd
open Go.RowKit Go.Proofs.YtcoolajjjnkfpaaW.PrintWords Go.Proofs.YtcoolajjjnkfpaaW.PrintLast Go.Proofs.YtcoolajjjnkfpaaW.PrintMore
attribute [local go_sem] max2_int min2_int max_two min_two max_three min_three max_four min_four   -- for this text's walks alone
set_option linter.unusedVariables false
set_option linter.unusedSimpArgs false

/-! ### pos_each: function 30 -/
/-! ### A region that draws its order, inside a round of a range over a function: one walk of the text's order serves -/
section
variable {P : Program} {ops : Array Oper} {md : Region.Mode} {I : World → Prop} {t : Nat} {Q : Act → World → Prop}
/-- One operation: it yields a value (or none), calls nothing. -/
def RoundRegion.opJ (P : Program) (ops : Array Oper) (i : Nat) (K : Act → World → Prop) (a : Act) (w : World) : Prop :=
  match ops[i]? with
  | none => False
  | some o => if Region.wanted o (yielded ops a.tmps) = true then ∃ v w', ((execOp a.eval o).run P w = .ok (.value v) w' ∨ ((execOp a.eval o).run P w = .ok .skip w' ∧ v = undef)) ∧ K (a.put o.dst v) w' else K (a.put o.dst undef) w
theorem RoundRegion.opJ_mono {i : Nat} {K K' : Act → World → Prop} {a : Act} {w : World} (h : ∀ a w, K a w → K' a w) (hh : RoundRegion.opJ P ops i K a w) : RoundRegion.opJ P ops i K' a w := by
  unfold RoundRegion.opJ at *
  cases ho : ops[i]? with
  | none => rw [ho] at hh; exact hh
  | some o =>
    simp only [ho] at hh ⊢
    split
    · rename_i hw
      rw [if_pos hw] at hh
      obtain ⟨v, w', h1, h2⟩ := hh
      exact ⟨v, w', h1, h _ _ h2⟩
    · rename_i hw
      rw [if_neg hw] at hh
      exact h _ _ hh
/-- All orders; but for the operation number t the worlds stay in the class I. -/
def RoundRegion.anyJ (P : Program) (md : Region.Mode) (ops : Array Oper) (I : World → Prop) (t : Nat) (Q : Act → World → Prop) : Nat → Array Bool → Act → World → Prop
  | 0, listed, a, w => Region.ready md ops listed = [] ∧ Q a w
  | fuel + 1, listed, a, w => (Region.ready md ops listed = [] → Q a w) ∧ ∀ i ∈ Region.ready md ops listed, RoundRegion.opJ P ops i (fun a' w' => (i = t ∨ I w') ∧ RoundRegion.anyJ P md ops I t Q fuel (listed.setIfInBounds i true) a' w') a w
def RoundRegion.noDefer (ops : Array Oper) : Bool := ops.all fun o => match o.op with | .defer _ => false | _ => true
theorem RoundRegion.noDefer_spec (h : RoundRegion.noDefer ops = true) (j : Nat) (o : Oper) (ho : ops[j]? = some o) (c : Call) : o.op ≠ .defer c := by
  intro heq
  have := Array.all_eq_true_iff_forall_mem.1 h o (Array.mem_of_getElem? ho)
  simp [heq] at this
theorem RoundRegion.sound {l n : Nat} {Q' : Exit → Act → World → Prop} (hnd : RoundRegion.noDefer ops = true) (hQ : ∀ a w, Q a w → Q' .normal a w) : ∀ (fuel : Nat) (listed : Array Bool) (a : Act) (w : World),
    RoundRegion.anyJ P md ops I t Q fuel listed a w → wpAnyIn (Fence.wide.inRound l) n P md ops Q' fuel listed a w
  | 0, _, _, _, h => ⟨h.1, hQ _ _ h.2⟩
  | fuel + 1, listed, a, w, h => by
    refine ⟨fun h0 => hQ _ _ (h.1 h0), fun i hi => ?_⟩
    have h1 := h.2 i hi
    unfold RoundRegion.opJ at h1
    unfold wpOpIn
    cases ho : ops[i]? with
    | none => rw [ho] at h1; exact h1.elim
    | some o =>
      simp only [ho] at h1 ⊢
      split
      · rename_i hw
        rw [if_pos hw] at h1
        obtain ⟨v, w', h2, h3⟩ := h1
        unfold Oper.wpIn
        refine ⟨fun _ _ => trivial, ?_⟩
        rw [Oper.semAt_plain _ _ _ (RoundRegion.noDefer_spec hnd i o ho)]
        rcases h2 with h2 | ⟨h2, rfl⟩
        · rw [h2]; exact RoundRegion.sound hnd hQ fuel _ _ _ h3.2
        · rw [h2]; exact RoundRegion.sound hnd hQ fuel _ _ _ h3.2
      · rename_i hw
        rw [if_neg hw] at h1
        exact ⟨fun _ _ => trivial, RoundRegion.sound hnd hQ fuel _ _ _ h1.2⟩
/-- It yields v in every world of the class, and leaves the world. -/
def RoundRegion.YieldsI (P : Program) (ops : Array Oper) (I : World → Prop) (o : Oper) (v : Value) (a : Act) : Prop :=
  (Region.wanted o (yielded ops a.tmps) = true ∧ ∀ w, I w → (execOp a.eval o).run P w = .ok (.value v) w) ∨ (Region.wanted o (yielded ops a.tmps) = false ∧ v = undef)
theorem RoundRegion.YieldsI.of_same {o : Oper} {v : Value} {a a' : Act} (hy : RoundRegion.YieldsI P ops I o v a) (he : execOp a'.eval o = execOp a.eval o)
    (hw : Region.wanted o (yielded ops a'.tmps) = Region.wanted o (yielded ops a.tmps)) : RoundRegion.YieldsI P ops I o v a' := by
  unfold RoundRegion.YieldsI at *
  rw [he, hw]
  exact hy
theorem RoundRegion.YieldsI.opJ {i : Nat} {o : Oper} {v : Value} {a : Act} (hi : ops[i]? = some o) (hy : RoundRegion.YieldsI P ops I o v a) {K : Act → World → Prop} {w : World} (hw : I w) (h : K (a.put o.dst v) w) : RoundRegion.opJ P ops i K a w := by
  unfold RoundRegion.opJ
  simp only [hi]
  rcases hy with ⟨h1, h2⟩ | ⟨h1, rfl⟩
  · rw [if_pos h1]
    exact ⟨v, w, .inl (h2 w hw), h⟩
  · rw [if_neg (by rw [h1]; exact Bool.false_ne_true)]
    exact h
theorem RoundRegion.opJ_put {j : Nat} {oi oj : Oper} {v : Value} (hj : ops[j]? = some oj) (hap : oi.apart ops oj = true) (hsi : ∀ cs b, oi.op ≠ .select cs b) (hsj : ∀ cs b, oj.op ≠ .select cs b)
    {K : Act → World → Prop} {a : Act} {w : World} (hy : RoundRegion.YieldsI P ops I oi v a) (h : RoundRegion.opJ P ops j K (a.put oi.dst v) w) :
    RoundRegion.opJ P ops j (fun a' w' => RoundRegion.YieldsI P ops I oi v a' ∧ K (a'.put oi.dst v) w') a w := by
  obtain ⟨h1, h2, h3⟩ := Oper.apart_spec hap
  have keep : ∀ u, RoundRegion.YieldsI P ops I oi v (a.put oj.dst u) := fun u => hy.of_same (execOp_put oi hsi a oj.dst u h3) (wanted_put oi a oj.dst u h3)
  unfold RoundRegion.opJ at *
  simp only [hj] at *
  rw [wanted_put oj a oi.dst v h1] at h
  split
  · rename_i hw
    rw [if_pos hw] at h
    obtain ⟨u, w', hr, hK⟩ := h
    rw [execOp_put oj hsj a oi.dst v h1] at hr
    exact ⟨u, w', hr, keep u, by rw [← Act.put_comm a v u h2]; exact hK⟩
  · rename_i hw
    rw [if_neg hw] at h
    exact ⟨keep undef, by rw [← Act.put_comm a v undef h2]; exact h⟩
/-- What yields in the whole class may be taken RoundRegion.first; the operation number t RoundRegion.waits for it. -/
theorem RoundRegion.first {i : Nat} {oi : Oper} {v : Value} (hi : ops[i]? = some oi) (hsel : ∀ (j : Nat) (o : Oper) cs b, ops[j]? = some o → o.op ≠ .select cs b)
    (ht : ∀ ot, ops[t]? = some ot → ∃ e ∈ ot.after, Region.binds md e = true ∧ e.on = i) :
    ∀ (fuel : Nat) (listed : Array Bool) (a : Act) (w : World),
      (∀ j oj, ops[j]? = some oj → j ≠ i → listed.getD j true = false → (∀ e ∈ oj.after, Region.binds md e = true → e.on ≠ i) → oi.apart ops oj = true) →
      i ∈ Region.ready md ops listed → RoundRegion.YieldsI P ops I oi v a → I w →
      RoundRegion.anyJ P md ops I t Q fuel (listed.setIfInBounds i true) (a.put oi.dst v) w → RoundRegion.anyJ P md ops I t Q (fuel + 1) listed a w := by
  intro fuel
  induction fuel with
  | zero =>
    intro listed a w _ hr hy hI H
    refine ⟨fun h => (by rw [h] at hr; cases hr), fun j hj => ?_⟩
    by_cases hji : j = i
    · subst hji; exact hy.opJ hi hI ⟨.inr hI, H⟩
    · have := ready_mono hj hji
      rw [H.1] at this
      cases this
  | succ fuel ih =>
    intro listed a w hfree hr hy hI H
    refine ⟨fun h => (by rw [h] at hr; cases hr), fun j hj => ?_⟩
    by_cases hji : j = i
    · subst hji; exact hy.opJ hi hI ⟨.inr hI, H⟩
    · have h1 := H.2 j (ready_mono hj hji)
      obtain ⟨hjun, oj, hoj, hall⟩ := mem_ready.1 hj
      have hnot : ∀ e ∈ oj.after, Region.binds md e = true → e.on ≠ i := fun e he hb heq => by
        have h1 := hall e he hb
        have h0 := (mem_ready.1 hr).1
        rw [heq] at h1
        rcases Nat.lt_or_ge i listed.size with h' | h'
        · simp [h'] at h0 h1; rw [h0] at h1; cases h1
        · simp [Array.getElem?_eq_none h'] at h1
      have hjt : j ≠ t := fun e => by
        subst e
        obtain ⟨e, he, hb, hon⟩ := ht oj hoj
        exact hnot e he hb hon
      have h2 := RoundRegion.opJ_put hoj (hfree j oj hoj hji hjun hnot) (fun cs b => hsel i oi cs b hi) (fun cs b => hsel j oj cs b hoj) hy h1
      refine RoundRegion.opJ_mono (fun a' w' h3 => ?_) h2
      obtain ⟨hy', hI', H'⟩ := h3
      have hIw : I w' := hI'.resolve_left hjt
      refine ⟨.inr hIw, ih (listed.setIfInBounds j true) a' w' (fun k ok hk hki hun hno => ?_) (ready_mono hr (Ne.symm hji)) hy' hIw ?_⟩
      · refine hfree k ok hk hki ?_ hno
        by_cases hjk : j = k
        · subst hjk; exact hjun
        · rw [getD_set_ne true hjk] at hun; exact hun
      · rw [Array.setIfInBounds_comm _ _ hji]
        exact H'
/-- The RoundRegion.forced operations, in the text's order. -/
def RoundRegion.go (P : Program) (ops : Array Oper) (I : World → Prop) (Q : Act → World → Prop) : List Oper → Act → World → Prop
  | [], a, w => Q a w
  | o :: l, a, w => if Region.wanted o (yielded ops a.tmps) = true then ∃ v w', ((execOp a.eval o).run P w = .ok (.value v) w' ∨ ((execOp a.eval o).run P w = .ok .skip w' ∧ v = undef)) ∧ (l = [] ∨ I w') ∧ RoundRegion.go P ops I Q l (a.put o.dst v) w' else (l = [] ∨ I w) ∧ RoundRegion.go P ops I Q l (a.put o.dst undef) w
/-- The RoundRegion.walk: the text's order; 'head' operations yield in the whole class, the others are RoundRegion.forced. -/
def RoundRegion.walk (P : Program) (ops : Array Oper) (I : World → Prop) (Q : Act → World → Prop) (w : World) : Nat → List Oper → Act → Prop
  | 0, l, a => RoundRegion.go P ops I Q l a w
  | _ + 1, [], a => I w ∧ Q a w
  | m + 1, o :: l, a => ∃ v, RoundRegion.YieldsI P ops I o v a ∧ RoundRegion.walk P ops I Q w m l (a.put o.dst v)
def RoundRegion.forced (md : Region.Mode) (ops : Array Oper) : Nat → Nat → Array Bool → Bool
  | 0, _, listed => (Region.ready md ops listed).isEmpty
  | g + 1, k, listed => decide (Region.ready md ops listed = [k]) && RoundRegion.forced md ops g (k + 1) (listed.setIfInBounds k true)
def RoundRegion.waits (md : Region.Mode) (ops : Array Oper) (t i : Nat) : Bool :=
  match ops[t]? with
  | none => true
  | some o => o.after.any fun e => Region.binds md e && e.on == i
theorem RoundRegion.waits_spec {i : Nat} (h : RoundRegion.waits md ops t i = true) (ot : Oper) (ho : ops[t]? = some ot) : ∃ e ∈ ot.after, Region.binds md e = true ∧ e.on = i := by
  unfold RoundRegion.waits at h
  rw [ho] at h
  obtain ⟨e, he, hb⟩ := Array.any_eq_true'.1 h
  simp only [Bool.and_eq_true, beq_iff_eq] at hb
  exact ⟨e, he, hb.1, hb.2⟩
def RoundRegion.heads (md : Region.Mode) (ops : Array Oper) (t g : Nat) : Nat → Nat → Array Bool → Bool
  | 0, k, listed => RoundRegion.forced md ops g k listed
  | m + 1, k, listed => (Region.ready md ops listed).contains k && Region.free md ops listed k && RoundRegion.waits md ops t k && RoundRegion.heads md ops t g m (k + 1) (listed.setIfInBounds k true)
/-- What the kernel reckons: m RoundRegion.heads; the last operation RoundRegion.waits for them all. -/
def RoundRegion.check (md : Region.Mode) (ops : Array Oper) (m : Nat) : Bool := RoundRegion.noDefer ops && Region.noSelect ops && decide (m ≤ ops.size) && RoundRegion.heads md ops (if m = ops.size then ops.size else ops.size - 1) (ops.size - m) m 0 (Array.replicate ops.size false)
theorem RoundRegion.any_of_forced : ∀ (l : List Oper) (k : Nat) (listed : Array Bool) (a : Act) (w : World), (∀ j, l[j]? = ops[k + j]?) → (l = [] ∨ k + l.length = t + 1) → RoundRegion.forced md ops l.length k listed = true → RoundRegion.go P ops I Q l a w →
    RoundRegion.anyJ P md ops I t Q l.length listed a w
  | [], k, listed, a, w, _, _, hB, h => ⟨by simpa [RoundRegion.forced] using hB, h⟩
  | o :: l, k, listed, a, w, hl, hk, hB, h => by
    have h0 : ops[k]? = some o := by simpa using (hl 0).symm
    simp only [List.length_cons, RoundRegion.forced, Bool.and_eq_true, decide_eq_true_eq] at hB
    have hk' : k + (l.length + 1) = t + 1 := by
      rcases hk with h | h
      · cases h
      · simpa using h
    refine ⟨fun h1 => (by rw [hB.1] at h1; cases h1), fun i hi => ?_⟩
    rw [hB.1] at hi
    have hik : i = k := by simpa using hi
    subst hik
    have ih := fun a w => RoundRegion.any_of_forced l (i + 1) (listed.setIfInBounds i true) a w (fun j => by have := hl (j + 1); simpa [Nat.add_assoc, Nat.add_comm 1 j] using this) (by by_cases e : l = []; exact .inl e; exact .inr (by omega)) hB.2
    have hlast : ∀ w' : World, (l = [] ∨ I w') → (i = t ∨ I w') := fun w' h => by
      rcases h with rfl | h
      · exact .inl (by simp at hk'; omega)
      · exact .inr h
    unfold RoundRegion.go at h
    unfold RoundRegion.opJ
    simp only [h0]
    split
    · rename_i hw
      rw [if_pos hw] at h
      obtain ⟨v, w', hr, hI, hg⟩ := h
      exact ⟨v, w', hr, hlast _ hI, ih _ _ hg⟩
    · rename_i hw
      rw [if_neg hw] at h
      exact ⟨hlast _ h.1, ih _ _ h.2⟩
theorem RoundRegion.any_of_heads (hsel : Region.noSelect ops = true) {w : World} (hI : I w) : ∀ (m : Nat) (l : List Oper) (k : Nat) (listed : Array Bool) (a : Act), m ≤ l.length → (∀ j, l[j]? = ops[k + j]?) → (l.length = m ∨ k + l.length = t + 1) →
    RoundRegion.heads md ops t (l.length - m) m k listed = true → RoundRegion.walk P ops I Q w m l a → RoundRegion.anyJ P md ops I t Q l.length listed a w
  | 0, l, k, listed, a, _, hl, hk, hB, h => RoundRegion.any_of_forced l k listed a w hl (by rcases hk with h | h; exact .inl (List.length_eq_zero_iff.1 h); exact .inr h) (by simpa [RoundRegion.heads] using hB) h
  | m + 1, [], _, _, _, hm, _, _, _, _ => by simp at hm
  | m + 1, o :: l, k, listed, a, hm, hl, hk, hB, h => by
    have h0 : ops[k]? = some o := by simpa using (hl 0).symm
    simp only [RoundRegion.heads, Bool.and_eq_true] at hB
    obtain ⟨⟨⟨hr, hf⟩, hwt⟩, hB'⟩ := hB
    obtain ⟨v, hy, hK⟩ := h
    have hlen : (o :: l).length - (m + 1) = l.length - m := by simp
    rw [hlen] at hB'
    exact RoundRegion.first h0 (Region.noSelect_spec hsel) (RoundRegion.waits_spec hwt) l.length listed a w (Region.free_spec h0 hf) (by simpa using hr) hy hI
      (RoundRegion.any_of_heads hsel hI m l (k + 1) _ _ (by simp at hm; omega) (fun j => by have := hl (j + 1); simpa [Nat.add_assoc, Nat.add_comm 1 j] using this) (by rcases hk with h | h; exact .inl (by simpa using h); exact .inr (by simp at h; omega)) hB' hK)
/-- THE RULE. -/
theorem RoundRegion.rule {l n id : Nat} {L : List Oper} {Q' : Exit → Act → World → Prop} {a : Act} {w : World} (m : Nat) (hm : P.follows .mixedOrders = true) (hB : RoundRegion.check .any L.toArray m = true) (I : World → Prop) (hI : I w.drew)
    (h : RoundRegion.walk P L.toArray I (fun a w => Q' .normal a w) w.drew m L a) : (Code.region id L.toArray true).wpIn (Fence.wide.inRound l) n P Q' a w := by
  simp only [RoundRegion.check, Bool.and_eq_true, decide_eq_true_eq, List.size_toArray] at hB
  obtain ⟨⟨⟨hnd, hsel⟩, hle⟩, hh⟩ := hB
  refine wpIn_region_any hm ?_
  change wpAnyIn _ _ _ _ _ _ _ _ _ w.drew
  rw [List.size_toArray]
  refine RoundRegion.sound (I := I) (t := if m = L.length then L.length else L.length - 1) (Q := fun a w => Q' .normal a w) hnd (fun _ _ h => h) _ _ _ _ (RoundRegion.any_of_heads hsel hI m L 0 _ a hle (by simp) ?_ hh h)
  by_cases e : m = L.length
  · exact .inl e.symm
  · rw [if_neg e]; exact .inr (by omega)
theorem RoundRegion.step {L : Array Oper} {w : World} {m : Nat} {o : Oper} {l : List Oper} {a : Act} (v : Value) (hw : Region.wanted o (yielded L a.tmps) = true) (h1 : ∀ w', I w' → (execOp a.eval o).run P w' = .ok (.value v) w') (h2 : RoundRegion.walk P L I Q w m l (a.put o.dst v)) : RoundRegion.walk P L I Q w (m + 1) (o :: l) a := ⟨v, .inl ⟨hw, h1⟩, h2⟩
theorem RoundRegion.skip {L : Array Oper} {w : World} {m : Nat} {o : Oper} {l : List Oper} {a : Act} (hw : Region.wanted o (yielded L a.tmps) = false) (h2 : RoundRegion.walk P L I Q w m l (a.put o.dst undef)) : RoundRegion.walk P L I Q w (m + 1) (o :: l) a := ⟨undef, .inr ⟨hw, rfl⟩, h2⟩
theorem RoundRegion.go_val {w : World} {o : Oper} {l : List Oper} {a : Act} (v : Value) (w' : World) (hw : Region.wanted o (yielded ops a.tmps) = true) (hr : (execOp a.eval o).run P w = .ok (.value v) w') (hI : l = [] ∨ I w') (h : RoundRegion.go P ops I Q l (a.put o.dst v) w') : RoundRegion.go P ops I Q (o :: l) a w := by
  unfold RoundRegion.go
  rw [if_pos hw]
  exact ⟨v, w', .inl hr, hI, h⟩
theorem RoundRegion.go_none {w : World} {o : Oper} {l : List Oper} {a : Act} (w' : World) (hw : Region.wanted o (yielded ops a.tmps) = true) (hr : (execOp a.eval o).run P w = .ok .skip w') (hI : l = [] ∨ I w') (h : RoundRegion.go P ops I Q l (a.put o.dst undef) w') : RoundRegion.go P ops I Q (o :: l) a w := by
  unfold RoundRegion.go
  rw [if_pos hw]
  exact ⟨undef, w', .inr ⟨hr, rfl⟩, hI, h⟩
theorem RoundRegion.walk_tail {w : World} {l : List Oper} {a : Act} (h : RoundRegion.go P ops I Q l a w) : RoundRegion.walk P ops I Q w 0 l a := by
  unfold RoundRegion.walk
  exact h
theorem RoundRegion.walk_done {w : World} {a : Act} (m : Nat) (h : I w) (h2 : Q a w) : RoundRegion.walk P ops I Q w (m + 1) [] a := ⟨h, h2⟩
end
/-- append onto a row of the call's own, as a forced operation. -/
theorem RoundRegion.go_append {P : Program} {ops : Array Oper} {I : World → Prop} {Q : Act → World → Prop} {α : Type} (d : Kd α) {o : Oper} {l : List Oper} {a : Act} {w0 W : World} (base : Nat) (hw : Region.wanted o (yielded ops a.tmps) = true) (s x : Operand) (t e : TypeId) (z : Value) (bytes : Nat)
    (ho : o.op = .call { callee := .builtin .append, args := #[s, x], argTypes := #[t, t] })
    (ht : P.underlying t = some (.slice e)) (hinfo : (P.info? e).map (fun i => (i.zero, i.size, i.bytes)) = some (some z, d.sz, bytes)) (hz : z.cells.size = d.sz) (hs0 : 0 < d.sz) (hb0 : 0 < bytes)
    (v : Value) (xs : List α) (p : α) (cs : List Value) (ok okp : Nat → Prop) (hs : a.eval s = v) (hx : a.eval x = .slice (some ⟨W.heap.size, 0, none⟩) 1 1) (hp : d.M W base okp p cs) (hokp : ∀ k, okp k → ok k ∧ some k ≠ v.ownBlock) (hfresh : ∀ k, W.heap.size ≤ k → ok k)
    (HO : d.R e W base ok v xs) (HB : Below base w0 W) (hbase : base ≤ W.heap.size) (hl : (xs.length + 1) * bytes ≤ 140737488355328)
    (h : ∀ v1 w1, d.R e w1 base ok v1 (xs ++ [p]) → Below base w0 w1 → W.grownBy w1 v.ownBlock → (v1.ownBlock = v.ownBlock ∨ ∃ b, v1.ownBlock = some b ∧ W.heap.size ≤ b) → (l = [] ∨ I w1) ∧ RoundRegion.go P ops I Q l (a.put o.dst v1) w1) :
    RoundRegion.go P ops I Q (o :: l) a (W.alloc (.cells cs.toArray e)) := by
  obtain ⟨h0, inner, hown, hr⟩ := HO
  obtain ⟨i0, hi, hzz⟩ := Option.map_eq_some_iff.1 hinfo
  simp only [Prod.mk.injEq] at hzz
  obtain ⟨hz0, hz1, hz2⟩ := hzz
  have hlen : xs.length + 1 ≤ 140737488355328 := Nat.le_trans (Nat.le_mul_of_pos_right _ hb0) hl
  have hcs : cs.length = d.sz := d.K_len (d.K_of_M hp)
  obtain ⟨v1, w1, hrun, hown1, hg, _, hat⟩ := run_append_own_at (P := P) (W.alloc (.cells cs.toArray e)) base t o.type e i0 z d.sz bytes ht hi hz0 hz1 hz2 hz hs0 v xs.length inner (hown.alloc _) ⟨W.heap.size, 0, none⟩ 1 1 cs (by rw [hcs]; simp)
    (by simpa using World.news_of_block (cs := cs.toArray) (t := e) (fr := (0, 0)) (heap_alloc_new W (.cells cs.toArray e))) (d.K_one (d.K_of_M hp)) (by simp only [maxLen]; omega) hl (by simp; omega)
  have hat' : v1.ownBlock = v.ownBlock ∨ ∃ b, v1.ownBlock = some b ∧ W.heap.size ≤ b := by
    rcases hat with hat | hat
    · exact .inl hat
    · exact .inr ⟨_, hat, by simp⟩
  have hg1 : W.grownBy w1 v.ownBlock := World.grownBy.trans (World.grownBy_alloc W _ _) hg
  unfold RoundRegion.go
  rw [if_pos hw]
  refine ⟨v1, w1, .inl ?_, h v1 w1 (Kd.R_appended h0 hr hp hokp hfresh hown1 hg1 hat') ((HB.alloc hbase _).grown hg (by simp; omega) (own_base hown)) hg1 hat'⟩
  unfold execOp
  simp only [ho, resolve, invoke, builtin, Sem.run_bind, Sem.run_pure, Result.andThen_ok, List.map_toArray, List.map_cons, List.map_nil, hs, hx, hrun]

section
attribute [local go_sem] Oper.semAt_some
/-- How far the ranges ahead of number k have moved what lies behind them. -/
def pos_each.sh (zs : List S37) (k : Nat) : Int := ((zs.take k).map fun r => r.f2 - r.f1).sum
/-- Where range number i stands behind the change. -/
def pos_each.beg (zs : List S37) (i : Nat) : Int := (rd_T37 zs (i : Int)).f0 + pos_each.sh zs i
abbrev pos_each.encs (zs : List S37) (x : Fin zs.length) : Array Value := #[Value.int .i64 ((x.val : Nat) : Int), Value.int .i64 (pos_each.beg zs x.val)]
def pos_each.upto (zs : List S37) (k : Nat) : List (Fin zs.length) := (List.finRange zs.length).take k
theorem pos_each.upto_succ (zs : List S37) (k : Nat) (h : k < zs.length) : pos_each.upto zs (k + 1) = pos_each.upto zs k ++ [⟨k, h⟩] := by
  unfold pos_each.upto
  rw [List.take_succ_eq_append_getElem (by simpa using h)]
  simp
theorem pos_each.upto_length (zs : List S37) (k : Nat) (h : k ≤ zs.length) : (pos_each.upto zs k).length = k := by simp [pos_each.upto]; omega
theorem pos_each.upto_all (zs : List S37) : pos_each.upto zs zs.length = List.finRange zs.length := by unfold pos_each.upto; rw [List.take_of_length_le (by simp)]
theorem pos_each.upto_rest (zs : List S37) (k : Nat) : ∃ rest, pos_each.upto zs k ++ rest = List.finRange zs.length := ⟨(List.finRange zs.length).drop k, List.take_append_drop k _⟩
theorem pos_each.sh_zero (zs : List S37) : pos_each.sh zs 0 = 0 := rfl
theorem pos_each.sh_succ (zs : List S37) (i : Int) (h : i.toNat < zs.length) : pos_each.sh zs (i.toNat + 1) = pos_each.sh zs i.toNat + ((rd_T37 zs i).f2 - (rd_T37 zs i).f1) := by
  have e : rd_T37 zs i = zs[i.toNat] := by simp [rd_T37, List.getD_eq_getElem?_getD, List.getElem?_eq_getElem h]
  unfold pos_each.sh
  rw [List.take_succ_eq_append_getElem h, List.map_append, List.sum_append, e]
  simp
/-- A map that is right is small. -/
def pos_each.Ok (zs : List S37) : Prop := zs.length ≤ 4 ∧ ∀ r ∈ zs, (0 ≤ r.f0 ∧ r.f0 ≤ 65536) ∧ (0 ≤ r.f1 ∧ r.f1 ≤ 65536) ∧ (0 ≤ r.f2 ∧ r.f2 ≤ 65536)
theorem pos_each.Ok.get {zs : List S37} (h : pos_each.Ok zs) (i : Int) (hi : i.toNat < zs.length) : (0 ≤ (rd_T37 zs i).f0 ∧ (rd_T37 zs i).f0 ≤ 65536) ∧ (0 ≤ (rd_T37 zs i).f1 ∧ (rd_T37 zs i).f1 ≤ 65536) ∧ (0 ≤ (rd_T37 zs i).f2 ∧ (rd_T37 zs i).f2 ≤ 65536) := by
  have e : rd_T37 zs i = zs[i.toNat] := by simp [rd_T37, List.getD_eq_getElem?_getD, List.getElem?_eq_getElem hi]
  rw [e]
  exact h.2 _ (List.getElem_mem hi)
theorem pos_each.sh_bound {zs : List S37} (h : pos_each.Ok zs) : ∀ k : Nat, k ≤ zs.length → -65536 * (k : Int) ≤ pos_each.sh zs k ∧ pos_each.sh zs k ≤ 65536 * (k : Int)
  | 0, _ => by rw [pos_each.sh_zero]; omega
  | k + 1, hk => by
    have ih := pos_each.sh_bound h k (by omega)
    have hg := h.get (k : Int) (by omega)
    have hs := pos_each.sh_succ zs (k : Int) (by omega)
    rw [Int.toNat_natCast] at hs
    rw [hs]
    omega
/-- What a round of the caller's may do: blocks below n₀ stay, and all cells but the caller's own ones. -/
structure pos_each.Keeps (n₀ : Nat) (Own : World → Nat → Prop) (A B : World) : Prop where
  below : Below n₀ A B
  size : A.heap.size ≤ B.heap.size
  same : ∀ k cs t fr, A.heap[k]? = some (.cells cs t fr) → ¬ Own A k → B.heap[k]? = some (.cells cs t fr)
  valid : (∀ k, Own A k → k < A.heap.size) → ∀ k, Own B k → k < B.heap.size
  fresh : ∀ k, Own B k → Own A k ∨ A.heap.size ≤ k
theorem pos_each.Keeps.trans {n₀ : Nat} {Own : World → Nat → Prop} {A B C : World} (h : pos_each.Keeps n₀ Own A B) (k : pos_each.Keeps n₀ Own B C) : pos_each.Keeps n₀ Own A C :=
  ⟨h.below.trans k.below, Nat.le_trans h.size k.size, fun j cs t fr hj ho => k.same j cs t fr (h.same j cs t fr hj ho) (fun hb => (h.fresh j hb).elim ho (fun hl => by have := (Array.getElem?_eq_some_iff.1 hj).1; omega)),
    fun hv => k.valid (h.valid hv), fun j hj => (k.fresh j hj).elim (fun hb => h.fresh j hb) (fun hl => .inr (Nat.le_trans h.size hl))⟩
theorem pos_each.Keeps.putObj {n₀ m : Nat} {Own : World → Nat → Prop} (hloc : ∀ A B : World, (∀ k, k < m → B.heap[k]? = A.heap[k]?) → ∀ k, Own B k → Own A k) {w : World} (hn : n₀ ≤ w.heap.size) (hm : m ≤ w.heap.size) (W : World) (l : Nat) (o o' : Obj) (hl : w.heap.size ≤ l) (h : W.heap[l]? = some o) (hc : o.isCells = false) (hw : o.isWalk = false) : pos_each.Keeps n₀ Own W (W.putObj l o') := by
  have hne : ∀ k, k ≠ l → (W.putObj l o').heap[k]? = W.heap[k]? := fun k hk => World.putObj_heap_other hk
  have hO : ∀ k, Own (W.putObj l o') k → Own W k := hloc _ _ (fun k hk => hne k (by omega))
  have hs : W.heap.size ≤ (W.putObj l o').heap.size := (grownBy_putObj' W l o').size
  refine ⟨belowK_b hn W l o o' hl h hc hw, hs, fun k cs t fr hk _ => ?_, fun hv k hk => Nat.lt_of_lt_of_le (hv k (hO k hk)) hs, fun k hk => .inl (hO k hk)⟩
  rw [hne k ?_]
  · exact hk
  · rintro rfl
    rw [h] at hk
    obtain rfl := Option.some.inj hk
    cases hc
/-- 'each' boxes its slice and hands back a function value. -/
theorem pos_each.calls_in (F : Fence) (n : Nat) (hE : F.fn 30) (hro : F.round = none) (a : Option Addr) (len cap : Nat) (w : World) :
    CallsIn F n Try.prog 30 #[.slice a len cap] w fun e w' => e = .returned (.func (.func 34) #[] #[.pointer (some ⟨w.heap.size, 0, none⟩)]) ∧ w' = w.alloc (.cells #[.slice a len cap] 22) := by
  refine callsIn_of_wp Try.func30 rfl hE ?_ hro
  simp only [Try.ntmps30, List.size_toArray, List.length_cons, List.length_nil, Nat.reduceAdd, Nat.reduceSub, Array.replicate_succ, Array.replicate_zero, List.push_toArray, List.append_toArray, List.nil_append, List.cons_append]
  gi_wp2
  go_ret
  exact ⟨rfl, rfl⟩
set_option maxRecDepth 100000 in
set_option maxHeartbeats 2000000 in
/-- The function value of 'each': for whatever loop body that keeps its word. -/
theorem pos_each.one_in (F : Fence) (n : Nat) (hC : F.fn 34) (hro : F.round = none) (hn : 1 ≤ n) (l Bs m : Nat) (A0 : Option Addr) (c0 : Nat) (zs : List S37) (hok : pos_each.Ok zs) (w : World) (hr0 : Kd.C k37 w A0 zs.length zs)
    (Own : World → Nat → Prop) (hloc : ∀ A B : World, (∀ k, k < m → B.heap[k]? = A.heap[k]?) → ∀ k, Own B k → Own A k) (J Jx : List (Fin zs.length) → World → Prop) (W : World) (hJ : AbidesFrom W.heap.size J)
    (hY : ∀ pre x W1, J pre W1 → pre.length < zs.length → YieldAt F (n - 1) Try.prog l (pos_each.encs zs x) W1 fun e W' => (e = .returned (.bool true) ∧ J (pre ++ [x]) W' ∧ pos_each.Keeps w.heap.size Own W1 W') ∨ (e = .returned (.bool false) ∧ Jx (pre ++ [x]) W'))
    (hBs : W.cell? ⟨Bs, 0, none⟩ = some (.slice A0 zs.length c0)) (hB : Below w.heap.size w W) (hm : m ≤ W.heap.size) (hOv : ∀ k, Own W k → k < W.heap.size) (h0 : J [] W) :
    CallsIn F n Try.prog 34 #[.func (.yield l) #[] #[], .pointer (some ⟨Bs, 0, none⟩)] W fun e W' => (∃ v, e = .returned v) ∧
      ((∃ ys, ys = pos_each.upto zs zs.length ∧ J ys W') ∨ (∃ pre, (∃ k, k ≤ zs.length ∧ pre = pos_each.upto zs k) ∧ Jx pre W')) := by
  refine callsIn_of_wp Try.func34 rfl hC ?_ hro
  simp only [Try.ntmps34, List.size_toArray, List.length_cons, List.length_nil, Nat.reduceAdd, Nat.reduceSub, Array.replicate_succ, Array.replicate_zero, List.push_toArray, List.append_toArray, List.nil_append, List.cons_append]
  have HBW := Aside0.mk hB
  have HR0 := Aside0.mk hr0
  have HJ := Aside0.mk hJ
  have HY := Aside0.mk hY
  have HLOC := Aside0.mk hloc
  have HOV := Aside0.mk hOv
  have HM := Aside0.mk hm
  have HL4 := hok.1
  clear hr0 hJ hY hloc hOv hm hB
  gi_wp2
  gi_loopw [3, 8] (fun d i wr => ∃ ii dd : Int, i = .int .i64 ii ∧ d = .int .i64 dd ∧ Aside0 (0 ≤ ii ∧ ii ≤ zs.length) ∧ Aside0 (dd = pos_each.sh zs ii.toNat) ∧ Aside0 (J (pos_each.upto zs ii.toNat) wr) ∧ Aside0 (Below w.heap.size w wr) ∧ Aside0 (∀ k, Own wr k → k < wr.heap.size) ∧ Aside0 (W.heap.size ≤ wr.heap.size))
    (fun _ i _ => zs.length - (intOf i).toNat)
  case atStart => exact ⟨0, 0, rfl, rfl, ⟨by omega⟩, ⟨rfl⟩, ⟨h0⟩, HBW, HOV, ⟨Nat.le_refl _⟩⟩
  case round =>
    clear HBW HOV
    obtain ⟨ii, dd, rfl, rfl, HI, HD, HJs, HB, HV, HS⟩ := hrel
    have hI := HI.out
    by_cases hlt : ii < (zs.length : Int)
    · have hi : ii.toNat < zs.length := by omega
      obtain ⟨⟨a1, a2⟩, ⟨b1, b2⟩, ⟨c1, c2⟩⟩ := hok.get ii hi
      have hsb := pos_each.sh_bound hok ii.toNat (by omega)
      obtain ⟨ad, e_, hx0, hx1, hx2⟩ := at_T37 HR0.out ii hI.1 hlt
      subst e_
      replace hx0 := (HB.out.cell (World.block_lt_of_cell? w _ hx0)).trans hx0
      replace hx1 := (HB.out.cell (World.block_lt_of_cell? w _ hx1)).trans hx1
      replace hx2 := (HB.out.cell (World.block_lt_of_cell? w _ hx2)).trans hx2
      have hdd0 : -262144 ≤ dd := by rw [HD.out]; omega
      have hdd1 : dd ≤ 262144 := by rw [HD.out]; omega
      have hJ1 : J (pos_each.upto zs ii.toNat) (wr.alloc (.cells #[.int .i64 (rd_T37 zs ii).f0, .int .i64 (rd_T37 zs ii).f1, .int .i64 (rd_T37 zs ii).f2] 37)) :=
        HJ.out _ wr _ none HJs.out (World.grownBy_alloc wr _ none) (fun r e => by cases e)
      have hYx := HY.out (pos_each.upto zs ii.toNat) ⟨ii.toNat, hi⟩ _ hJ1 (by rw [pos_each.upto_length _ _ (by omega)]; exact hi)
      dsimp only [pos_each.encs, pos_each.beg] at hYx
      rw [show ((ii.toNat : Nat) : Int) = ii by omega, ← HD.out] at hYx
      obtain ⟨fn, tmps, assign, body, hy, hR⟩ := hYx
      have HR := Aside0.mk hR
      clear hJ1 hR
      have hi0 := hI.1
      clear hI hsb
      have HSZ := Aside0.mk (show wr.heap.size + 1 = (wr.alloc (.cells #[.int .i64 (rd_T37 zs ii).f0, .int .i64 (rd_T37 zs ii).f1, .int .i64 (rd_T37 zs ii).f2] 37)).heap.size from by simp)
      gi_wp2
      refine HR.out.mono ?_
      rintro e W3 (⟨rfl, hJ3, hk3⟩ | ⟨rfl, hJx3⟩)
      · -- the round goes on
        have hOwn1 : ∀ k, Own (wr.alloc (.cells #[.int .i64 (rd_T37 zs ii).f0, .int .i64 (rd_T37 zs ii).f1, .int .i64 (rd_T37 zs ii).f2] 37)) k → Own wr k :=
          HLOC.out _ _ (fun k hk => Below.heap_alloc wr _ k (by have := HM.out; have := HS.out; omega))
        have hb3 : W3.heap[wr.heap.size]? = some (.cells #[.int .i64 (rd_T37 zs ii).f0, .int .i64 (rd_T37 zs ii).f1, .int .i64 (rd_T37 zs ii).f2] 37 (0, 0)) :=
          hk3.same _ _ _ _ (World.alloc_heap_new wr _) (fun ho => Nat.lt_irrefl _ (HV.out _ (hOwn1 _ ho)))
        have hz1 : W3.cell? ⟨wr.heap.size, 1, none⟩ = some (.int .i64 (rd_T37 zs ii).f1) := (blk_cell hb3 1).trans rfl
        have hz2 : W3.cell? ⟨wr.heap.size, 2, none⟩ = some (.int .i64 (rd_T37 zs ii).f2) := (blk_cell hb3 2).trans rfl
        have HK3 := Aside0.mk hk3
        have HJ3 := Aside0.mk hJ3
        have HO1 := Aside0.mk hOwn1
        clear hk3 hJ3 hOwn1 hb3
        gi_wp2
        go_roundw
        case rel =>
          refine ⟨ii + 1, dd + ((rd_T37 zs ii).f2 - (rd_T37 zs ii).f1), by first | rfl | go_num, by first | rfl | go_num, ⟨by omega⟩, ⟨?_⟩, ⟨?_⟩, ⟨?_⟩, ⟨?_⟩, ⟨?_⟩⟩
          · rw [show (ii + 1).toNat = ii.toNat + 1 by omega, pos_each.sh_succ zs ii hi, HD.out]
          · rw [show (ii + 1).toNat = ii.toNat + 1 by omega, pos_each.upto_succ _ _ hi]
            exact HJ3.out
          · exact (((HB.out).alloc HB.out.size _).trans HK3.out.below)
          · exact HK3.out.valid (fun k hk => by have := HV.out k (HO1.out k hk); simp; omega)
          · have := HK3.out.size
            have := HSZ.out
            have := HS.out
            omega
        case measure => simp [intOf]; omega
      · gi_wp2
        refine bodyPost_ret (results_none rfl _ _ _) rfl ?_
        refine ⟨⟨_, rfl⟩, .inr ⟨_, ⟨ii.toNat + 1, by omega, ?_⟩, hJx3⟩⟩
        exact (pos_each.upto_succ _ _ hi).symm
    · obtain rfl : ii = (zs.length : Int) := by omega
      have HJs' : J (pos_each.upto zs zs.length) wr := by have := HJs.out; rw [Int.toNat_natCast] at this; exact this
      have HJE := Aside0.mk HJs'
      clear HJs' hI
      gi_wp2
      go_end0
      exact ⟨⟨_, rfl⟩, .inl HJE.out⟩
/-- The contract of the function value. -/
theorem pos_each.stops (F : Fence) (n : Nat) (hC : F.fn 34) (hro : F.round = none) (hn : 1 ≤ n) (Bs m : Nat) (A0 : Option Addr) (c0 : Nat) (zs : List S37) (hok : pos_each.Ok zs) (w : World) (hr0 : Kd.C k37 w A0 zs.length zs)
    (Own : World → Nat → Prop) (hloc : ∀ A B : World, (∀ k, k < m → B.heap[k]? = A.heap[k]?) → ∀ k, Own B k → Own A k) (w1 : World) (hBs : w1.cell? ⟨Bs, 0, none⟩ = some (.slice A0 zs.length c0)) (hB : Below w.heap.size w w1) (hm : m ≤ w1.heap.size) (hOv : ∀ k, Own w1 k → k < w1.heap.size) :
    SeqStopsK F n Try.prog 34 #[.pointer (some ⟨Bs, 0, none⟩)] (pos_each.encs zs) (pos_each.Keeps w.heap.size Own) (fun ys => ys = pos_each.upto zs zs.length) (fun pre => ∃ k, k ≤ zs.length ∧ pre = pos_each.upto zs k) zs.length w1 := fun l J Jx W hW hJ _ hY h0 => by
  have hlt := World.block_lt_of_cell? w1 _ hBs
  refine pos_each.one_in F n hC hro hn l Bs m A0 c0 zs hok w hr0 Own hloc J Jx W hJ hY ((hW.cell hlt).trans hBs) (hB.trans (hW.mono hB.size)) (Nat.le_trans hm hW.size) (fun k hk => ?_) h0
  exact Nat.lt_of_lt_of_le (hOv k (hloc _ _ (fun j hj => hW.block j (by omega)) k hk)) hW.size
end
/-! ### Right, in plain words -/
theorem pos_Right.w64 (n : Int) (h : -9223372036854775808 ≤ n ∧ n ≤ 9223372036854775807) : wrap64 n = n := by unfold wrap64; omega
def pos_Right.okL : Int → List S37 → Bool
  | _, [] => true
  | last, r :: rs => if r.f0 < last then false else if mx (mx r.f0 r.f1) r.f2 > 65536 then false else if mn r.f1 r.f2 < 0 then false else pos_Right.okL (r.f0 + r.f1) rs
def pos_Right.okB (l : List S37) : Bool := pos_Right.okL 0 l && decide ((l.length : Int) ≤ 4)
theorem pos_Right.okL_mem : ∀ (l : List S37) (last : Int), 0 ≤ last → pos_Right.okL last l = true → ∀ r ∈ l, (0 ≤ r.f0 ∧ r.f0 ≤ 65536) ∧ (0 ≤ r.f1 ∧ r.f1 ≤ 65536) ∧ (0 ≤ r.f2 ∧ r.f2 ≤ 65536)
  | [], _, _, _, _, hr => by cases hr
  | x :: xs, last, h0, h, r, hr => by
    unfold pos_Right.okL at h
    unfold mx mn at h
    by_cases a1 : x.f0 < last
    · simp [a1] at h
    by_cases a2 : (if (if x.f0 < x.f1 then x.f1 else x.f0) < x.f2 then x.f2 else if x.f0 < x.f1 then x.f1 else x.f0) > 65536
    · rw [if_neg a1, if_pos a2] at h; cases h
    by_cases a3 : (if x.f2 < x.f1 then x.f2 else x.f1) < 0
    · rw [if_neg a1, if_neg a2, if_pos a3] at h; cases h
    rw [if_neg a1, if_neg a2, if_neg a3] at h
    have b : (0 ≤ x.f0 ∧ x.f0 ≤ 65536) ∧ (0 ≤ x.f1 ∧ x.f1 ≤ 65536) ∧ (0 ≤ x.f2 ∧ x.f2 ≤ 65536) := by
      split at a2 <;> split at a2 <;> split at a3 <;> omega
    rcases List.mem_cons.1 hr with rfl | hr
    · exact b
    · exact pos_Right.okL_mem xs _ (by omega) h r hr
theorem pos_Right.ok_of {l : List S37} (h : pos_Right.okB l = true) : pos_each.Ok l := by
  unfold pos_Right.okB at h
  simp only [Bool.and_eq_true, decide_eq_true_eq] at h
  exact ⟨by omega, pos_Right.okL_mem l 0 (by omega) h.1⟩
theorem pos_Right.l0_eq (l : List S37) : ∀ (k : Nat) (i : Nat) (last : Int), i ≤ l.length → l.length - i < k → 0 ≤ last → l.length ≤ 9223372036854775807 → pos_Right.l0 k l last l (l.length : Int) (i : Int) = some (pos_Right.okL last (l.drop i) && decide ((l.length : Int) ≤ 4))
  | 0, _, _, _, h, _, _ => by omega
  | k + 1, i, last, hi, hk, h0, hs => by
    unfold pos_Right.l0
    by_cases hlt : i < l.length
    · have w2 : wrap64 ((i : Int) + 1) = ((i + 1 : Nat) : Int) := pos_Right.w64 _ (by omega)
      have e : rd_T37 l (i : Int) = l[i] := by simp [rd_T37, List.getD_eq_getElem?_getD, List.getElem?_eq_getElem hlt]
      have k1 : i + 1 ≤ l.length := hlt
      have k2 : l.length - (i + 1) < k := by omega
      rw [if_pos (by omega), if_pos (by omega), if_pos (by omega), e, List.drop_eq_getElem_cons hlt]
      unfold pos_Right.okL
      by_cases a1 : l[i].f0 < last
      · rw [if_pos a1, if_pos a1]; rfl
      by_cases a2 : mx (mx l[i].f0 l[i].f1) l[i].f2 > 65536
      · rw [if_neg a1, if_neg a1, if_pos a2, if_pos a2]; rfl
      by_cases a3 : mn l[i].f1 l[i].f2 < 0
      · rw [if_neg a1, if_neg a1, if_neg a2, if_neg a2, if_pos a3, if_pos a3]; rfl
      rw [if_neg a1, if_neg a1, if_neg a2, if_neg a2, if_neg a3, if_neg a3]
      have hb : 0 ≤ l[i].f0 + l[i].f1 ∧ l[i].f0 + l[i].f1 ≤ 131072 := by
        unfold mx at a2; unfold mn at a3
        split at a2 <;> split at a2 <;> split at a3 <;> omega
      have w1 : wrap64 (l[i].f0 + l[i].f1) = l[i].f0 + l[i].f1 := pos_Right.w64 _ (by omega)
      rw [w1, w2]
      exact pos_Right.l0_eq l k (i + 1) _ k1 k2 hb.1 hs
    · rw [if_neg (by omega), List.drop_of_length_le (by omega)]
      rfl
theorem pos_Right.l0_true : ∀ (k : Nat) (x0 : List S37) (x3 : Int) (x6 : List S37) (x7 x8 : Int), pos_Right.l0 k x0 x3 x6 x7 x8 = some true → (x0.length : Int) ≤ 4
  | 0, _, _, _, _, _, h => by simp [pos_Right.l0] at h
  | k + 1, x0, x3, x6, x7, x8, h => by
    unfold pos_Right.l0 at h
    split at h
    · split at h
      · split at h
        · split at h
          · cases h
          · split at h
            · cases h
            · split at h
              · cases h
              · exact pos_Right.l0_true k _ _ _ _ _ h
        · cases h
      · cases h
    · simpa using h
theorem pos_Right.mono_le (l : List S37) (k : Nat) (b : Bool) (h : pos_Right.f k l = some b) : ∀ j, pos_Right.f (k + j) l = some b
  | 0 => h
  | j + 1 => pos_Right.mono l (k + j) b (pos_Right.mono_le l k b h j)
theorem pos_Right.f_eq (l : List S37) (hs : l.length ≤ 9223372036854775807) : pos_Right.f (l.length + 2) l = some (pos_Right.okB l) := by
  have := pos_Right.l0_eq l (l.length + 2) 0 0 (by omega) (by omega) (by omega) hs
  exact this
theorem pos_Right.ok_true {k : Nat} {l : List S37} (h : pos_Right.f k l = some true) : pos_each.Ok l := by
  have h4 := pos_Right.l0_true k _ _ _ _ _ h
  have h1 := pos_Right.mono_le l k true h (l.length + 2)
  have h2 := pos_Right.mono_le l (l.length + 2) _ (pos_Right.f_eq l (by omega)) k
  rw [Nat.add_comm] at h2
  rw [h2] at h1
  exact pos_Right.ok_of (Option.some.inj h1)

end Go.Proofs.Ytcoolajjjnkfpaa.PPd
