/- How an argument of any type of whole numbers, bools, strings, slices, structs and arrays, read as data, is opened as a value of a kind (Kd): lemmas for the laws' rows. -/
import Derived.Test.YtgafgkojbbndmaaWMore
import Derived.Test.YtgafgkojbbndmaaWSized
import Derived.WalkKit
import Derived.ProofKit
import Derived.OpenShut
import Derived.SizedLaws
import Derived.Deep.Slices
namespace Go.Proofs.Ytgafgkojbbndmaa.Opn
open Go.ChangeShapes Go.WideShapes Go.ChangeAt Go.RowKit Go.Proofs.YtgafgkojbbndmaaW.PrintWords Go.Proofs.YtgafgkojbbndmaaW.PrintMore

/-- What reads as data at type t is a value of kind d, and Wf holds of it. -/
def Opens (P : Program) (t : TypeId) {α : Type} (d : Kd α) (Wf : α → Prop) : Prop :=
  d.sz = P.cellsOf t ∧ ∀ (H : Type) (enc : TypeId × Value → H) (w : World) (base : Nat) (spare : Nat → Bool) (held : Bool) (fuel : Nat) (cs : List Value) (x : DataW H × List MemPlace),
    DataW.trod enc P w base spare held fuel t cs = some x → ∃ a, d.K w a cs ∧ Wf a
section
variable {P : Program} {t e : TypeId} {α β : Type}
theorem opens_int {k : IntKind} (ht : P.underlying t = some (.int k)) (hc : P.cellsOf t = 1) : Opens P t (Kd.int k) (fun n => (Lit.int k n).wf = true) :=
  ⟨hc.symm, fun H enc w base spare held fuel cs x h => by
    obtain ⟨n, rfl, _, hw⟩ := DataW.trod_int ht h
    exact ⟨n, rfl, hw⟩⟩
theorem opens_bool (ht : P.underlying t = some .bool) (hc : P.cellsOf t = 1) : Opens P t Kd.bool (fun _ => True) :=
  ⟨hc.symm, fun H enc w base spare held fuel cs x h => by
    obtain ⟨n, rfl, _⟩ := DataW.trod_bool ht h
    exact ⟨n, rfl, trivial⟩⟩
theorem opens_string (ht : P.underlying t = some .string) (hc : P.cellsOf t = 1) : Opens P t Kd.string (fun s => s.size ≤ maxLen) :=
  ⟨hc.symm, fun H enc w base spare held fuel cs x h => by
    obtain ⟨n, rfl, _, hw⟩ := DataW.trod_string ht h
    exact ⟨n, rfl, hw⟩⟩
theorem opens_iso {d : Kd α} {Wf : α → Prop} (f : β → α) (hs : ∀ a, ∃ b, f b = a) (h : Opens P t d Wf) : Opens P t (Kd.iso d f) (fun b => Wf (f b)) :=
  ⟨h.1, fun H enc w base spare held fuel cs x hx => by
    obtain ⟨a, hk, hw⟩ := h.2 H enc w base spare held fuel cs x hx
    obtain ⟨b, rfl⟩ := hs a
    exact ⟨b, hk, hw⟩⟩
theorem choose_list {p : Nat → α → Prop} : ∀ (n : Nat), (∀ i, i < n → ∃ x, p i x) → ∃ l : List α, l.length = n ∧ ∀ i x, l[i]? = some x → p i x
  | 0, _ => ⟨[], rfl, fun i x h => by simp at h⟩
  | n + 1, h => by
    obtain ⟨l, hl, hp⟩ := choose_list n (fun i hi => h i (by omega))
    obtain ⟨x, hx⟩ := h n (by omega)
    refine ⟨l ++ [x], by simp [hl], fun i y hy => ?_⟩
    by_cases hi : i < l.length
    · rw [List.getElem?_append_left hi] at hy
      exact hp i y hy
    · rw [List.getElem?_append_right (by omega)] at hy
      have hz : i - l.length = 0 := by
        rcases Nat.eq_zero_or_pos (i - l.length) with h0 | h0
        · exact h0
        · rw [List.getElem?_eq_none (by simp; omega)] at hy
          cases hy
      rw [hz] at hy
      obtain rfl : x = y := by simpa using hy
      have : i = n := by omega
      rw [this]
      exact hx
theorem opens_slice {d : Kd α} {Wf : α → Prop} (ht : P.underlying t = some (.slice e)) (hc : P.cellsOf t = 1) (h : Opens P e d Wf) : Opens P t (Kd.slice e d) (fun xs => ∀ x ∈ xs, Wf x) :=
  ⟨hc.symm, fun H enc w base spare held fuel cs x hx => by
    rcases Go.Deep.open_slice ht hx with ⟨rfl, _⟩ | ⟨a, len, cap, m, n, D, Pl, rfl, _, hl, hm, hmm, _, hel⟩
    · exact ⟨[], ⟨none, 0, rfl, Nat.le_refl _, rfl, by simp, fun hp => absurd hp (by simp)⟩, by simp⟩
    · have hlm : len ≤ m := by rw [hmm]; split <;> omega
      obtain ⟨l, hll, hp⟩ := choose_list (p := fun i y => (∃ cs', w.cells? base (a.add (i * P.cellsOf e)) (P.cellsOf e) = some cs' ∧ d.K w y cs') ∧ Wf y) len (fun i hi => by
        obtain ⟨cs', h1, h2⟩ := hel i (by omega)
        obtain ⟨y, hk, hw⟩ := h.2 _ _ _ _ _ _ _ _ _ h2
        exact ⟨y, ⟨cs', h1, hk⟩, hw⟩)
      subst hll
      refine ⟨l, ⟨some a, cap, rfl, hl, rfl, by unfold maxLen at hm; omega, fun _ => ⟨a, rfl, fun j p hj => ?_⟩⟩, fun y hy => ?_⟩
      · obtain ⟨⟨cs', h1, hk⟩, _⟩ := hp j p hj
        obtain ⟨_, hlen, hcell⟩ := World.cells?_some h1
        refine ⟨cs', d.K_len hk, hk, fun i u hu => ?_⟩
        have hi : i < cs'.length := (List.getElem?_eq_some_iff.1 hu).1
        have := hcell i (by omega)
        rw [Go.Deep.add_add] at this
        rw [h.1, this, hu]
      · obtain ⟨i, hi, rfl⟩ := List.mem_iff_getElem.1 hy
        exact (hp i _ (List.getElem?_eq_getElem hi)).2⟩
/-- The fields from offset o on, as a value of kind d. -/
def OpensF (P : Program) (fs : List Field) (o : Nat) {α : Type} (d : Kd α) (Wf : α → Prop) : Prop :=
  ∀ (H : Type) (enc : TypeId × Value → H) (w : World) (base : Nat) (spare : Nat → Bool) (held : Bool) (fuel : Nat) (cs : List Value),
    cs.length = o + d.sz → (∀ f ∈ fs, ∃ x, DataW.trod enc P w base spare held fuel f.type ((cs.drop f.offset).take (P.cellsOf f.type)) = some x) → ∃ a, d.K w a (cs.drop o) ∧ Wf a
theorem opensF_last {f : Field} {d : Kd α} {Wf : α → Prop} (h : Opens P f.type d Wf) : OpensF P [f] f.offset d Wf := by
  intro H enc w base spare held fuel cs hl hx
  obtain ⟨x, hx⟩ := hx f (by simp)
  rw [List.take_of_length_le (by rw [List.length_drop, ← h.1]; omega)] at hx
  exact h.2 _ _ _ _ _ _ _ _ _ hx
theorem opensF_cons {f : Field} {fs : List Field} {o1 : Nat} {d : Kd α} {d' : Kd β} {Wf : α → Prop} {Wf' : β → Prop} (h : Opens P f.type d Wf) (h' : OpensF P fs o1 d' Wf') (ho : o1 = f.offset + P.cellsOf f.type) :
    OpensF P (f :: fs) f.offset (Kd.pair d d') (fun x => Wf x.1 ∧ Wf' x.2) := by
  intro H enc w base spare held fuel cs hl hx
  have hsz : (Kd.pair d d').sz = d.sz + d'.sz := rfl
  obtain ⟨x, hx0⟩ := hx f (by simp)
  obtain ⟨a, hk, hw⟩ := h.2 _ _ _ _ _ _ _ _ _ hx0
  obtain ⟨b, hk', hw'⟩ := h' H enc w base spare held fuel cs (by rw [hl, hsz, ho, h.1]; omega) (fun g hg => hx g (by simp [hg]))
  refine ⟨(a, b), ⟨_, _, ?_, hk, hk'⟩, hw, hw'⟩
  rw [ho, ← List.drop_drop, List.take_append_drop]
theorem opens_struct {fs : Array Field} {d : Kd α} {Wf : α → Prop} (ht : P.underlying t = some (.struct fs)) (hsz : d.sz = P.cellsOf t) (h : OpensF P fs.toList 0 d Wf) : Opens P t d Wf :=
  ⟨hsz, fun H enc w base spare held fuel cs x hx => by
    obtain ⟨xs, n, _, _, hl, hlen, hf⟩ := DataW.trod_struct ht hx
    have := h H enc w base spare held n cs (by rw [hl, hsz]; omega) (fun f hf' => by
      obtain ⟨i, hi, rfl⟩ := List.mem_iff_getElem.1 hf'
      have hi' : i < fs.size := by simpa using hi
      have := hf i (fs[i]) (Array.getElem?_eq_getElem hi')
      exact ⟨xs[i], by rw [show fs.toList[i] = fs[i] from rfl, this]; exact List.getElem?_eq_getElem (by omega)⟩)
    simpa using this⟩
/-- The elements of an array from number i on. -/
def OpensA (P : Program) (e : TypeId) (n i : Nat) {α : Type} (d : Kd α) (Wf : α → Prop) : Prop :=
  ∀ (H : Type) (enc : TypeId × Value → H) (w : World) (base : Nat) (spare : Nat → Bool) (held : Bool) (fuel : Nat) (cs : List Value),
    cs.length = i * P.cellsOf e + d.sz → (∀ j, i ≤ j → j < n → ∃ x, DataW.trod enc P w base spare held fuel e ((cs.drop (j * P.cellsOf e)).take (P.cellsOf e)) = some x) → ∃ a, d.K w a (cs.drop (i * P.cellsOf e)) ∧ Wf a
theorem opensA_last {n i : Nat} {d : Kd α} {Wf : α → Prop} (h : Opens P e d Wf) (hi : i < n) : OpensA P e n i d Wf := by
  intro H enc w base spare held fuel cs hl hx
  obtain ⟨x, hx⟩ := hx i (Nat.le_refl _) hi
  rw [List.take_of_length_le (by rw [List.length_drop, hl, h.1]; omega)] at hx
  exact h.2 _ _ _ _ _ _ _ _ _ hx
theorem opensA_cons {n i : Nat} {d : Kd α} {d' : Kd β} {Wf : α → Prop} {Wf' : β → Prop} (h : Opens P e d Wf) (h' : OpensA P e n (i + 1) d' Wf') (hi : i < n) : OpensA P e n i (Kd.pair d d') (fun x => Wf x.1 ∧ Wf' x.2) := by
  intro H enc w base spare held fuel cs hl hx
  have hsz : (Kd.pair d d').sz = d.sz + d'.sz := rfl
  obtain ⟨x, hx0⟩ := hx i (Nat.le_refl _) hi
  obtain ⟨a, hk, hw⟩ := h.2 _ _ _ _ _ _ _ _ _ hx0
  obtain ⟨b, hk', hw'⟩ := h' H enc w base spare held fuel cs (by rw [hl, hsz, h.1, Nat.add_mul]; omega) (fun j hj hn => hx j (by omega) hn)
  refine ⟨(a, b), ⟨_, _, ?_, hk, hk'⟩, hw, hw'⟩
  rw [Nat.add_mul, Nat.one_mul, ← List.drop_drop, List.take_append_drop]
theorem opens_array {n : Nat} {d : Kd α} {Wf : α → Prop} (ht : P.underlying t = some (.array n e)) (hsz : d.sz = P.cellsOf t) (h : OpensA P e n 0 d Wf) : Opens P t d Wf :=
  ⟨hsz, fun H enc w base spare held fuel cs x hx => by
    obtain ⟨xs, m, _, _, hl, hlen, hf⟩ := DataW.trod_array ht hx
    have := h H enc w base spare held m cs (by rw [hl, hsz]; omega) (fun j _ hn => by
      have := hf j hn
      exact ⟨xs[j], by rw [this]; exact List.getElem?_eq_getElem (by omega)⟩)
    simpa using this⟩
theorem opens_wf {d : Kd α} {Wf Wf' : α → Prop} (h : Opens P t d Wf) (hw : ∀ a, Wf a → Wf' a) : Opens P t d Wf' :=
  ⟨h.1, fun H enc w base spare held fuel cs x hx => by
    obtain ⟨a, hk, ha⟩ := h.2 _ _ _ _ _ _ _ _ _ hx
    exact ⟨a, hk, hw a ha⟩⟩
/-- A slice that came in, opened. -/
theorem open_sl {d : Kd α} {Wf : α → Prop} (ht : P.underlying t = some (.slice e)) (hc : P.cellsOf t = 1) (ho : Opens P e d Wf) {H : Type} {enc : TypeId × Value → H} {w : World} {base : Nat} {spare : Nat → Bool} {held : Bool} {a : Option Addr} {len cap : Nat} {x : DataW H} {ps : List MemPlace}
    (h : DataW.Trod enc P w base spare held t (.slice a len cap) x ps) : ∃ xs : List α, xs.length = len ∧ len ≤ cap ∧ d.C w a len xs ∧ ∀ y ∈ xs, Wf y := by
  obtain ⟨fuel, hf⟩ := h
  obtain ⟨xs, ⟨A, c, hv, hl, hC⟩, hw⟩ := (opens_slice ht hc ho).2 _ _ _ _ _ _ _ _ _ hf
  simp [Value.cells] at hv
  obtain ⟨rfl, rfl, rfl⟩ := hv
  exact ⟨xs, rfl, hl, hC, hw⟩
/-- A struct or an array that came in, opened. -/
theorem open_ag {d : Kd α} {Wf : α → Prop} (ho : Opens P t d Wf) {H : Type} {enc : TypeId × Value → H} {w : World} {base : Nat} {spare : Nat → Bool} {held : Bool} {cs : Array Value} {x : DataW H} {ps : List MemPlace}
    (h : DataW.Trod enc P w base spare held t (.agg cs) x ps) : ∃ a : α, d.K w a cs.toList ∧ Wf a := by
  obtain ⟨fuel, hf⟩ := h
  exact ho.2 _ _ _ _ _ _ _ _ _ hf
theorem sized_any {H : Type} {enc : TypeId × Value → H} {W : World} {base : Nat} {spare : Nat → Bool} {held : Bool} {a : Option Addr} {len cap : Nat} {d : DataW H} {ps : List MemPlace} {ts : List TypeId} {ds : List (DataW H)} {j : Nat}
    (hsz : (DataW.weightsEach P ts ds).all (· ≤ reachBytes) = true) (ht : ts[j]? = some t) (hd : ds[j]? = some d) (hu : P.underlying t = some (.slice e)) {B : Nat} (hB : P.bytesOf e = B)
    (h : DataW.Trod enc P W base spare held t (.slice a len cap) d ps) : len * B ≤ 140737488351232 := by
  obtain ⟨fuel, hf⟩ := h
  rcases Go.Deep.open_slice hu hf with ⟨hcs, _⟩ | ⟨a', len', cap', m, n, D, Pl, hcs, _, hl, _, hmm, hx, _⟩
  · simp [Value.cells] at hcs
    obtain ⟨rfl, rfl, rfl⟩ := hcs
    simp
  · simp [Value.cells] at hcs
    obtain ⟨rfl, rfl, rfl⟩ := hcs
    obtain ⟨hx, _⟩ := Prod.mk.inj hx
    subst hx
    have z := sized_slice hsz ht hd hu
    rw [hB] at z
    simp at z
    refine Nat.le_trans (Nat.mul_le_mul_right _ ?_) z
    omega
end
end Go.Proofs.Ytgafgkojbbndmaa.Opn
