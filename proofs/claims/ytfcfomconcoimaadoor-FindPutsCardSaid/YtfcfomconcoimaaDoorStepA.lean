/- What the printed functions of step tell: the check of a step, the doing of it, in plain words. -/
import Derived.Test.YtfcfomconcoimaaDoorPFax0
import Derived.Test.YtfcfomconcoimaaDoorPFay1
import Derived.Test.YtfcfomconcoimaaDoorPFay2
import Derived.Test.YtfcfomconcoimaaDoorPFay0
namespace Go.Proofs.YtfcfomconcoimaaDoor.StepA
open Go.RowKit Go.Proofs.YtfcfomconcoimaaDoorW.PrintWords Go.Proofs.YtfcfomconcoimaaDoorW.PrintMore
open Go.Proofs.YtfcfomconcoimaaDoor Go.Proofs.YtfcfomconcoimaaDoor.PFa
set_option linter.unusedSimpArgs false
set_option linter.unusedVariables false

theorem w64 {i : Int} (h : -9223372036854775808 ≤ i ∧ i ≤ 9223372036854775807) : wrap64 i = i := by unfold wrap64; omega
theorem rd_get (l : List S48) (i : Int) (h : i.toNat < l.length) : rd_T48 l i = l[i.toNat] := by
 simp [rd_T48, List.getD_eq_getElem?_getD, List.getElem?_eq_getElem h]
theorem lift {α : Type} (f : Nat → Option α) (hm : ∀ k, LeO (f k) (f (k + 1))) {k : Nat} {v : α} (h : f k = some v) : ∀ j, f (k + j) = some v
 | 0 => h
 | j + 1 => hm (k + j) v (lift f hm h j)
theorem lift_le {α : Type} (f : Nat → Option α) (hm : ∀ k, LeO (f k) (f (k + 1))) {k n : Nat} {v : α} (h : f k = some v) (hn : k ≤ n) : f n = some v := by
 have := lift f hm h (n - k)
 rwa [show k + (n - k) = n by omega] at this

/-! ### What is right -/
def right (a b c d : Int) : Bool := (flat_Right.f a b c d).getD false
theorem flat_right (a b c d : Int) : flat_Right.f a b c d = some (right a b c d) := by
 have h : ∃ r, flat_Right.f a b c d = some r := by
  unfold flat_Right.f mark_Right.f
  repeat' split
  all_goals first | exact ⟨_, rfl⟩ | (simp only [Option.bind_some]; exact ⟨_, rfl⟩)
 obtain ⟨r, h⟩ := h
 rw [right, h]
 rfl
def rt (t : S48) : Bool := right t.f0 t.f1 t.f2 t.f3
theorem check_some : ∀ (l : List S48) (n i : Int), ∃ r, flat_Check.l0 l n i = some r
 | [], n, i => by
  unfold flat_Check.l0
  split <;> exact ⟨_, rfl⟩
 | t :: ts, n, i => by
  unfold flat_Check.l0
  rw [flat_right, Option.bind_some]
  split
  ·split
   ·split
    ·exact ⟨_, rfl⟩
    ·exact check_some ts _ _
   ·split
    ·split
     ·exact ⟨_, rfl⟩
     ·exact check_some ts _ _
    ·exact check_some ts _ _
  ·exact ⟨_, rfl⟩
/-- What the check of tokens answers. -/
def fc (l : List S48) : Int × Int := (flat_Check.f l).getD (0, 0)
theorem flat_check (l : List S48) : flat_Check.f l = some (fc l) := by
 have : ∃ r, flat_Check.f l = some r := by
  unfold flat_Check.f
  split
  ·exact ⟨_, rfl⟩
  ·exact check_some l 0 0
 obtain ⟨r, h⟩ := this
 rw [fc, h]
 rfl
theorem fc_len {l : List S48} (h : (fc l).2 = 0) : l.length ≤ 2048 := by
 unfold fc flat_Check.f at h
 split at h
 ·cases h
 ·omega

/-! ### Marks -/
def one (m : Int) : Bool := decide (m = 1 ∨ m = 2 ∨ m = 4)
theorem place_step (k : Nat) (m i : Int) (h : i < 3) (h0 : 0 ≤ i) : mark_place.l0 (k + 1) m i = if m = shl .i64 1 i then some i else mark_place.l0 k m (wrap64 (i + 1)) := by
 rw [mark_place.l0, if_pos h, if_pos h0]
theorem place_f (m : Int) (k : Nat) (hk : 4 ≤ k) : mark_place.f k m = some (if m = 1 then 0 else if m = 2 then 1 else if m = 4 then 2 else 3) := by
 have h : mark_place.f 4 m = some (if m = 1 then 0 else if m = 2 then 1 else if m = 4 then 2 else 3) := by
  have e0 : shl .i64 1 0 = 1 := by decide +kernel
  have e1 : shl .i64 1 1 = 2 := by decide +kernel
  have e2 : shl .i64 1 2 = 4 := by decide +kernel
  show mark_place.l0 (3 + 1) m 0 = _
  rw [place_step 3 m 0 (by decide) (by decide), e0]
  by_cases h1 : m = 1
  ·rw [if_pos h1, if_pos h1]
  rw [if_neg h1, if_neg h1, w64 (i := 0 + 1) (by omega)]
  show mark_place.l0 (2 + 1) m 1 = _
  rw [place_step 2 m 1 (by decide) (by decide), e1]
  by_cases h2 : m = 2
  ·rw [if_pos h2, if_pos h2]
  rw [if_neg h2, if_neg h2, w64 (i := 1 + 1) (by omega)]
  show mark_place.l0 (1 + 1) m 2 = _
  rw [place_step 1 m 2 (by decide) (by decide), e2]
  by_cases h4 : m = 4
  ·rw [if_pos h4, if_pos h4]
  rw [if_neg h4, if_neg h4, w64 (i := 2 + 1) (by omega)]
  show mark_place.l0 (0 + 1) m 3 = _
  rw [mark_place.l0, if_neg (by decide)]
 exact lift_le (fun k => mark_place.f k m) (fun k => mark_place.mono m k) h hk
def mayE (s m : Int) : Int := if one m = true then (if 0 ≤ s ∧ s ≤ 4 then 0 else 4) else 1
theorem may_f (s m : Int) (k : Nat) (hk : 4 ≤ k) : mark_may.f k s m = some (mayE s m) := by
 unfold mark_may.f mayE one
 rw [place_f m k hk, Option.bind_some]
 unfold mark_Right.f
 by_cases h1 : m = 1
 ·subst h1; by_cases a : s ≥ 0 <;> by_cases b : s ≤ 4 <;> simp [a, b]
 ·by_cases h2 : m = 2
  ·subst h2; by_cases a : s ≥ 0 <;> by_cases b : s ≤ 4 <;> simp [a, b]
  ·by_cases h4 : m = 4
   ·subst h4; by_cases a : s ≥ 0 <;> by_cases b : s ≤ 4 <;> simp [a, b]
   ·simp [h1, h2, h4]
theorem list_f (m : Int) : ∃ L : List Int, (∀ k, 20 ≤ k → mark_List.f k m = some L) ∧ ((L.length : Int) = 1 ↔ one m = true) := by
 have main : ∃ L : List Int, mark_List.f 20 m = some L ∧ ((L.length : Int) = 1 ↔ one m = true) := by
  by_cases h : 0 ≤ m ∧ m ≤ 4
  ·rcases (by omega : m = 0 ∨ m = 1 ∨ m = 2 ∨ m = 3 ∨ m = 4) with rfl | rfl | rfl | rfl | rfl
   ·exact ⟨[], by decide +kernel, by decide⟩
   ·exact ⟨[1], by decide +kernel, by decide⟩
   ·exact ⟨[2], by decide +kernel, by decide⟩
   ·exact ⟨[1, 2], by decide +kernel, by decide⟩
   ·exact ⟨[4], by decide +kernel, by decide⟩
  ·refine ⟨[], ?_, ?_⟩
   ·have hh : ∀ k p, 4 ≤ k → one p = true → mark_Has.f k m p = some false := by
     intro k p hk hp
     unfold mark_Has.f
     rw [may_f m p k hk, Option.bind_some]
     unfold mayE
     rw [if_pos hp, if_neg h]
     rfl
    have st : ∀ k i p, 4 ≤ k → i < 3 → 0 ≤ i → shl .i64 1 i = p → one p = true → mark_List.l0 (k + 1) m [] i = mark_List.l0 k m [] (wrap64 (i + 1)) := by
     intro k i p hk hi h0 hp h1
     rw [mark_List.l0, if_pos hi, if_pos h0, hp, hh k p hk h1, Option.bind_some, if_neg (by decide)]
    show mark_List.l0 (19 + 1) m [] 0 = _
    rw [st 19 0 1 (by decide) (by decide) (by decide) (by decide +kernel) (by decide), w64 (i := 0 + 1) (by omega)]
    show mark_List.l0 (18 + 1) m [] 1 = _
    rw [st 18 1 2 (by decide) (by decide) (by decide) (by decide +kernel) (by decide), w64 (i := 1 + 1) (by omega)]
    show mark_List.l0 (17 + 1) m [] 2 = _
    rw [st 17 2 4 (by decide) (by decide) (by decide) (by decide +kernel) (by decide), w64 (i := 2 + 1) (by omega)]
    show mark_List.l0 (16 + 1) m [] 3 = _
    rw [mark_List.l0, if_neg (by decide)]
   ·unfold one
    simp
    omega
 obtain ⟨L, h1, h2⟩ := main
 exact ⟨L, fun k hk => lift_le (fun k => mark_List.f k m) (fun k => mark_List.mono m k) h1 hk, h2⟩

/-! ### The check of a step -/
def okKind (K F T GF GT N : Int) (l : List S48) (M : Int) : Bool :=
 if K = 1 then decide (F ≤ GF ∧ GF < GT ∧ GT ≤ T ∧ 0 ≤ N ∧ N ≤ (l.length : Int)) && M == 0
 else if K = 0 then M == 0 && (GF == 0 && (GT == 0 && N == 0))
 else if K = 2 ∨ K = 3 then decide (F < T ∧ one M = true ∧ (l.length : Int) = 0) && (GF == 0 && (GT == 0 && N == 0))
 else false
def chk (K F T GF GT N : Int) (l : List S48) (M : Int) : Int :=
 if (l.length : Int) > 2048 then 2 else if (decide (0 ≤ F ∧ F ≤ T ∧ T ≤ 2048) && okKind K F T GF GT N l M) && l.all rt then 0 else 1
theorem check_l0 (l : List S48) (hl : l.length ≤ 4611686018427387904) : ∀ (d k : Nat) (b : Bool) (i : Int), 0 ≤ i → i + d = l.length → d < k → step_Check.l0 k b l (l.length : Int) i = some (if (b && (l.drop i.toNat).all rt) = true then 0 else 1) := by
 intro d
 induction d with
 | zero =>
  intro k b i h0 h1 hk
  obtain ⟨k, rfl⟩ : ∃ m, k = m + 1 := ⟨k - 1, by omega⟩
  simp only [step_Check.l0]
  rw [if_neg (by omega), List.drop_eq_nil_of_le (by omega)]
  cases b <;> rfl
 | succ d ih =>
  intro k b i h0 h1 hk
  obtain ⟨k, rfl⟩ : ∃ m, k = m + 1 := ⟨k - 1, by omega⟩
  have ha : i.toNat < l.length := by omega
  simp only [step_Check.l0]
  rw [if_pos (by omega), if_pos h0, if_pos (by omega), rd_get l i ha, flat_right, Option.bind_some, w64 (by omega), List.drop_eq_getElem_cons ha]
  rw [ih k _ (i + 1) (by omega) (by omega) (by omega), ih k _ (i + 1) (by omega) (by omega) (by omega), show (i + 1).toNat = i.toNat + 1 by omega]
  cases b
  ·simp
  ·simp only [if_true, List.all_cons, Bool.true_and, rt]
theorem check_j1 (K F T GF GT N : Int) (l : List S48) (M : Int) (hl : l.length ≤ 4611686018427387904) (k : Nat) (hk : l.length + 3 < k) (b : Bool) (r0 r1 r2 r3 r4 r5 r7 : Int) :
  step_Check.j1 k b K F T GF GT N l M r0 r1 r2 r3 r4 r5 r7 = some (if ((b && (r3 == 0 && (r4 == 0 && r5 == 0))) && l.all rt) = true then 0 else 1) := by
 obtain ⟨k, rfl⟩ : ∃ m, k = m + 2 := ⟨k - 2, by omega⟩
 have J : ∀ b, step_Check.j2 (k + 1) b K F T GF GT N l M = some (if (b && l.all rt) = true then 0 else 1) := by
  intro b
  simp only [step_Check.j2]
  rw [check_l0 l hl l.length k b 0 (by omega) (by omega) (by omega)]
  rfl
 simp only [step_Check.j1, J]
 cases b
 ·simp
 ·by_cases h3 : r3 = 0 <;> by_cases h4 : r4 = 0 <;> simp [h3, h4]
theorem check_f (K F T GF GT N : Int) (l : List S48) (M : Int) (k : Nat) (hk : 2100 < k) : step_Check.f k K F T GF GT N l M = some (chk K F T GF GT N l M) := by
 by_cases h : (l.length : Int) > 2048
 ·unfold step_Check.f chk
  rw [if_pos h, if_pos h]
 have hl : l.length ≤ 4611686018427387904 := by omega
 obtain ⟨k, rfl⟩ : ∃ m, k = m + 1 := ⟨k - 1, by omega⟩
 obtain ⟨L, hL, hone⟩ := list_f M
 have hL' := hL k (by omega)
 have J := check_j1 K F T GF GT N l M hl k (by omega)
 have J0 : ∀ b, step_Check.j0 (k + 1) b K F T GF GT N l M K 0 0 GF GT N M = some (if ((b && okKind K F T GF GT N l M) && l.all rt) = true then 0 else 1) := by
  intro b
  simp only [step_Check.j0, J, hL', Option.bind_some]
  unfold okKind
  generalize l.all rt = al
  cases b
  ·by_cases h1 : K = 1
   ·simp [h1]
   ·by_cases h0 : K = 0
    ·simp [h0]
    ·by_cases h2 : K = 2
     ·simp [h2]
     ·by_cases h3 : K = 3
      ·simp [h3]
      ·simp [h0, h1, h2, h3]
  ·by_cases h1 : K = 1
   ·subst h1
    by_cases a1 : F ≤ GF <;> by_cases a2 : GF < GT <;> by_cases a3 : GT ≤ T <;> by_cases a4 : N ≥ 0 <;> by_cases a5 : N ≤ (l.length : Int) <;> simp [a1, a2, a3, a4, a5]
   ·by_cases h0 : K = 0
    ·subst h0
     simp
    ·by_cases h2 : K = 2
     ·subst h2
      by_cases a1 : F < T <;> by_cases a2 : (L.length : Int) = 1
      ·have := hone.1 a2
       simp [a1, a2, this]
      ·have : one M = false := by cases h : one M; rfl; exact absurd (hone.2 h) a2
       simp [a1, a2, this]
      ·simp [a1]
      ·simp [a1]
     ·by_cases h3 : K = 3
      ·subst h3
       by_cases a1 : F < T <;> by_cases a2 : (L.length : Int) = 1
       ·have := hone.1 a2
        simp [a1, a2, this]
       ·have : one M = false := by cases h : one M; rfl; exact absurd (hone.2 h) a2
        simp [a1, a2, this]
       ·simp [a1]
       ·simp [a1]
      ·simp [h0, h1, h2, h3]
 unfold step_Check.f chk
 simp only [J0]
 ·rw [if_neg h, if_neg h]
  by_cases a1 : F ≥ 0 <;> by_cases a2 : F ≤ T <;> simp [a1, a2]
/-- What a right step is. -/
structure Sound (K F T GF GT N : Int) (l : List S48) (M : Int) : Prop where
 len : l.length ≤ 2048
 f0 : 0 ≤ F
 ft : F ≤ T
 t : T ≤ 2048
 kind : okKind K F T GF GT N l M = true
 all : l.all rt = true
theorem chk_good {K F T GF GT N : Int} {l : List S48} {M : Int} (h : chk K F T GF GT N l M = 0) : Sound K F T GF GT N l M := by
 unfold chk at h
 split at h
 ·cases h
 ·split at h
  ·rename_i h1 h2
   simp only [Bool.and_eq_true, decide_eq_true_eq] at h2
   exact ⟨by omega, h2.1.1.1, h2.1.1.2.1, h2.1.1.2.2, h2.1.2, h2.2⟩
  ·cases h
theorem Sound.around {K F T GF GT N : Int} {l : List S48} {M : Int} (h : Sound K F T GF GT N l M) (h1 : K = 1) : F ≤ GF ∧ GF < GT ∧ GT ≤ T ∧ 0 ≤ N ∧ N ≤ (l.length : Int) := by
 have := h.kind
 unfold okKind at this
 rw [if_pos h1] at this
 simp only [Bool.and_eq_true, decide_eq_true_eq] at this
 exact this.1
theorem Sound.kinds {K F T GF GT N : Int} {l : List S48} {M : Int} (h : Sound K F T GF GT N l M) : K = 0 ∨ K = 1 ∨ K = 2 ∨ K = 3 := by
 have := h.kind
 unfold okKind at this
 split at this
 ·omega
 ·split at this
  ·omega
  ·split at this
   ·omega
   ·cases this
end Go.Proofs.YtfcfomconcoimaaDoor.StepA
