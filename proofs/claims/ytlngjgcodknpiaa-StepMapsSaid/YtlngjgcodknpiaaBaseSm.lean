/- Plain laws under one roof. -/
import Derived.Test.YtlngjgcodknpiaaPSmx0
import Derived.Test.YtlngjgcodknpiaaPSmx3
import Derived.Test.YtlngjgcodknpiaaPSmx4
import Derived.Test.YtlngjgcodknpiaaPSmx5
import Derived.Test.YtlngjgcodknpiaaPSmx6
import Derived.Test.YtlngjgcodknpiaaPSmx12
import Derived.Test.YtlngjgcodknpiaaPSmx7
import Derived.Test.YtlngjgcodknpiaaPSmx8
import Derived.Test.YtlngjgcodknpiaaPSmx9
import Derived.Test.YtlngjgcodknpiaaPSmx13
import Derived.Test.YtlngjgcodknpiaaPSmx14
import Derived.Test.YtlngjgcodknpiaaPSmx15
import Derived.Test.YtlngjgcodknpiaaPSmx16
/- What the printed functions of step tell: the check of a step, the doing of it, in plain words. -/
namespace Go.Proofs.Ytlngjgcodknpiaa.StepA
open Go.RowKit Go.Proofs.YtlngjgcodknpiaaW.PrintWords Go.Proofs.YtlngjgcodknpiaaW.PrintMore
open Go.Proofs.Ytlngjgcodknpiaa Go.Proofs.Ytlngjgcodknpiaa.PSm
set_option linter.unusedSimpArgs false
set_option linter.unusedVariables false

theorem w64 {i : Int} (h : -9223372036854775808 ≤ i ∧ i ≤ 9223372036854775807) : wrap64 i = i := by unfold wrap64; omega
theorem rd_get (l : List S57) (i : Int) (h : i.toNat < l.length) : rd_T57 l i = l[i.toNat] := by
  simp [rd_T57, List.getD_eq_getElem?_getD, List.getElem?_eq_getElem h]
theorem lift {α : Type} (f : Nat → Option α) (hm : ∀ k, LeO (f k) (f (k + 1))) {k : Nat} {v : α} (h : f k = some v) : ∀ j, f (k + j) = some v
  | 0 => h
  | j + 1 => hm (k + j) v (lift f hm h j)
theorem lift_le {α : Type} (f : Nat → Option α) (hm : ∀ k, LeO (f k) (f (k + 1))) {k n : Nat} {v : α} (h : f k = some v) (hn : k ≤ n) : f n = some v := by
  have := lift f hm h (n - k)
  rwa [show k + (n - k) = n by omega] at this

def right (a b c d : Int) : Bool := (flat_Right.f a b c d).getD false
theorem flat_right (a b c d : Int) : flat_Right.f a b c d = some (right a b c d) := by
  have h : ∃ r, flat_Right.f a b c d = some r := by
    unfold flat_Right.f mark_Right.f
    repeat' split
    all_goals first | exact ⟨_, rfl⟩ | (simp only [Option.bind_some]; exact ⟨_, rfl⟩)
  obtain ⟨r, h⟩ := h
  rw [right, h]
  rfl
def rt (t : S57) : Bool := right t.f0 t.f1 t.f2 t.f3
theorem check_some : ∀ (l : List S57) (n i : Int), ∃ r, flat_Check.l0 l n i = some r
  | [], n, i => by
    unfold flat_Check.l0
    split <;> exact ⟨_, rfl⟩
  | t :: ts, n, i => by
    unfold flat_Check.l0
    rw [flat_right, Option.bind_some]
    split
    · split
      · split
        · exact ⟨_, rfl⟩
        · exact check_some ts _ _
      · split
        · split
          · exact ⟨_, rfl⟩
          · exact check_some ts _ _
        · exact check_some ts _ _
    · exact ⟨_, rfl⟩
def fc (l : List S57) : Int × Int := (flat_Check.f l).getD (0, 0)
theorem flat_check (l : List S57) : flat_Check.f l = some (fc l) := by
  have : ∃ r, flat_Check.f l = some r := by
    unfold flat_Check.f
    split
    · exact ⟨_, rfl⟩
    · exact check_some l 0 0
  obtain ⟨r, h⟩ := this
  rw [fc, h]
  rfl
theorem fc_len {l : List S57} (h : (fc l).2 = 0) : l.length ≤ 2048 := by
  unfold fc flat_Check.f at h
  split at h
  · cases h
  · omega

def one (m : Int) : Bool := decide (m = 1 ∨ m = 2 ∨ m = 4)
theorem place_step (k : Nat) (m i : Int) (h : i < 3) (h0 : 0 ≤ i) : mark_place.l0 (k + 1) m i = if m = shl .i64 1 i then some i else mark_place.l0 k m (wrap64 (i + 1)) := by
  rw [mark_place.l0, if_pos h, if_pos h0]
theorem place_f (m : Int) (k : Nat) (hk : 4 ≤ k) : mark_place.f k m = some (if m = 1 then 0 else if m = 2 then 1 else if m = 4 then 2 else 3) := by
  have h : mark_place.f 4 m = some (if m = 1 then 0 else if m = 2 then 1 else if m = 4 then 2 else 3) := by
    have e0 : shl .i64 1 0 = 1 := by decide +kernel
    have e1 : shl .i64 1 1 = 2 := by decide +kernel
    have e2 : shl .i64 1 2 = 4 := by decide +kernel
    show mark_place.l0 (3 + 1) m 0 = _
    rw [place_step 3 m 0 (by decide) (by decide), e0]
    by_cases h1 : m = 1
    · rw [if_pos h1, if_pos h1]
    rw [if_neg h1, if_neg h1, w64 (i := 0 + 1) (by omega)]
    show mark_place.l0 (2 + 1) m 1 = _
    rw [place_step 2 m 1 (by decide) (by decide), e1]
    by_cases h2 : m = 2
    · rw [if_pos h2, if_pos h2]
    rw [if_neg h2, if_neg h2, w64 (i := 1 + 1) (by omega)]
    show mark_place.l0 (1 + 1) m 2 = _
    rw [place_step 1 m 2 (by decide) (by decide), e2]
    by_cases h4 : m = 4
    · rw [if_pos h4, if_pos h4]
    rw [if_neg h4, if_neg h4, w64 (i := 2 + 1) (by omega)]
    show mark_place.l0 (0 + 1) m 3 = _
    rw [mark_place.l0, if_neg (by decide)]
  exact lift_le (fun k => mark_place.f k m) (fun k => mark_place.mono m k) h hk
def mayE (s m : Int) : Int := if one m = true then (if 0 ≤ s ∧ s ≤ 4 then 0 else 4) else 1
theorem may_f (s m : Int) (k : Nat) (hk : 4 ≤ k) : mark_may.f k s m = some (mayE s m) := by
  unfold mark_may.f mayE one
  rw [place_f m k hk, Option.bind_some]
  unfold mark_Right.f
  by_cases h1 : m = 1
  · subst h1; by_cases a : s ≥ 0 <;> by_cases b : s ≤ 4 <;> simp [a, b]
  · by_cases h2 : m = 2
    · subst h2; by_cases a : s ≥ 0 <;> by_cases b : s ≤ 4 <;> simp [a, b]
    · by_cases h4 : m = 4
      · subst h4; by_cases a : s ≥ 0 <;> by_cases b : s ≤ 4 <;> simp [a, b]
      · simp [h1, h2, h4]
theorem list_f (m : Int) : ∃ L : List Int, (∀ k, 20 ≤ k → mark_List.f k m = some L) ∧ ((L.length : Int) = 1 ↔ one m = true) := by
  have main : ∃ L : List Int, mark_List.f 20 m = some L ∧ ((L.length : Int) = 1 ↔ one m = true) := by
    by_cases h : 0 ≤ m ∧ m ≤ 4
    · rcases (by omega : m = 0 ∨ m = 1 ∨ m = 2 ∨ m = 3 ∨ m = 4) with rfl | rfl | rfl | rfl | rfl
      · exact ⟨[], by decide +kernel, by decide⟩
      · exact ⟨[1], by decide +kernel, by decide⟩
      · exact ⟨[2], by decide +kernel, by decide⟩
      · exact ⟨[1, 2], by decide +kernel, by decide⟩
      · exact ⟨[4], by decide +kernel, by decide⟩
    · refine ⟨[], ?_, ?_⟩
      · have hh : ∀ k p, 4 ≤ k → one p = true → mark_Has.f k m p = some false := by
          intro k p hk hp
          unfold mark_Has.f
          rw [may_f m p k hk, Option.bind_some]
          unfold mayE
          rw [if_pos hp, if_neg h]
          rfl
        have st : ∀ k i p, 4 ≤ k → i < 3 → 0 ≤ i → shl .i64 1 i = p → one p = true → mark_List.l0 (k + 1) m [] i = mark_List.l0 k m [] (wrap64 (i + 1)) := by
          intro k i p hk hi h0 hp h1
          rw [mark_List.l0, if_pos hi, if_pos h0, hp, hh k p hk h1, Option.bind_some, if_neg (by decide)]
        show mark_List.l0 (19 + 1) m [] 0 = _
        rw [st 19 0 1 (by decide) (by decide) (by decide) (by decide +kernel) (by decide), w64 (i := 0 + 1) (by omega)]
        show mark_List.l0 (18 + 1) m [] 1 = _
        rw [st 18 1 2 (by decide) (by decide) (by decide) (by decide +kernel) (by decide), w64 (i := 1 + 1) (by omega)]
        show mark_List.l0 (17 + 1) m [] 2 = _
        rw [st 17 2 4 (by decide) (by decide) (by decide) (by decide +kernel) (by decide), w64 (i := 2 + 1) (by omega)]
        show mark_List.l0 (16 + 1) m [] 3 = _
        rw [mark_List.l0, if_neg (by decide)]
      · unfold one
        simp
        omega
  obtain ⟨L, h1, h2⟩ := main
  exact ⟨L, fun k hk => lift_le (fun k => mark_List.f k m) (fun k => mark_List.mono m k) h1 hk, h2⟩

def okKind (K F T GF GT N : Int) (l : List S57) (M : Int) : Bool :=
  if K = 1 then decide (F ≤ GF ∧ GF < GT ∧ GT ≤ T ∧ 0 ≤ N ∧ N ≤ (l.length : Int)) && M == 0
  else if K = 0 then M == 0 && (GF == 0 && (GT == 0 && N == 0))
  else if K = 2 ∨ K = 3 then decide (F < T ∧ one M = true ∧ (l.length : Int) = 0) && (GF == 0 && (GT == 0 && N == 0))
  else false
def chk (K F T GF GT N : Int) (l : List S57) (M : Int) : Int :=
  if (l.length : Int) > 2048 then 2 else if (decide (0 ≤ F ∧ F ≤ T ∧ T ≤ 2048) && okKind K F T GF GT N l M) && l.all rt then 0 else 1
theorem check_l0 (l : List S57) (hl : l.length ≤ 4611686018427387904) : ∀ (d k : Nat) (b : Bool) (i : Int), 0 ≤ i → i + d = l.length → d < k → step_Check.l0 k b l (l.length : Int) i = some (if (b && (l.drop i.toNat).all rt) = true then 0 else 1) := by
  intro d
  induction d with
  | zero =>
    intro k b i h0 h1 hk
    obtain ⟨k, rfl⟩ : ∃ m, k = m + 1 := ⟨k - 1, by omega⟩
    simp only [step_Check.l0]
    rw [if_neg (by omega), List.drop_eq_nil_of_le (by omega)]
    cases b <;> rfl
  | succ d ih =>
    intro k b i h0 h1 hk
    obtain ⟨k, rfl⟩ : ∃ m, k = m + 1 := ⟨k - 1, by omega⟩
    have ha : i.toNat < l.length := by omega
    simp only [step_Check.l0]
    rw [if_pos (by omega), if_pos h0, if_pos (by omega), rd_get l i ha, flat_right, Option.bind_some, w64 (by omega), List.drop_eq_getElem_cons ha]
    rw [ih k _ (i + 1) (by omega) (by omega) (by omega), ih k _ (i + 1) (by omega) (by omega) (by omega), show (i + 1).toNat = i.toNat + 1 by omega]
    cases b
    · simp
    · simp only [if_true, List.all_cons, Bool.true_and, rt]
theorem check_j1 (K F T GF GT N : Int) (l : List S57) (M : Int) (hl : l.length ≤ 4611686018427387904) (k : Nat) (hk : l.length + 3 < k) (b : Bool) (r0 r1 r2 r3 r4 r5 r7 : Int) :
    step_Check.j1 k b K F T GF GT N l M r0 r1 r2 r3 r4 r5 r7 = some (if ((b && (r3 == 0 && (r4 == 0 && r5 == 0))) && l.all rt) = true then 0 else 1) := by
  obtain ⟨k, rfl⟩ : ∃ m, k = m + 2 := ⟨k - 2, by omega⟩
  have J : ∀ b, step_Check.j2 (k + 1) b K F T GF GT N l M = some (if (b && l.all rt) = true then 0 else 1) := by
    intro b
    simp only [step_Check.j2]
    rw [check_l0 l hl l.length k b 0 (by omega) (by omega) (by omega)]
    rfl
  simp only [step_Check.j1, J]
  cases b
  · simp
  · by_cases h3 : r3 = 0 <;> by_cases h4 : r4 = 0 <;> simp [h3, h4]
theorem check_f (K F T GF GT N : Int) (l : List S57) (M : Int) (k : Nat) (hk : 2100 < k) : step_Check.f k K F T GF GT N l M = some (chk K F T GF GT N l M) := by
  by_cases h : (l.length : Int) > 2048
  · unfold step_Check.f chk
    rw [if_pos h, if_pos h]
  have hl : l.length ≤ 4611686018427387904 := by omega
  obtain ⟨k, rfl⟩ : ∃ m, k = m + 1 := ⟨k - 1, by omega⟩
  obtain ⟨L, hL, hone⟩ := list_f M
  have hL' := hL k (by omega)
  have J := check_j1 K F T GF GT N l M hl k (by omega)
  have J0 : ∀ b, step_Check.j0 (k + 1) b K F T GF GT N l M K 0 0 GF GT N M = some (if ((b && okKind K F T GF GT N l M) && l.all rt) = true then 0 else 1) := by
    intro b
    simp only [step_Check.j0, J, hL', Option.bind_some]
    unfold okKind
    generalize l.all rt = al
    cases b
    · by_cases h1 : K = 1
      · simp [h1]
      · by_cases h0 : K = 0
        · simp [h0]
        · by_cases h2 : K = 2
          · simp [h2]
          · by_cases h3 : K = 3
            · simp [h3]
            · simp [h0, h1, h2, h3]
    · by_cases h1 : K = 1
      · subst h1
        by_cases a1 : F ≤ GF <;> by_cases a2 : GF < GT <;> by_cases a3 : GT ≤ T <;> by_cases a4 : N ≥ 0 <;> by_cases a5 : N ≤ (l.length : Int) <;> simp [a1, a2, a3, a4, a5]
      · by_cases h0 : K = 0
        · subst h0
          simp
        · by_cases h2 : K = 2
          · subst h2
            by_cases a1 : F < T <;> by_cases a2 : (L.length : Int) = 1
            · have := hone.1 a2
              simp [a1, a2, this]
            · have : one M = false := by cases h : one M; rfl; exact absurd (hone.2 h) a2
              simp [a1, a2, this]
            · simp [a1]
            · simp [a1]
          · by_cases h3 : K = 3
            · subst h3
              by_cases a1 : F < T <;> by_cases a2 : (L.length : Int) = 1
              · have := hone.1 a2
                simp [a1, a2, this]
              · have : one M = false := by cases h : one M; rfl; exact absurd (hone.2 h) a2
                simp [a1, a2, this]
              · simp [a1]
              · simp [a1]
            · simp [h0, h1, h2, h3]
  unfold step_Check.f chk
  simp only [J0]
  · rw [if_neg h, if_neg h]
    by_cases a1 : F ≥ 0 <;> by_cases a2 : F ≤ T <;> simp [a1, a2]
structure Sound (K F T GF GT N : Int) (l : List S57) (M : Int) : Prop where
  len : l.length ≤ 2048
  f0 : 0 ≤ F
  ft : F ≤ T
  t : T ≤ 2048
  kind : okKind K F T GF GT N l M = true
  all : l.all rt = true
theorem chk_good {K F T GF GT N : Int} {l : List S57} {M : Int} (h : chk K F T GF GT N l M = 0) : Sound K F T GF GT N l M := by
  unfold chk at h
  split at h
  · cases h
  · split at h
    · rename_i h1 h2
      simp only [Bool.and_eq_true, decide_eq_true_eq] at h2
      exact ⟨by omega, h2.1.1.1, h2.1.1.2.1, h2.1.1.2.2, h2.1.2, h2.2⟩
    · cases h
theorem Sound.around {K F T GF GT N : Int} {l : List S57} {M : Int} (h : Sound K F T GF GT N l M) (h1 : K = 1) : F ≤ GF ∧ GF < GT ∧ GT ≤ T ∧ 0 ≤ N ∧ N ≤ (l.length : Int) := by
  have := h.kind
  unfold okKind at this
  rw [if_pos h1] at this
  simp only [Bool.and_eq_true, decide_eq_true_eq] at this
  exact this.1
theorem Sound.kinds {K F T GF GT N : Int} {l : List S57} {M : Int} (h : Sound K F T GF GT N l M) : K = 0 ∨ K = 1 ∨ K = 2 ∨ K = 3 := by
  have := h.kind
  unfold okKind at this
  split at this
  · omega
  · split at this
    · omega
    · split at this
      · omega
      · cases this
end Go.Proofs.Ytlngjgcodknpiaa.StepA
/- The doing of a step, in plain words. -/
namespace Go.Proofs.Ytlngjgcodknpiaa.StepB
open Go.RowKit Go.Proofs.YtlngjgcodknpiaaW.PrintWords Go.Proofs.YtlngjgcodknpiaaW.PrintMore
open Go.Proofs.Ytlngjgcodknpiaa Go.Proofs.Ytlngjgcodknpiaa.PSm Go.Proofs.Ytlngjgcodknpiaa.StepA
set_option linter.unusedSimpArgs false
set_option linter.unusedVariables false

def setM (t : S57) (m : Int) : S57 := ⟨t.f0, t.f1, t.f2, m⟩
def marks (g : Int → Int) (l : List S57) (i T : Nat) : List S57 := l.mapIdx fun j t => if i ≤ j ∧ j < T ∧ t.f0 = 0 then setM t (g t.f3) else t
theorem marks_length (g : Int → Int) (l : List S57) (i T : Nat) : (marks g l i T).length = l.length := by simp [marks]
theorem marks_get (g : Int → Int) (l : List S57) (i T j : Nat) (h : j < (marks g l i T).length) : (marks g l i T)[j] = if i ≤ j ∧ j < T ∧ (l[j]'(by simpa [marks] using h)).f0 = 0 then setM (l[j]'(by simpa [marks] using h)) (g (l[j]'(by simpa [marks] using h)).f3) else l[j]'(by simpa [marks] using h) := by simp [marks]
theorem marks_done (g : Int → Int) (l : List S57) (i T : Nat) (h : T ≤ i) : marks g l i T = l := by
  refine List.ext_getElem (marks_length _ _ _ _) fun j h1 h2 => ?_
  rw [marks_get, if_neg (by omega)]
theorem marks_skip (g : Int → Int) (l : List S57) (i T : Nat) (h : i < l.length) (h0 : ¬ l[i].f0 = 0) : marks g l (i + 1) T = marks g l i T := by
  refine List.ext_getElem (by rw [marks_length, marks_length]) fun j h1 h2 => ?_
  rw [marks_get, marks_get]
  by_cases e : j = i
  · subst e
    rw [if_neg (by omega), if_neg (fun hh => h0 hh.2.2)]
  · by_cases c : i + 1 ≤ j
    · simp [c, show i ≤ j by omega]
    · simp [c, show ¬ i ≤ j by omega]
theorem marks_set (g : Int → Int) (l : List S57) (i T : Nat) (h : i < l.length) (hT : i < T) (h0 : l[i].f0 = 0) : marks g (l.set i (setM l[i] (g l[i].f3))) (i + 1) T = marks g l i T := by
  refine List.ext_getElem (by rw [marks_length, marks_length, List.length_set]) fun j h1 h2 => ?_
  rw [marks_get, marks_get]
  by_cases e : j = i
  · subst e
    rw [if_neg (by omega), if_pos ⟨Nat.le_refl _, hT, h0⟩]
    simp
  · have hne : ¬ i = j := fun h => e h.symm
    by_cases c : i + 1 ≤ j
    · simp [c, show i ≤ j by omega, List.getElem_set, hne]
    · simp [c, show ¬ i ≤ j by omega, List.getElem_set, hne]

def gA (m v : Int) : Int := ((mark_Add.f 4 v m).getD (0, 0)).1
def gT (m v : Int) : Int := ((mark_Take.f 4 v m).getD (0, 0)).1
theorem add_f (m v : Int) (k : Nat) (hk : 4 ≤ k) : ∃ e, mark_Add.f k v m = some (gA m v, e) := by
  have : ∃ r, mark_Add.f 4 v m = some r := by
    unfold mark_Add.f
    rw [may_f v m 4 (by omega), Option.bind_some]
    repeat' split
    all_goals exact ⟨_, rfl⟩
  obtain ⟨r, hr⟩ := this
  refine ⟨r.2, ?_⟩
  rw [gA, hr]
  exact lift_le (fun k => mark_Add.f k v m) (fun k => mark_Add.mono v m k) hr hk
theorem take_f (m v : Int) (k : Nat) (hk : 4 ≤ k) : ∃ e, mark_Take.f k v m = some (gT m v, e) := by
  have : ∃ r, mark_Take.f 4 v m = some r := by
    unfold mark_Take.f
    rw [may_f v m 4 (by omega), Option.bind_some]
    repeat' split
    all_goals exact ⟨_, rfl⟩
  obtain ⟨r, hr⟩ := this
  refine ⟨r.2, ?_⟩
  rw [gT, hr]
  exact lift_le (fun k => mark_Take.f k v m) (fun k => mark_Take.mono v m k) hr hk
theorem do_l1 (K F GF GT N : Int) (sl : List S57) (M : Int) (T : Nat) : ∀ (d k i : Nat) (x : List S57), i + d = T → T ≤ x.length → x.length ≤ 4611686018427387904 → d + 6 ≤ k → step_do.l1 k x (i : Int) K F (T : Int) GF GT N sl M = some (marks (gA M) x i T)
  | 0, k, i, x, h, hx, hl, hk => by
    obtain ⟨k, rfl⟩ : ∃ m, k = m + 1 := ⟨k - 1, by omega⟩
    simp only [step_do.l1]
    rw [if_neg (by omega), marks_done _ _ _ _ (by omega)]
  | d + 1, k, i, x, h, hx, hl, hk => by
    obtain ⟨k, rfl⟩ : ∃ m, k = m + 1 := ⟨k - 1, by omega⟩
    have hi : i < x.length := by omega
    simp only [step_do.l1]
    rw [if_pos (by omega), if_pos (by omega), if_pos (by omega), rd_get x (i : Int) (by rw [Int.toNat_natCast]; exact hi), w64 (by omega)]
    simp only [Int.toNat_natCast]
    by_cases h0 : x[i].f0 = 0
    · obtain ⟨e, he⟩ := add_f M x[i].f3 k (by omega)
      rw [if_pos h0, he, Option.bind_some]
      have := do_l1 K F GF GT N sl M T d k (i + 1) (x.set i (setM x[i] (gA M x[i].f3))) (by omega) (by rw [List.length_set]; exact hx) (by rw [List.length_set]; exact hl) (by omega)
      rw [marks_set _ x i T hi (by omega) h0] at this
      exact this
    · rw [if_neg h0]
      have := do_l1 K F GF GT N sl M T d k (i + 1) x (by omega) hx hl (by omega)
      rw [marks_skip _ x i T hi h0] at this
      exact this
theorem do_l0 (K F GF GT N : Int) (sl : List S57) (M : Int) (T : Nat) : ∀ (d k i : Nat) (x : List S57), i + d = T → T ≤ x.length → x.length ≤ 4611686018427387904 → d + 6 ≤ k → step_do.l0 k x (i : Int) K F (T : Int) GF GT N sl M = some (marks (gT M) x i T)
  | 0, k, i, x, h, hx, hl, hk => by
    obtain ⟨k, rfl⟩ : ∃ m, k = m + 1 := ⟨k - 1, by omega⟩
    simp only [step_do.l0]
    rw [if_neg (by omega), marks_done _ _ _ _ (by omega)]
  | d + 1, k, i, x, h, hx, hl, hk => by
    obtain ⟨k, rfl⟩ : ∃ m, k = m + 1 := ⟨k - 1, by omega⟩
    have hi : i < x.length := by omega
    simp only [step_do.l0]
    rw [if_pos (by omega), if_pos (by omega), if_pos (by omega), rd_get x (i : Int) (by rw [Int.toNat_natCast]; exact hi), w64 (by omega)]
    simp only [Int.toNat_natCast]
    by_cases h0 : x[i].f0 = 0
    · obtain ⟨e, he⟩ := take_f M x[i].f3 k (by omega)
      rw [if_pos h0, he, Option.bind_some]
      have := do_l0 K F GF GT N sl M T d k (i + 1) (x.set i (setM x[i] (gT M x[i].f3))) (by omega) (by rw [List.length_set]; exact hx) (by rw [List.length_set]; exact hl) (by omega)
      rw [marks_set _ x i T hi (by omega) h0] at this
      exact this
    · rw [if_neg h0]
      have := do_l0 K F GF GT N sl M T d k (i + 1) x (by omega) hx hl (by omega)
      rw [marks_skip _ x i T hi h0] at this
      exact this
def D (l : List S57) (K F T GF GT N : Int) (sl : List S57) (M : Int) : List S57 :=
  if K = 0 then l.take F.toNat ++ (sl ++ l.drop T.toNat)
  else if K = 1 then l.take F.toNat ++ (sl.take N.toNat ++ ((l.take GT.toNat).drop GF.toNat ++ (sl.drop N.toNat ++ l.drop T.toNat)))
  else if K = 3 then marks (gT M) l F.toNat T.toNat else marks (gA M) l F.toNat T.toNat
theorem do_f {K F T GF GT N : Int} {sl : List S57} {M : Int} (h : Sound K F T GF GT N sl M) (l : List S57) (hT : T ≤ (l.length : Int)) (hl : l.length ≤ 4398046500000) (k : Nat) (hk : l.length + 10 ≤ k) : step_do.f k l K F T GF GT N sl M = some (D l K F T GF GT N sl M) := by
  have h1 := h.len
  have h2 := h.f0
  have h3 := h.ft
  unfold step_do.f D
  by_cases k0 : K = 0
  · rw [if_pos k0, if_pos k0, if_pos h2, if_pos (by omega), if_pos (by omega), if_pos hT]
    unfold step_tokens.f
    simp only [List.flatten_cons, List.flatten_nil, List.append_nil, List.length_append, List.length_take, List.length_drop]
    rw [if_pos (by omega)]
    rfl
  · rw [if_neg k0, if_neg k0]
    by_cases k1 : K = 1
    · obtain ⟨a1, a2, a3, a4, a5⟩ := h.around k1
      rw [if_pos k1, if_pos k1, if_pos h2, if_pos (by omega), if_pos a4, if_pos a5, if_pos (by omega), if_pos (by omega), if_pos (by omega), if_pos (by omega), if_pos hT]
      unfold step_tokens.f
      simp only [List.flatten_cons, List.flatten_nil, List.append_nil, List.length_append, List.length_take, List.length_drop]
      rw [if_pos (by omega)]
      rfl
    · rw [if_neg k1, if_neg k1]
      obtain ⟨f, rfl⟩ : ∃ f : Nat, F = (f : Int) := ⟨F.toNat, by omega⟩
      obtain ⟨t, rfl⟩ : ∃ t : Nat, T = (t : Int) := ⟨T.toNat, by omega⟩
      have htok : step_tokens.f [l] = some l := by
        unfold step_tokens.f
        simp only [List.flatten_cons, List.flatten_nil, List.append_nil]
        rw [if_pos (by omega)]
      rw [htok, Option.bind_some]
      simp only [Int.toNat_natCast, Option.bind_some]
      by_cases k3 : K = 3
      · rw [if_pos k3, if_pos k3]
        exact do_l0 K f GF GT N sl M t (t - f) k f l (by omega) (by omega) (by omega) (by omega)
      · rw [if_neg k3, if_neg k3]
        exact do_l1 K f GF GT N sl M t (t - f) k f l (by omega) (by omega) (by omega) (by omega)
def A (l : List S57) (K F T GF GT N : Int) (sl : List S57) (M : Int) : List S57 × Int :=
  if (fc l).2 = 0 then (if chk K F T GF GT N sl M = 0 then (if T > (l.length : Int) then ([], 1) else if (fc (D l K F T GF GT N sl M)).2 = 0 then (D l K F T GF GT N sl M, 0) else if (fc (D l K F T GF GT N sl M)).2 = 3 then ([], 4) else ([], (fc (D l K F T GF GT N sl M)).2)) else ([], chk K F T GF GT N sl M)) else ([], (fc l).2)
theorem apply_f (l : List S57) (K F T GF GT N : Int) (sl : List S57) (M : Int) (k : Nat) (hk : l.length + 2200 ≤ k) : step_Apply.f k l K F T GF GT N sl M = some (A l K F T GF GT N sl M) := by
  unfold step_Apply.f A
  rw [flat_check, Option.bind_some, check_f K F T GF GT N sl M k (by omega), Option.bind_some]
  by_cases c1 : (fc l).2 = 0
  · rw [if_pos c1, if_pos c1]
    by_cases c2 : chk K F T GF GT N sl M = 0
    · rw [if_pos c2, if_pos c2]
      by_cases c3 : T > (l.length : Int)
      · rw [if_pos c3, if_pos c3]
      · have := fc_len c1
        rw [if_neg c3, if_neg c3, do_f (chk_good c2) l (by omega) (by omega) k (by omega), Option.bind_some, flat_check, Option.bind_some]
        by_cases c4 : (fc (D l K F T GF GT N sl M)).2 = 0
        · rw [if_pos c4, if_pos c4]
        · rw [if_neg c4, if_neg c4]
          by_cases c5 : (fc (D l K F T GF GT N sl M)).2 = 3
          · rw [if_pos c5, if_pos c5]
          · rw [if_neg c5, if_neg c5]
    · rw [if_neg c2, if_neg c2]
  · rw [if_neg c1, if_neg c1]

def eqT (t u : S57) : Bool := t.f0 == u.f0 && (t.f1 == u.f1 && (t.f2 == u.f2 && t.f3 == u.f3))
def sameL : List S57 → List S57 → Bool
  | [], [] => true
  | t :: a, u :: b => eqT t u && sameL a b
  | _, _ => false
theorem sameL_refl : ∀ a : List S57, sameL a a = true
  | [] => rfl
  | t :: a => by simp [sameL, eqT, sameL_refl a]
theorem sameL_length : ∀ (a b : List S57), a.length ≠ b.length → sameL a b = false
  | [], [], h => absurd rfl h
  | [], _ :: _, _ => rfl
  | _ :: _, [], _ => rfl
  | t :: a, u :: b, h => by
    simp only [sameL]
    rw [sameL_length a b (by simpa using h)]
    simp
theorem ne_test (t u : S57) : (!(t.f0 == u.f0) || (!(t.f1 == u.f1) || (!(t.f2 == u.f2) || (!(t.f3 == u.f3))))) = !(eqT t u) := by
  unfold eqT
  cases t.f0 == u.f0 <;> cases t.f1 == u.f1 <;> cases t.f2 == u.f2 <;> cases t.f3 == u.f3 <;> rfl
theorem alike_loop (a b : List S57) (hab : a.length = b.length) (hl : a.length < 17592186044416) : ∀ (d k : Nat) (i : Int), 0 ≤ i → i + d = a.length → d < k → emenderlaw09_alike.l0 k a b i = some (sameL (a.drop i.toNat) (b.drop i.toNat)) := by
  intro d
  induction d with
  | zero =>
    intro k i h0 h1 hk
    obtain ⟨k, rfl⟩ : ∃ m, k = m + 1 := ⟨k - 1, by omega⟩
    simp only [emenderlaw09_alike.l0]
    rw [if_neg (by omega), List.drop_eq_nil_of_le (by omega), List.drop_eq_nil_of_le (by omega)]
    rfl
  | succ d ih =>
    intro k i h0 h1 hk
    obtain ⟨k, rfl⟩ : ∃ m, k = m + 1 := ⟨k - 1, by omega⟩
    have ha : i.toNat < a.length := by omega
    have hb : i.toNat < b.length := by omega
    simp only [emenderlaw09_alike.l0]
    rw [if_pos (by omega), if_pos h0, if_pos (by omega), rd_get a i ha, rd_get b i hb, ne_test, w64 (by omega), List.drop_eq_getElem_cons ha, List.drop_eq_getElem_cons hb]
    simp only [sameL]
    cases e : eqT a[i.toNat] b[i.toNat] with
    | false => simp
    | true =>
      rw [if_neg (by decide), ih k (i + 1) (by omega) (by omega) (by omega), show (i + 1).toNat = i.toNat + 1 by omega]
      simp
theorem alike (a b : List S57) (hl : a.length < 17592186044416) (k : Nat) (hk : a.length < k) : emenderlaw09_alike.f k a b = some (sameL a b) := by
  unfold emenderlaw09_alike.f
  by_cases h : (a.length : Int) = (b.length : Int)
  · rw [if_pos h, alike_loop a b (by omega) hl a.length k 0 (by omega) (by omega) hk]
    rfl
  · rw [if_neg h, sameL_length a b (by omega)]
theorem awake (k : Nat) (hk : 2200 ≤ k) : emenderlaw09_awake.f k = some true := by
  unfold emenderlaw09_awake.f
  rw [apply_f [] 0 0 0 0 0 0 [(⟨0, 0, 120, 0⟩ : S57)] 0 k (by simpa using hk), Option.bind_some]
  have e : A [] 0 0 0 0 0 0 [(⟨0, 0, 120, 0⟩ : S57)] 0 = ([(⟨0, 0, 120, 0⟩ : S57)], 0) := by rfl
  rw [e]
  rfl
end Go.Proofs.Ytlngjgcodknpiaa.StepB
/- What the printed functions of layer 4 tell, as plain functions on lists of tokens. -/
namespace Go.Proofs.Ytlngjgcodknpiaa.FlatA
open Go.RowKit Go.Proofs.YtlngjgcodknpiaaW.PrintWords Go.Proofs.YtlngjgcodknpiaaW.PrintMore
open Go.Proofs.Ytlngjgcodknpiaa Go.Proofs.Ytlngjgcodknpiaa.PSm

theorem rd_get (l : List S57) (i : Int) (h : i.toNat < l.length) : rd_T57 l i = l[i.toNat] := by
  simp [rd_T57, List.getD_eq_getElem?_getD, List.getElem?_eq_getElem h]
theorem w64 {i : Int} (h0 : -9223372036854775808 ≤ i) (h1 : i ≤ 9223372036854775807) : wrap64 i = i := by unfold wrap64; omega

def right (a b c d : Int) : Bool := (flat_Right.f a b c d).getD false
theorem flat_right (a b c d : Int) : flat_Right.f a b c d = some (right a b c d) := by
  have h : ∃ r, flat_Right.f a b c d = some r := by
    unfold flat_Right.f mark_Right.f
    repeat' split
    all_goals first | exact ⟨_, rfl⟩ | (simp only [Option.bind_some]; exact ⟨_, rfl⟩)
  obtain ⟨r, h⟩ := h
  rw [right, h]
  rfl
theorem ref_right (k : Nat) (a b c d : Int) : emenderref04_Right.f (k + 1) a b c d = some (right a b c d) := by
  rw [← flat_right]
  unfold emenderref04_Right.f flat_Right.f mark_Right.f emenderref04_Point.f emenderref03_Right.f emenderref04_Right.j0
  by_cases h0 : a = 0
  · subst h0
    simp only [if_true]
    by_cases h1 : b = 0
    · simp only [h1, if_true]
      by_cases h2 : c ≥ 0
      · by_cases h3 : c ≤ 1114111
        · simp only [if_pos h2, if_pos h3]
          by_cases h4 : c < 55296
          · have h5 : ¬ (c / 2048 = 27) := by omega
            simp only [if_pos h4, if_neg h5, Option.bind_some, if_true]
          · by_cases h6 : c > 57343
            · have h5 : ¬ (c / 2048 = 27) := by omega
              simp only [if_neg h4, if_neg h5, Option.bind_some, decide_eq_true h6, if_true]
            · have h5 : (c / 2048 = 27) := by omega
              simp only [if_neg h4, if_pos h5, Option.bind_some, decide_eq_false h6]
              rfl
        · simp only [if_pos h2, if_neg h3, Option.bind_some]
          rfl
      · simp only [if_neg h2, Option.bind_some]
        rfl
    · simp only [if_neg h1]
  · simp only [if_neg h0]
    by_cases h1 : a = 1
    · subst h1
      simp (config := {decide := true}) only [if_true, if_false]
      by_cases hb : b > 0
      · have hb' : b ≥ 1 := by omega
        simp only [if_pos hb, if_pos hb']
        by_cases hb2 : b < 16
        · simp only [if_pos hb2]
          by_cases hc : c ≥ 0
          · simp only [if_pos hc]
            by_cases hc2 : c < 16
            · have : c ≤ 15 := by omega
              simp only [if_pos hc2, if_pos this]
            · have : ¬ c ≤ 15 := by omega
              simp only [if_neg hc2, if_neg this]
          · simp only [if_neg hc]
        · simp only [if_neg hb2]
      · have hb' : ¬ b ≥ 1 := by omega
        simp only [if_neg hb, if_neg hb']
    · simp only [if_neg h1]
      by_cases h3 : a = 3
      · subst h3
        simp (config := {decide := true}) only [if_true, if_false]
        by_cases hb : b > 0
        · have hb' : b ≥ 1 := by omega
          simp only [if_pos hb, if_pos hb']
          by_cases hb2 : b < 16
          · simp only [if_pos hb2]
            by_cases hc : c ≥ 0
            · simp only [if_pos hc]
              by_cases hc2 : c < 16
              · have : c ≤ 15 := by omega
                simp only [if_pos hc2, if_pos this]
              · have : ¬ c ≤ 15 := by omega
                simp only [if_neg hc2, if_neg this]
            · simp only [if_neg hc]
          · simp only [if_neg hb2]
        · have hb' : ¬ b ≥ 1 := by omega
          simp only [if_neg hb, if_neg hb']
      · have h3' : (a == 3) = false := by simpa using h3
        simp only [if_neg h3, h3', if_neg (show ¬ (false = true) by decide)]
        by_cases h2 : a = 2
        · subst h2
          simp only [if_true]
          by_cases hb : b = 0
          · by_cases hc : c = 0
            · simp [hb, hc]
            · simp [hb, hc]
          · simp [hb]
        · simp only [if_neg h2]

end Go.Proofs.Ytlngjgcodknpiaa.FlatA
/- More of what is open in tokens: how it changes from place to place. -/
namespace Go.Proofs.Ytlngjgcodknpiaa.FlatB
open Go.RowKit Go.Proofs.YtlngjgcodknpiaaW.PrintWords Go.Proofs.YtlngjgcodknpiaaW.PrintMore
open Go.Proofs.Ytlngjgcodknpiaa Go.Proofs.Ytlngjgcodknpiaa.PSm Go.Proofs.Ytlngjgcodknpiaa.FlatA

end Go.Proofs.Ytlngjgcodknpiaa.FlatB
/- The partner of a place, what stands just in a place, and the check, told by the program and by the document's answer: the same. -/
namespace Go.Proofs.Ytlngjgcodknpiaa.FlatC
open Go.RowKit Go.Proofs.YtlngjgcodknpiaaW.PrintWords Go.Proofs.YtlngjgcodknpiaaW.PrintMore
open Go.Proofs.Ytlngjgcodknpiaa Go.Proofs.Ytlngjgcodknpiaa.PSm Go.Proofs.Ytlngjgcodknpiaa.FlatA Go.Proofs.Ytlngjgcodknpiaa.FlatB

theorem check_some : ∀ (l : List S57) (n i : Int), ∃ r, flat_Check.l0 l n i = some r
  | [], n, i => by
    unfold flat_Check.l0
    split <;> exact ⟨_, rfl⟩
  | t :: ts, n, i => by
    unfold flat_Check.l0
    rw [flat_right, Option.bind_some]
    split
    · split
      · split
        · exact ⟨_, rfl⟩
        · exact check_some ts _ _
      · split
        · split
          · exact ⟨_, rfl⟩
          · exact check_some ts _ _
        · exact check_some ts _ _
    · exact ⟨_, rfl⟩
end Go.Proofs.Ytlngjgcodknpiaa.FlatC
/- The document's words for steps, in plain words: they tell what the program tells. -/
namespace Go.Proofs.Ytlngjgcodknpiaa.StepE
open Go.RowKit Go.Proofs.YtlngjgcodknpiaaW.PrintWords Go.Proofs.YtlngjgcodknpiaaW.PrintMore
open Go.Proofs.Ytlngjgcodknpiaa Go.Proofs.Ytlngjgcodknpiaa.PSm Go.Proofs.Ytlngjgcodknpiaa.StepA Go.Proofs.Ytlngjgcodknpiaa.StepB
set_option linter.unusedSimpArgs false
set_option linter.unusedVariables false

theorem rright (k : Nat) (a b c d : Int) : emenderref04_Right.f (k + 1) a b c d = some (right a b c d) := FlatA.ref_right k a b c d
theorem rchk_l0 (K F T GF GT N : Int) (sl : List S57) (M : Int) (hl : sl.length ≤ 4611686018427387904) : ∀ (d k : Nat) (b : Bool) (i : Int), 0 ≤ i → i + d = sl.length → d + 1 < k → emenderref09_Check.l0 k b i K F T GF GT N sl M = some (if (b && (sl.drop i.toNat).all rt) = true then 0 else 1) := by
  intro d
  induction d with
  | zero =>
    intro k b i h0 h1 hk
    obtain ⟨k, rfl⟩ : ∃ m, k = m + 1 := ⟨k - 1, by omega⟩
    simp only [emenderref09_Check.l0]
    rw [if_neg (by omega), List.drop_eq_nil_of_le (by omega)]
    cases b <;> rfl
  | succ d ih =>
    intro k b i h0 h1 hk
    obtain ⟨k, rfl⟩ : ∃ m, k = m + 1 := ⟨k - 1, by omega⟩
    have ha : i.toNat < sl.length := by omega
    simp only [emenderref09_Check.l0]
    obtain ⟨k, rfl⟩ : ∃ m, k = m + 1 := ⟨k - 1, by omega⟩
    rw [if_pos (by omega), if_pos h0, rd_get sl i ha, rright, Option.bind_some, w64 (by omega), List.drop_eq_getElem_cons ha]
    rw [ih (k + 1) _ (i + 1) (by omega) (by omega) (by omega), ih (k + 1) _ (i + 1) (by omega) (by omega) (by omega), show (i + 1).toNat = i.toNat + 1 by omega]
    cases b
    · simp
    · simp only [if_true, List.all_cons, Bool.true_and, rt]
theorem rchk (K F T GF GT N : Int) (sl : List S57) (M : Int) (k : Nat) (hk : 2100 < k) : emenderref09_Check.f k K F T GF GT N sl M = some (chk K F T GF GT N sl M) := by
  by_cases h : (sl.length : Int) > 2048
  · unfold emenderref09_Check.f chk
    rw [if_pos h, if_pos h]
  have hl : sl.length ≤ 4611686018427387904 := by omega
  obtain ⟨k, rfl⟩ : ∃ m, k = m + 5 := ⟨k - 5, by omega⟩
  have J3 : ∀ m b, sl.length + 3 < m → emenderref09_Check.j3 m b K F T GF GT N sl M = some (if (b && sl.all rt) = true then 0 else 1) := by
    intro m b hm
    obtain ⟨m, rfl⟩ : ∃ n, m = n + 1 := ⟨m - 1, by omega⟩
    simp only [emenderref09_Check.j3]
    rw [rchk_l0 K F T GF GT N sl M hl sl.length m b 0 (by omega) (by omega) (by omega)]
    rfl
  have J2 : ∀ b c, emenderref09_Check.j2 (k + 3) b c K F T GF GT N sl M = some (if ((c && (b && (decide (F < T) && (decide ((sl.length : Int) = 0) && one M)))) && sl.all rt) = true then 0 else 1) := by
    intro b c
    simp only [emenderref09_Check.j2, J3 (k + 2) _ (by omega)]
    unfold one
    generalize sl.all rt = al
    cases c
    · simp
    · cases b
      · simp
      · rw [if_pos rfl, if_pos rfl]
        by_cases a1 : F < T
        · rw [if_pos a1, decide_eq_true a1]
          by_cases a2 : (sl.length : Int) = 0
          · rw [if_pos a2, decide_eq_true a2]
            by_cases m1 : M = 1
            · rw [if_pos m1, decide_eq_true (.inl m1)]
              simp
            · rw [if_neg m1]
              by_cases m2 : M = 2
              · rw [if_pos m2, decide_eq_true (.inr (.inl m2))]
                simp
              · rw [if_neg m2]
                by_cases m4 : M = 4
                · rw [beq_iff_eq.mpr m4, decide_eq_true (.inr (.inr m4))]
                  simp
                · rw [beq_eq_false_iff_ne.mpr m4, decide_eq_false (by omega)]
                  simp
          · rw [if_neg a2, decide_eq_false a2]
            simp
        · rw [if_neg a1, decide_eq_false a1]
          simp
  have J1 : ∀ b, emenderref09_Check.j1 (k + 4) b K F T GF GT N sl M = some (if ((if K = 1 then decide (F ≤ GF ∧ GF < GT ∧ GT ≤ T ∧ 0 ≤ N ∧ N ≤ (sl.length : Int)) && M == 0 else if K = 0 then b && M == 0 else if K = 2 ∨ K = 3 then b && (decide (F < T) && (decide ((sl.length : Int) = 0) && one M)) else false) && sl.all rt) = true then 0 else 1) := by
    intro b
    simp only [emenderref09_Check.j1, J2, J3 (k + 3) _ (by omega)]
    generalize sl.all rt = al
    by_cases h0 : K = 0
    · subst h0
      cases b <;> simp
    · by_cases h1 : K = 1
      · subst h1
        by_cases a1 : F ≤ GF <;> by_cases a2 : GF < GT <;> by_cases a3 : GT ≤ T <;> by_cases a4 : N ≥ 0 <;> by_cases a5 : N ≤ (sl.length : Int) <;> simp [a1, a2, a3, a4, a5]
      · by_cases h2 : K = 2
        · subst h2
          simp
        · by_cases h3 : K = 3
          · subst h3
            simp
          · simp [h0, h1, h2, h3]
  have J0 : ∀ c, emenderref09_Check.j0 (k + 5) c K F T GF GT N sl M = some (if ((!c && okKind K F T GF GT N sl M) && sl.all rt) = true then 0 else 1) := by
    intro c
    simp only [emenderref09_Check.j0, J1]
    unfold okKind
    generalize sl.all rt = al
    cases c
    · by_cases h1 : K = 1
      · simp [h1]
      · by_cases h0 : K = 0
        · subst h0
          by_cases a1 : GF = 0 <;> by_cases a2 : GT = 0 <;> by_cases a3 : N = 0 <;> simp [a1, a2, a3]
        · by_cases h23 : K = 2 ∨ K = 3
          · simp only [if_neg h1, if_neg h0, if_pos h23]
            by_cases a1 : GF = 0 <;> by_cases a2 : GT = 0 <;> by_cases a3 : N = 0 <;> simp [a1, a2, a3, and_assoc, and_comm, and_left_comm]
          · simp only [if_neg h1, if_neg h0, if_neg h23]
            simp
    · simp
  unfold emenderref09_Check.f chk
  simp only [J0]
  rw [if_neg h, if_neg h]
  by_cases a1 : F < 0
  · simp [a1, show ¬ 0 ≤ F by omega]
  · by_cases a2 : F > T
    · simp [a1, a2, show ¬ F ≤ T by omega]
    · by_cases a3 : T > 2048
      · simp [a1, a2, a3, show ¬ T ≤ 2048 by omega]
      · simp [a1, a2, a3, show F ≤ T by omega, show 0 ≤ F by omega, show T ≤ 2048 by omega]

theorem rjoin_l0 (ls : List (List S57)) (hls : ls.length ≤ 4611686018427387904) (hn : ls.flatten.length < 4398046511104) : ∀ (d k i : Nat) (out : List S57), i + d = ls.length → d < k → out = (ls.take i).flatten → emenderref09_join.l0 k ls out (i : Int) = some ls.flatten
  | 0, k, i, out, h, hk, ho => by
    obtain ⟨k, rfl⟩ : ∃ m, k = m + 1 := ⟨k - 1, by omega⟩
    simp only [emenderref09_join.l0]
    rw [if_neg (by omega), ho, List.take_of_length_le (by omega)]
  | d + 1, k, i, out, h, hk, ho => by
    obtain ⟨k, rfl⟩ : ∃ m, k = m + 1 := ⟨k - 1, by omega⟩
    have hi : i < ls.length := by omega
    have e : rd_L2 ls (i : Int) = ls[i] := by simp [rd_L2, List.getD_eq_getElem?_getD, List.getElem?_eq_getElem hi]
    have h1 : (ls.take (i + 1)).flatten = out ++ ls[i] := by
      rw [List.take_succ_eq_append_getElem hi, List.flatten_append, ho]
      simp
    have h2 : (ls.take (i + 1)).flatten.length ≤ ls.flatten.length := by
      conv => rhs; rw [← List.take_append_drop (i + 1) ls, List.flatten_append, List.length_append]
      omega
    rw [h1, List.length_append] at h2
    simp only [emenderref09_join.l0]
    rw [if_pos (by omega), if_pos (by omega), e, if_pos (by omega), w64 (by omega)]
    exact rjoin_l0 ls hls hn d k (i + 1) _ (by omega) (by omega) h1.symm
theorem rjoin (ls : List (List S57)) (hls : ls.length ≤ 4611686018427387904) (hn : ls.flatten.length < 4398046511104) (k : Nat) (hk : ls.length < k) : emenderref09_join.f k ls = some ls.flatten := rjoin_l0 ls hls hn ls.length k 0 [] (by omega) hk (by simp)
end Go.Proofs.Ytlngjgcodknpiaa.StepE
