/- Lines of tokens: the program's and the document's words for them are the same. -/
import Derived.Test.YtebbngeamnpgjaaInlA
import Derived.Test.YtebbngeamnpgjaaPIpx0
import Derived.Test.YtebbngeamnpgjaaPIpx10
import Derived.Test.YtebbngeamnpgjaaPIpx3
import Derived.Test.YtebbngeamnpgjaaPIpx4
import Derived.Test.YtebbngeamnpgjaaPIpx5
import Derived.Test.YtebbngeamnpgjaaPIpx7
import Derived.Test.YtebbngeamnpgjaaPIpx8
import Derived.Test.YtebbngeamnpgjaaPIpx9
namespace Go.Proofs.Ytebbngeamnpgjaa.InlB
open Go.RowKit Go.Proofs.YtebbngeamnpgjaaW.PrintWords Go.Proofs.YtebbngeamnpgjaaW.PrintMore
open Go.Proofs.Ytebbngeamnpgjaa Go.Proofs.Ytebbngeamnpgjaa.PIp Go.Proofs.Ytebbngeamnpgjaa.FlatA Go.Proofs.Ytebbngeamnpgjaa.InlA
set_option linter.unusedSimpArgs false
set_option linter.unusedVariables false

theorem w64' {i : Int} (h : -9223372036854775808 ≤ i ∧ i ≤ 9223372036854775807) : wrap64 i = i := by unfold wrap64; omega
theorem rd31 (x : List S31) (i : Nat) (hi : i < x.length) : rd_T31 x (i : Int) = x[i] := by simp [rd_T31, List.getD_eq_getElem?_getD, List.getElem?_eq_getElem hi]
theorem turns_f (set old dst : Int) (k : Nat) (hk : 1 ≤ k) : emenderref14_turns.f k set old dst = some (⟨(inline_turn.out set old dst).toArray⟩, inline_turn.old set old dst) := by
  obtain ⟨k, rfl⟩ : ∃ m, k = m + 1 := ⟨k - 1, by omega⟩
  have part : ∀ (b : Int) (p : List UInt8), p.length ≤ 1 → dst ≠ 4 → emenderref14_turns.j0 (k + 1) b old dst ⟨p.toArray⟩ = some (⟨(p ++ inline_turn.part b dst).toArray⟩, old) := by
    intro b p hp hd
    simp only [emenderref14_turns.j0]
    rw [if_neg hd]
    unfold inline_turn.part
    by_cases q1 : Go.bits .and .i64 (Go.bits .xor .i64 b dst) 1 = 0
    · rw [if_pos q1, if_pos q1]
      by_cases q2 : Go.bits .and .i64 (Go.bits .xor .i64 b dst) 2 = 0
      · rw [if_pos q2, if_pos q2]
        simp
      · rw [if_neg q2, if_neg q2, if_pos (by rw [str_size]; omega), str_append]
        simp
    · rw [if_neg q1, if_neg q1, if_pos (by rw [str_size]; omega)]
      by_cases q2 : Go.bits .and .i64 (Go.bits .xor .i64 b dst) 2 = 0
      · rw [if_pos q2, if_pos q2, str_append]
        simp
      · rw [if_neg q2, if_neg q2, str_append, if_pos (by rw [str_size]; simp; omega), str_append]
        simp
  unfold emenderref14_turns.f inline_turn.out inline_turn.old inline_turn.base
  by_cases c0 : set = dst
  · rw [if_pos c0, if_pos c0, if_pos c0]
  · rw [if_neg c0, if_neg c0, if_neg c0]
    by_cases c1 : set = 4
    · have c2 : ¬ dst = 4 := fun e => c0 (by rw [c1, e])
      simp only [if_pos c1, if_neg c2]
      exact part old [96] (by simp) c2
    · simp only [if_neg c1]
      by_cases c2 : dst = 4
      · simp only [if_pos c2]
        simp only [emenderref14_turns.j0]
        rw [if_pos c2, if_pos (by decide)]
        rfl
      · simp only [if_neg c2]
        exact part set [] (by simp) c2
/-- A token that may be in a line. -/
def good (t : S31) : Bool := t.f0 == 0 && (right t.f0 t.f1 t.f2 t.f3 && t.f2 != 10)
theorem good_rune {t : S31} (h : good t = true) : t.f0 = 0 ∧ right t.f0 t.f1 t.f2 t.f3 = true ∧ 0 ≤ t.f2 ∧ t.f2 ≤ 1114111 := by
  unfold good at h
  simp only [Bool.and_eq_true, beq_iff_eq, bne_iff_ne] at h
  obtain ⟨h1, h2, h3⟩ := h
  have := right_rune _ _ _ _ h2 h1
  exact ⟨h1, h2, this.1, this.2.1⟩
theorem txt_good {t : S31} (h : good t = true) : txt [t] = Lib.encodeRune t.f2 := by
  obtain ⟨h1, h2, _⟩ := good_rune h
  unfold txt one
  rw [List.flatMap_cons, if_pos h1, flat_right, h2, if_pos rfl]
  simp
theorem one_part (x : List S31) (i : Nat) (hi : i < x.length) : (x.take (i + 1)).drop i = [x[i]] := by
  rw [List.take_succ_eq_append_getElem hi, List.drop_append_of_le_length (by rw [List.length_take]; omega), List.drop_eq_nil_of_le (by rw [List.length_take]; omega)]
  rfl
theorem line_loop (x : List S31) (hx : x.length < 4398046511104) (hg : ∀ t ∈ x, good t = true) : ∀ (d k i : Nat) (a : List UInt8) (set old : Int), i + d = x.length → d + 20 < k → a.length ≤ 10 * i → emenderref14_Line.l0 k x ⟨a.toArray⟩ set old (i : Int) = some ⟨(a ++ inline_Line.go (x.drop i) set old).toArray⟩ := by
  intro d
  induction d with
  | zero =>
    intro k i a set old hd hk ha
    obtain ⟨k, rfl⟩ : ∃ m, k = m + 1 := ⟨k - 1, by omega⟩
    have hl := inline_turn.out_len set old 0
    simp only [emenderref14_Line.l0]
    rw [if_neg (by omega), turns_f set old 0 k (by omega), Option.bind_some, List.drop_eq_nil_of_le (by omega)]
    dsimp only
    rw [if_pos (by rw [str_size, str_size]; omega), str_append]
    rfl
  | succ d ih =>
    intro k i a set old hd hk ha
    obtain ⟨k, rfl⟩ : ∃ m, k = m + 1 := ⟨k - 1, by omega⟩
    have hi : i < x.length := by omega
    have g := hg x[i] (List.getElem_mem hi)
    have hl := inline_turn.out_len set old x[i].f3
    have hT : emenderref04_Text.f k [x[i]] = some ⟨(Lib.encodeRune x[i].f2).toArray⟩ := by
      rw [ref_text [x[i]] (by simp) k (by simp; omega), txt_good g]
    have he := encode_le x[i].f2
    have e1 : wrap64 ((i : Int) + 1) = ((i + 1 : Nat) : Int) := by rw [w64' (by omega)]; omega
    have hS : (x.take (((i + 1 : Nat) : Int)).toNat).drop ((i : Int)).toNat = [x[i]] := by
      rw [Int.toNat_natCast, Int.toNat_natCast]
      exact one_part x i hi
    have hgo : inline_Line.go (x.drop i) set old = inline_turn.out set old x[i].f3 ++ (inline_Line.esc x[i].f2 ++ (Lib.encodeRune x[i].f2 ++ inline_Line.go (x.drop (i + 1)) x[i].f3 (inline_turn.old set old x[i].f3))) := by
      rw [List.drop_eq_getElem_cons hi]
      rfl
    have fin : ∀ (b : List UInt8), b.length ≤ 10 * i + 10 → b = a ++ (inline_turn.out set old x[i].f3 ++ (inline_Line.esc x[i].f2 ++ Lib.encodeRune x[i].f2)) → emenderref14_Line.l0 k x ⟨b.toArray⟩ x[i].f3 (inline_turn.old set old x[i].f3) ((i + 1 : Nat) : Int) = some ⟨(a ++ inline_Line.go (x.drop i) set old).toArray⟩ := by
      intro b hb hb2
      rw [ih k (i + 1) b _ _ (by omega) (by omega) (by omega), hgo, hb2]
      simp only [List.append_assoc]
    have hU := turns_f set old x[i].f3 k (by omega)
    have i1 : (i : Int) < (x.length : Int) := by omega
    have i0 : (0 : Int) ≤ (i : Int) := by omega
    have i2 : (i : Int) ≤ ((i + 1 : Nat) : Int) := by omega
    have i3 : ((i + 1 : Nat) : Int) ≤ (x.length : Int) := by omega
    have hr2 : rd_T31 x (i : Int) = x[i] := rd31 x i hi
    clear hgo ih hg g hd
    generalize x[i] = t at *
    generalize inline_turn.out set old t.f3 = o at *
    generalize Lib.encodeRune t.f2 = e at *
    have esc : inline_Line.esc t.f2 = [92] → emenderref04_Text.f k [t] = some ⟨e.toArray⟩ → (a ++ (o ++ [92])).length ≤ 10 * i + 6 → emenderref14_Line.l0 k x ⟨(((a ++ o) ++ [92]) ++ e).toArray⟩ t.f3 (inline_turn.old set old t.f3) ((i + 1 : Nat) : Int) = some ⟨(a ++ inline_Line.go (x.drop i) set old).toArray⟩ := by
      intro h1 _ h3
      refine fin _ (by simp only [List.length_append] at h3 ⊢; omega) ?_
      rw [h1]
      simp only [List.append_assoc]
    have hlen : (a ++ (o ++ [92])).length ≤ 10 * i + 6 := by simp only [List.length_append, List.length_cons, List.length_nil]; omega
    simp only [emenderref14_Line.l0]
    rw [if_pos i1, if_pos i0, hr2, hU, Option.bind_some]
    simp only [e1, hS, hT, Option.bind_some, str_append, str_size, if_pos i2, if_pos i3]
    have m1 : a.length + o.length ≤ 9223372036854775807 := by omega
    have m2 : (a ++ o).length + 1 ≤ 9223372036854775807 := by rw [List.length_append]; omega
    have m3 : (a ++ o ++ [92]).length + e.length ≤ 9223372036854775807 := by simp only [List.length_append, List.length_cons, List.length_nil]; omega
    have m4 : (a ++ o).length + e.length ≤ 9223372036854775807 := by rw [List.length_append]; omega
    simp only [if_pos m1, if_pos m2, if_pos m3, if_pos m4]
    by_cases k1 : t.f2 = 92
    · rw [if_pos k1]
      exact esc (by unfold inline_Line.esc; rw [if_pos (by omega)]) hT hlen
    · rw [if_neg k1]
      by_cases k2 : t.f2 = 96
      · rw [if_pos k2]
        exact esc (by unfold inline_Line.esc; rw [if_pos (by omega)]) hT hlen
      · rw [if_neg k2]
        by_cases k3 : t.f2 = 42
        · rw [if_pos k3]
          exact esc (by unfold inline_Line.esc; rw [if_pos (by omega)]) hT hlen
        · rw [if_neg k3]
          by_cases k4 : t.f2 = 95
          · rw [if_pos k4]
            exact esc (by unfold inline_Line.esc; rw [if_pos (by omega)]) hT hlen
          · rw [if_neg k4]
            refine fin _ (by simp only [List.length_append]; omega) ?_
            have : inline_Line.esc t.f2 = [] := by unfold inline_Line.esc; rw [if_neg (by omega)]
            rw [this]
            simp only [List.append_assoc, List.nil_append]
/-- The line of tokens that may be in one. -/
def lineOf (x : List S31) : ByteArray := ⟨(inline_Line.go x 0 0).toArray⟩
theorem ref_line (x : List S31) (hx : x.length < 4398046511104) (hg : ∀ t ∈ x, good t = true) (k : Nat) (hk : x.length + 20 < k) : emenderref14_Line.f k x = some (lineOf x) := by
  have := line_loop x hx hg x.length k 0 [] 0 0 (by omega) hk (by simp)
  unfold emenderref14_Line.f lineOf
  simpa using this
theorem our_line (x : List S31) (hx : x.length < 4398046511104) (hg : ∀ t ∈ x, good t = true) : inline_Line.f x = some (lineOf x) := by
  unfold inline_Line.f lineOf
  rw [if_pos (by omega), if_pos]
  unfold inline_Line.ok
  rw [List.all_eq_true]
  intro t ht
  obtain ⟨_, _, h1, h2⟩ := good_rune (hg t ht)
  simp [h1, h2]
/-- What printing answers. -/
def prints (x : List S31) : ByteArray × Int := if x.all good = true then (lineOf x, 0) else (⟨#[]⟩, 1)
theorem our_print (x : List S31) (hx : x.length < 4398046511104) (k : Nat) (hk : x.length < k) : inline_Print.f k x = some (prints x) := by
  have loop : ∀ (d k i : Nat), i + d = x.length → d < k → (∀ j (hj : j < x.length), j < i → good x[j] = true) → inline_Print.l0 k x x (x.length : Int) (i : Int) = some (prints x) := by
    intro d
    induction d with
    | zero =>
      intro k i hd hk hg
      obtain ⟨k, rfl⟩ : ∃ m, k = m + 1 := ⟨k - 1, by omega⟩
      have hall : ∀ t ∈ x, good t = true := fun t ht => by
        obtain ⟨j, hj, rfl⟩ := List.getElem_of_mem ht
        exact hg j hj (by omega)
      simp only [inline_Print.l0]
      rw [if_neg (by omega), our_line x hx hall, Option.bind_some]
      unfold prints
      rw [if_pos (List.all_eq_true.2 hall)]
    | succ d ih =>
      intro k i hd hk hg
      obtain ⟨k, rfl⟩ : ∃ m, k = m + 1 := ⟨k - 1, by omega⟩
      have hi : i < x.length := by omega
      have bad : good x[i] = false → some (((⟨#[]⟩ : ByteArray), (1 : Int))) = some (prints x) := by
        intro h
        unfold prints
        rw [if_neg]
        intro ha
        rw [List.all_eq_true.1 ha _ (List.getElem_mem hi)] at h
        cases h
      have nxt : good x[i] = true → inline_Print.l0 k x x (x.length : Int) ((i + 1 : Nat) : Int) = some (prints x) := fun h => ih k (i + 1) (by omega) (by omega) (fun j hj h1 => by
        by_cases e : j = i
        · subst e; exact h
        · exact hg j hj (by omega))
      have e1 : wrap64 ((i : Int) + 1) = ((i + 1 : Nat) : Int) := by rw [w64' (by omega)]; omega
      have i1 : (i : Int) < (x.length : Int) := by omega
      have i0 : (0 : Int) ≤ (i : Int) := by omega
      have hr2 : rd_T31 x (i : Int) = x[i] := rd31 x i hi
      clear ih hg
      simp only [inline_Print.l0]
      rw [if_pos i1, if_pos i0, if_pos i1, hr2, flat_right, Option.bind_some, e1]
      generalize x[i] = t at *
      unfold good at bad nxt
      by_cases c0 : t.f0 = 0
      · rw [if_pos c0]
        by_cases c1 : right t.f0 t.f1 t.f2 t.f3 = true
        · rw [if_pos c1]
          by_cases c2 : t.f2 = 10
          · rw [if_pos c2]
            exact bad (by simp [c0, c2])
          · rw [if_neg c2]
            exact nxt (by rw [c1]; simp [c0, c2])
        · rw [if_neg c1]
          exact bad (by rw [show right t.f0 t.f1 t.f2 t.f3 = false by simpa using c1]; simp)
      · rw [if_neg c0]
        exact bad (by simp [c0])
  exact loop x.length k 0 (by omega) hk (fun j hj h => by omega)
theorem ref_print (x : List S31) (hx : x.length < 4398046511104) (k : Nat) (hk : 2 * x.length + 30 < k) : emenderref14_Print.f k x = some (prints x) := by
  have loop : ∀ (d k i : Nat), i + d = x.length → d + x.length + 25 < k → (∀ j (hj : j < x.length), j < i → good x[j] = true) → emenderref14_Print.l0 k x (i : Int) = some (prints x) := by
    intro d
    induction d with
    | zero =>
      intro k i hd hk hg
      obtain ⟨k, rfl⟩ : ∃ m, k = m + 1 := ⟨k - 1, by omega⟩
      have hall : ∀ t ∈ x, good t = true := fun t ht => by
        obtain ⟨j, hj, rfl⟩ := List.getElem_of_mem ht
        exact hg j hj (by omega)
      simp only [emenderref14_Print.l0]
      rw [if_neg (by omega), ref_line x hx hall k (by omega), Option.bind_some]
      unfold prints
      rw [if_pos (List.all_eq_true.2 hall)]
    | succ d ih =>
      intro k i hd hk hg
      obtain ⟨k, rfl⟩ : ∃ m, k = m + 2 := ⟨k - 2, by omega⟩
      have hi : i < x.length := by omega
      have bad : good x[i] = false → some (((⟨#[]⟩ : ByteArray), (1 : Int))) = some (prints x) := by
        intro h
        unfold prints
        rw [if_neg]
        intro ha
        rw [List.all_eq_true.1 ha _ (List.getElem_mem hi)] at h
        cases h
      have nxt : good x[i] = true → emenderref14_Print.l0 (k + 1) x ((i + 1 : Nat) : Int) = some (prints x) := fun h => ih (k + 1) (i + 1) (by omega) (by omega) (fun j hj h1 => by
        by_cases e : j = i
        · subst e; exact h
        · exact hg j hj (by omega))
      have e1 : wrap64 ((i : Int) + 1) = ((i + 1 : Nat) : Int) := by rw [w64' (by omega)]; omega
      have i1 : (i : Int) < (x.length : Int) := by omega
      have i0 : (0 : Int) ≤ (i : Int) := by omega
      have hr2 : rd_T31 x (i : Int) = x[i] := rd31 x i hi
      clear ih hg
      rw [show k + 2 = (k + 1) + 1 by rfl]
      simp only [emenderref14_Print.l0]
      rw [if_pos i1, if_pos i0, hr2, ref_right, Option.bind_some, e1]
      generalize x[i] = t at *
      unfold good at bad nxt
      by_cases c0 : t.f0 = 0
      · rw [if_pos c0]
        by_cases c1 : right t.f0 t.f1 t.f2 t.f3 = true
        · rw [if_pos c1]
          by_cases c2 : t.f2 = 10
          · rw [if_pos c2]
            exact bad (by simp [c0, c2])
          · rw [if_neg c2]
            exact nxt (by rw [c1]; simp [c0, c2])
        · rw [if_neg c1]
          exact bad (by rw [show right t.f0 t.f1 t.f2 t.f3 = false by simpa using c1]; simp)
      · rw [if_neg c0]
        exact bad (by simp [c0])
  exact loop x.length k 0 (by omega) (by omega) (fun j hj h => by omega)
end Go.Proofs.Ytebbngeamnpgjaa.InlB
