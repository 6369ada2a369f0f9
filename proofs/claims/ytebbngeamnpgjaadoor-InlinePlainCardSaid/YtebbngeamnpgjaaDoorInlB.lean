/- Lines of tokens: the program's and the document's words for them are the same. -/
import Derived.Test.YtebbngeamnpgjaaDoorInlA
import Derived.Test.YtebbngeamnpgjaaDoorPIax0
import Derived.Test.YtebbngeamnpgjaaDoorPIax10
import Derived.Test.YtebbngeamnpgjaaDoorPIax11
namespace Go.Proofs.YtebbngeamnpgjaaDoor.InlB
open Go.RowKit Go.Proofs.YtebbngeamnpgjaaDoorW.PrintWords Go.Proofs.YtebbngeamnpgjaaDoorW.PrintMore
open Go.Proofs.YtebbngeamnpgjaaDoor Go.Proofs.YtebbngeamnpgjaaDoor.PIa Go.Proofs.YtebbngeamnpgjaaDoor.FlatA Go.Proofs.YtebbngeamnpgjaaDoor.InlA
set_option linter.unusedSimpArgs false
set_option linter.unusedVariables false

theorem w64' {i : Int} (h : -9223372036854775808 ≤ i ∧ i ≤ 9223372036854775807) : wrap64 i = i := by unfold wrap64; omega
theorem rd31 (x : List S36) (i : Nat) (hi : i < x.length) : rd_T36 x (i : Int) = x[i] := by simp [rd_T36, List.getD_eq_getElem?_getD, List.getElem?_eq_getElem hi]
/-- A token that may be in a line. -/
def good (t : S36) : Bool := t.f0 == 0 && (right t.f0 t.f1 t.f2 t.f3 && t.f2 != 10)
theorem good_rune {t : S36} (h : good t = true) : t.f0 = 0 ∧ right t.f0 t.f1 t.f2 t.f3 = true ∧ 0 ≤ t.f2 ∧ t.f2 ≤ 1114111 := by
  unfold good at h
  simp only [Bool.and_eq_true, beq_iff_eq, bne_iff_ne] at h
  obtain ⟨h1, h2, h3⟩ := h
  have := right_rune _ _ _ _ h2 h1
  exact ⟨h1, h2, this.1, this.2.1⟩
theorem txt_good {t : S36} (h : good t = true) : txt [t] = Lib.encodeRune t.f2 := by
  obtain ⟨h1, h2, _⟩ := good_rune h
  unfold txt one
  rw [List.flatMap_cons, if_pos h1, flat_right, h2, if_pos rfl]
  simp
theorem one_part (x : List S36) (i : Nat) (hi : i < x.length) : (x.take (i + 1)).drop i = [x[i]] := by
  rw [List.take_succ_eq_append_getElem hi, List.drop_append_of_le_length (by rw [List.length_take]; omega), List.drop_eq_nil_of_le (by rw [List.length_take]; omega)]
  rfl
/-- The line of tokens that may be in one. -/
def lineOf (x : List S36) : ByteArray := ⟨(inline_Line.go x 0 0).toArray⟩
theorem our_line (x : List S36) (hx : x.length < 4398046511104) (hg : ∀ t ∈ x, good t = true) : inline_Line.f x = some (lineOf x) := by
  unfold inline_Line.f lineOf
  rw [if_pos (by omega), if_pos]
  unfold inline_Line.ok
  rw [List.all_eq_true]
  intro t ht
  obtain ⟨_, _, h1, h2⟩ := good_rune (hg t ht)
  simp [h1, h2]
/-- What printing answers. -/
def prints (x : List S36) : ByteArray × Int := if x.all good = true then (lineOf x, 0) else (⟨#[]⟩, 1)
theorem our_print (x : List S36) (hx : x.length < 4398046511104) (k : Nat) (hk : x.length < k) : inline_Print.f k x = some (prints x) := by
  have loop : ∀ (d k i : Nat), i + d = x.length → d < k → (∀ j (hj : j < x.length), j < i → good x[j] = true) → inline_Print.l0 k x x (x.length : Int) (i : Int) = some (prints x) := by
    intro d
    induction d with
    | zero =>
      intro k i hd hk hg
      obtain ⟨k, rfl⟩ : ∃ m, k = m + 1 := ⟨k - 1, by omega⟩
      have hall : ∀ t ∈ x, good t = true := fun t ht => by
        obtain ⟨j, hj, rfl⟩ := List.getElem_of_mem ht
        exact hg j hj (by omega)
      simp only [inline_Print.l0]
      rw [if_neg (by omega), our_line x hx hall, Option.bind_some]
      unfold prints
      rw [if_pos (List.all_eq_true.2 hall)]
    | succ d ih =>
      intro k i hd hk hg
      obtain ⟨k, rfl⟩ : ∃ m, k = m + 1 := ⟨k - 1, by omega⟩
      have hi : i < x.length := by omega
      have bad : good x[i] = false → some (((⟨#[]⟩ : ByteArray), (1 : Int))) = some (prints x) := by
        intro h
        unfold prints
        rw [if_neg]
        intro ha
        rw [List.all_eq_true.1 ha _ (List.getElem_mem hi)] at h
        cases h
      have nxt : good x[i] = true → inline_Print.l0 k x x (x.length : Int) ((i + 1 : Nat) : Int) = some (prints x) := fun h => ih k (i + 1) (by omega) (by omega) (fun j hj h1 => by
        by_cases e : j = i
        · subst e; exact h
        · exact hg j hj (by omega))
      have e1 : wrap64 ((i : Int) + 1) = ((i + 1 : Nat) : Int) := by rw [w64' (by omega)]; omega
      have i1 : (i : Int) < (x.length : Int) := by omega
      have i0 : (0 : Int) ≤ (i : Int) := by omega
      have hr2 : rd_T36 x (i : Int) = x[i] := rd31 x i hi
      clear ih hg
      simp only [inline_Print.l0]
      rw [if_pos i1, if_pos i0, if_pos i1, hr2, flat_right, Option.bind_some, e1]
      generalize x[i] = t at *
      unfold good at bad nxt
      by_cases c0 : t.f0 = 0
      · rw [if_pos c0]
        by_cases c1 : right t.f0 t.f1 t.f2 t.f3 = true
        · rw [if_pos c1]
          by_cases c2 : t.f2 = 10
          · rw [if_pos c2]
            exact bad (by simp [c0, c2])
          · rw [if_neg c2]
            exact nxt (by rw [c1]; simp [c0, c2])
        · rw [if_neg c1]
          exact bad (by rw [show right t.f0 t.f1 t.f2 t.f3 = false by simpa using c1]; simp)
      · rw [if_neg c0]
        exact bad (by simp [c0])
  exact loop x.length k 0 (by omega) hk (fun j hj h => by omega)
end Go.Proofs.YtebbngeamnpgjaaDoor.InlB
