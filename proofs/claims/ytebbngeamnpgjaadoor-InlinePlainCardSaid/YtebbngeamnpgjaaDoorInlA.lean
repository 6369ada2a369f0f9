/- The text of tokens, told by the document: its code points' bytes. -/
import Derived.Test.YtebbngeamnpgjaaDoorFlatA
import Derived.Laws.BitsLemmas
import Derived.Test.YtebbngeamnpgjaaDoorPIax0
import Derived.Test.YtebbngeamnpgjaaDoorPIax8
namespace Go.Proofs.YtebbngeamnpgjaaDoor.InlA
open Go.RowKit Go.Proofs.YtebbngeamnpgjaaDoorW.PrintWords Go.Proofs.YtebbngeamnpgjaaDoorW.PrintMore
open Go.Proofs.YtebbngeamnpgjaaDoor Go.Proofs.YtebbngeamnpgjaaDoor.PIa Go.Proofs.YtebbngeamnpgjaaDoor.FlatA
set_option linter.unusedSimpArgs false

def one (t : S36) : List UInt8 := if t.f0 = 0 then (if flat_Right.f t.f0 t.f1 t.f2 t.f3 = some true then Lib.encodeRune t.f2 else []) else []
def txt (l : List S36) : List UInt8 := l.flatMap one
theorem encode_le (n : Int) : (Lib.encodeRune n).length ≤ 4 := by
  unfold Lib.encodeRune Lib.encodeRuneZ
  rw [List.length_map]
  split
  · simp
  · split
    · simp
    · split
      · simp
      · split <;> simp
theorem right_bounds (a b c d : Int) (h : flat_Right.f a b c d = some true) (ha : a = 0) : 0 ≤ c ∧ c ≤ 1114111 := by
  subst ha
  unfold flat_Right.f at h
  simp only [if_true] at h
  by_cases h1 : b = 0
  · rw [if_pos h1] at h
    by_cases h2 : c ≥ 0
    · rw [if_pos h2] at h
      by_cases h3 : c ≤ 1114111
      · exact ⟨h2, h3⟩
      · rw [if_neg h3] at h
        cases h
    · rw [if_neg h2] at h
      cases h
  · rw [if_neg h1] at h
    cases h
/-! ### Text -/
theorem wraps_i64 (n : Int) (h₀ : 0 ≤ n) (h₁ : n < 2 ^ 63) : IntKind.i64.wrap n = n := by rw [IntKind.wrap_i64]; omega
theorem or_i64 (i : Nat) (x y : Int) (hx : 0 ≤ x) (hm : x % 2 ^ i = 0) (hx1 : x < 2 ^ 63) (hy : 0 ≤ y) (hy1 : y < 2 ^ i) (hy2 : y < 2 ^ 63) : Go.bits .or .i64 x y = x + y :=
  bits_join .i64 63 (by decide) wraps_i64 i x y hx hm hx1 hy hy1 hy2
theorem and63 (x : Int) (h0 : 0 ≤ x) (h1 : x < 2 ^ 63) : Go.bits .and .i64 x 63 = x % 64 := bits_mask .i64 63 (by decide) wraps_i64 6 (by decide) x h0 h1
def oneZ (t : S36) : List Int := if t.f0 = 0 then (if right t.f0 t.f1 t.f2 t.f3 = true then Lib.encodeRuneZ t.f2 else []) else []
theorem oneZ_one (t : S36) : (oneZ t).map (fun n => UInt8.ofNat n.toNat) = one t := by
  unfold oneZ one
  by_cases h : t.f0 = 0
  · rw [if_pos h, if_pos h, flat_right]
    by_cases h2 : right t.f0 t.f1 t.f2 t.f3 = true
    · rw [if_pos h2, if_pos (by rw [h2])]
      rfl
    · rw [if_neg h2, if_neg (by simpa using h2)]
      rfl
  · rw [if_neg h, if_neg h]
    rfl
theorem oneZ_length (t : S36) : (oneZ t).length ≤ 4 := by
  have := congrArg List.length (oneZ_one t)
  rw [List.length_map] at this
  rw [this]
  unfold one
  split
  · split
    · exact encode_le _
    · simp
  · simp
theorem right_rune (a b c d : Int) (h : right a b c d = true) (ha : a = 0) : 0 ≤ c ∧ c ≤ 1114111 ∧ ¬ (55296 ≤ c ∧ c ≤ 57343) := by
  have h' := flat_right a b c d
  rw [h] at h'
  obtain ⟨h1, h2⟩ := right_bounds a b c d h' ha
  refine ⟨h1, h2, fun h3 => ?_⟩
  subst ha
  unfold flat_Right.f at h'
  simp only [if_true] at h'
  by_cases hb : b = 0
  · rw [if_pos hb, if_pos h1, if_pos h2, if_pos (by omega)] at h'
    cases h'
  · rw [if_neg hb] at h'
    cases h'
theorem str_append (a b : List UInt8) : (⟨a.toArray⟩ : ByteArray) ++ (⟨b.toArray⟩ : ByteArray) = ⟨(a ++ b).toArray⟩ := by
  apply ByteArray.ext
  simp [ByteArray.data_append]
theorem str_size (a : List UInt8) : (⟨a.toArray⟩ : ByteArray).size = a.length := by simp [ByteArray.size]
end Go.Proofs.YtebbngeamnpgjaaDoor.InlA
