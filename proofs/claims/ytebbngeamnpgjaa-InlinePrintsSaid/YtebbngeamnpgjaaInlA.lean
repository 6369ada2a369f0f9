/- The text of tokens, told by the document: its code points' bytes. -/
import Derived.Test.YtebbngeamnpgjaaFlatA
import Derived.Laws.BitsLemmas
import Derived.Test.YtebbngeamnpgjaaPIpx0
import Derived.Test.YtebbngeamnpgjaaPIpx2
import Derived.Test.YtebbngeamnpgjaaPIpx7
import Derived.Test.YtebbngeamnpgjaaPIpx8
namespace Go.Proofs.Ytebbngeamnpgjaa.InlA
open Go.RowKit Go.Proofs.YtebbngeamnpgjaaW.PrintWords Go.Proofs.YtebbngeamnpgjaaW.PrintMore
open Go.Proofs.Ytebbngeamnpgjaa Go.Proofs.Ytebbngeamnpgjaa.PIp Go.Proofs.Ytebbngeamnpgjaa.FlatA
set_option linter.unusedSimpArgs false

def one (t : S31) : List UInt8 := if t.f0 = 0 then (if flat_Right.f t.f0 t.f1 t.f2 t.f3 = some true then Lib.encodeRune t.f2 else []) else []
def txt (l : List S31) : List UInt8 := l.flatMap one
theorem encode_le (n : Int) : (Lib.encodeRune n).length ≤ 4 := by
  unfold Lib.encodeRune Lib.encodeRuneZ
  rw [List.length_map]
  split
  · simp
  · split
    · simp
    · split
      · simp
      · split <;> simp
theorem right_bounds (a b c d : Int) (h : flat_Right.f a b c d = some true) (ha : a = 0) : 0 ≤ c ∧ c ≤ 1114111 := by
  subst ha
  unfold flat_Right.f at h
  simp only [if_true] at h
  by_cases h1 : b = 0
  · rw [if_pos h1] at h
    by_cases h2 : c ≥ 0
    · rw [if_pos h2] at h
      by_cases h3 : c ≤ 1114111
      · exact ⟨h2, h3⟩
      · rw [if_neg h3] at h
        cases h
    · rw [if_neg h2] at h
      cases h
  · rw [if_neg h1] at h
    cases h
/-! ### Text -/
theorem wraps_i64 (n : Int) (h₀ : 0 ≤ n) (h₁ : n < 2 ^ 63) : IntKind.i64.wrap n = n := by rw [IntKind.wrap_i64]; omega
theorem or_i64 (i : Nat) (x y : Int) (hx : 0 ≤ x) (hm : x % 2 ^ i = 0) (hx1 : x < 2 ^ 63) (hy : 0 ≤ y) (hy1 : y < 2 ^ i) (hy2 : y < 2 ^ 63) : Go.bits .or .i64 x y = x + y :=
  bits_join .i64 63 (by decide) wraps_i64 i x y hx hm hx1 hy hy1 hy2
theorem and63 (x : Int) (h0 : 0 ≤ x) (h1 : x < 2 ^ 63) : Go.bits .and .i64 x 63 = x % 64 := bits_mask .i64 63 (by decide) wraps_i64 6 (by decide) x h0 h1
theorem ref_utf8 (n : Int) (h0 : 0 ≤ n) (h1 : n ≤ 1114111) (hs : ¬ (55296 ≤ n ∧ n ≤ 57343)) : emenderref04_utf8.f n = some (Lib.encodeRuneZ n) := by
  unfold emenderref04_utf8.f
  by_cases c1 : n < 128
  · rw [if_pos c1, Lib.encodeRuneZ_one h0 (by omega), Int.emod_eq_of_lt h0 (by omega)]
  · have m1 : Go.bits .or .i64 128 (n % 64) = 128 + n % 64 := or_i64 6 _ _ (by decide) (by decide) (by decide) (by omega) (by omega) (by omega)
    by_cases c2 : n < 2048
    · rw [if_neg c1, if_pos c2, Lib.encodeRuneZ_two (by omega) (by omega), and63 n h0 (by omega), m1, or_i64 5 192 (n / 64) (by decide) (by decide) (by decide) (by omega) (by omega) (by omega), show (192 + n / 64) % 256 = 192 + n / 64 by omega, show (128 + n % 64) % 256 = 128 + n % 64 by omega]
    · have m2 : Go.bits .or .i64 128 (n / 64 % 64) = 128 + n / 64 % 64 := or_i64 6 _ _ (by decide) (by decide) (by decide) (by omega) (by omega) (by omega)
      by_cases c3 : n < 65536
      · rw [if_neg c1, if_neg c2, if_pos c3, Lib.encodeRuneZ_three (by omega), and63 n h0 (by omega), m1, and63 (n / 64) (by omega) (by omega), m2, or_i64 5 224 (n / 4096) (by decide) (by decide) (by decide) (by omega) (by omega) (by omega), show (224 + n / 4096) % 256 = 224 + n / 4096 by omega, show (128 + n / 64 % 64) % 256 = 128 + n / 64 % 64 by omega, show (128 + n % 64) % 256 = 128 + n % 64 by omega]
      · have m3 : Go.bits .or .i64 128 (n / 4096 % 64) = 128 + n / 4096 % 64 := or_i64 6 _ _ (by decide) (by decide) (by decide) (by omega) (by omega) (by omega)
        rw [if_neg c1, if_neg c2, if_neg c3, Lib.encodeRuneZ_four (by omega) (by omega), and63 n h0 (by omega), m1, and63 (n / 64) (by omega) (by omega), m2, and63 (n / 4096) (by omega) (by omega), m3, or_i64 4 240 (n / 262144) (by decide) (by decide) (by decide) (by omega) (by omega) (by omega), show (240 + n / 262144) % 256 = 240 + n / 262144 by omega, show (128 + n / 4096 % 64) % 256 = 128 + n / 4096 % 64 by omega, show (128 + n / 64 % 64) % 256 = 128 + n / 64 % 64 by omega, show (128 + n % 64) % 256 = 128 + n % 64 by omega]
def oneZ (t : S31) : List Int := if t.f0 = 0 then (if right t.f0 t.f1 t.f2 t.f3 = true then Lib.encodeRuneZ t.f2 else []) else []
theorem oneZ_one (t : S31) : (oneZ t).map (fun n => UInt8.ofNat n.toNat) = one t := by
  unfold oneZ one
  by_cases h : t.f0 = 0
  · rw [if_pos h, if_pos h, flat_right]
    by_cases h2 : right t.f0 t.f1 t.f2 t.f3 = true
    · rw [if_pos h2, if_pos (by rw [h2])]
      rfl
    · rw [if_neg h2, if_neg (by simpa using h2)]
      rfl
  · rw [if_neg h, if_neg h]
    rfl
theorem oneZ_length (t : S31) : (oneZ t).length ≤ 4 := by
  have := congrArg List.length (oneZ_one t)
  rw [List.length_map] at this
  rw [this]
  unfold one
  split
  · split
    · exact encode_le _
    · simp
  · simp
theorem right_rune (a b c d : Int) (h : right a b c d = true) (ha : a = 0) : 0 ≤ c ∧ c ≤ 1114111 ∧ ¬ (55296 ≤ c ∧ c ≤ 57343) := by
  have h' := flat_right a b c d
  rw [h] at h'
  obtain ⟨h1, h2⟩ := right_bounds a b c d h' ha
  refine ⟨h1, h2, fun h3 => ?_⟩
  subst ha
  unfold flat_Right.f at h'
  simp only [if_true] at h'
  by_cases hb : b = 0
  · rw [if_pos hb, if_pos h1, if_pos h2, if_pos (by omega)] at h'
    cases h'
  · rw [if_neg hb] at h'
    cases h'
theorem ref_text_loop (x : List S31) (hl : x.length < 4398046511104) : ∀ (d k : Nat) (acc : List Int) (i : Int), 0 ≤ i → i + d = x.length → d + 1 < k → (acc.length : Int) ≤ 4 * i → emenderref04_Text.l0 k x acc i = some (strOfNums (acc ++ (x.drop i.toNat).flatMap oneZ)) := by
  intro d
  induction d with
  | zero =>
    intro k acc i h0 h1 hk ha
    obtain ⟨k, rfl⟩ : ∃ m, k = m + 1 := ⟨k - 1, by omega⟩
    simp only [emenderref04_Text.l0]
    rw [if_neg (by omega), List.drop_eq_nil_of_le (by omega)]
    simp
  | succ d ih =>
    intro k acc i h0 h1 hk ha
    obtain ⟨k, rfl⟩ : ∃ m, k = m + 2 := ⟨k - 2, by omega⟩
    have hi : i.toNat < x.length := by omega
    have go : emenderref04_Text.l0 (k + 2) x acc i = emenderref04_Text.l0 (k + 1) x (acc ++ oneZ x[i.toNat]) (i + 1) := by
      rw [show k + 2 = (k + 1) + 1 by rfl]
      simp only [emenderref04_Text.l0]
      rw [if_pos (by omega), if_pos h0, rd_get x i hi, ref_right, Option.bind_some, w64 (by omega) (by omega)]
      unfold oneZ
      by_cases c : x[i.toNat].f0 = 0
      · rw [if_pos c, if_pos c]
        by_cases c2 : right x[i.toNat].f0 x[i.toNat].f1 x[i.toNat].f2 x[i.toNat].f3 = true
        · obtain ⟨b1, b2, b3⟩ := right_rune _ _ _ _ c2 c
          have hz := oneZ_length x[i.toNat]
          unfold oneZ at hz
          rw [if_pos c, if_pos c2] at hz
          rw [if_pos c2, if_pos c2, ref_utf8 _ b1 b2 b3, Option.bind_some, if_pos (by omega)]
        · rw [if_neg c2, if_neg c2, List.append_nil]
      · rw [if_neg c, if_neg c, List.append_nil]
    have hz := oneZ_length x[i.toNat]
    rw [go, ih (k + 1) _ (i + 1) (by omega) (by omega) (by omega) (by rw [List.length_append]; omega), List.drop_eq_getElem_cons hi, show (i + 1).toNat = i.toNat + 1 by omega, List.flatMap_cons, List.append_assoc]
theorem ref_text (x : List S31) (hl : x.length < 4398046511104) (k : Nat) (hk : x.length + 1 < k) : emenderref04_Text.f k x = some ⟨(txt x).toArray⟩ := by
  unfold emenderref04_Text.f
  rw [ref_text_loop x hl x.length k [] 0 (by omega) (by omega) hk (by simp)]
  simp only [strOfNums, List.nil_append]
  congr 2
  congr 1
  unfold txt
  rw [show (0 : Int).toNat = 0 from rfl, List.drop_zero, List.map_flatMap]
  congr 1
  funext t
  exact oneZ_one t
theorem str_append (a b : List UInt8) : (⟨a.toArray⟩ : ByteArray) ++ (⟨b.toArray⟩ : ByteArray) = ⟨(a ++ b).toArray⟩ := by
  apply ByteArray.ext
  simp [ByteArray.data_append]
theorem str_size (a : List UInt8) : (⟨a.toArray⟩ : ByteArray).size = a.length := by simp [ByteArray.size]
end Go.Proofs.Ytebbngeamnpgjaa.InlA
