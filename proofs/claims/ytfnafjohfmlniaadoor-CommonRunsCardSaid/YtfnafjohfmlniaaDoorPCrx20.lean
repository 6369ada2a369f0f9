-- Written for this claim by a program (the kit's print, with hand-made contracts for what it does not take).
import Derived.Test.YtfnafjohfmlniaaDoorPCrx0
import Derived.Test.YtfnafjohfmlniaaDoorPCrx1
import Derived.Test.YtfnafjohfmlniaaDoorPCrx6
import Derived.Test.YtfnafjohfmlniaaDoorPCrx11
import Derived.Test.YtfnafjohfmlniaaDoorPCrx12
import Derived.Test.YtfnafjohfmlniaaDoorPCrx13
import Derived.Test.YtfnafjohfmlniaaDoorPCrx14
import Derived.Test.YtfnafjohfmlniaaDoorPCrx19
namespace Go.Proofs.YtfnafjohfmlniaaDoor.PCr
open Go.RowKit Go.Proofs.YtfnafjohfmlniaaDoorW.PrintWords Go.Proofs.YtfnafjohfmlniaaDoorW.PrintLast Go.Proofs.YtfnafjohfmlniaaDoorW.PrintMore
attribute [local go_sem] max2_int min2_int max_two min_two max_three min_three max_four min_four   -- for this text's walks alone
set_option linter.unusedVariables false
set_option linter.unusedSimpArgs false

/-! ### emenderref28_Runs: function 14 -/
/-! ### The document's code points are the decoder's -/
theorem dec28_w64' {i : Int} (h : -9223372036854775808 ≤ i ∧ i ≤ 9223372036854775807) : wrap64 i = i := by unfold wrap64; omega
/-- A byte of a string. -/
def dec28_by_ (s : ByteArray) (i : Nat) : Nat := (s.get! i).toNat
theorem dec28_by_lt (s : ByteArray) (i : Nat) : dec28_by_ s i < 256 := (s.get! i).toNat_lt
theorem dec28_bt_by (s : ByteArray) (i : Nat) (h : i < s.size) : bt s (i : Int) = (dec28_by_ s i : Int) := by
  unfold bt dec28_by_
  rw [dif_pos (show (i : Int).toNat < s.size by simpa using h)]
  have e : s.get! i = s[i] := by
    cases s with
    | mk a => exact getElem!_pos a i h
  rw [e]
  rfl
theorem dec28_cont (b : Nat) (h : b < 256) : (Go.bits .and .u8 (b : Int) 192 = 128) ↔ b / 64 = 2 := by
  have := (show ∀ b : Fin 256, (Go.bits .and .u8 (b.1 : Int) 192 = 128) ↔ b.1 / 64 = 2 by decide +kernel) ⟨b, h⟩
  exact this
theorem dec28_low6 (b : Nat) (h : b < 256) : Go.bits .and .u8 (b : Int) 63 = ((b % 64 : Nat) : Int) := by
  have := (show ∀ b : Fin 256, Go.bits .and .u8 (b.1 : Int) 63 = ((b.1 % 64 : Nat) : Int) by decide +kernel) ⟨b, h⟩
  exact this
theorem dec28_lows (b : Nat) (h : b < 256) : Go.bits .and .i64 (b : Int) 31 = ((b % 32 : Nat) : Int) ∧ Go.bits .and .i64 (b : Int) 15 = ((b % 16 : Nat) : Int) ∧ Go.bits .and .i64 (b : Int) 7 = ((b % 8 : Nat) : Int) := by
  have := (show ∀ b : Fin 256, Go.bits .and .i64 (b.1 : Int) 31 = ((b.1 % 32 : Nat) : Int) ∧ Go.bits .and .i64 (b.1 : Int) 15 = ((b.1 % 16 : Nat) : Int) ∧ Go.bits .and .i64 (b.1 : Int) 7 = ((b.1 % 8 : Nat) : Int) by decide +kernel) ⟨b, h⟩
  exact this
theorem dec28_wraps_i64 (n : Int) (h₀ : 0 ≤ n) (h₁ : n < 2 ^ 63) : IntKind.i64.wrap n = n := by rw [IntKind.wrap_i64]; omega
theorem dec28_join6 (c b : Nat) (hc : c < 1000000) : Go.bits .or .i64 (wrap64 ((c : Int) * 64)) (wrap64 ((b % 64 : Nat) : Int)) = ((c * 64 + b % 64 : Nat) : Int) := by
  rw [dec28_w64' (by omega), dec28_w64' (by omega), bits_join .i64 63 (by decide) dec28_wraps_i64 6 _ _ (by omega) (by omega) (by omega) (by omega) (by omega) (by omega)]
  omega
/-- One more byte of a code dec28_point. -/
theorem dec28_pt_step (k : Nat) (s : ByteArray) (hs : s.size ≤ 65536) (i n least c j : Nat) (hj : j < n) (hn : n ≤ 4) (hin : i + n ≤ s.size) (hc : c < 1000000) :
    emenderref14_Point.l0 (k + 1) s i n least c j = if dec28_by_ s (i + j) / 64 = 2 then emenderref14_Point.l0 k s i n least ((c * 64 + dec28_by_ s (i + j) % 64 : Nat) : Int) ((j + 1 : Nat) : Int) else some (0, 0) := by
  simp only [emenderref14_Point.l0]
  have e : wrap64 ((i : Int) + (j : Int)) = ((i + j : Nat) : Int) := by rw [dec28_w64' (by omega)]; omega
  rw [if_pos (by omega), e, if_pos (by omega), if_pos (by omega), dec28_bt_by s _ (by omega), dec28_low6 _ (dec28_by_lt s _), dec28_join6 _ _ hc, show wrap64 ((j : Int) + 1) = ((j + 1 : Nat) : Int) by rw [dec28_w64' (by omega)]; omega]
  by_cases h : dec28_by_ s (i + j) / 64 = 2
  · rw [if_pos ((dec28_cont _ (dec28_by_lt s _)).2 h), if_pos h]
  · rw [if_neg (fun e => h ((dec28_cont _ (dec28_by_lt s _)).1 e)), if_neg h]
/-- Behind the last one. -/
theorem dec28_pt_end (k : Nat) (s : ByteArray) (i n least c : Nat) :
    emenderref14_Point.l0 (k + 1) s i n least c n = some (if c ≥ least ∧ (c < 55296 ∨ (57344 ≤ c ∧ c ≤ 1114111)) then ((c : Int), (n : Int)) else (0, 0)) := by
  simp only [emenderref14_Point.l0]
  rw [if_neg (by omega)]
  by_cases h : c < least
  · rw [if_pos (by omega), if_neg (by omega)]
  · rw [if_neg (by omega)]
    unfold emenderref04_Point.f
    rw [if_pos (by omega)]
    by_cases h1 : c ≤ 1114111
    · rw [if_pos (by omega)]
      by_cases h2 : c < 55296
      · rw [if_pos (by omega), Option.bind_some, if_pos rfl, if_pos (by omega)]
      · rw [if_neg (by omega), Option.bind_some]
        by_cases h3 : 57344 ≤ c
        · rw [if_pos (by simp only [decide_eq_true_eq]; omega), if_pos (by omega)]
        · rw [if_neg (by simp only [decide_eq_true_eq]; omega), if_neg (by omega)]
    · rw [if_neg (by omega), Option.bind_some, if_neg (by decide), if_neg (by omega)]
/-- The code dec28_point at a place, told by the decoder. -/
def dec28_P (s : ByteArray) (i : Nat) : Int × Int := if rune s i = 65533 ∧ width s i = 1 then (0, 0) else (rune s i, (width s i : Int))
theorem dec28_P_of {s : ByteArray} {i : Nat} {x : Nat × Nat} (h : Utf8.decode s i = x) : dec28_P s i = if x.1 = 65533 ∧ x.2 = 1 then (0, 0) else ((x.1 : Int), (x.2 : Int)) := by
  unfold dec28_P rune width
  rw [h]
  by_cases e : x.1 = 65533 ∧ x.2 = 1
  · rw [if_pos e, if_pos (by omega)]
  · rw [if_neg e, if_neg (by omega)]
theorem dec28_point_j3 (k : Nat) (s : ByteArray) (hs : s.size ≤ 65536) (i n least c : Nat) (hn : 2 ≤ n ∧ n ≤ 4) (hi : i < s.size) :
    emenderref14_Point.j2 (k + 2) s i n least c = if i + n ≤ s.size then emenderref14_Point.l0 k s i n least c 1 else some (0, 0) := by
  simp only [emenderref14_Point.j2]
  rw [if_neg (by omega), dec28_w64' (by omega)]
  by_cases h : i + n ≤ s.size
  · rw [if_pos h, show decide ((i : Int) + (n : Int) > (s.size : Int)) = false from decide_eq_false (by omega)]
    simp only [emenderref14_Point.j3]
    rw [if_neg (by decide)]
  · rw [if_neg h, show decide ((i : Int) + (n : Int) > (s.size : Int)) = true from decide_eq_true (by omega)]
    simp only [emenderref14_Point.j3]
    rfl
theorem dec28_point (s : ByteArray) (hs : s.size ≤ 65536) (i : Nat) (hi : i < s.size) (k : Nat) (hk : 10 ≤ k) : emenderref14_Point.f k s i = some (dec28_P s i) := by
  obtain ⟨k, rfl⟩ : ∃ m, k = m + 10 := ⟨k - 10, by omega⟩
  have hb := dec28_by_lt s i
  have l1 := dec28_by_lt s (i + 1)
  have l2 := dec28_by_lt s (i + 2)
  have l3 := dec28_by_lt s (i + 3)
  obtain ⟨m0, m1, m2⟩ := dec28_lows _ hb
  have dc := Lib.decode_at s i
  change Utf8.decode s i = Lib.decodeN (s.size - i) (dec28_by_ s i) (dec28_by_ s (i + 1)) (dec28_by_ s (i + 2)) (dec28_by_ s (i + 3)) at dc
  have e0 : wrap64 (bt s (i : Int)) = (dec28_by_ s i : Int) := by rw [dec28_bt_by s i hi, dec28_w64' (by omega)]
  unfold emenderref14_Point.f
  rw [if_pos (by omega), if_pos (by omega), e0]
  by_cases c0 : dec28_by_ s i < 128
  · rw [if_pos (by omega), dec28_P_of (dc.trans (by unfold Lib.decodeN; rw [if_pos c0]))]
    rw [if_neg (by dsimp only; omega)]
    rfl
  rw [if_neg (by omega)]
  by_cases c1 : dec28_by_ s i / 32 = 6
  · rw [if_pos (by omega), show decide ((dec28_by_ s i : Int) < 224) = true from decide_eq_true (by omega)]
    simp only [emenderref14_Point.j0]
    rw [if_pos trivial, m0]
    have := dec28_point_j3 (k + 7) s hs i 2 128 (dec28_by_ s i % 32) (by omega) hi
    rw [show k + 7 + 2 = k + 9 from rfl] at this
    refine this.trans ?_
    by_cases g : i + 2 ≤ s.size
    · rw [if_pos g, show (1 : Int) = ((1 : Nat) : Int) from rfl, dec28_pt_step _ s hs i 2 128 _ 1 (by omega) (by omega) g (by omega)]
      by_cases g1 : dec28_by_ s (i + 1) / 64 = 2
      · rw [if_pos g1, dec28_pt_end (k + 5), dec28_P_of (dc.trans (by unfold Lib.decodeN; rw [if_neg c0, if_pos ⟨c1, by omega, g1⟩]))]
        congr 1
        by_cases g2 : dec28_by_ s i % 32 * 64 + dec28_by_ s (i + 1) % 64 ≥ 128
        · rw [if_pos ⟨g2, by omega⟩, if_pos g2, if_neg (by dsimp only; omega)]
        · rw [if_neg (by omega), if_neg g2, if_pos (by dsimp only; omega)]
      · rw [if_neg g1, dec28_P_of (dc.trans (by unfold Lib.decodeN; rw [if_neg c0, if_neg (by omega), if_neg (by omega), if_neg (by omega)]))]
        rfl
    · rw [if_neg g, dec28_P_of (dc.trans (by unfold Lib.decodeN; rw [if_neg c0, if_neg (by omega), if_neg (by omega), if_neg (by omega)]))]
      rfl
  have t1 : (if (dec28_by_ s i : Int) ≥ 192 then emenderref14_Point.j0 (k + 10) s i 0 0 (dec28_by_ s i) (decide ((dec28_by_ s i : Int) < 224)) else emenderref14_Point.j0 (k + 10) s i 0 0 (dec28_by_ s i) false) = emenderref14_Point.j0 (k + 10) s i 0 0 (dec28_by_ s i) false := by
    by_cases h : (dec28_by_ s i : Int) ≥ 192
    · rw [if_pos h, show decide ((dec28_by_ s i : Int) < 224) = false from decide_eq_false (by omega)]
    · rw [if_neg h]
  rw [t1]
  simp only [emenderref14_Point.j0]
  rw [if_neg (by decide)]
  by_cases c2 : dec28_by_ s i / 16 = 14
  · rw [if_pos (by omega), show decide ((dec28_by_ s i : Int) < 240) = true from decide_eq_true (by omega)]
    simp only [emenderref14_Point.j1]
    rw [if_pos trivial, m1]
    have := dec28_point_j3 (k + 6) s hs i 3 2048 (dec28_by_ s i % 16) (by omega) hi
    refine this.trans ?_
    by_cases g : i + 3 ≤ s.size
    · rw [if_pos g, show (1 : Int) = ((1 : Nat) : Int) from rfl, dec28_pt_step _ s hs i 3 2048 _ 1 (by omega) (by omega) g (by omega)]
      by_cases g1 : dec28_by_ s (i + 1) / 64 = 2
      · rw [if_pos g1, dec28_pt_step _ s hs i 3 2048 _ 2 (by omega) (by omega) g (by omega)]
        by_cases g2 : dec28_by_ s (i + 2) / 64 = 2
        · rw [if_pos g2, dec28_pt_end (k + 3), dec28_P_of (dc.trans (by unfold Lib.decodeN; rw [if_neg c0, if_neg (by omega), if_pos ⟨c2, ⟨by omega, g1⟩, by omega, g2⟩]))]
          congr 1
          rw [show (dec28_by_ s i % 16 * 64 + dec28_by_ s (i + 1) % 64) * 64 + dec28_by_ s (i + 2) % 64 = dec28_by_ s i % 16 * 4096 + dec28_by_ s (i + 1) % 64 * 64 + dec28_by_ s (i + 2) % 64 by omega]
          by_cases g3 : dec28_by_ s i % 16 * 4096 + dec28_by_ s (i + 1) % 64 * 64 + dec28_by_ s (i + 2) % 64 ≥ 2048 ∧ (dec28_by_ s i % 16 * 4096 + dec28_by_ s (i + 1) % 64 * 64 + dec28_by_ s (i + 2) % 64 < 55296 ∨ (57344 ≤ dec28_by_ s i % 16 * 4096 + dec28_by_ s (i + 1) % 64 * 64 + dec28_by_ s (i + 2) % 64 ∧ dec28_by_ s i % 16 * 4096 + dec28_by_ s (i + 1) % 64 * 64 + dec28_by_ s (i + 2) % 64 ≤ 1114111))
          · rw [if_pos g3, if_pos g3, if_neg (by dsimp only; omega)]
          · rw [if_neg g3, if_neg g3, if_pos (by dsimp only; omega)]
        · rw [if_neg g2, dec28_P_of (dc.trans (by unfold Lib.decodeN; rw [if_neg c0, if_neg (by omega), if_neg (by omega), if_neg (by omega)]))]
          rfl
      · rw [if_neg g1, dec28_P_of (dc.trans (by unfold Lib.decodeN; rw [if_neg c0, if_neg (by omega), if_neg (by omega), if_neg (by omega)]))]
        rfl
    · rw [if_neg g, dec28_P_of (dc.trans (by unfold Lib.decodeN; rw [if_neg c0, if_neg (by omega), if_neg (by omega), if_neg (by omega)]))]
      rfl
  have t2 : (if (dec28_by_ s i : Int) ≥ 224 then emenderref14_Point.j1 (k + 9) s i 0 0 (dec28_by_ s i) (decide ((dec28_by_ s i : Int) < 240)) else emenderref14_Point.j1 (k + 9) s i 0 0 (dec28_by_ s i) false) = emenderref14_Point.j1 (k + 9) s i 0 0 (dec28_by_ s i) false := by
    by_cases h : (dec28_by_ s i : Int) ≥ 224
    · rw [if_pos h, show decide ((dec28_by_ s i : Int) < 240) = false from decide_eq_false (by omega)]
    · rw [if_neg h]
  rw [t2]
  simp only [emenderref14_Point.j1]
  rw [if_neg (by decide)]
  by_cases c3 : dec28_by_ s i / 8 = 30
  · rw [if_pos (by omega), if_pos (by omega), m2]
    have := dec28_point_j3 (k + 6) s hs i 4 65536 (dec28_by_ s i % 8) (by omega) hi
    refine this.trans ?_
    by_cases g : i + 4 ≤ s.size
    · rw [if_pos g, show (1 : Int) = ((1 : Nat) : Int) from rfl, dec28_pt_step _ s hs i 4 65536 _ 1 (by omega) (by omega) g (by omega)]
      by_cases g1 : dec28_by_ s (i + 1) / 64 = 2
      · rw [if_pos g1, dec28_pt_step _ s hs i 4 65536 _ 2 (by omega) (by omega) g (by omega)]
        by_cases g2 : dec28_by_ s (i + 2) / 64 = 2
        · rw [if_pos g2, dec28_pt_step _ s hs i 4 65536 _ 3 (by omega) (by omega) g (by omega)]
          by_cases g3 : dec28_by_ s (i + 3) / 64 = 2
          · rw [if_pos g3, dec28_pt_end (k + 2), dec28_P_of (dc.trans (by unfold Lib.decodeN; rw [if_neg c0, if_neg (by omega), if_neg (by omega), if_pos ⟨c3, ⟨by omega, g1⟩, ⟨by omega, g2⟩, by omega, g3⟩]))]
            congr 1
            rw [show ((dec28_by_ s i % 8 * 64 + dec28_by_ s (i + 1) % 64) * 64 + dec28_by_ s (i + 2) % 64) * 64 + dec28_by_ s (i + 3) % 64 = dec28_by_ s i % 8 * 262144 + dec28_by_ s (i + 1) % 64 * 4096 + dec28_by_ s (i + 2) % 64 * 64 + dec28_by_ s (i + 3) % 64 by omega]
            by_cases g4 : dec28_by_ s i % 8 * 262144 + dec28_by_ s (i + 1) % 64 * 4096 + dec28_by_ s (i + 2) % 64 * 64 + dec28_by_ s (i + 3) % 64 ≥ 65536 ∧ (dec28_by_ s i % 8 * 262144 + dec28_by_ s (i + 1) % 64 * 4096 + dec28_by_ s (i + 2) % 64 * 64 + dec28_by_ s (i + 3) % 64 < 55296 ∨ (57344 ≤ dec28_by_ s i % 8 * 262144 + dec28_by_ s (i + 1) % 64 * 4096 + dec28_by_ s (i + 2) % 64 * 64 + dec28_by_ s (i + 3) % 64 ∧ dec28_by_ s i % 8 * 262144 + dec28_by_ s (i + 1) % 64 * 4096 + dec28_by_ s (i + 2) % 64 * 64 + dec28_by_ s (i + 3) % 64 ≤ 1114111))
            · rw [if_pos g4, if_pos g4, if_neg (by dsimp only; omega)]
            · rw [if_neg g4, if_neg g4, if_pos (by dsimp only; omega)]
          · rw [if_neg g3, dec28_P_of (dc.trans (by unfold Lib.decodeN; rw [if_neg c0, if_neg (by omega), if_neg (by omega), if_neg (by omega)]))]
            rfl
        · rw [if_neg g2, dec28_P_of (dc.trans (by unfold Lib.decodeN; rw [if_neg c0, if_neg (by omega), if_neg (by omega), if_neg (by omega)]))]
          rfl
      · rw [if_neg g1, dec28_P_of (dc.trans (by unfold Lib.decodeN; rw [if_neg c0, if_neg (by omega), if_neg (by omega), if_neg (by omega)]))]
        rfl
    · rw [if_neg g, dec28_P_of (dc.trans (by unfold Lib.decodeN; rw [if_neg c0, if_neg (by omega), if_neg (by omega), if_neg (by omega)]))]
      rfl
  have t3 : (if (dec28_by_ s i : Int) ≥ 240 then (if (dec28_by_ s i : Int) < 248 then emenderref14_Point.j2 (k + 8) s i 4 65536 (Go.bits .and .i64 (dec28_by_ s i) 7) else emenderref14_Point.j2 (k + 8) s i 0 0 (dec28_by_ s i)) else emenderref14_Point.j2 (k + 8) s i 0 0 (dec28_by_ s i)) = emenderref14_Point.j2 (k + 8) s i 0 0 (dec28_by_ s i) := by
    by_cases h : (dec28_by_ s i : Int) ≥ 240
    · rw [if_pos h, if_neg (by omega)]
    · rw [if_neg h]
  rw [t3, dec28_P_of (dc.trans (by unfold Lib.decodeN; rw [if_neg c0, if_neg (by omega), if_neg (by omega), if_neg (by omega)]))]
  simp only [emenderref14_Point.j2]
  rw [if_pos trivial]
  simp only [emenderref14_Point.j3]
  rfl
theorem dec28_size_width (s : ByteArray) (i : Nat) (h : ¬ (rune s i = 65533 ∧ width s i = 1)) : (width s i : Int) = refSize (rune s i) := by
  have hb := dec28_by_lt s i
  have dc := Lib.decode_at s i
  change Utf8.decode s i = Lib.decodeN (s.size - i) (dec28_by_ s i) (dec28_by_ s (i + 1)) (dec28_by_ s (i + 2)) (dec28_by_ s (i + 3)) at dc
  unfold rune width at h ⊢
  rw [dc] at h ⊢
  generalize dec28_by_ s i = b0 at *
  generalize dec28_by_ s (i + 1) = b1 at *
  generalize dec28_by_ s (i + 2) = b2 at *
  generalize dec28_by_ s (i + 3) = b3 at *
  unfold Lib.decodeN at h ⊢
  unfold refSize
  by_cases c0 : b0 < 128
  · rw [if_pos c0, if_pos (by dsimp only; omega)]; rfl
  rw [if_neg c0] at h ⊢
  by_cases c1 : b0 / 32 = 6 ∧ (1 < s.size - i ∧ b1 / 64 = 2)
  · rw [if_pos c1] at h ⊢
    by_cases c2 : b0 % 32 * 64 + b1 % 64 ≥ 128
    · rw [if_pos c2] at h ⊢
      rw [if_neg (by dsimp only; omega), if_pos (by dsimp only; omega)]; rfl
    · rw [if_neg c2] at h; exact absurd ⟨rfl, rfl⟩ h
  rw [if_neg c1] at h ⊢
  by_cases c2 : b0 / 16 = 14 ∧ (1 < s.size - i ∧ b1 / 64 = 2) ∧ (2 < s.size - i ∧ b2 / 64 = 2)
  · rw [if_pos c2] at h ⊢
    split at h
    · rename_i c3
      rw [if_pos c3, if_neg (by dsimp only; omega), if_neg (by dsimp only; omega), if_pos (by dsimp only; omega)]; rfl
    · exact absurd ⟨rfl, rfl⟩ h
  rw [if_neg c2] at h ⊢
  split at h
  · rename_i c3
    rw [if_pos c3]
    split at h
    · rename_i c4
      rw [if_pos c4, if_neg (by dsimp only; omega), if_neg (by dsimp only; omega), if_neg (by dsimp only; omega)]; rfl
    · exact absurd ⟨rfl, rfl⟩ h
  · exact absurd ⟨rfl, rfl⟩ h
theorem dec28_scan_len (s : ByteArray) : ∀ (f i : Nat), (common_points.scan s f i).2.length ≤ s.size - i := fun f i => (common_points.scan_facts s f i).1
theorem dec28_points_loop (s : ByteArray) (hs : s.size ≤ 65536) : ∀ (f k i : Nat) (acc : List Int), s.size - i ≤ f → f + 12 ≤ k → i ≤ s.size → acc.length ≤ i →
    emenderref14_Points.l0 k s acc i = some (match (common_points.scan s f i).1 with | some j => ([], (j : Int), false) | none => (acc ++ (common_points.scan s f i).2.map (fun x => x.f0), (s.size : Int), true))
  | 0, k, i, acc, hf, hk, hi, ha => by
    obtain ⟨k, rfl⟩ : ∃ m, k = m + 1 := ⟨k - 1, by omega⟩
    simp only [emenderref14_Points.l0, common_points.scan]
    rw [if_neg (by omega), List.map_nil, List.append_nil]
  | f + 1, k, i, acc, hf, hk, hi, ha => by
    obtain ⟨k, rfl⟩ : ∃ m, k = m + 1 := ⟨k - 1, by omega⟩
    simp only [emenderref14_Points.l0]
    unfold common_points.scan
    by_cases h : i < s.size
    · have hw := width_pos s i h
      rw [if_pos (by omega), if_pos h, dec28_point s hs i h k (by omega), Option.bind_some]
      unfold dec28_P
      by_cases h1 : rune s i = 65533 ∧ width s i = 1
      · rw [if_pos h1, if_pos rfl, if_pos (Or.inr h1)]
      · rw [if_neg h1]
        dsimp only
        rw [if_neg (by omega)]
        by_cases h2 : rune s i = 10
        · rw [if_pos h2, if_pos (Or.inl h2)]
        · rw [if_neg h2, if_neg (show ¬ (rune s i = 10 ∨ (rune s i = 65533 ∧ width s i = 1)) by rintro (h | h) <;> contradiction), if_pos (by omega), show wrap64 ((i : Int) + (width s i : Int)) = ((i + width s i : Nat) : Int) by rw [dec28_w64' (by omega)]; omega,
            dec28_points_loop s hs f k (i + width s i) (acc ++ [rune s i]) (by omega) (by omega) (by omega) (by simp only [List.length_append, List.length_singleton]; omega)]
          dsimp only
          rw [List.append_assoc]
          rfl
    · rw [if_neg (by omega), if_neg h]
      simp only [List.map_nil, List.append_nil]
theorem dec28_scan_pts (s : ByteArray) : ∀ (f i : Nat), (common_points.scan s f i).2 = refPts (i : Int) ((common_points.scan s f i).2.map (fun x => x.f0))
  | 0, i => rfl
  | f + 1, i => by
    unfold common_points.scan
    split
    · split
      · rfl
      · rename_i h
        dsimp only
        rw [List.map_cons, refPts]
        dsimp only
        rw [← dec28_size_width s i (fun e => h (Or.inr e)), ← Int.natCast_add]
        congr 1
        exact dec28_scan_pts s f (i + width s i)
    · rfl
theorem refPtsF (s : ByteArray) : (common_points.f s).1 = refPts 0 ((common_points.f s).1.map (fun x => x.f0)) := by
  unfold common_points.f
  split
  · rfl
  · unfold common_points.res
    split
    · rfl
    · exact dec28_scan_pts s s.size 0
theorem refRead (s : ByteArray) (k : Nat) (hk : 4100 ≤ k) : emenderref28_read.f k s = some ((common_points.f s).1.map (fun x => x.f0), (common_points.f s).2.1, (common_points.f s).2.2) := by
  unfold emenderref28_read.f common_points.f
  by_cases h : s.size > 4000
  · rw [if_pos (by omega), if_pos h]
    rfl
  · rw [if_neg (by omega), if_neg h]
    have hp := dec28_points_loop s (by omega) s.size k 0 [] (by omega) (by omega) (by omega) (by simp)
    rw [show emenderref14_Points.f k s = _ from hp, Option.bind_some]
    unfold common_points.res
    cases (common_points.scan s s.size 0).1 with
    | some j => rfl
    | none => rfl
def refRunOf (r : S38) : S39 := ⟨r.f0, r.f1, r.f2, r.f3, r.f4⟩
def emenderref28_Runs.f (s : ByteArray) : Option (List S39 × Int × Int) := (common_Runs.f s).map (fun r => (r.1.map refRunOf, r.2.1, r.2.2))
def emenderref28_Runs.Post (r1 : List S39) (r2 r3 : Int) (w : World) (e : Ending) (w' : World) : Prop := ∃ v0_ : Value, e = .returned (.tuple #[v0_, .int .i64 r2, .int .i64 r3]) ∧ Kd.R k39 39 w' w.heap.size (fun _ => True) v0_ r1 ∧ Below w.heap.size w w'
structure emenderref28_Runs.I (wH : World) (v : Value) (acc : List S39) (W : World) : Prop where
  row : Kd.R k39 39 W wH.heap.size (fun _ => True) v acc
  below : Below wH.heap.size wH W
theorem refPart_rd (o : List Prt) (k : Nat) (h : k < o.length) : rd_T65 (o.map refPart) (k : Int) = refPart (prtAt o (k : Int)) := by
  unfold rd_T65 prtAt
  rw [Int.toNat_natCast, List.getD_eq_getElem?_getD, List.getD_eq_getElem?_getD, List.getElem?_map, List.getElem?_eq_getElem h]
  rfl
set_option maxHeartbeats 16000000 in
set_option maxRecDepth 100000 in
theorem emenderref28_Runs.calls (a0 : ByteArray) (r1 : List S39) (r2 r3 : Int) (w : World) (h : emenderref28_Runs.f a0 = some (r1, r2, r3)) :
    Calls Tryd.prog 14 #[.string a0] w (emenderref28_Runs.Post r1 r2 r3 w) := by
  have hu39 := Tryd.underlying39
  have hu65 := Tryd.underlying65
  unfold emenderref28_Runs.f common_Runs.f at h
  have FA := Aside0.mk (common_points.facts a0).1
  have PT := Aside0.mk (refPtsF a0)
  have RD := Aside0.mk (refRead a0 5000 (by omega))
  generalize common_points.f a0 = q at *
  obtain ⟨ps, n1, e1⟩ := q
  dsimp only at h FA PT RD
  obtain ⟨p, hp⟩ : ∃ p, p = ps.map (fun x => x.f0) := ⟨_, rfl⟩
  rw [← hp] at PT RD
  have LP : Aside0 (p.length ≤ 4000) := ⟨by rw [hp, List.length_map]; exact FA.out⟩
  rw [PT.out] at h
  have H := Aside0.mk h
  clear h PT FA hp
  go_enter Tryd.func14, Tryd.ntmps14
  go_wp2_with fail
  refine (emenderref28_read.calls 5000 a0 _ _ _ w RD.out).mono ?_
  rintro e w1 ⟨v0, rfl, hr, hb⟩
  have HB := Aside0.mk hb
  have HR := Aside0.mk hr
  clear hr hb RD
  obtain ⟨A, c, hv⟩ := Kd.R_slice HR.out
  subst hv
  by_cases c1 : e1 = 0
  · have c1b : (e1 != 0) = false := bne_eq_false_iff_eq.mpr c1
    have h := H.out
    rw [if_pos c1] at h
    simp only [Option.map_some, Option.some.injEq, Prod.mk.injEq] at h
    obtain ⟨h1, h2, h3⟩ := h
    have H1 := Aside0.mk h1
    have H2 := Aside0.mk h2
    have H3 := Aside0.mk h3
    clear h1 h2 h3 c1 H
    go_wp2_with fail
    refine (emenderref28_parts.calls A c p ((common_split.f (refPts 0 p)).map refPart) w1 (Kd.R_reads' HR.out).2.2 (Kd.R_reads' HR.out).2.1 (if_pos LP.out)).mono ?_
    rintro e w2 ⟨v1, rfl, hr, hb⟩
    have HB2 := Aside0.mk (HB.out.trans (hb.mono HB.out.size))
    have HW := Aside0.mk hr
    have LO : Aside0 ((common_split.f (refPts 0 p)).length ≤ 4000) := ⟨by have := common_split.len (refPts 0 p) ((refPts 0 p).length + 1) 0 (by omega) (by omega); rw [refPts_length] at this; have := LP.out; unfold common_split.f; rw [refPts_length]; omega⟩
    clear hr hb HB HR
    generalize common_split.f (refPts 0 p) = o at *
    obtain ⟨A2, c2, hv⟩ := Kd.R_slice HW.out
    subst hv
    have HC := Aside0.mk (Kd.R_reads' HW.out).2.2
    have HL : (o.map refPart).length = o.length := List.length_map ..
    rw [HL] at HC
    rw [HL]
    have HZ := Aside0.mk HB2.out.size
    clear HW HL
    have I0 := Aside0.mk (show emenderref28_Runs.I w2 (.slice none 0 0) [] w2 from ⟨Kd.R_nil _ _ _ _ _, Below.refl _ _⟩)
    go_wp2
    go_loopg [9, 10] o.length (fun kq v9 v10 w' => ∃ (k : Nat), v10 = .int .i64 (k : Int) ∧ Aside0 (k + kq = o.length ∧ emenderref28_Runs.I w2 v9 (((o.take k).flatMap common_Runs.runs).map refRunOf) w'))
    case atStart => exact ⟨0, rfl, ⟨by omega, I0.out⟩⟩
    case round =>
      clear I0
      obtain ⟨k, rfl, HI⟩ := hrel
      cases gk with
      | zero =>
        have e : k = o.length := by have := HI.out.1; omega
        subst e
        have hI := HI.out.2
        rw [List.take_length] at hI
        have c5b : decide ((o.length : Int) < (o.length : Int)) = false := decide_eq_false (by omega)
        have HX := Aside0.mk hI
        clear hI HI
        go_wp2
        go_ret3
        exact ⟨_, by rw [← H2.out, ← H3.out]; rfl, by rw [← H1.out]; exact Kd.R_lower HX.out.row HZ.out, HB2.out.trans (HX.out.below.mono HZ.out)⟩
      | succ f =>
      have kn : (k : Int) < (o.length : Int) := by have := HI.out.1; omega
      have c5b : decide ((k : Int) < (o.length : Int)) = true := decide_eq_true kn
      obtain ⟨ad, eA, x0, x1, x2, x3, x4, x5, x6, x7, x8, x9, x10, x11⟩ := at_T65 (Kd.C_below HC.out HI.out.2.below) (k : Int) (by omega) kn
      subst eA
      rw [refPart_rd o k (by omega)] at x0 x1 x2 x3 x4 x5 x6 x7 x8 x9 x10 x11
      rw [Int.toNat_natCast] at x0 x1 x2 x3 x4 x5 x6 x7 x8 x9 x10 x11
      have NX := Aside0.mk (common_Runs.take_succ o k (by omega))
      have KK := Aside0.mk HI.out.1
      have II := Aside0.mk HI.out.2
      have AL : Aside0 ((((o.take k).flatMap common_Runs.runs).map refRunOf).length ≤ 4000) := ⟨by have h := common_Runs.all_len (o.take k); rw [List.length_take] at h; rw [List.length_map]; have := LO.out; omega⟩
      have hwk : wrap64 ((k : Int) + 1) = ((k + 1 : Nat) : Int) := by have := LO.out; unfold wrap64; omega
      have knt := eq_true kn
      have k0t := eq_true (show (0 : Int) ≤ (k : Int) by omega)
      clear HI kn x0 x1 x2 x3 x10 x11
      generalize ha : (o.take k).flatMap common_Runs.runs = acc at *
      generalize prtAt o (k : Int) = x at *
      obtain ⟨t, run, left, passed⟩ := x
      cases run with
      | none =>
        replace x4 : wr.cell? ⟨(ad.add (k * 12)).block, (ad.add (k * 12)).off + 4, none⟩ = some (.bool false) := x4
        have TK_ : Aside0 (common_Runs.runs ⟨t, none, left, passed⟩ = []) := ⟨rfl⟩
        clear x5 x6 x7 x8 x9
        go_wp2
        go_roundg f
        case measure => omega
        case rel => exact ⟨k + 1, by rw [hwk], ⟨by have := KK.out; omega, by rw [NX.out, TK_.out, List.append_nil]; exact II.out⟩⟩
      | some r =>
        replace x4 : wr.cell? ⟨(ad.add (k * 12)).block, (ad.add (k * 12)).off + 4, none⟩ = some (.bool true) := x4
        replace x5 : wr.cell? ⟨(ad.add (k * 12)).block, (ad.add (k * 12)).off + 5, none⟩ = some (.int .i64 r.f0) := x5
        replace x6 : wr.cell? ⟨(ad.add (k * 12)).block, (ad.add (k * 12)).off + 6, none⟩ = some (.int .i64 r.f1) := x6
        replace x7 : wr.cell? ⟨(ad.add (k * 12)).block, (ad.add (k * 12)).off + 7, none⟩ = some (.int .u8 r.f2) := x7
        replace x8 : wr.cell? ⟨(ad.add (k * 12)).block, (ad.add (k * 12)).off + 8, none⟩ = some (.bool r.f3) := x8
        replace x9 : wr.cell? ⟨(ad.add (k * 12)).block, (ad.add (k * 12)).off + 9, none⟩ = some (.bool r.f4) := x9
        have TK_ : Aside0 (common_Runs.runs ⟨t, some r, left, passed⟩ = [r]) := ⟨rfl⟩
        obtain ⟨q0, q1, q2, q3, q4⟩ := r
        dsimp only at x5 x6 x7 x8 x9
        have TR_ := Aside0.mk II.out.row
        have HB6 := Aside0.mk II.out.below
        clear II
        go_wp2_with (first | (at_builtin; refine Kd.R_append k39 (w0 := w2) w2.heap.size rfl (.tmp 34) (.tmp 40) 34 39 (.agg #[.int .i64 0, .int .i64 0, .int .u8 0, .bool false, .bool false]) 24 rfl Tryd.underlying34 info39 rfl (by decide) (by decide) u9 (acc.map refRunOf) (⟨q0, q1, q2, q3, q4⟩ : S39) [.int .i64 q0, .int .i64 q1, .int .u8 q2, .bool q3, .bool q4] (fun _ => True) (fun _ => False) rfl (by first | rfl | (go_simp; done) | (go_simp; rfl) | simp) (k39_mkM _ _ _ (⟨q0, q1, q2, q3, q4⟩ : S39)) (fun _ h => h.elim) (fun _ _ => trivial) TR_.out HB6.out HB6.out.size (by have := AL.out; omega) ?_; intro v1 w8 ho hb hg hat; have n0_ := Aside0.mk (show emenderref28_Runs.I w2 v1 (acc.map refRunOf ++ [(⟨q0, q1, q2, q3, q4⟩ : S39)]) w8 from ⟨ho, hb⟩); clear ho hb hg hat TR_ HB6))
        go_roundg f
        case measure => omega
        case rel => exact ⟨k + 1, by rw [hwk], ⟨by have := KK.out; omega, by rw [NX.out, TK_.out, List.map_append]; exact n0_.out⟩⟩
  · have c1b : (e1 != 0) = true := bne_iff_ne.mpr c1
    have h := H.out
    rw [if_neg c1] at h
    simp only [Option.map_some, Option.some.injEq, Prod.mk.injEq, List.map_nil] at h
    obtain ⟨rfl, rfl, rfl⟩ := h
    clear c1 H
    go_wp2
    go_ret3
    exact ⟨_, rfl, Kd.R_nil _ _ _ _ _, HB.out⟩

end Go.Proofs.YtfnafjohfmlniaaDoor.PCr
