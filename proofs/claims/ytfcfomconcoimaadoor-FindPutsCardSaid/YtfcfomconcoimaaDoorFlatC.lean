/- The partner of a place, what stands just in a place, and the check, told by the program and by the document's answer: the same. -/
import Derived.Test.YtfcfomconcoimaaDoorFlatB
import Derived.Test.YtfcfomconcoimaaDoorPFax0
import Derived.Test.YtfcfomconcoimaaDoorPFay4
import Derived.Test.YtfcfomconcoimaaDoorPFay0
namespace Go.Proofs.YtfcfomconcoimaaDoor.FlatC
open Go.RowKit Go.Proofs.YtfcfomconcoimaaDoorW.PrintWords Go.Proofs.YtfcfomconcoimaaDoorW.PrintMore
open Go.Proofs.YtfcfomconcoimaaDoor Go.Proofs.YtfcfomconcoimaaDoor.PFa Go.Proofs.YtfcfomconcoimaaDoor.FlatA Go.Proofs.YtfcfomconcoimaaDoor.FlatB

/-- The check of the document's answer is the program's. -/
theorem ref_check_l0 (l : List S48) (hl : l.length < 17592186044416) : ∀ (d k : Nat) (n i : Int), 0 ≤ i → i + d = l.length → 0 ≤ n → n ≤ 32 → 3 * d + 1 < k → emenderref04_Check.l0 k l n i = flat_Check.l0 (l.drop i.toNat) n i := by
 intro d
 induction d with
 | zero =>
  intro k n i h0 h1 hn hn2 hk
  obtain ⟨k, rfl⟩ : ∃ m, k = m + 1 := ⟨k - 1, by omega⟩
  simp only [emenderref04_Check.l0]
  rw [if_neg (by omega), List.drop_eq_nil_of_le (by omega)]
  unfold flat_Check.l0
  rw [show (l.length : Int) = i by omega]
 | succ d ih =>
  intro k n i h0 h1 hn hn2 hk
  obtain ⟨k, rfl⟩ : ∃ m, k = m + 4 := ⟨k - 4, by omega⟩
  have hlt : i.toNat < l.length := by omega
  have hw : wrap64 (i + 1) = i + 1 := w64 (by omega) (by omega)
  have hwn : wrap64 (n + 1) = n + 1 := w64 (by omega) (by omega)
  have e : i.toNat + 1 = (i + 1).toNat := by omega
  rw [flat_Check.step l n i hlt, flat_right, Option.bind_some, rd_get l i hlt, e]
  simp only [emenderref04_Check.l0]
  rw [if_pos (by omega), if_pos h0, rd_get l i hlt, ref_right, Option.bind_some]
  simp only [emenderref04_Check.j1, emenderref04_Check.j2]
  have hlt' : i < (l.length : Int) := by omega
  simp only [rd_get l i hlt, if_pos h0, if_pos hlt', hw, hwn]
  by_cases c1 : right l[i.toNat].f0 l[i.toNat].f1 l[i.toNat].f2 l[i.toNat].f3 = true
  ·rw [if_pos c1, if_pos c1]
   by_cases k2 : l[i.toNat].f0 = 2
   ·have k1 : ¬ l[i.toNat].f0 = 1 := by omega
    simp only [if_pos k2, if_neg k1]
    by_cases c3 : n = 0
    ·rw [if_pos (by simpa using c3), if_pos c3]
    ·have hwm : wrap64 (n - 1) = n - 1 := w64 (by omega) (by omega)
     rw [if_neg (by simpa using c3), if_neg c3, hwm, if_neg (by omega)]
     exact ih (k + 1) (n - 1) (i + 1) (by omega) (by omega) (by omega) (by omega) (by omega)
   ·simp only [if_neg k2]
    rw [if_neg (by decide)]
    by_cases k1 : l[i.toNat].f0 = 1
    ·simp only [if_pos k1]
     by_cases c5 : n = 32
     ·rw [if_pos (by omega), if_pos c5]
     ·rw [if_neg (by omega), if_neg c5]
      exact ih (k + 1) (n + 1) (i + 1) (by omega) (by omega) (by omega) (by omega) (by omega)
    ·simp only [if_neg k1]
     rw [if_neg (by omega)]
     exact ih (k + 1) n (i + 1) (by omega) (by omega) (by omega) (by omega) (by omega)
  ·rw [if_neg c1, if_neg c1]
   rw [if_pos trivial]
theorem ref_check (l : List S48) (hl : l.length < 17592186044416) (k : Nat) (hk : 3 * l.length + 2 < k) : emenderref04_Check.f k l = flat_Check.f l := by
 unfold emenderref04_Check.f flat_Check.f
 by_cases h : (l.length : Int) > 2048
 ·rw [if_pos h, if_pos h]
 ·rw [if_neg h, if_neg h]
  have := ref_check_l0 l hl l.length k 0 0 (by omega) (by omega) (by omega) (by omega) (by omega)
  simpa using this
theorem check_some : ∀ (l : List S48) (n i : Int), ∃ r, flat_Check.l0 l n i = some r
 | [], n, i => by
  unfold flat_Check.l0
  split <;> exact ⟨_, rfl⟩
 | t :: ts, n, i => by
  unfold flat_Check.l0
  rw [flat_right, Option.bind_some]
  split
  ·split
   ·split
    ·exact ⟨_, rfl⟩
    ·exact check_some ts _ _
   ·split
    ·split
     ·exact ⟨_, rfl⟩
     ·exact check_some ts _ _
    ·exact check_some ts _ _
  ·exact ⟨_, rfl⟩
theorem check_f_some (l : List S48) : ∃ r, flat_Check.f l = some r := by
 unfold flat_Check.f
 split
 ·exact ⟨_, rfl⟩
 ·exact check_some l 0 0
end Go.Proofs.YtfcfomconcoimaaDoor.FlatC
