-- Written for this claim by a program (the kit's print, with hand-made contracts for what it does not take).
import Derived.Test.YtfnafjohfmlniaaDoorPCrx0
import Derived.Test.YtfnafjohfmlniaaDoorPCrx1
import Derived.Test.YtfnafjohfmlniaaDoorPCrx2
import Derived.Test.YtfnafjohfmlniaaDoorPCrx3
import Derived.Test.YtfnafjohfmlniaaDoorPCrx5
import Derived.Test.YtfnafjohfmlniaaDoorPCrx6
import Derived.Test.YtfnafjohfmlniaaDoorPCrx14
import Derived.Test.YtfnafjohfmlniaaDoorPCrx15
import Derived.Test.YtfnafjohfmlniaaDoorPCrx16
import Derived.Test.YtfnafjohfmlniaaDoorPCrx17
import Derived.Test.YtfnafjohfmlniaaDoorPCrx18
namespace Go.Proofs.YtfnafjohfmlniaaDoor.PCr
open Go.RowKit Go.Proofs.YtfnafjohfmlniaaDoorW.PrintWords Go.Proofs.YtfnafjohfmlniaaDoorW.PrintLast Go.Proofs.YtfnafjohfmlniaaDoorW.PrintMore
attribute [local go_sem] max2_int min2_int max_two min_two max_three min_three max_four min_four   -- for this text's walks alone
set_option linter.unusedVariables false
set_option linter.unusedSimpArgs false

/-! ### emenderref28_parts: function 22 -/
/-! ### The document's parts: its helpers say what the program's say -/
def refSize (c : Int) : Int := if c < 128 then 1 else if c < 2048 then 2 else if c < 65536 then 3 else 4
def refSizes : List Int → Int
  | [] => 0
  | c :: p => refSize c + refSizes p
def refPts : Int → List Int → List S79
  | _, [] => []
  | n, c :: p => ⟨c, n⟩ :: refPts (n + refSize c) p
theorem refPts_length : ∀ (n : Int) (p : List Int), (refPts n p).length = p.length
  | _, [] => rfl
  | n, c :: p => by rw [refPts, List.length_cons, List.length_cons, refPts_length]
theorem refPts_map : ∀ (n : Int) (p : List Int), (refPts n p).map (fun x => x.f0) = p
  | _, [] => rfl
  | n, c :: p => by rw [refPts, List.map_cons, refPts_map]
theorem refPts_get : ∀ (p : List Int) (n : Int) (i : Nat) (h : i < p.length), (refPts n p)[i]? = some ⟨p[i], n + refSizes (p.take i)⟩
  | [], _, i, h => by simp at h
  | c :: p, n, 0, _ => by simp [refPts, refSizes]
  | c :: p, n, i + 1, h => by
    rw [refPts, List.getElem?_cons_succ, refPts_get p _ i (by simpa using h)]
    simp only [List.take_succ_cons, refSizes, List.getElem_cons_succ]
    rw [Int.add_assoc]
theorem refPts_rd (p : List Int) (n i : Int) (h0 : 0 ≤ i) (h1 : i < (p.length : Int)) : rd_T79 (refPts n p) i = ⟨rd p i, n + refSizes (p.take i.toNat)⟩ := by
  unfold rd_T79 rd
  rw [List.getD_eq_getElem?_getD, refPts_get p n i.toNat (by omega), List.getD_eq_getElem?_getD, List.getElem?_eq_getElem (show i.toNat < p.length by omega)]
  rfl
theorem refPts_rd0 (p : List Int) (i : Int) (h0 : 0 ≤ i) (h1 : i < (p.length : Int)) : (rd_T79 (refPts 0 p) i).f0 = rd p i := by rw [refPts_rd p 0 i h0 h1]
theorem refSize_bd (c : Int) : 1 ≤ refSize c ∧ refSize c ≤ 4 := by unfold refSize; split <;> (try split) <;> (try split) <;> omega
theorem refSizes_bd : ∀ (p : List Int), 0 ≤ refSizes p ∧ refSizes p ≤ 4 * (p.length : Int)
  | [] => by simp [refSizes]
  | c :: p => by
    have := refSize_bd c
    have := refSizes_bd p
    rw [refSizes, List.length_cons]
    omega
theorem refW {x : Int} (h : -1000000000 ≤ x ∧ x ≤ 1000000000) : wrap64 x = x := by unfold wrap64; omega
/-- How many stand there. -/
theorem refRow_l (p : List Int) (hp : p.length ≤ 4000) (i : Int) (h0 : 0 ≤ i) (h1 : i < (p.length : Int)) : ∀ (d k : Nat) (n : Int), 0 ≤ n → i + n ≤ (p.length : Int) → (p.length : Int) - i - n ≤ (d : Int) → d < k → emenderref28_row.l0 k p i n = some (n + common_row.rest (refPts 0 p) i n)
  | 0, k, n, hn, hl, hd, hk => by
    obtain ⟨k, rfl⟩ : ∃ m, k = m + 1 := ⟨k - 1, by omega⟩
    rw [emenderref28_row.l0, refW (by omega), if_neg (by omega), common_row.rest_end _ _ _ (by rw [refPts_length]; omega), Int.add_zero]
  | d + 1, k, n, hn, hl, hd, hk => by
    obtain ⟨k, rfl⟩ : ∃ m, k = m + 1 := ⟨k - 1, by omega⟩
    rw [emenderref28_row.l0, refW (x := i + n) (by omega)]
    by_cases c : i + n < (p.length : Int)
    · rw [if_pos c, if_pos (by omega), if_pos h0, if_pos h1, common_row.rest_step _ _ _ (by omega) (by rw [refPts_length]; omega), refPts_rd0 p _ (by omega) c, refPts_rd0 p _ h0 h1]
      by_cases e : rd p (i + n) = rd p i
      · rw [if_pos e, if_pos e, refW (x := n + 1) (by omega), refRow_l p hp i h0 h1 d k (n + 1) (by omega) (by omega) (by omega) (by omega), Int.add_assoc]
      · rw [if_neg e, if_neg e, Int.add_zero]
    · rw [if_neg c, common_row.rest_end _ _ _ (by rw [refPts_length]; omega), Int.add_zero]
theorem refRow (p : List Int) (hp : p.length ≤ 4000) (i : Int) (h0 : 0 ≤ i) (h1 : i < (p.length : Int)) (k : Nat) (hk : 4001 ≤ k) : emenderref28_row.f k p i = some (common_row.f (refPts 0 p) i) := by
  unfold emenderref28_row.f common_row.f
  rw [refRow_l p hp i h0 h1 4000 k 0 (by omega) (by omega) (by omega) (by omega), common_row.rest_step _ _ _ (by omega) (by rw [refPts_length]; omega), if_pos (by rw [Int.add_zero]), Int.zero_add]
  rfl
theorem refFence_l (p : List Int) (hp : p.length ≤ 4000) (n : Int) : ∀ (f k : Nat) (i : Int), 0 ≤ i → (p.length : Int) < i + f → f + 4001 ≤ k → emenderref28_fence.l0 k p i n = some (common_fence.go (refPts 0 p) n f i)
  | 0, k, i, h0, hf, hk => by
    obtain ⟨k, rfl⟩ : ∃ m, k = m + 1 := ⟨k - 1, by omega⟩
    rw [emenderref28_fence.l0, if_neg (by omega)]
    rfl
  | f + 1, k, i, h0, hf, hk => by
    obtain ⟨k, rfl⟩ : ∃ m, k = m + 1 := ⟨k - 1, by omega⟩
    rw [emenderref28_fence.l0, common_fence.go, refPts_length]
    by_cases c : i < (p.length : Int)
    · rw [if_pos c, if_pos c, if_pos h0, refPts_rd0 p i h0 c]
      by_cases e : rd p i = 96
      · have hb := common_row.bound (refPts 0 p) i h0 (by rw [refPts_length]; exact c)
        rw [refPts_length] at hb
        rw [if_pos e, if_pos e, refRow p hp i h0 c k (by omega), Option.bind_some]
        by_cases e2 : common_row.f (refPts 0 p) i = n
        · rw [if_pos e2, if_pos e2]
        · rw [if_neg e2, if_neg e2, refW (by omega), refFence_l p hp n f k _ (by omega) (by omega) (by omega)]
      · rw [if_neg e, if_neg e, refW (by omega), refFence_l p hp n f k _ (by omega) (by omega) (by omega)]
    · rw [if_neg c, if_neg c]
theorem refFence (p : List Int) (hp : p.length ≤ 4000) (i n : Int) (h0 : 0 ≤ i) (k : Nat) (hk : 8100 ≤ k) : emenderref28_fence.f k p i n = some (common_fence.f (refPts 0 p) i n) := by
  unfold emenderref28_fence.f common_fence.f
  rw [refPts_length]
  exact refFence_l p hp n (p.length + 1) k i h0 (by omega) (by omega)
theorem refAround (p : List Int) (i : Int) : emenderref28_run.at p i = common_at.f (refPts 0 p) i := by
  unfold emenderref28_run.at common_at.f
  rw [refPts_length]
  by_cases h : i < 0
  · rw [if_pos h, if_pos h]
  · rw [if_neg h, if_neg h]
    by_cases h2 : (p.length : Int) ≤ i
    · rw [if_pos h2, if_pos h2]
    · rw [if_neg h2, if_neg h2, refPts_rd0 p i (by omega) (by omega)]
def refOne (m c : Int) : S65 := ⟨⟨0, 0, c, m⟩, false, ⟨0, 0, 0, false, false⟩, 0, false⟩
theorem refPlain_l (q : List Int) (hq : q.length ≤ 4000) (m : Int) : ∀ (d k : Nat) (l : List S65) (n : Nat), q.length - n ≤ d → n ≤ q.length → d < k → l.length + (q.length - n) ≤ 1000000 → emenderref28_plain.l0 k l q m (n : Int) = some (l ++ (q.drop n).map (refOne m))
  | 0, k, l, n, hd, hn, hk, hl => by
    obtain ⟨k, rfl⟩ : ∃ m, k = m + 1 := ⟨k - 1, by omega⟩
    rw [emenderref28_plain.l0, if_neg (by omega), List.drop_eq_nil_of_le (by omega), List.map_nil, List.append_nil]
  | d + 1, k, l, n, hd, hn, hk, hl => by
    obtain ⟨k, rfl⟩ : ∃ m, k = m + 1 := ⟨k - 1, by omega⟩
    rw [emenderref28_plain.l0]
    by_cases c : n < q.length
    · rw [if_pos (by omega), if_pos (by omega), if_pos (by omega), refW (by omega), show (n : Int) + 1 = ((n + 1 : Nat) : Int) by omega, refPlain_l q hq m d k _ (n + 1) (by omega) (by omega) (by omega) (by rw [List.length_append, List.length_singleton]; omega), List.drop_eq_getElem_cons c, List.map_cons, List.append_assoc, List.singleton_append]
      have e : rd q (n : Int) = q[n] := by unfold rd; rw [Int.toNat_natCast, List.getD_eq_getElem?_getD, List.getElem?_eq_getElem c]; rfl
      rw [e]
      rfl
    · rw [if_neg (by omega), List.drop_eq_nil_of_le (by omega), List.map_nil, List.append_nil]
theorem refPlain (l : List S65) (q : List Int) (hq : q.length ≤ 4000) (m : Int) (k : Nat) (hk : 4001 ≤ k) (hl : l.length ≤ 900000) : emenderref28_plain.f k l q m = some (l ++ q.map (refOne m)) := by
  have h := refPlain_l q hq m 4000 k l 0 (by omega) (by omega) (by omega) (by omega)
  exact h
theorem refSizes_l (q : List Int) (hq : q.length ≤ 4000) : ∀ (d k : Nat) (s : Int) (n : Nat), q.length - n ≤ d → n ≤ q.length → d < k → 0 ≤ s → s + 4 * ((q.length : Int) - n) ≤ 1000000 → emenderref28_sizes.l0 k q s (n : Int) = some (s + refSizes (q.drop n))
  | 0, k, s, n, hd, hn, hk, h0, hs => by
    obtain ⟨k, rfl⟩ : ∃ m, k = m + 1 := ⟨k - 1, by omega⟩
    rw [emenderref28_sizes.l0, if_neg (by omega), List.drop_eq_nil_of_le (by omega), refSizes, Int.add_zero]
  | d + 1, k, s, n, hd, hn, hk, h0, hs => by
    obtain ⟨k, rfl⟩ : ∃ m, k = m + 1 := ⟨k - 1, by omega⟩
    rw [emenderref28_sizes.l0]
    by_cases c : n < q.length
    · have e : rd q (n : Int) = q[n] := by unfold rd; rw [Int.toNat_natCast, List.getD_eq_getElem?_getD, List.getElem?_eq_getElem c]; rfl
      have e2 : emenderref28_size.f q[n] = some (refSize q[n]) := by unfold emenderref28_size.f refSize; split <;> (try split) <;> (try split) <;> rfl
      have hb := refSize_bd q[n]
      rw [if_pos (by omega), if_pos (by omega), e, e2, Option.bind_some, refW (by omega), refW (by omega), show (n : Int) + 1 = ((n + 1 : Nat) : Int) by omega, refSizes_l q hq d k _ (n + 1) (by omega) (by omega) (by omega) (by omega) (by omega), List.drop_eq_getElem_cons c, refSizes, Int.add_assoc]
    · rw [if_neg (by omega), List.drop_eq_nil_of_le (by omega), refSizes, Int.add_zero]
theorem refSizesF (q : List Int) (hq : q.length ≤ 4000) (k : Nat) (hk : 4001 ≤ k) : emenderref28_sizes.f k q = some (refSizes q) := by
  have h := refSizes_l q hq 4000 k 0 0 (by omega) (by omega) (by omega) (by omega) (by omega)
  rw [Int.zero_add] at h
  exact h
theorem refRun (p : List Int) (i n : Int) (h0 : 0 ≤ i) (h1 : i < (p.length : Int)) : emenderref28_run.f p i n (refSizes (p.take i.toNat)) = common_run.f (refPts 0 p) i n := by
  unfold emenderref28_run.f common_run.f
  rw [refPts_rd p 0 i h0 h1, Int.zero_add, refAround, refAround]
def refPart (x : Prt) : S65 := match x.run with
  | none => ⟨x.tok, false, ⟨0, 0, 0, false, false⟩, x.left, x.passed⟩
  | some r => ⟨x.tok, true, ⟨r.f0, r.f1, r.f2, r.f3, r.f4⟩, x.left, x.passed⟩
theorem refPlainF (p : List Int) (i j m : Int) : (common_plain.f (refPts 0 p) i j m).map refPart = (icut p i j).map (refOne m) := by
  unfold common_plain.f icut common_cut
  rw [List.map_map]
  conv => rhs; rw [← refPts_map 0 p, ← List.map_take, ← List.map_drop, List.map_map]
  rfl
theorem icut_rd (p : List Int) (i j x : Int) (h0 : 0 ≤ i) (h1 : 0 ≤ x) (h2 : i + x < j) (h3 : j ≤ (p.length : Int)) : rd (icut p i j) x = rd p (i + x) := by
  unfold rd icut
  rw [List.getD_eq_getElem?_getD, List.getD_eq_getElem?_getD, List.getElem?_drop, List.getElem?_take, if_pos (by omega), show i.toNat + x.toNat = (i + x).toNat by omega]
theorem icut_icut (p : List Int) (i j : Int) (h0 : 0 ≤ i) (h1 : i + 2 ≤ j) : icut (icut p i j) 1 (j - i - 1) = icut p (i + 1) (j - 1) := by
  unfold icut
  rw [List.take_drop, List.drop_drop, List.take_take]
  congr 1
  · omega
  · congr 1; omega
theorem refCode (p : List Int) (i j : Int) (h0 : 0 ≤ i) (h1 : i ≤ j) (h2 : j ≤ (p.length : Int)) : (common_code.f (refPts 0 p) i j).map refPart = (emenderref28_code.f (icut p i j)).map (refOne 4) := by
  have hl := icut_length p i j h2
  have ho : common_code.other (common_cut (refPts 0 p) i j) = !(emenderref28_code.all (icut p i j)) := by
    have e : icut p i j = (common_cut (refPts 0 p) i j).map (fun x => x.f0) := by
      unfold icut common_cut
      conv => lhs; rw [← refPts_map 0 p, ← List.map_take, ← List.map_drop]
    rw [e]
    unfold common_code.other emenderref28_code.all
    rw [List.all_map, List.not_all_eq_any_not]
    rfl
  have hb : common_code.bare (refPts 0 p) i j = emenderref28_code.bare (icut p i j) := by
    unfold common_code.bare emenderref28_code.bare
    rw [ho, hl, show ((j.toNat - i.toNat : Nat) : Int) = j - i by omega]
    by_cases c : 1 < j - i
    · rw [refPts_rd0 p i h0 (by omega), refPts_rd0 p (j - 1) (by omega) (by omega), icut_rd p i j 0 h0 (by omega) (by omega) h2, icut_rd p i j (j - i - 1) h0 (by omega) (by omega) h2, show i + 0 = i by omega, show i + (j - i - 1) = j - 1 by omega]
    · rw [decide_eq_false c, Bool.false_and, Bool.false_and]
  unfold common_code.f emenderref28_code.f
  rw [hb]
  by_cases c : emenderref28_code.bare (icut p i j) = true
  · have c2 := c
    unfold emenderref28_code.bare at c2
    rw [hl] at c2
    simp only [Bool.and_eq_true, decide_eq_true_eq] at c2
    rw [if_pos c, if_pos c, refPlainF, hl, show ((j.toNat - i.toNat : Nat) : Int) - 1 = j - i - 1 by omega, icut_icut p i j h0 (by omega)]
  · rw [if_neg c, if_neg c, refPlainF]
theorem icut_zero (p : List Int) (j : Int) : icut p 0 j = p.take j.toNat := rfl
theorem icut_to (A : Option Addr) (c : Nat) (p : List Int) (j : Int) (h0 : 0 ≤ j) (hm : j ≤ (p.length : Int)) (hc : p.length ≤ c) :
    (∀ W : World, (Instr.slice 58 (.slice A p.length c) none (some (.int .i64 j)) none).run Tryd.prog W = .ok (.slice A (icut p 0 j).length c) W) ∧ (∀ W : World, Kd.C (Kd.int .i64) W A p.length p → Kd.C (Kd.int .i64) W A (icut p 0 j).length (icut p 0 j)) ∧ (icut p 0 j).length ≤ c := by
  obtain ⟨i0_, hi0_, _, hsz_, _⟩ := info_parts info3
  have hcut := cut_to (P := Tryd.prog) 58 3 .i64 Tryd.underlying58 hi0_ A p.length c j h0 hm hc
  rw [icut_zero]
  have hl : (p.take j.toNat).length = j.toNat := by rw [List.length_take]; omega
  exact ⟨by rw [hl]; exact hcut, fun W hW => Kd.C_take hW (by omega), by omega⟩
/-- A call of plain: the row is longer by what the program's part is. -/
theorem refPlainC {w W : World} {A : Option Addr} {p : List Int} {v : Value} {o x : List Prt} {A1 : Option Addr} {c1 : Nat} {q : List Int} {m : Int} (hB : Below w.heap.size w W) (hr0 : Kd.C (Kd.int .i64) w A p.length p) (row : Kd.R k65 65 W w.heap.size (fun _ => True) v (o.map refPart))
    (SEE : ∀ W : World, Kd.C (Kd.int .i64) W A p.length p → Kd.C (Kd.int .i64) W A1 q.length q) (hq : q.length ≤ c1) (hq4 : q.length ≤ 4000) (ho : o.length ≤ 4000) (hx : x.map refPart = q.map (refOne m)) :
    Calls Tryd.prog 41 #[v, .slice A1 q.length c1, .int .i64 m] W fun e w' => ∃ v', e = .returned v' ∧ Kd.R k65 65 w' w.heap.size (fun _ => True) v' ((o ++ x).map refPart) ∧ Below w.heap.size w w' :=
  (emenderref28_plain.calls 4001 (fun k => w.heap.size ≤ k) v (o.map refPart) A1 c1 q m _ w W hB (Kd.R_mono (Kd.R_bound row) (fun _ hk => hk.2.1)) (fun W_ hk => SEE W_ (Kd.C_kept_came (Kd.heap_int .i64) hr0 hB (fun _ h => h) W_ hk)) hq (refPlain _ _ hq4 m 4001 (by omega) (by rw [List.length_map]; omega))).mono
    (fun e w' h => by
      obtain ⟨v0, h1, h2, h3, _⟩ := h
      refine ⟨v0, h1, ?_, h3⟩
      rw [List.map_append, hx]
      exact Kd.R_mono h2 (fun _ _ => trivial))
theorem refGo (p : List Int) (f : Nat) (i : Int) (h0 : 0 ≤ i) (c5 : i < (p.length : Int)) : common_split.go (refPts 0 p) (f + 1) i =
      (if rd p i = 96 then
        (if common_fence.f (refPts 0 p) (i + common_row.f (refPts 0 p) i) (common_row.f (refPts 0 p) i) < 0 then common_plain.f (refPts 0 p) i (i + common_row.f (refPts 0 p) i) 0 ++ common_split.go (refPts 0 p) f (i + common_row.f (refPts 0 p) i)
         else common_code.f (refPts 0 p) (i + common_row.f (refPts 0 p) i) (common_fence.f (refPts 0 p) (i + common_row.f (refPts 0 p) i) (common_row.f (refPts 0 p) i)) ++ common_split.go (refPts 0 p) f (common_fence.f (refPts 0 p) (i + common_row.f (refPts 0 p) i) (common_row.f (refPts 0 p) i) + common_row.f (refPts 0 p) i))
       else if rd p i = 42 ∨ rd p i = 95 then (⟨⟨0, 0, 0, 0⟩, some (common_run.f (refPts 0 p) i (common_row.f (refPts 0 p) i)), common_row.f (refPts 0 p) i, false⟩ : Prt) :: common_split.go (refPts 0 p) f (i + common_row.f (refPts 0 p) i)
       else if rd p i = 92 ∧ sg (emenderref28_run.at p (i + 1)) = true then common_plain.f (refPts 0 p) (i + 1) (i + 1 + 1) 0 ++ common_split.go (refPts 0 p) f (i + 1 + 1)
       else common_plain.f (refPts 0 p) i (i + 1) 0 ++ common_split.go (refPts 0 p) f (i + 1)) := by
  rw [common_split.go, refPts_length, if_pos c5, refPts_rd0 p i h0 c5, refAround]
def emenderref28_parts.f (p : List Int) : Option (List S65) := if p.length ≤ 4000 then some ((common_split.f (refPts 0 p)).map refPart) else none
structure emenderref28_parts.I (w : World) (p : List Int) (kq : Nat) (i : Int) (o : List Prt) (v : Value) (W : World) : Prop where
  row : Kd.R k65 65 W w.heap.size (fun _ => True) v (o.map refPart)
  below : Below w.heap.size w W
  lo : 0 ≤ i
  hi : i ≤ (p.length : Int)
  fuel : p.length < i + kq
  len : (o.length : Int) ≤ i
  go : o ++ common_split.go (refPts 0 p) kq i = common_split.f (refPts 0 p)
set_option maxRecDepth 100000 in
set_option maxHeartbeats 16000000 in
theorem emenderref28_parts.calls (A0 : Option Addr) (c0 : Nat) (p : List Int) (r : List S65) (w : World) (hr0 : Kd.C (Kd.int .i64) w A0 p.length p) (hc0 : p.length ≤ c0) (h : emenderref28_parts.f p = some r) :
    Calls Tryd.prog 22 #[.slice A0 p.length c0] w fun e w' => ∃ v0_ : Value, e = .returned (v0_) ∧ Kd.R k65 65 w' w.heap.size (fun _ => True) v0_ r ∧ Below w.heap.size w w' := by
  have hu39 := Tryd.underlying39
  have hu65 := Tryd.underlying65
  have hu43 := Tryd.underlying43
  unfold emenderref28_parts.f at h
  by_cases hp : p.length ≤ 4000
  case neg => rw [if_neg hp] at h; cases h
  rw [if_pos hp] at h
  have RR := Aside0.mk (Option.some.inj h)
  have HR := Aside0.mk hr0
  have HC := Aside0.mk hc0
  have HP := Aside0.mk hp
  have I0 := Aside0.mk (show emenderref28_parts.I w p (p.length + 1) 0 [] (.slice none 0 0) w from ⟨Kd.R_nil _ _ _ _ _, Below.refl _ _, by omega, by omega, by omega, by simp, by unfold common_split.f; rw [refPts_length]; rfl⟩)
  clear hr0 hc0 hp h
  go_enter Tryd.func22, Tryd.ntmps22
  go_wp2
  go_loopg [3, 4] (p.length + 1) (fun kq v3 v4 w' => ∃ (i : Int) (o : List Prt), v4 = .int .i64 i ∧ Aside0 (emenderref28_parts.I w p kq i o v3 w'))
  case atStart => exact ⟨0, [], rfl, I0⟩
  case round =>
    clear I0
    obtain ⟨i, o, rfl, HI⟩ := hrel
    cases gk with
    | zero => have := HI.out.fuel; have := HI.out.hi; omega
    | succ f =>
    by_cases c5 : i < (p.length : Int)
    · have c5b : decide (i < (p.length : Int)) = true := decide_eq_true c5
      have i0 : 0 ≤ i := HI.out.lo
      have hgo := HI.out.go
      rw [refGo p f i i0 c5] at hgo
      have HG0 := Aside0.mk hgo
      have RB := Aside0.mk (show 1 ≤ common_row.f (refPts 0 p) i ∧ i + common_row.f (refPts 0 p) i ≤ (p.length : Int) from by have h := common_row.bound (refPts 0 p) i i0 (by rw [refPts_length]; exact c5); rw [refPts_length] at h; exact h)
      have LEN := Aside0.mk HI.out.len
      have FU := Aside0.mk HI.out.fuel
      have HOL : Aside0 (o.length ≤ 4000) := ⟨by have := HI.out.len; have := HP.out; omega⟩
      have C5 := Aside0.mk c5
      have I0 := Aside0.mk i0
      have FB0 := Aside0.mk (fun h => common_fence.bound (refPts 0 p) (i + common_row.f (refPts 0 p) i) (common_row.f (refPts 0 p) i) (by have := RB.out; omega) h)
      have FF := Aside0.mk (fun (h : 0 ≤ i + common_row.f (refPts 0 p) i) => refFence p HP.out (i + common_row.f (refPts 0 p) i) (common_row.f (refPts 0 p) i) h 8100 (by omega))
      have hc2 : ∀ h42 : rd p i = 42 ∨ rd p i = 95, emenderref28_run.f p i (common_row.f (refPts 0 p) i) (refSizes (icut p 0 i)) = common_run.f (refPts 0 p) i (common_row.f (refPts 0 p) i) := fun _ => refRun p i _ i0 c5
      have RC := Aside0.mk hc2
      clear hgo hc2
      go_wp2_with fail
      refine (emenderref28_row.calls 4001 A0 c0 p i _ _ (Kd.C_below HR.out HI.out.below) HC.out (refRow p HP.out i i0 c5 4001 (by omega))).mono ?_
      rintro e w1 ⟨rfl, hd⟩
      have HB := Aside0.mk (HI.out.below.trans (hd.below.mono HI.out.below.size))
      have HW := Aside0.mk (Kd.R_below HI.out.row hd.below)
      clear hd HI
      rw [refPts_length] at FB0
      generalize common_run.f (refPts 0 p) i (common_row.f (refPts 0 p) i) = rn at *
      generalize common_fence.f (refPts 0 p) (i + common_row.f (refPts 0 p) i) (common_row.f (refPts 0 p) i) = en at *
      generalize common_row.f (refPts 0 p) i = n at *
      have hw : wrap64 (i + n) = i + n := by have := I0.out; have := RB.out; have := HP.out; unfold wrap64; omega
      have hw1 : wrap64 (i + 1) = i + 1 := by have := I0.out; have := C5.out; have := HP.out; unfold wrap64; omega
      obtain ⟨ad, eA, x0⟩ := Kd.at_int (Kd.C_below HR.out HB.out) i i0 c5
      subst eA
      have i0t := eq_true i0
      have i1t := eq_true c5
      clear i0 c5
      by_cases k92 : rd p i = 92
      · have n96 : ¬ rd p i = 96 := by omega
        have n42 : ¬ (rd p i = 42 ∨ rd p i = 95) := by omega
        have hgo := HG0.out
        rw [if_neg n96, if_neg n42] at hgo
        have HG1 := Aside0.mk hgo
        have K92 := Aside0.mk k92
        rw [k92] at x0
        clear hgo HG0 n96 n42 k92
        by_cases l1 : i + 1 < (p.length : Int)
        · have l1b : decide (i + 1 < (p.length : Int)) = true := decide_eq_true l1
          have L1 := Aside0.mk l1
          have hw2 : wrap64 (i + 1 + 1) = i + 1 + 1 := by have := I0.out; have := C5.out; have := HP.out; unfold wrap64; omega
          obtain ⟨ad_, eA, x1⟩ := Kd.at_int (Kd.C_below HR.out HB.out) (i + 1) (by have := I0.out; omega) l1
          cases eA
          have l0t := eq_true (show 0 ≤ i + 1 by have := I0.out; omega)
          have l1t := eq_true l1
          have AT : Aside0 (emenderref28_run.at p (i + 1) = rd p (i + 1)) := ⟨by unfold emenderref28_run.at; rw [if_neg (by have := I0.out; omega), if_neg (by omega)]⟩
          have SG := Aside0.mk (refSign (rd p (i + 1)))
          rw [AT.out] at HG1
          clear AT l1
          generalize rd p (i + 1) = c1v at *
          go_wp2_with fail
          refine (emenderref28_sign.calls c1v _ _ SG.out).mono ?_
          rintro e w2 ⟨rfl, hd⟩
          have HB2 := Aside0.mk (HB.out.trans (hd.below.mono HB.out.size))
          have HW2 := Aside0.mk (Kd.R_below HW.out hd.below)
          clear hd HB HW x0 x1 SG
          generalize sg c1v = sv at *
          cases sv with
          | true =>
            have hgo := HG1.out
            have hcond : rd p i = 92 ∧ true = true := ⟨K92.out, rfl⟩
            rw [if_pos hcond] at hgo
            have HG := Aside0.mk hgo
            clear hgo HG1 hcond K92
            obtain ⟨A1, c1, hcut, SEE, HC1⟩ := icut_go (some ad) c0 p (i + 1) (i + 1 + 1) (by have := I0.out; omega) (by omega) (by have := L1.out; omega) HC.out
            have S1 := Aside0.mk SEE
            have S2 := Aside0.mk HC1
            have S3 : Aside0 ((icut p (i + 1) (i + 1 + 1)).length ≤ 4000) := ⟨by unfold icut; rw [List.length_drop, List.length_take]; have := HP.out; omega⟩
            clear SEE HC1
            go_wp2_with fail
            refine (refPlainC HB2.out HR.out HW2.out S1.out S2.out S3.out HOL.out (refPlainF p (i + 1) (i + 1 + 1) 0)).mono ?_
            rintro e w4 ⟨v4, rfl, g1, g2⟩
            have G1 := Aside0.mk g1
            have G2 := Aside0.mk g2
            clear g1 g2
            go_wp2
            go_roundg f
            case measure => omega
            case rel => exact ⟨i + 1 + 1, o ++ common_plain.f (refPts 0 p) (i + 1) (i + 1 + 1) 0, by rw [hw2], ⟨G1.out, G2.out, by have := L1.out; have := I0.out; have := HP.out; omega, by have := L1.out; have := I0.out; have := HP.out; omega, by have := FU.out; omega, by rw [List.length_append]; have := common_plain.len (refPts 0 p) (i + 1) (i + 1 + 1) 0 (by have := I0.out; omega) (by omega) (by rw [refPts_length]; have := L1.out; omega); have := LEN.out; omega, by rw [List.append_assoc]; exact HG.out⟩⟩
          | false =>
            have hgo := HG1.out
            have hcond : ¬ (rd p i = 92 ∧ false = true) := fun h => by cases h.2
            rw [if_neg hcond] at hgo
            have HG := Aside0.mk hgo
            clear hgo HG1 hcond K92
            obtain ⟨A1, c1, hcut, SEE, HC1⟩ := icut_go (some ad) c0 p (i) (i + 1) (I0.out) (by omega) (by have := C5.out; omega) HC.out
            have S1 := Aside0.mk SEE
            have S2 := Aside0.mk HC1
            have S3 : Aside0 ((icut p (i) (i + 1)).length ≤ 4000) := ⟨by unfold icut; rw [List.length_drop, List.length_take]; have := HP.out; omega⟩
            clear SEE HC1
            go_wp2_with fail
            refine (refPlainC HB2.out HR.out HW2.out S1.out S2.out S3.out HOL.out (refPlainF p i (i + 1) 0)).mono ?_
            rintro e w4 ⟨v4, rfl, g1, g2⟩
            have G1 := Aside0.mk g1
            have G2 := Aside0.mk g2
            clear g1 g2
            go_wp2
            go_roundg f
            case measure => omega
            case rel => exact ⟨i + 1, o ++ common_plain.f (refPts 0 p) i (i + 1) 0, by rw [hw1], ⟨G1.out, G2.out, by have := I0.out; omega, by have := C5.out; omega, by have := FU.out; omega, by rw [List.length_append]; have := common_plain.len (refPts 0 p) i (i + 1) 0 I0.out (by omega) (by rw [refPts_length]; have := C5.out; omega); have := LEN.out; omega, by rw [List.append_assoc]; exact HG.out⟩⟩
        · have l1b : decide (i + 1 < (p.length : Int)) = false := decide_eq_false l1
          have hcond : ¬ (rd p i = 92 ∧ sg (emenderref28_run.at p (i + 1)) = true) := fun h => by have h2 := h.2; unfold emenderref28_run.at at h2; rw [if_neg (by have := I0.out; omega), if_pos (by omega)] at h2; cases h2
          have hgo := HG1.out
          rw [if_neg hcond] at hgo
          have HG := Aside0.mk hgo
          clear hgo HG1 hcond K92 l1
          obtain ⟨A1, c1, hcut, SEE, HC1⟩ := icut_go (some ad) c0 p (i) (i + 1) (I0.out) (by omega) (by have := C5.out; omega) HC.out
          have S1 := Aside0.mk SEE
          have S2 := Aside0.mk HC1
          have S3 : Aside0 ((icut p (i) (i + 1)).length ≤ 4000) := ⟨by unfold icut; rw [List.length_drop, List.length_take]; have := HP.out; omega⟩
          clear SEE HC1
          go_wp2_with fail
          refine (refPlainC HB.out HR.out HW.out S1.out S2.out S3.out HOL.out (refPlainF p i (i + 1) 0)).mono ?_
          rintro e w4 ⟨v4, rfl, g1, g2⟩
          have G1 := Aside0.mk g1
          have G2 := Aside0.mk g2
          clear g1 g2
          go_wp2
          go_roundg f
          case measure => omega
          case rel => exact ⟨i + 1, o ++ common_plain.f (refPts 0 p) i (i + 1) 0, by rw [hw1], ⟨G1.out, G2.out, by have := I0.out; omega, by have := C5.out; omega, by have := FU.out; omega, by rw [List.length_append]; have := common_plain.len (refPts 0 p) i (i + 1) 0 I0.out (by omega) (by rw [refPts_length]; have := C5.out; omega); have := LEN.out; omega, by rw [List.append_assoc]; exact HG.out⟩⟩
      have k92b : (rd p i == 92) = false := beq_eq_false_iff_ne.mpr k92
      by_cases k96 : rd p i = 96
      · have hgo := HG0.out
        rw [if_pos k96] at hgo
        have HG1 := Aside0.mk hgo
        rw [k96] at x0
        clear hgo HG0 k92 k92b k96
        go_wp2_with fail
        refine (emenderref28_fence.calls 8100 (some ad) c0 p (i + n) n _ _ (Kd.C_below HR.out HB.out) HC.out (FF.out (by have := RB.out; have := I0.out; omega))).mono ?_
        rintro e w2 ⟨rfl, hd⟩
        have HB2 := Aside0.mk (HB.out.trans (hd.below.mono HB.out.size))
        have HW2 := Aside0.mk (Kd.R_below HW.out hd.below)
        clear hd HB HW x0 FF
        by_cases e0 : en < 0
        · have e0b : decide (en < 0) = true := decide_eq_true e0
          have hgo := HG1.out
          rw [if_pos e0] at hgo
          have HG := Aside0.mk hgo
          clear hgo HG1 e0
          obtain ⟨A1, c1, hcut, SEE, HC1⟩ := icut_go (some ad) c0 p (i) (i + n) (I0.out) (by have := RB.out; omega) (by have := RB.out; omega) HC.out
          have S1 := Aside0.mk SEE
          have S2 := Aside0.mk HC1
          have S3 : Aside0 ((icut p (i) (i + n)).length ≤ 4000) := ⟨by unfold icut; rw [List.length_drop, List.length_take]; have := HP.out; omega⟩
          clear SEE HC1
          go_wp2_with fail
          refine (refPlainC HB2.out HR.out HW2.out S1.out S2.out S3.out HOL.out (refPlainF p i (i + n) 0)).mono ?_
          rintro e w4 ⟨v4, rfl, g1, g2⟩
          have G1 := Aside0.mk g1
          have G2 := Aside0.mk g2
          clear g1 g2
          go_wp2
          go_roundg f
          case measure => omega
          case rel => exact ⟨i + n, o ++ common_plain.f (refPts 0 p) i (i + n) 0, by rw [hw], ⟨G1.out, G2.out, by have := I0.out; have := RB.out; omega, by have := RB.out; omega, by have := FU.out; have := RB.out; omega, by rw [List.length_append]; have := common_plain.len (refPts 0 p) i (i + n) 0 I0.out (by have := RB.out; omega) (by rw [refPts_length]; have := RB.out; omega); have := LEN.out; omega, by rw [List.append_assoc]; exact HG.out⟩⟩
        · have e0b : decide (en < 0) = false := decide_eq_false e0
          have hgo := HG1.out
          rw [if_neg e0] at hgo
          have HG := Aside0.mk hgo
          have FB := Aside0.mk (FB0.out (by omega))
          clear hgo HG1 e0
          have hw2 : wrap64 (en + n) = en + n := by have := FB.out; have := RB.out; have := HP.out; have := I0.out; unfold wrap64; omega
          have hw3 : wrap64 (en + n - i) = en + n - i := by have := FB.out; have := RB.out; have := HP.out; have := I0.out; unfold wrap64; omega
          have hw4 : wrap64 (i + (en + n - i)) = en + n := by have := FB.out; have := RB.out; have := HP.out; have := I0.out; unfold wrap64; omega
          obtain ⟨A1, c1, hcut, SEE, HC1⟩ := icut_go (some ad) c0 p (i + n) (en) (by have := FB.out; have := RB.out; have := I0.out; omega) (by have := FB.out; have := RB.out; have := I0.out; omega) (by have := FB.out; have := RB.out; have := I0.out; omega) HC.out
          have S1 := Aside0.mk SEE
          have S2 := Aside0.mk HC1
          have S3 : Aside0 ((icut p (i + n) (en)).length ≤ 4000) := ⟨by unfold icut; rw [List.length_drop, List.length_take]; have := HP.out; omega⟩
          clear SEE HC1
          have RCd := Aside0.mk (refCode p (i + n) en (by have := FB.out; have := RB.out; have := I0.out; omega) (by have := FB.out; have := RB.out; have := I0.out; omega) (by have := FB.out; have := RB.out; have := I0.out; omega))
          go_wp2_with fail
          refine (emenderref28_code.calls A1 c1 (icut p (i + n) en) _ (S1.out _ (Kd.C_below HR.out HB2.out)) S2.out S3.out).mono ?_
          rintro e w3 ⟨A2, c2, rfl, see2, hc2, hb⟩
          have HB3 := Aside0.mk (HB2.out.trans (hb.mono HB2.out.size))
          have HW3 := Aside0.mk (Kd.R_below HW2.out hb)
          have S4 := Aside0.mk see2
          have S5 := Aside0.mk hc2
          have S6 : Aside0 ((emenderref28_code.f (icut p (i + n) en)).length ≤ 4000) := ⟨by have h := congrArg List.length RCd.out; rw [List.length_map, List.length_map] at h; have := common_code.len (refPts 0 p) (i + n) en (by have := FB.out; have := RB.out; have := I0.out; omega) (by have := FB.out; have := RB.out; have := I0.out; omega) (by rw [refPts_length]; have := FB.out; have := RB.out; omega); have := FB.out; have := RB.out; have := HP.out; have := I0.out; omega⟩
          clear hb see2 hc2 HB2 HW2
          go_wp2_with fail
          refine (refPlainC HB3.out HR.out HW3.out (fun W hW => S4.out W (S1.out W hW)) S5.out S6.out HOL.out (RCd.out)).mono ?_
          rintro e w4 ⟨v4, rfl, g1, g2⟩
          have G1 := Aside0.mk g1
          have G2 := Aside0.mk g2
          clear g1 g2
          go_wp2
          go_roundg f
          case measure => omega
          case rel => exact ⟨en + n, o ++ common_code.f (refPts 0 p) (i + n) en, by rw [hw4], ⟨G1.out, G2.out, by have := FB.out; have := RB.out; have := I0.out; omega, by have := FB.out; have := RB.out; have := I0.out; omega, by have := FU.out; have := RB.out; have := FB.out; omega, by rw [List.length_append]; have := common_code.len (refPts 0 p) (i + n) en (by have := FB.out; have := RB.out; have := I0.out; omega) (by have := FB.out; have := RB.out; have := I0.out; omega) (by rw [refPts_length]; have := FB.out; have := RB.out; omega); have := LEN.out; have := FB.out; have := RB.out; omega, by rw [List.append_assoc]; exact HG.out⟩⟩
      have k96b : (rd p i == 96) = false := beq_eq_false_iff_ne.mpr k96
      by_cases kr : rd p i = 42 ∨ rd p i = 95
      · have hgo := HG0.out
        rw [if_neg k96, if_pos kr] at hgo
        have HG := Aside0.mk hgo
        have RR2 := Aside0.mk (RC.out kr)
        clear hgo HG0 k92 k92b k96 k96b RC FF FB0
        obtain ⟨hcut, SEE, HC1⟩ := icut_to (some ad) c0 p i I0.out (by have := C5.out; omega) HC.out
        have S1 := Aside0.mk SEE
        have S2 := Aside0.mk HC1
        have S3 : Aside0 ((icut p 0 i).length ≤ 4000) := ⟨by rw [icut_zero, List.length_take]; have := HP.out; omega⟩
        have KR := Aside0.mk kr
        clear SEE HC1
        rcases kr with k42 | k95
        · rw [k42] at x0
          clear k42
          go_wp2_with fail
          refine (emenderref28_sizes.calls 4001 (some ad) c0 (icut p 0 i) _ _ (S1.out _ (Kd.C_below HR.out HB.out)) S2.out (refSizesF _ S3.out 4001 (by omega))).mono ?_
          rintro e w2 ⟨rfl, hd⟩
          have HB2 := Aside0.mk (HB.out.trans (hd.below.mono HB.out.size))
          have HW2 := Aside0.mk (Kd.R_below HW.out hd.below)
          clear hd HB HW x0
          go_wp2_with fail
          refine (emenderref28_run.calls (some ad) c0 p i n _ _ (Kd.C_below HR.out HB2.out) HC.out HP.out I0.out C5.out (by have := RB.out; have := HP.out; have := I0.out; omega) KR.out).mono ?_
          rintro e w3 ⟨rfl, hb⟩
          have HB3 := Aside0.mk (HB2.out.trans (hb.mono HB2.out.size))
          have HW3 := Aside0.mk (Kd.R_below HW2.out hb)
          clear hb HB2 HW2
          unfold encRef
          rw [RR2.out]
          obtain ⟨q0, q1, q2, q3, q4⟩ := rn
          dsimp only
          have z0 := (blk_cell (blk_new w3 (.cells #[.int .i64 q0, .int .i64 q1, .int .u8 q2, .bool q3, .bool q4] 39)) 0).trans (show _ = some (.int .i64 q0) from rfl)
          have z1 := (blk_cell (blk_new w3 (.cells #[.int .i64 q0, .int .i64 q1, .int .u8 q2, .bool q3, .bool q4] 39)) 1).trans (show _ = some (.int .i64 q1) from rfl)
          have z2 := (blk_cell (blk_new w3 (.cells #[.int .i64 q0, .int .i64 q1, .int .u8 q2, .bool q3, .bool q4] 39)) 2).trans (show _ = some (.int .u8 q2) from rfl)
          have z3 := (blk_cell (blk_new w3 (.cells #[.int .i64 q0, .int .i64 q1, .int .u8 q2, .bool q3, .bool q4] 39)) 3).trans (show _ = some (.bool q3) from rfl)
          have z4 := (blk_cell (blk_new w3 (.cells #[.int .i64 q0, .int .i64 q1, .int .u8 q2, .bool q3, .bool q4] 39)) 4).trans (show _ = some (.bool q4) from rfl)
          have TR_ := Aside0.mk (Kd.R_alloc HW3.out (.cells #[.int .i64 q0, .int .i64 q1, .int .u8 q2, .bool q3, .bool q4] 39))
          have HB4 := Aside0.mk (below_alloc HB3.out (.cells #[.int .i64 q0, .int .i64 q1, .int .u8 q2, .bool q3, .bool q4] 39))
          clear HB3 HW3
          go_wp2_with (first | (at_builtin; refine Kd.R_append k65 (w0 := w) w.heap.size rfl (.tmp 93) (.tmp 97) 61 65 (.agg #[.int .i64 0, .int .i64 0, .int .i64 0, .int .i64 0, .bool false, .int .i64 0, .int .i64 0, .int .u8 0, .bool false, .bool false, .int .i64 0, .bool false]) 80 rfl Tryd.underlying61 info65 rfl (by decide) (by decide) u3 (o.map refPart) (refPart (⟨⟨0, 0, 0, 0⟩, some ⟨q0, q1, q2, q3, q4⟩, n, false⟩ : Prt)) [.int .i64 0, .int .i64 0, .int .i64 0, .int .i64 0, .bool true, .int .i64 q0, .int .i64 q1, .int .u8 q2, .bool q3, .bool q4, .int .i64 n, .bool false] (fun _ => True) (fun _ => False) rfl (by first | rfl | (go_simp; done) | (go_simp; rfl) | simp) (k65_mkM _ _ _ (refPart (⟨⟨0, 0, 0, 0⟩, some ⟨q0, q1, q2, q3, q4⟩, n, false⟩ : Prt))) (fun _ h => h.elim) (fun _ _ => trivial) TR_.out HB4.out HB4.out.size (by rw [List.length_map]; have := HOL.out; omega) ?_; intro v1 w8 ho hb hg hat; have G1 := Aside0.mk (show Kd.R k65 65 w8 w.heap.size (fun _ => True) v1 ((o ++ [(⟨⟨0, 0, 0, 0⟩, some ⟨q0, q1, q2, q3, q4⟩, n, false⟩ : Prt)]).map refPart) from by rw [List.map_append]; exact ho); have G2 := Aside0.mk hb; clear ho hb hg hat TR_ HB4))
          go_roundg f
          case measure => omega
          case rel => exact ⟨i + n, o ++ [(⟨⟨0, 0, 0, 0⟩, some ⟨q0, q1, q2, q3, q4⟩, n, false⟩ : Prt)], by rw [hw], ⟨G1.out, G2.out, by have := RB.out; have := I0.out; omega, by have := RB.out; omega, by have := RB.out; have := FU.out; omega, by rw [List.length_append, List.length_singleton]; have := LEN.out; have := RB.out; omega, by rw [List.append_assoc]; exact HG.out⟩⟩
        · rw [k95] at x0
          clear k95
          go_wp2_with fail
          refine (emenderref28_sizes.calls 4001 (some ad) c0 (icut p 0 i) _ _ (S1.out _ (Kd.C_below HR.out HB.out)) S2.out (refSizesF _ S3.out 4001 (by omega))).mono ?_
          rintro e w2 ⟨rfl, hd⟩
          have HB2 := Aside0.mk (HB.out.trans (hd.below.mono HB.out.size))
          have HW2 := Aside0.mk (Kd.R_below HW.out hd.below)
          clear hd HB HW x0
          go_wp2_with fail
          refine (emenderref28_run.calls (some ad) c0 p i n _ _ (Kd.C_below HR.out HB2.out) HC.out HP.out I0.out C5.out (by have := RB.out; have := HP.out; have := I0.out; omega) KR.out).mono ?_
          rintro e w3 ⟨rfl, hb⟩
          have HB3 := Aside0.mk (HB2.out.trans (hb.mono HB2.out.size))
          have HW3 := Aside0.mk (Kd.R_below HW2.out hb)
          clear hb HB2 HW2
          unfold encRef
          rw [RR2.out]
          obtain ⟨q0, q1, q2, q3, q4⟩ := rn
          dsimp only
          have z0 := (blk_cell (blk_new w3 (.cells #[.int .i64 q0, .int .i64 q1, .int .u8 q2, .bool q3, .bool q4] 39)) 0).trans (show _ = some (.int .i64 q0) from rfl)
          have z1 := (blk_cell (blk_new w3 (.cells #[.int .i64 q0, .int .i64 q1, .int .u8 q2, .bool q3, .bool q4] 39)) 1).trans (show _ = some (.int .i64 q1) from rfl)
          have z2 := (blk_cell (blk_new w3 (.cells #[.int .i64 q0, .int .i64 q1, .int .u8 q2, .bool q3, .bool q4] 39)) 2).trans (show _ = some (.int .u8 q2) from rfl)
          have z3 := (blk_cell (blk_new w3 (.cells #[.int .i64 q0, .int .i64 q1, .int .u8 q2, .bool q3, .bool q4] 39)) 3).trans (show _ = some (.bool q3) from rfl)
          have z4 := (blk_cell (blk_new w3 (.cells #[.int .i64 q0, .int .i64 q1, .int .u8 q2, .bool q3, .bool q4] 39)) 4).trans (show _ = some (.bool q4) from rfl)
          have TR_ := Aside0.mk (Kd.R_alloc HW3.out (.cells #[.int .i64 q0, .int .i64 q1, .int .u8 q2, .bool q3, .bool q4] 39))
          have HB4 := Aside0.mk (below_alloc HB3.out (.cells #[.int .i64 q0, .int .i64 q1, .int .u8 q2, .bool q3, .bool q4] 39))
          clear HB3 HW3
          go_wp2_with (first | (at_builtin; refine Kd.R_append k65 (w0 := w) w.heap.size rfl (.tmp 93) (.tmp 97) 61 65 (.agg #[.int .i64 0, .int .i64 0, .int .i64 0, .int .i64 0, .bool false, .int .i64 0, .int .i64 0, .int .u8 0, .bool false, .bool false, .int .i64 0, .bool false]) 80 rfl Tryd.underlying61 info65 rfl (by decide) (by decide) u3 (o.map refPart) (refPart (⟨⟨0, 0, 0, 0⟩, some ⟨q0, q1, q2, q3, q4⟩, n, false⟩ : Prt)) [.int .i64 0, .int .i64 0, .int .i64 0, .int .i64 0, .bool true, .int .i64 q0, .int .i64 q1, .int .u8 q2, .bool q3, .bool q4, .int .i64 n, .bool false] (fun _ => True) (fun _ => False) rfl (by first | rfl | (go_simp; done) | (go_simp; rfl) | simp) (k65_mkM _ _ _ (refPart (⟨⟨0, 0, 0, 0⟩, some ⟨q0, q1, q2, q3, q4⟩, n, false⟩ : Prt))) (fun _ h => h.elim) (fun _ _ => trivial) TR_.out HB4.out HB4.out.size (by rw [List.length_map]; have := HOL.out; omega) ?_; intro v1 w8 ho hb hg hat; have G1 := Aside0.mk (show Kd.R k65 65 w8 w.heap.size (fun _ => True) v1 ((o ++ [(⟨⟨0, 0, 0, 0⟩, some ⟨q0, q1, q2, q3, q4⟩, n, false⟩ : Prt)]).map refPart) from by rw [List.map_append]; exact ho); have G2 := Aside0.mk hb; clear ho hb hg hat TR_ HB4))
          go_roundg f
          case measure => omega
          case rel => exact ⟨i + n, o ++ [(⟨⟨0, 0, 0, 0⟩, some ⟨q0, q1, q2, q3, q4⟩, n, false⟩ : Prt)], by rw [hw], ⟨G1.out, G2.out, by have := RB.out; have := I0.out; omega, by have := RB.out; omega, by have := RB.out; have := FU.out; omega, by rw [List.length_append, List.length_singleton]; have := LEN.out; have := RB.out; omega, by rw [List.append_assoc]; exact HG.out⟩⟩
      · have k42b : (rd p i == 42) = false := beq_eq_false_iff_ne.mpr (fun e => kr (.inl e))
        have k95b : (rd p i == 95) = false := beq_eq_false_iff_ne.mpr (fun e => kr (.inr e))
        have hcond : ¬ (rd p i = 92 ∧ sg (emenderref28_run.at p (i + 1)) = true) := fun h => k92 h.1
        have hgo := HG0.out
        rw [if_neg k96, if_neg kr, if_neg hcond] at hgo
        have HG := Aside0.mk hgo
        clear hgo HG0 hcond k92 k96 kr
        obtain ⟨A1, c1, hcut, SEE, HC1⟩ := icut_go (some ad) c0 p (i) (i + 1) (I0.out) (by omega) (by have := C5.out; omega) HC.out
        have S1 := Aside0.mk SEE
        have S2 := Aside0.mk HC1
        have S3 : Aside0 ((icut p (i) (i + 1)).length ≤ 4000) := ⟨by unfold icut; rw [List.length_drop, List.length_take]; have := HP.out; omega⟩
        clear SEE HC1
        go_wp2_with fail
        refine (refPlainC HB.out HR.out HW.out S1.out S2.out S3.out HOL.out (refPlainF p i (i + 1) 0)).mono ?_
        rintro e w4 ⟨v4, rfl, g1, g2⟩
        have G1 := Aside0.mk g1
        have G2 := Aside0.mk g2
        clear g1 g2
        go_wp2
        go_roundg f
        case measure => omega
        case rel => exact ⟨i + 1, o ++ common_plain.f (refPts 0 p) i (i + 1) 0, by rw [hw1], ⟨G1.out, G2.out, by have := I0.out; omega, by have := C5.out; omega, by have := FU.out; omega, by rw [List.length_append]; have := common_plain.len (refPts 0 p) i (i + 1) 0 I0.out (by omega) (by rw [refPts_length]; have := C5.out; omega); have := LEN.out; omega, by rw [List.append_assoc]; exact HG.out⟩⟩
    · have c5b : decide (i < (p.length : Int)) = false := decide_eq_false c5
      have hgo := HI.out.go
      rw [common_split.go, refPts_length, if_neg c5, List.append_nil] at hgo
      have HX := Aside0.mk HI.out.row
      rw [hgo, RR.out] at HX
      have HB := Aside0.mk HI.out.below
      clear HI hgo
      go_wp2
      go_ret
      exact ⟨_, rfl, HX.out, HB.out⟩

end Go.Proofs.YtfnafjohfmlniaaDoor.PCr
