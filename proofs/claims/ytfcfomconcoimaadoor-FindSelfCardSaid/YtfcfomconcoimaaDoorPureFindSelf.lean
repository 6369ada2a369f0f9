/- FindSelf: a text without marks, put in the place of itself, changes nothing; another one that was put in its place is found then; for every document and texts. -/
import Derived.Test.YtfcfomconcoimaaDoorGFindSelf
import Derived.Test.YtfcfomconcoimaaDoorFindC
namespace Go.Proofs.YtfcfomconcoimaaDoor.Pure
open Go.RowKit Go.Proofs.YtfcfomconcoimaaDoorW.PrintWords Go.Proofs.YtfcfomconcoimaaDoorW.PrintMore
set_option linter.unusedVariables false
set_option linter.unusedSimpArgs false
open Go.Proofs.YtfcfomconcoimaaDoor Go.Proofs.YtfcfomconcoimaaDoor.PFa Go.Proofs.YtfcfomconcoimaaDoor.StepA Go.Proofs.YtfcfomconcoimaaDoor.StepB Go.Proofs.YtfcfomconcoimaaDoor.FindC

def c0 (t : S48) : S48 := ⟨t.f0, t.f1, t.f2, 0⟩
theorem self_l0 (l : List S48) (hl : l.length ≤ 4398046511103) (s o : ByteArray) (K : Nat) : ∀ (m i : Nat), i + m = l.length → emenderlaw26_FindSelf.l0 (K + m + 1) l s o ((l.take i).map c0 ++ l.drop i) (i : Int) = emenderlaw26_FindSelf.l0 (K + 1) l s o (l.map c0) (l.length : Int)
 | 0, i, h => by
  rw [List.drop_of_length_le (by omega), List.take_of_length_le (by omega), List.append_nil, show i = l.length by omega]
 | m + 1, i, h => by
  have hi : i < l.length := by omega
  have hlen : ((l.take i).map c0 ++ l.drop i).length = l.length := by rw [List.length_append, List.length_map, List.length_take, List.length_drop]; omega
  show emenderlaw26_FindSelf.l0 (K + m + 1 + 1) l s o ((l.take i).map c0 ++ l.drop i) (i : Int) = _
  rw [emenderlaw26_FindSelf.l0, if_pos (by rw [hlen]; omega), if_pos (by omega), w64 (by omega), show ((i : Int) + 1) = ((i + 1 : Nat) : Int) by omega]
  have e : ((l.take i).map c0 ++ l.drop i).set (i : Int).toNat (⟨(rd_T48 ((l.take i).map c0 ++ l.drop i) (i : Int)).f0, (rd_T48 ((l.take i).map c0 ++ l.drop i) (i : Int)).f1, (rd_T48 ((l.take i).map c0 ++ l.drop i) (i : Int)).f2, 0⟩ : S48) = (l.take (i + 1)).map c0 ++ l.drop (i + 1) := by
   have hli : ((l.take i).map c0).length = i := by rw [List.length_map, List.length_take]; omega
   have hr : rd_T48 ((l.take i).map c0 ++ l.drop i) (i : Int) = l[i] := by
    rw [rd48 _ i (by rw [hlen]; exact hi), List.getElem_append_right (by rw [hli]; exact Nat.le_refl _)]
    simp only [hli, Nat.sub_self]
    rw [List.getElem_drop]
    rfl
   rw [hr, Int.toNat_natCast, List.set_append_right _ _ (by rw [hli]; exact Nat.le_refl _), hli, Nat.sub_self, List.drop_eq_getElem_cons hi, List.set_cons_zero, List.take_add_one, List.getElem?_eq_getElem hi, Option.toList_some, List.map_append, List.append_assoc]
   rfl
  rw [e]
  exact self_l0 l hl s o K m (i + 1) (by omega)
theorem self_tok {t : S48} (h : flat_Right.f t.f0 t.f1 t.f2 t.f3 = some true) (h0 : t.f0 = 0) : t.f1 = 0 := by
 unfold flat_Right.f at h
 rw [if_pos h0] at h
 by_cases c : t.f1 = 0
 ·exact c
 ·rw [if_neg c] at h
  cases h
theorem self_mem (l : List S48) : ∀ t ∈ l.map c0, t.f3 = 0 := by
 intro t ht
 obtain ⟨u, _, rfl⟩ := List.mem_map.1 ht
 rfl
/-- Tokens without marks are their code points. -/
theorem self_slice : ∀ (u : List S48) (p : List Int), (∀ t ∈ u, flat_Right.f t.f0 t.f1 t.f2 t.f3 = some true ∧ t.f3 = 0) → FindB.M u = p.map some → u = p.map (fun c => (⟨0, 0, c, 0⟩ : S48)) ∧ runes u = true
 | [], p, _, h => by
  cases p with
  | nil => exact ⟨rfl, rfl⟩
  | cons c p => cases h
 | t :: u, p, hr, h => by
  cases p with
  | nil => cases h
  | cons c p =>
   unfold FindB.M at h
   rw [List.map_cons, List.map_cons] at h
   injection h with h1 h2
   have h0 : t.f0 = 0 ∧ t.f2 = c := by
    unfold FindB.tok at h1
    split at h1
    ·exact ⟨by assumption, Option.some.inj h1⟩
    ·cases h1
   obtain ⟨e, hru⟩ := self_slice u p (fun x hx => hr x (List.mem_cons_of_mem _ hx)) h2
   have ht := hr t (List.mem_cons_self ..)
   have h10 := self_tok ht.1 h0.1
   refine ⟨?_, by rw [runes_cons, beq_iff_eq.mpr h0.1, hru]; rfl⟩
   rw [List.map_cons, ← e]
   congr 1
   cases t
   simp only at h0 h10 ht ⊢
   rw [h0.1, h0.2, h10, ht.2]
theorem M_slice (l : List S48) (a b : Nat) : FindB.M ((l.take b).drop a) = ((FindB.M l).take b).drop a := by unfold FindB.M; rw [List.map_drop, List.map_take]
/-- What is found rises; each place has just the text. -/
theorem self_rise (l : List S48) (hr : ∀ t ∈ l, flat_Right.f t.f0 t.f1 t.f2 t.f3 = some true ∧ t.f3 = 0) (p : List Int) (hp : 0 < p.length) : ∀ (r : List S28) (last : Nat), r = FindB.G p ((FindB.M l).drop last) 0 (last : Int) → last ≤ l.length → riseL l (last : Int) r = true ∧ ∀ x ∈ r, 0 ≤ x.f0 ∧ x.f0 ≤ x.f1 ∧ x.f1 ≤ (l.length : Int) ∧ x.f0 < (l.length : Int) ∧ (l.take x.f1.toNat).drop x.f0.toNat = p.map (fun c => (⟨0, 0, c, 0⟩ : S48))
 | [], last, h, hl => ⟨rfl, fun x hx => by cases hx⟩
 | e :: r, last, h, hl => by
  obtain ⟨j, h1, h2, h3⟩ := FindB.G_step p hp _ _ _ _ h.symm
  rw [List.drop_drop] at h2 h3
  have hlen := h2.length_le
  have hM : (FindB.M l).length = l.length := by unfold FindB.M; rw [List.length_map]
  rw [List.length_map, List.length_drop, hM] at hlen
  have e0 : e.f0 = ((last + j : Nat) : Int) := by rw [h1]; simp
  have e1 : e.f1 = ((last + j + p.length : Nat) : Int) := by rw [h1]; simp
  obtain ⟨hs, hru⟩ := self_slice ((l.take (last + j + p.length)).drop (last + j)) p (fun t ht => hr t (List.mem_of_mem_take (List.mem_of_mem_drop ht))) (by
   rw [M_slice, List.drop_take, show last + j + p.length - (last + j) = p.length by omega]
   obtain ⟨Y, hY⟩ := h2
   rw [← hY, List.take_append_of_le_length (by rw [List.length_map]; exact Nat.le_refl _), List.take_of_length_le (by rw [List.length_map]; exact Nat.le_refl _)])
  have ih := self_rise l hr p hp r (last + j + p.length) (by
   rw [h3, ← Nat.add_assoc]
   congr 1) (by omega)
  refine ⟨?_, fun x hx => ?_⟩
  ·rw [riseL, e0, e1, if_neg (by omega), Int.toNat_natCast, Int.toNat_natCast, if_pos hru]
   exact ih.1
  ·rcases List.mem_cons.1 hx with rfl | hx
   ·rw [e0, e1, Int.toNat_natCast, Int.toNat_natCast]
    exact ⟨by omega, by omega, by omega, by omega, hs⟩
   ·exact ih.2 x hx
theorem self_A (x : List S48) (hx : (fc x).2 = 0) (hr : ∀ t ∈ x, flat_Right.f t.f0 t.f1 t.f2 t.f3 = some true ∧ t.f3 = 0) (F T : Int) (sl : List S48) (h0 : 0 ≤ F) (h1 : F ≤ T) (h2 : T ≤ (x.length : Int)) (hs : (x.take T.toNat).drop F.toNat = sl) : A x 0 F T 0 0 0 sl 0 = (x, 0) := by
 have hl := fc_len hx
 have hD : D x 0 F T 0 0 0 sl 0 = x := by
  unfold D
  rw [if_pos rfl, ← hs, List.drop_take, ← List.append_assoc]
  have : x.take F.toNat ++ (x.drop F.toNat).take (T.toNat - F.toNat) = x.take T.toNat := by
   rw [← List.take_add]
   congr 1
   omega
  rw [this, List.take_append_drop]
 have hsl : sl.length ≤ 2048 := by rw [← hs, List.length_drop, List.length_take]; omega
 have hall : sl.all rt = true := by
  rw [List.all_eq_true]
  intro t ht
  rw [← hs] at ht
  have := (hr t (List.mem_of_mem_take (List.mem_of_mem_drop ht))).1
  unfold rt right
  rw [this]
  rfl
 have hc : chk 0 F T 0 0 0 sl 0 = 0 := by
  unfold chk
  rw [if_neg (by omega), if_pos]
  rw [decide_eq_true (show 0 ≤ F ∧ F ≤ T ∧ T ≤ 2048 from ⟨h0, h1, by omega⟩), hall]
  rfl
 unfold A
 rw [if_pos hx, if_pos hc, if_neg (by omega), hD, if_pos hx]
theorem self_rep (x : List S48) : ∀ (st : List S45), (∀ s ∈ st, A x s.f0 s.f1 s.f2 s.f3 s.f4 s.f5 s.f6 s.f7 = (x, 0)) → rep x st = (x, 0)
 | [], _ => rfl
 | s :: st, h => by
  rw [rep, h s (List.mem_cons_self ..), if_pos rfl]
  exact self_rep x st (fun y hy => h y (List.mem_cons_of_mem _ hy))
theorem self_last : ∀ (st : List S45) (l : List S48) (h : st ≠ []), (rep l st).2 = 0 → ∃ cur, (A cur (st.getLast h).f0 (st.getLast h).f1 (st.getLast h).f2 (st.getLast h).f3 (st.getLast h).f4 (st.getLast h).f5 (st.getLast h).f6 (st.getLast h).f7).2 = 0 ∧ (rep l st).1 = (A cur (st.getLast h).f0 (st.getLast h).f1 (st.getLast h).f2 (st.getLast h).f3 (st.getLast h).f4 (st.getLast h).f5 (st.getLast h).f6 (st.getLast h).f7).1
 | [], l, h, _ => absurd rfl h
 | [s], l, h, hr => by
  rw [rep] at hr ⊢
  by_cases c : (A l s.f0 s.f1 s.f2 s.f3 s.f4 s.f5 s.f6 s.f7).2 = 0
  ·rw [if_pos c]
   exact ⟨l, c, rfl⟩
  ·rw [if_neg c] at hr
   exact absurd hr c
 | s :: t :: st, l, h, hr => by
  rw [rep] at hr ⊢
  by_cases c : (A l s.f0 s.f1 s.f2 s.f3 s.f4 s.f5 s.f6 s.f7).2 = 0
  ·rw [if_pos c] at hr ⊢
   have := self_last (t :: st) _ (by simp) hr
   rw [List.getLast_cons (by simp)]
   exact this
  ·rw [if_neg c] at hr
   exact absurd hr c
theorem self_check {l : List S48} (h : (fc l).2 = 0) : ∃ c, flat_Check.f l = some (c, 0) := ⟨(fc l).1, by rw [flat_check]; exact congrArg some (Prod.ext rfl h)⟩
theorem self_pos {s : ByteArray} {p : List Int} (h : find_points.f s = some (p, 0)) (hs : 0 < s.size) : 0 < p.length := by
 have := FindB.enc_points h
 cases p with
 | nil =>
  have h2 := congrArg List.length this
  rw [← Lib.size_eq] at h2
  simp at h2
  omega
 | cons c p => simp
theorem self_empty {s : ByteArray} (h : ¬ 0 < s.size) : (s.toList == ([] : List UInt8)) = true := by
 obtain ⟨⟨a⟩⟩ := s
 have : a = [] := by
  cases a with
  | nil => rfl
  | cons x a => simp [ByteArray.size] at h
 subst this
 simp [ByteArray.toList, ByteArray.toList.loop, ByteArray.size]
/-- Another text, put in the places of one, is found then. -/
theorem self_other (x : List S48) (hx : (fc x).2 = 0) (at_ : List S28) (o : ByteArray) (ho : 0 < o.size) (hz : (Rp x at_ o).2 = 0) : ∃ r, find_Find.f (Rp x at_ o).1 o false false = some (r, 0) ∧ (at_ = [] ∨ 0 < r.length) := by
 unfold Rp at hz ⊢
 by_cases c : (St x at_ o).2 = 0
 ·rw [if_pos c] at hz ⊢
  have hSt : ∃ p2, find_points.f o = some (p2, 0) ∧ (St x at_ o).1 = at_.reverse.map (mk x p2) := by
   unfold St at c ⊢
   rw [if_pos hx] at c ⊢
   by_cases c2 : riseL x 0 at_ = true
   ·rw [if_pos c2] at c ⊢
    obtain ⟨⟨p2, e2⟩, hp2⟩ := FindA.points_some o
    rw [hp2] at c ⊢
    by_cases c3 : e2 = 0
    ·subst c3
     exact ⟨p2, rfl, rfl⟩
    ·simp only [if_neg c3] at c
     exact absurd c c3
   ·rw [if_neg c2] at c
    cases c
  obtain ⟨p2, hp2, hS⟩ := hSt
  have hpp := self_pos hp2 ho
  rw [hS] at hz ⊢
  have fin : ∀ z : List S48, (fc z).2 = 0 → find_Find.f z o false false = some (find_Find.all p2 false false (find_runs.f z), 0) := fun z h => by
   obtain ⟨c', hc'⟩ := self_check h
   have := fc_len h
   unfold find_Find.f
   rw [hc', Option.bind_some, if_pos rfl, hp2, Option.bind_some, if_pos rfl, if_neg (show ¬ p2.length = 0 by omega), if_pos (show z.length ≤ 1000000 by omega)]
  cases at_ with
  | nil => exact ⟨_, fin x hx, .inl rfl⟩
  | cons a at_ =>
   have hne : (a :: at_).reverse.map (mk x p2) ≠ [] := by simp
   obtain ⟨cur, h1, h2⟩ := self_last _ x hne hz
   have hlast : ((a :: at_).reverse.map (mk x p2)).getLast hne = mk x p2 a := by
    simp
   rw [hlast] at h1 h2
   obtain ⟨q1, q2, q3, q4, q5⟩ := A_ok h1
   rw [h2, q5]
   refine ⟨_, fin _ q4, .inr ?_⟩
   rw [FindB.all_G p2 hpp]
   have hD : D cur (mk x p2 a).f0 (mk x p2 a).f1 (mk x p2 a).f2 (mk x p2 a).f3 (mk x p2 a).f4 (mk x p2 a).f5 (mk x p2 a).f6 (mk x p2 a).f7 = cur.take a.f0.toNat ++ ((mk x p2 a).f6 ++ cur.drop a.f1.toNat) := by
    unfold D
    rw [if_pos (show (mk x p2 a).f0 = 0 from rfl)]
    rfl
   rw [hD]
   have hF0 : 0 ≤ a.f0 := q2.f0
   have hFT : a.f0 ≤ a.f1 := q2.ft
   have hTl : a.f1 ≤ (cur.length : Int) := q3
   have hM : FindB.M (cur.take a.f0.toNat ++ ((mk x p2 a).f6 ++ cur.drop a.f1.toNat)) = FindB.M (cur.take a.f0.toNat) ++ (p2.map some ++ FindB.M (cur.drop a.f1.toNat)) := by
    unfold FindB.M
    rw [List.map_append, List.map_append]
    congr 2
    unfold mk
    rw [List.map_map]
    rfl
   have hlen : (FindB.M (cur.take a.f0.toNat)).length = a.f0.toNat := by
    unfold FindB.M
    rw [List.length_map, List.length_take]
    omega
   have := FindB.G_found p2 (FindB.M (cur.take a.f0.toNat ++ ((mk x p2 a).f6 ++ cur.drop a.f1.toNat))) 0 a.f0.toNat (by
    rw [hM, List.length_append, List.length_append, hlen, List.length_map]
    omega) (by
    rw [hM, List.drop_left' hlen]
    exact List.prefix_append _ _)
   exact List.length_pos_iff.2 this
 ·rw [if_neg c] at hz
  exact absurd hz c
theorem FindSelf : emenderlaw26_FindSelf.Pure := by
 intro l s o hl _ hs ho
 refine ⟨8000000 + l.length + 1, ?_⟩
 unfold emenderlaw26_FindSelf.f
 rw [Option.bind_some, if_pos (by rw [List.length_nil]; omega), List.nil_append]
 have h0 := self_l0 l (by omega) s o 8000000 l.length 0 (by omega)
 rw [List.take_zero, List.map_nil, List.nil_append, List.drop_zero, Int.natCast_zero] at h0
 rw [h0, emenderlaw26_FindSelf.l0, if_neg (by rw [List.length_map]; omega)]
 have stop : ∀ (x : List S48) (r : List S28), emenderlaw26_FindSelf.j1 8000000 s o x r true = some true := fun x r => by
  show emenderlaw26_FindSelf.j1 (7999999 + 1) s o x r true = some true
  rw [emenderlaw26_FindSelf.j1, if_pos rfl, FindA.awake_]
  rfl
 have hm := self_mem l
 have hxl : (l.map c0).length = l.length := List.length_map ..
 generalize l.map c0 = x at *
 rcases FindB.find_all_cases x s with ⟨e, he, hf⟩ | ⟨p, c, hp, hc, hsp, hf⟩
 ·rw [hf, Option.bind_some, if_neg he]
  exact stop _ _
 ·have hck := FindB.check_ok hc
  have hxf : (fc x).2 = 0 := by unfold fc; rw [hc]; rfl
  have hr : ∀ t ∈ x, flat_Right.f t.f0 t.f1 t.f2 t.f3 = some true ∧ t.f3 = 0 := fun t ht => ⟨hck.2 t ht, hm t ht⟩
  have hal := FindA.all_len p hp false false x
  have hG := FindB.all_G p hp x
  rw [hf, Option.bind_some, if_pos rfl]
  dsimp only
  generalize find_Find.all p false false (find_runs.f x) = at_ at *
  by_cases c1 : (l.length : Int) > 200
  ·rw [if_pos c1]
   exact stop _ _
  ·rw [if_neg c1]
   by_cases c2 : wrap64 ((s.size : Int) + (o.size : Int)) > 40
   ·rw [decide_eq_true c2]
    exact stop _ _
   ·rw [decide_eq_false c2]
    obtain ⟨hri, hat⟩ := self_rise x hr p hp at_ 0 (by rw [List.drop_zero]; exact hG) (Nat.zero_le _)
    have hK : ∀ K, 1000000 ≤ K → at_.length * (x.length + 1010) + 6000 ≤ K := fun K h => by
     have h1 : at_.length ≤ 200 := by omega
     have h2 : x.length + 1010 ≤ 1210 := by omega
     have h3 : at_.length * (x.length + 1010) ≤ 242000 := Nat.le_trans (Nat.mul_le_mul h1 h2) (by decide)
     exact Nat.le_trans (Nat.add_le_add_right h3 6000) (Nat.le_trans (by decide) h)
    show emenderlaw26_FindSelf.j1 (7999999 + 1) s o x at_ false = some true
    have hRp : Rp x at_ s = (x, 0) := by
     have hS : St x at_ s = (at_.reverse.map (mk x p), 0) := by
      unfold St
      rw [if_pos hxf, if_pos (show riseL x 0 at_ = true from hri), hsp]
      rfl
     unfold Rp
     rw [hS, if_pos rfl]
     refine self_rep x _ (fun st hst => ?_)
     obtain ⟨a, ha, rfl⟩ := List.mem_map.1 hst
     obtain ⟨g0, g1, g2, g3, g4⟩ := hat a (List.mem_reverse.1 ha)
     have hm3 : (rd_T48 x a.f0).f3 = 0 := by
      have := rd48 x a.f0.toNat (by omega)
      rw [show ((a.f0.toNat : Nat) : Int) = a.f0 by omega] at this
      rw [this]
      exact (hr _ (List.getElem_mem _)).2
     show A x 0 a.f0 a.f1 0 0 0 (p.map (fun c => (⟨0, 0, c, (rd_T48 x a.f0).f3⟩ : S48))) 0 = (x, 0)
     rw [hm3]
     exact self_A x hxf hr a.f0 a.f1 _ g0 g1 g2 g4
    rw [emenderlaw26_FindSelf.j1, if_neg (by decide), replace_f x at_ (by omega) s 7999999 (hK _ (by omega)), Option.bind_some, hRp, if_pos rfl, alike x x (by omega) 7999999 (by omega), Option.bind_some, sameL_refl]
    show emenderlaw26_FindSelf.j2 (7999998 + 1) o x at_ false = some true
    rw [emenderlaw26_FindSelf.j2, if_neg (by decide), replace_f x at_ (by omega) o 7999998 (hK _ (by omega)), Option.bind_some]
    have stop3 : ∀ z : List S48, emenderlaw26_FindSelf.j3 7999998 o at_ z true = some true := fun z => by
     show emenderlaw26_FindSelf.j3 (7999997 + 1) o at_ z true = some true
     rw [emenderlaw26_FindSelf.j3, if_pos rfl, FindA.awake_]
     rfl
    by_cases c3 : (Rp x at_ o).2 = 0
    ·rw [if_pos c3]
     by_cases c4 : 0 < o.size
     ·cases hb : (o.toList == ([] : List UInt8)) with
      | true => exact stop3 _
      | false =>
       obtain ⟨r, h1, h2⟩ := self_other x hxf at_ o c4 c3
       show emenderlaw26_FindSelf.j3 (7999997 + 1) o at_ (Rp x at_ o).1 false = some true
       rw [emenderlaw26_FindSelf.j3, if_neg (by decide), h1, Option.bind_some, if_pos rfl]
       rcases h2 with rfl | h2
       ·rw [if_pos (show ((([] : List S28).length : Int)) = 0 from rfl), FindA.awake_]
        rfl
       ·by_cases c5 : (at_.length : Int) = 0
        ·rw [if_pos c5, FindA.awake_]
         rfl
        ·rw [if_neg c5, if_pos (by show (1 : Int) ≤ (r.length : Int); omega), FindA.awake_]
         rfl
     ·rw [self_empty c4]
      exact stop3 _
    ·rw [if_neg c3]
     exact stop3 _

end Go.Proofs.YtfcfomconcoimaaDoor.Pure
