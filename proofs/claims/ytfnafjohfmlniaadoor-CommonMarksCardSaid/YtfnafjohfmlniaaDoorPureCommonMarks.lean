/- CommonMarks: letters between stars or backticks are read as the letters alone, each with the mark. -/
import Derived.Test.YtfnafjohfmlniaaDoorGCommonMarks
import Derived.Test.YtfnafjohfmlniaaDoorComE
import Derived.Test.YtfnafjohfmlniaaDoorPCbx0
import Derived.Test.YtfnafjohfmlniaaDoorPCbx10
import Derived.Test.YtfnafjohfmlniaaDoorPCbx11
import Derived.Test.YtfnafjohfmlniaaDoorPCbx12
import Derived.Test.YtfnafjohfmlniaaDoorPCbx16
import Derived.Test.YtfnafjohfmlniaaDoorPCbx2
import Derived.Test.YtfnafjohfmlniaaDoorPCbx4
namespace Go.Proofs.YtfnafjohfmlniaaDoor.Pure
open Go.RowKit Go.Proofs.YtfnafjohfmlniaaDoorW.PrintWords Go.Proofs.YtfnafjohfmlniaaDoorW.PrintMore
open Go.Proofs.YtfnafjohfmlniaaDoor Go.Proofs.YtfnafjohfmlniaaDoor.PCb Go.Proofs.YtfnafjohfmlniaaDoor.ComA Go.Proofs.YtfnafjohfmlniaaDoor.ComT Go.Proofs.YtfnafjohfmlniaaDoor.ComB Go.Proofs.YtfnafjohfmlniaaDoor.ComC Go.Proofs.YtfnafjohfmlniaaDoor.ComD Go.Proofs.YtfnafjohfmlniaaDoor.ComE
set_option linter.unusedSimpArgs false
set_option linter.unusedVariables false
def mk_ (M : Int) (L : List Int) : List S43 := L.map (fun c => (⟨0, 0, c, M⟩ : S43))
theorem toks_g (g : S79 → Prt) (M : Int) (h : ∀ x, common_Parse.toks (g x) = [(⟨0, 0, x.f0, M⟩ : S43)]) : ∀ (L : List Int) (i : Nat), ((pts L i).map g).flatMap common_Parse.toks = mk_ M L
  | [], _ => rfl
  | c :: L, i => by
    rw [pts, List.map_cons, List.flatMap_cons, h, toks_g g M h L (i + 1)]
    rfl
theorem ltr_asc {L : List Int} (h : ∀ x ∈ L, ltr x = true) : ∀ x ∈ L, asc x := fun x hx => by
  have := (ltr_iff x).1 (h x hx)
  unfold asc
  omega
theorem sur_asc {L S : List Int} (h : ∀ x ∈ L, ltr x = true) (hS : ∀ x ∈ S, asc x) : ∀ x ∈ S ++ (L ++ S), asc x := fun x hx => by
  rcases List.mem_append.1 hx with hx | hx
  · exact hS x hx
  · rcases List.mem_append.1 hx with hx | hx
    · exact ltr_asc h x hx
    · exact hS x hx
theorem star_parse (n : Nat) (g : Prt → Prt) (M : Int) (hn : n ≤ 5) (hg : ∀ x : S79, common_Parse.toks (g (common_plain.one 0 x)) = [(⟨0, 0, x.f0, M⟩ : S43)])
    (hm : ∀ (r1 r2 : S38) (W : List Prt), fits r1 r2 → bare W → common_match.f (line r1 r2 ((n + 1 : Nat) : Int) W) = line r1 r2 0 (W.map g))
    (L : List Int) (hL : ∀ x ∈ L, ltr x = true) (hne : 0 < L.length) (hl : L.length ≤ 200) : common_Parse.f (str (S n ++ (L ++ S n))) = some (mk_ M L, ((str (S n ++ (L ++ S n))).size : Int), 0) := by
  obtain ⟨r1, r2, hf, hsp⟩ := star_split n L hL hne
  have hSl : (S n).length = n + 1 := List.length_replicate
  unfold common_Parse.f
  rw [points_str _ (sur_asc hL (fun x hx => by rw [(List.mem_replicate.1 hx).2]; unfold asc; omega)) (by rw [List.length_append, List.length_append, hSl]; omega)]
  dsimp only
  rw [if_pos rfl, hsp, hm r1 r2 _ hf (fun x hx => by obtain ⟨y, _, rfl⟩ := List.mem_map.1 hx; rfl), toks_line, List.map_map, toks_g (g ∘ common_plain.one 0) M hg, str_size]
theorem code_parse (L : List Int) (hL : ∀ x ∈ L, ltr x = true) (hne : 0 < L.length) (hl : L.length ≤ 200) : common_Parse.f (str ([96] ++ (L ++ [96]))) = some (mk_ 4 L, ((str ([96] ++ (L ++ [96]))).size : Int), 0) := by
  unfold common_Parse.f
  rw [points_str _ (sur_asc hL (fun x hx => by rw [List.mem_singleton.1 hx]; unfold asc; omega)) (by rw [List.length_append, List.length_append]; simp; omega)]
  dsimp only
  rw [if_pos rfl, code_split L hL hne, match_id _ (fun x hx r hr => by obtain ⟨y, _, rfl⟩ := List.mem_map.1 hx; cases hr), toks_g _ 4 (fun x => rfl), str_size]
theorem marks_l1 (M : Int) (cs : List Int) (hl : cs.length ≤ 4000) : ∀ (d k : Nat) (i : Int), 0 ≤ i → i + d = cs.length → d < k → emenderlaw28_CommonMarks.l1 k M (mk_ M cs) i = some true
  | d, 0, _, _, _, h => by omega
  | 0, k + 1, i, h0, hi, _ => by
    rw [emenderlaw28_CommonMarks.l1, if_neg (by unfold mk_; rw [List.length_map]; omega), awake28]
    rfl
  | d + 1, k + 1, i, h0, hi, hk => by
    have e : (rd_T43 (mk_ M cs) i).f3 = M := by
      have hn : i.toNat < cs.length := by omega
      unfold rd_T43 mk_
      rw [List.getD_eq_getElem?_getD, List.getElem?_map, List.getElem?_eq_getElem hn]
      rfl
    rw [emenderlaw28_CommonMarks.l1, if_pos (by unfold mk_; rw [List.length_map]; omega), if_pos h0, if_pos e, show wrap64 (i + 1) = i + 1 from by (unfold wrap64; omega)]
    exact marks_l1 M cs hl d k (i + 1) (by omega) (by omega) (by omega)
theorem marks_j2 (M : Int) (hM : 0 ≤ M ∧ M ≤ 4) (L : List Int) (hL : ∀ x ∈ L, ltr x = true) (hl : L.length ≤ 200) (s : ByteArray) (hs : common_Parse.f s = some (mk_ M L, (s.size : Int), 0)) (k : Nat) (hk : 300 ≤ k) : emenderlaw28_CommonMarks.j2 (k + 2) (str L) s M = some true := by
  have hx := text_asc M hM L (ltr_asc hL) (by omega)
  have hlen : ((mk_ M L).length : Int) = ((str L).size : Int) := by rw [str_size]; unfold mk_; rw [List.length_map]
  rw [emenderlaw28_CommonMarks.j2, hs, Option.bind_some]
  dsimp only
  rw [if_pos rfl, if_pos rfl, if_pos hlen, show mk_ M L = L.map (fun c => (⟨0, 0, c, M⟩ : S43)) from rfl, hx, Option.bind_some, show ((str L).toList != (str L).toList) = false from by simp, emenderlaw28_CommonMarks.j3, if_neg (by decide)]
  exact marks_l1 M L (by omega) L.length k 0 (by omega) (by omega) (by omega)
theorem size_le (A L : List Int) (n : Nat) (hl : L.length ≤ 200) (hA : A.length ≤ 10) (hn : n ≤ 10) : n + (str L).size ≤ 9223372036854775807 ∧ (str A ++ str L).size + n ≤ 9223372036854775807 := by
  have h1 : n + L.length ≤ 9223372036854775807 := by omega
  have h2 : A.length + L.length + n ≤ 9223372036854775807 := by omega
  have e2 : (str A ++ str L).size = A.length + L.length := by rw [str_append, str_size, List.length_append]
  exact ⟨Nat.le_trans (Nat.add_le_add_left (Nat.le_of_eq (str_size L)) n) h1, Nat.le_trans (Nat.add_le_add_right (Nat.le_of_eq e2) n) h2⟩
theorem sur_str (A L : List Int) : str A ++ str L ++ str A = str (A ++ (L ++ A)) := by rw [str_append, str_append, List.append_assoc]
theorem marks_j1 (a : Int) (ha : 0 ≤ a) (L : List Int) (hL : ∀ x ∈ L, ltr x = true) (hl : L.length ≤ 200) (k : Nat) (hk : 300 ≤ k) : emenderlaw28_CommonMarks.j1 (k + 3) a (str L) = some true := by
  rw [emenderlaw28_CommonMarks.j1]
  by_cases c : (str L).toList = []
  · rw [if_pos c, awake28]
    rfl
  · rw [if_neg c, Int.tmod_eq_emod_of_nonneg ha]
    have hne : 0 < L.length := by
      cases L with
      | nil => exact absurd (by first | rfl | decide +kernel | simp [str, ByteArray.toList, ByteArray.toList.loop]) c
      | cons _ _ => exact Nat.succ_pos _
    have e1 : (⟨#[42]⟩ : ByteArray) = str (S 0) := rfl
    have e2 : (⟨#[42, 42]⟩ : ByteArray) = str (S 1) := rfl
    have e3 : (⟨#[42, 42, 42]⟩ : ByteArray) = str (S 2) := rfl
    have e4 : (⟨#[96]⟩ : ByteArray) = str [96] := rfl
    have m2 : addM 0 2 = 2 := by decide +kernel
    have m1 : addM 0 1 = 1 := by decide +kernel
    have m3 : addM 1 2 = 3 := by decide +kernel
    have e3x : ∀ x : S79, common_Parse.toks ((prtMark 2 ∘ prtMark 1) (common_plain.one 0 x)) = [(⟨0, 0, x.f0, 3⟩ : S43)] := fun x => by
      have e : prtMark 1 (common_plain.one 0 x) = ⟨⟨0, 0, x.f0, 1⟩, none, 0, true⟩ := by
        unfold prtMark common_plain.one
        dsimp only
        rw [m1]
      show common_Parse.toks (prtMark 2 (prtMark 1 (common_plain.one 0 x))) = _
      rw [e]
      show [(⟨0, 0, x.f0, addM 1 2⟩ : S43)] = _
      rw [m3]
    by_cases h0 : a % 4 = 0
    · obtain ⟨b1, b2⟩ := size_le (S 0) L 1 hl (by decide) (by decide)
      rw [if_pos h0, if_pos b1, e1, if_pos b2, sur_str]
      exact marks_j2 2 (by decide) L hL hl _ (star_parse 0 (prtMark 2) 2 (by decide) (fun x => by show [(⟨0, 0, x.f0, addM 0 2⟩ : S43)] = _; rw [m2]) (fun r1 r2 W hf hW => match1 hf hW) L hL hne hl) k hk
    rw [if_neg h0]
    by_cases h1 : a % 4 = 1
    · obtain ⟨b1, b2⟩ := size_le (S 1) L 2 hl (by decide) (by decide)
      rw [if_pos h1, if_pos b1, e2, if_pos b2, sur_str]
      exact marks_j2 1 (by decide) L hL hl _ (star_parse 1 (prtMark 1) 1 (by decide) (fun x => by show [(⟨0, 0, x.f0, addM 0 1⟩ : S43)] = _; rw [m1]) (fun r1 r2 W hf hW => match2 hf hW) L hL hne hl) k hk
    rw [if_neg h1]
    by_cases h2 : a % 4 = 2
    · obtain ⟨b1, b2⟩ := size_le (S 2) L 3 hl (by decide) (by decide)
      rw [if_pos h2, if_pos b1, e3, if_pos b2, sur_str]
      exact marks_j2 3 (by decide) L hL hl _ (star_parse 2 (prtMark 2 ∘ prtMark 1) 3 (by decide) e3x (fun r1 r2 W hf hW => by rw [← List.map_map]; exact match3 hf hW) L hL hne hl) k hk
    rw [if_neg h2]
    obtain ⟨b1, b2⟩ := size_le [96] L 1 hl (by decide) (by decide)
    rw [if_pos b1, e4, if_pos b2, sur_str]
    exact marks_j2 4 (by decide) L hL hl _ (code_parse L hL hne hl) k hk
def mlett (v : Int) : Int := (97 + Int.tmod v 26) % 256
theorem mlett_ltr (v : Int) (h : 0 ≤ v) : ltr (mlett v) = true := by
  rw [ltr_iff]
  unfold mlett
  rw [Int.tmod_eq_emod_of_nonneg h]
  omega
theorem marks_l0 (l : List Int) (hl : ∀ x ∈ l, 0 ≤ x) (a : Int) (ha : 0 ≤ a) : ∀ (d k : Nat) (i : Nat), i ≤ l.length → i ≤ 100 → 101 ≤ i + d → d + 400 ≤ k → emenderlaw28_CommonMarks.l0 k l a (str ((l.take i).map mlett)) (i : Int) = some true
  | 0, _, i, _, _, h, _ => by omega
  | d + 1, k, i, hi, h50, hd, hk => by
    obtain ⟨k, rfl⟩ : ∃ m, k = m + 4 := ⟨k - 4, by omega⟩
    have hend : emenderlaw28_CommonMarks.j1 (k + 3) a (str ((l.take i).map mlett)) = some true := by
      refine marks_j1 a ha _ (fun x hx => ?_) (by rw [List.length_map, List.length_take]; omega) k (by omega)
      obtain ⟨y, hy, rfl⟩ := List.mem_map.1 hx
      exact mlett_ltr y (hl y (List.mem_of_mem_take hy))
    rw [show k + 4 = k + 3 + 1 from rfl, emenderlaw28_CommonMarks.l0]
    by_cases h1 : i < l.length
    · rw [if_pos (by omega)]
      by_cases h2 : i < 100
      · have ih := marks_l0 l hl a ha d (k + 3) (i + 1) (by omega) (by omega) (by omega) (by omega)
        have p1 : (i : Int) < 100 := by omega
        have p2 : (0 : Int) ≤ (i : Int) := by omega
        have e : rd l (i : Int) = l[i] := by simp [rd, List.getD_eq_getElem?_getD, List.getElem?_eq_getElem h1]
        have hv : mlett (l[i]) = (97 + Int.tmod (l[i]) 26) % 256 := rfl
        have hb := (ltr_iff _).1 (mlett_ltr _ (hl _ (List.getElem_mem h1)))
        have hs1 : strOfNums [mlett (l[i])] = str [mlett (l[i])] := strOf _ (fun x hx => by rw [List.mem_singleton.1 hx]; omega)
        have ha2 : str ((l.take i).map mlett) ++ str [mlett (l[i])] = str ((l.take (i + 1)).map mlett) := by
          rw [str_append, List.take_add_one, List.map_append, List.getElem?_eq_getElem h1]
          rfl
        have hq : i + 1 ≤ 9223372036854775807 := by omega
        have hle : ((l.take i).map mlett).length ≤ i := by rw [List.length_map, List.length_take]; omega
        have hw : wrap64 ((i : Int) + 1) = ((i + 1 : Nat) : Int) := by unfold wrap64; omega
        have hsz : (str ((l.take i).map mlett)).size + (str [mlett (l[i])]).size ≤ 9223372036854775807 := Nat.le_trans (Nat.add_le_add (Nat.le_trans (Nat.le_of_eq (str_size _)) hle) (Nat.le_of_eq (str_size [mlett (l[i])]))) hq
        rw [if_pos p1, if_pos p2, Option.bind_some, e, ← hv, hs1, if_pos hsz, ha2, hw]
        exact ih
      · rw [if_neg (by omega)]
        exact hend
    · rw [if_neg (by omega)]
      exact hend
theorem CommonMarks : emenderlaw28_CommonMarks.PureG := by
  intro l a _ hl ha
  have ha' : 0 ≤ a := by simp [Lit.wf, IntKind.min, IntKind.max, IntKind.signed, IntKind.bits] at ha; omega
  have hl' : ∀ x ∈ l, 0 ≤ x := fun x hx => by have h := hl x hx; simp [Lit.wf, IntKind.min, IntKind.max, IntKind.signed, IntKind.bits] at h; omega
  refine ⟨1000, ?_⟩
  unfold emenderlaw28_CommonMarks.f
  exact marks_l0 l hl' a ha' 101 1000 0 (Nat.zero_le _) (by omega) (by omega) (by omega)
end Go.Proofs.YtfnafjohfmlniaaDoor.Pure
