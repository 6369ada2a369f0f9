/- CommonEscapes: any sign behind a backslash is itself, without a mark, wherever it stands between letters. -/
import Derived.Test.YtfnafjohfmlniaaDoorGCommonEscapes
import Derived.Test.YtfnafjohfmlniaaDoorComB
import Derived.Test.YtfnafjohfmlniaaDoorPCbx0
import Derived.Test.YtfnafjohfmlniaaDoorPCbx12
import Derived.Test.YtfnafjohfmlniaaDoorPCbx18
import Derived.Test.YtfnafjohfmlniaaDoorPCbx4
import Derived.Test.YtfnafjohfmlniaaDoorPCbx6
import Derived.Test.YtfnafjohfmlniaaDoorPCbx7
namespace Go.Proofs.YtfnafjohfmlniaaDoor.Pure
open Go.RowKit Go.Proofs.YtfnafjohfmlniaaDoorW.PrintWords Go.Proofs.YtfnafjohfmlniaaDoorW.PrintMore
open Go.Proofs.YtfnafjohfmlniaaDoor Go.Proofs.YtfnafjohfmlniaaDoor.PCb Go.Proofs.YtfnafjohfmlniaaDoor.ComA Go.Proofs.YtfnafjohfmlniaaDoor.ComT Go.Proofs.YtfnafjohfmlniaaDoor.ComB
set_option linter.unusedSimpArgs false
set_option linter.unusedVariables false
def lett (v : Int) : Int := (97 + Int.tmod v 26) % 256
theorem lett_le (v : Int) (h : 0 ≤ v) : 97 ≤ lett v ∧ lett v ≤ 122 := by
  unfold lett
  rw [Int.tmod_eq_emod_of_nonneg h]
  omega
theorem esc_parse (t : List Int) (c : Int) (ht : ∀ x ∈ t, 97 ≤ x ∧ x ≤ 122) (hl : t.length ≤ 50) (hc : 33 ≤ c ∧ c ≤ 126) (hs : sg c = true) :
    common_Parse.f (str (t ++ 92 :: c :: t)) = some (tk (t ++ c :: t), ((str (t ++ 92 :: c :: t)).size : Int), 0) := by
  have hall : ∀ x ∈ t ++ 92 :: c :: t, asc x := by
    intro x hx
    unfold asc
    rcases List.mem_append.1 hx with h | h
    · have := ht x h; omega
    · rcases List.mem_cons.1 h with rfl | h
      · omega
      · rcases List.mem_cons.1 h with rfl | h
        · omega
        · have := ht x h; omega
  have hlen : (t ++ 92 :: c :: t).length = t.length + (t.length + 1 + 1) := by simp
  have hcalm : ∀ (i : Nat), ∀ x ∈ pts t i, calm x.f0 := fun i x hx => by have := ht _ (pts_mem t i x hx); unfold calm; omega
  have hp : pts (t ++ 92 :: c :: t) 0 = pts t 0 ++ (⟨92, ((0 + t.length : Nat) : Int)⟩ : S79) :: (⟨c, ((0 + t.length + 1 : Nat) : Int)⟩ : S79) :: pts t (0 + t.length + 1 + 1) := by
    rw [pts_append]
    rfl
  unfold common_Parse.f
  rw [points_str _ hall (by omega)]
  dsimp only
  rw [if_pos rfl]
  have hsp : common_split.f (pts (t ++ 92 :: c :: t) 0) = (pts t 0 ++ (⟨c, ((0 + t.length + 1 : Nat) : Int)⟩ : S79) :: pts t (0 + t.length + 1 + 1)).map (common_plain.one 0) := by
    generalize hpp : pts (t ++ 92 :: c :: t) 0 = p at *
    have hpl : p.length = t.length + (t.length + 1 + 1) := by rw [← hpp, pts_len, hlen]
    unfold common_split.f
    have e1 := go_calms (pts t 0) [] ((⟨92, ((0 + t.length : Nat) : Int)⟩ : S79) :: (⟨c, ((0 + t.length + 1 : Nat) : Int)⟩ : S79) :: pts t (0 + t.length + 1 + 1)) p (by rw [hp]; rfl) (hcalm 0) (t.length + 3)
    have e2 := go_esc (f := t.length + 2) hp rfl hs
    have e3 := go_calms (pts t (0 + t.length + 1 + 1)) (pts t 0 ++ [(⟨92, ((0 + t.length : Nat) : Int)⟩ : S79), (⟨c, ((0 + t.length + 1 : Nat) : Int)⟩ : S79)]) [] p (by rw [hp, List.append_nil, List.append_assoc]; rfl) (hcalm _) 2
    rw [pts_len] at e1 e2 e3
    rw [List.length_append, pts_len] at e3
    rw [show p.length + 1 = t.length + 3 + t.length by omega]
    have e4 : common_split.go p (t.length + 3 + t.length) 0 = _ := e1
    rw [e4, show ((([] : List S79).length + t.length : Nat) : Int) = (t.length : Int) by simp, show t.length + 3 = t.length + 2 + 1 from rfl, e2]
    have e5 : common_split.go p (t.length + 2) ((t.length : Int) + 1 + 1) = (pts t (0 + t.length + 1 + 1)).map (common_plain.one 0) := by
      rw [show t.length + 2 = 2 + t.length by omega, show (t.length : Int) + 1 + 1 = ((t.length + [(⟨92, ((0 + t.length : Nat) : Int)⟩ : S79), (⟨c, ((0 + t.length + 1 : Nat) : Int)⟩ : S79)].length : Nat) : Int) by simp; omega, e3, show ((t.length + [(⟨92, ((0 + t.length : Nat) : Int)⟩ : S79), (⟨c, ((0 + t.length + 1 : Nat) : Int)⟩ : S79)].length + t.length : Nat) : Int) = (p.length : Int) by rw [hpl]; simp; omega, go_end, List.append_nil]
    rw [e5, List.map_append, List.map_cons]
  rw [hsp, match_id _ (fun x hx r hr => by obtain ⟨y, _, rfl⟩ := List.mem_map.1 hx; cases hr), toks_plain, str_size]
  have e6 : (pts t 0 ++ (⟨c, ((0 + t.length + 1 : Nat) : Int)⟩ : S79) :: pts t (0 + t.length + 1 + 1)).map (fun x => (⟨0, 0, x.f0, 0⟩ : S43)) = tk (t ++ c :: t) := by
    unfold tk
    have f := pts_f0 t
    rw [List.map_append, List.map_cons, List.map_append, List.map_cons]
    have g : ∀ (l : List Int) (i : Nat), (pts l i).map (fun x => (⟨0, 0, x.f0, 0⟩ : S43)) = l.map (fun c => (⟨0, 0, c, 0⟩ : S43)) := by
      intro l
      induction l with
      | nil => intro i; rfl
      | cons c l ih => intro i; rw [pts, List.map_cons, List.map_cons, ih (i + 1)]
    rw [g, g]
  rw [e6]
theorem esc_l1 (cs : List Int) (hl : cs.length ≤ 4000) : ∀ (d k : Nat) (i : Int), 0 ≤ i → i + d = cs.length → d < k → emenderlaw28_CommonEscapes.l1 k (tk cs) i = some true
  | d, 0, _, _, _, h => by omega
  | 0, k + 1, i, h0, hi, _ => by
    simp only [emenderlaw28_CommonEscapes.l1]
    rw [if_neg (by unfold tk; rw [List.length_map]; omega), awake28]
    rfl
  | d + 1, k + 1, i, h0, hi, hk => by
    have hn : i.toNat < (tk cs).length := by unfold tk; rw [List.length_map]; omega
    have e : (rd_T43 (tk cs) i).f3 = 0 := by
      unfold rd_T43 tk
      rw [List.getD_eq_getElem?_getD, List.getElem?_map]
      cases cs[i.toNat]? <;> rfl
    simp only [emenderlaw28_CommonEscapes.l1]
    rw [if_pos (by unfold tk; rw [List.length_map]; omega), if_pos h0, if_pos e, show wrap64 (i + 1) = i + 1 from by (unfold wrap64; omega)]
    exact esc_l1 cs hl d k (i + 1) (by omega) (by omega) (by omega)
theorem esc_j2 (t : List Int) (c : Int) (ht : ∀ x ∈ t, 97 ≤ x ∧ x ≤ 122) (hl : t.length ≤ 50) (hc : 33 ≤ c ∧ c ≤ 126) (hs : sg c = true) (k : Nat) (hk : 150 ≤ k) : emenderlaw28_CommonEscapes.j2 (k + 1) c (str t) = some true := by
  have s1 : strOfNums [c] = str [c] := strOf _ (fun x hx => by rw [List.mem_singleton.1 hx]; omega)
  have s2 : (⟨#[92]⟩ : ByteArray) = str [92] := rfl
  have hasc : ∀ x ∈ t ++ c :: t, asc x := by
    intro x hx
    unfold asc
    rcases List.mem_append.1 hx with h | h
    · have := ht x h; omega
    · rcases List.mem_cons.1 h with rfl | h
      · omega
      · have := ht x h; omega
  have a1 : str t ++ str [92] ++ str [c] ++ str t = str (t ++ 92 :: c :: t) := by rw [str_append, str_append, str_append]; simp
  have a2 : str t ++ str [c] ++ str t = str (t ++ c :: t) := by rw [str_append, str_append]; simp
  have b1 : (str t ++ str [92]).size = t.length + 1 := by rw [str_append, str_size]; simp
  have b2 : (str t ++ str [92] ++ str [c]).size = t.length + 2 := by rw [str_append, str_append, str_size]; simp
  have b3 : (str t ++ str [c]).size = t.length + 1 := by rw [str_append, str_size]; simp
  have b4 : (str [c]).size = 1 := by rw [str_size]; rfl
  simp only [emenderlaw28_CommonEscapes.j2, Option.bind_some, s1, s2]
  rw [str_size, if_pos (by omega), b1, b4, if_pos (by omega), b2, if_pos (by omega), a1, esc_parse t c ht hl hc hs, Option.bind_some]
  dsimp only
  have hx := text_asc 0 (by omega) (t ++ c :: t) hasc (by simp; omega)
  rw [if_pos rfl, show tk (t ++ c :: t) = (t ++ c :: t).map (fun c => (⟨0, 0, c, 0⟩ : S43)) from rfl, hx, Option.bind_some, if_pos (by omega), b3, if_pos (by omega), a2, if_pos rfl]
  exact esc_l1 (t ++ c :: t) (by simp; omega) (t ++ c :: t).length k 0 (by omega) (by omega) (by simp; omega)
theorem esc_l0 (l : List Int) (hl : ∀ x ∈ l, 0 ≤ x) (c : Int) (hc : 33 ≤ c ∧ c ≤ 126) (hs : sg c = true) : ∀ (d k : Nat) (i : Nat), i ≤ l.length → i ≤ 50 → 51 ≤ i + d → d + 200 ≤ k → emenderlaw28_CommonEscapes.l0 k l c (str ((l.take i).map lett)) (i : Int) = some true
  | 0, _, i, _, _, h, _ => by omega
  | d + 1, k, i, hi, h50, hd, hk => by
    obtain ⟨k, rfl⟩ : ∃ m, k = m + 2 := ⟨k - 2, by omega⟩
    have hend : emenderlaw28_CommonEscapes.j2 (k + 1) c (str ((l.take i).map lett)) = some true := by
      refine esc_j2 _ c (fun x hx => ?_) (by rw [List.length_map, List.length_take]; omega) hc hs k (by omega)
      obtain ⟨y, hy, rfl⟩ := List.mem_map.1 hx
      exact lett_le y (hl y (List.mem_of_mem_take hy))
    rw [show k + 2 = k + 1 + 1 from rfl]
    simp only [emenderlaw28_CommonEscapes.l0]
    by_cases h1 : i < l.length
    · rw [if_pos (by omega)]
      by_cases h2 : i < 50
      · have e : rd l (i : Int) = l[i] := by simp [rd, List.getD_eq_getElem?_getD, List.getElem?_eq_getElem h1]
        have hv : lett (l[i]) = (97 + Int.tmod (l[i]) 26) % 256 := rfl
        have hb := lett_le _ (hl _ (List.getElem_mem h1))
        have hs1 : strOfNums [lett (l[i])] = str [lett (l[i])] := strOf _ (fun x hx => by rw [List.mem_singleton.1 hx]; omega)
        have ha : str ((l.take i).map lett) ++ str [lett (l[i])] = str ((l.take (i + 1)).map lett) := by
          rw [str_append, List.take_add_one, List.map_append, List.getElem?_eq_getElem h1]
          rfl
        rw [if_pos (by omega), if_pos (by omega), Option.bind_some, e, ← hv, hs1, str_size, str_size, if_pos (by rw [List.length_map, List.length_take]; simp; omega), ha, show wrap64 ((i : Int) + 1) = ((i + 1 : Nat) : Int) from by (unfold wrap64; omega)]
        exact esc_l0 l hl c hc hs d (k + 1) (i + 1) (by omega) (by omega) (by omega) (by omega)
      · rw [if_neg (by omega)]
        exact hend
    · rw [if_neg (by omega)]
      exact hend
theorem esc_j0 (l : List Int) (hl : ∀ x ∈ l, 0 ≤ x) (c : Int) (hc : 33 ≤ c ∧ c ≤ 126) (b : Bool) (hs : b = false → sg c = true) : emenderlaw28_CommonEscapes.j0 500 l c b = some true := by
  rw [show (500 : Nat) = 499 + 1 from rfl, emenderlaw28_CommonEscapes.j0]
  cases b with
  | true => rw [if_pos rfl, awake28]; rfl
  | false =>
    rw [if_neg (by decide)]
    exact esc_l0 l hl c hc (hs rfl) 51 499 0 (Nat.zero_le _) (by omega) (by omega) (by omega)
theorem CommonEscapes : emenderlaw28_CommonEscapes.PureG := by
  intro a l ha _ hl
  have ha' : 0 ≤ a ∧ a ≤ 255 := by simp [Lit.wf, IntKind.min, IntKind.max, IntKind.signed, IntKind.bits] at ha; omega
  have hl' : ∀ x ∈ l, 0 ≤ x := fun x hx => by have h := hl x hx; simp [Lit.wf, IntKind.min, IntKind.max, IntKind.signed, IntKind.bits] at h; omega
  refine ⟨500, ?_⟩
  unfold emenderlaw28_CommonEscapes.f
  rw [Int.tmod_eq_emod_of_nonneg ha'.1]
  obtain ⟨c, hcd⟩ : ∃ c, c = (33 + a % 94) % 256 := ⟨_, rfl⟩
  rw [← hcd]
  have hc : 33 ≤ c ∧ c ≤ 126 := by omega
  clear hcd
  have fin : ∀ b, (b = false → ¬ (48 ≤ c ∧ c ≤ 57) ∧ ¬ (65 ≤ c ∧ c ≤ 90) ∧ ¬ (97 ≤ c ∧ c ≤ 122)) → emenderlaw28_CommonEscapes.j0 500 l c b = some true := fun b hb => esc_j0 l hl' c hc b (fun e => by
    obtain ⟨h1, h2, h3⟩ := hb e
    unfold sg
    rw [decide_eq_true hc.1, decide_eq_true hc.2]
    simp only [Bool.true_and, Bool.and_eq_true, Bool.not_eq_true', Bool.and_eq_false_iff, decide_eq_false_iff_not]
    omega)
  repeat' split
  all_goals (apply fin; first | (intro h; cases h; done) | (intro h; simp only [decide_eq_false_iff_not] at h; omega) | (intro _; omega))
end Go.Proofs.YtfnafjohfmlniaaDoor.Pure
