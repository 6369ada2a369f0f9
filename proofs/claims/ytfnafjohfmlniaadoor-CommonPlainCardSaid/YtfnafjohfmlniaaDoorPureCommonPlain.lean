/- CommonPlain: a line of letters, blanks and low lines between letters is read as it stands, without a mark. -/
import Derived.Test.YtfnafjohfmlniaaDoorGCommonPlain
import Derived.Test.YtfnafjohfmlniaaDoorComC
import Derived.Test.YtfnafjohfmlniaaDoorPCbx0
import Derived.Test.YtfnafjohfmlniaaDoorPCbx15
namespace Go.Proofs.YtfnafjohfmlniaaDoor.Pure
open Go.RowKit Go.Proofs.YtfnafjohfmlniaaDoorW.PrintWords Go.Proofs.YtfnafjohfmlniaaDoorW.PrintMore
open Go.Proofs.YtfnafjohfmlniaaDoor Go.Proofs.YtfnafjohfmlniaaDoor.PCb Go.Proofs.YtfnafjohfmlniaaDoor.ComA Go.Proofs.YtfnafjohfmlniaaDoor.ComT Go.Proofs.YtfnafjohfmlniaaDoor.ComB Go.Proofs.YtfnafjohfmlniaaDoor.ComC
set_option linter.unusedSimpArgs false
set_option linter.unusedVariables false
theorem bt_last (q : List Int) (x : Int) (hx : asc x) (hl : q.length ≤ 4000) : bt (str (q ++ [x])) (wrap64 (((str (q ++ [x])).size : Int) - 1)) = x ∧ wrap64 (((str (q ++ [x])).size : Int) - 1) = (q.length : Int) := by
  have e : wrap64 (((str (q ++ [x])).size : Int) - 1) = (q.length : Int) := by rw [str_size, List.length_append, List.length_singleton]; unfold wrap64; omega
  refine ⟨?_, e⟩
  have hg := get_str q x [] hx
  have hs : q.length < (str (q ++ [x])).size := by rw [str_size, List.length_append, List.length_singleton]; omega
  have h1 : (q.length : Int).toNat = q.length := Int.toNat_natCast _
  rw [e]
  unfold bt
  rw [dif_pos (by rw [h1]; exact hs)]
  unfold asc at hx
  have e2 : ((str (q ++ [x]))[(q.length : Int).toNat]'(by rw [h1]; exact hs)).toNat = ((str (q ++ [x])).get! q.length).toNat := by
    simp only [h1]
    congr 1
    exact (getElem!_pos (str (q ++ [x])).data q.length hs).symm
  rw [e2, hg]
  omega
theorem plain_l1 (cs : List Int) (hl : cs.length ≤ 4000) : ∀ (d k : Nat) (i : Int), 0 ≤ i → i + d = cs.length → d < k → emenderlaw28_CommonPlain.l1 k (tk cs) i = some true
  | d, 0, _, _, _, h => by omega
  | 0, k + 1, i, h0, hi, _ => by
    simp only [emenderlaw28_CommonPlain.l1]
    rw [if_neg (by unfold tk; rw [List.length_map]; omega), awake28]
    rfl
  | d + 1, k + 1, i, h0, hi, hk => by
    have e : (rd_T43 (tk cs) i).f3 = 0 := by
      unfold rd_T43 tk
      rw [List.getD_eq_getElem?_getD, List.getElem?_map]
      cases cs[i.toNat]? <;> rfl
    simp only [emenderlaw28_CommonPlain.l1]
    rw [if_pos (by unfold tk; rw [List.length_map]; omega), if_pos h0, if_pos e, show wrap64 (i + 1) = i + 1 from by (unfold wrap64; omega)]
    exact plain_l1 cs hl d k (i + 1) (by omega) (by omega) (by omega)
theorem plain_end (l : List Int) (w : List Int) (i : Int) (k : Nat) (hg : good false w = true) (hl : w.length ≤ 1000) (hk : 1100 ≤ k) : emenderlaw28_CommonPlain.j1 k l (str w) i false = some true := by
  obtain ⟨k, rfl⟩ : ∃ m, k = m + 2 := ⟨k - 2, by omega⟩
  rw [show k + 2 = k + 1 + 1 from rfl, emenderlaw28_CommonPlain.j1, if_neg (by decide), good_parse w hg (by omega), Option.bind_some]
  dsimp only
  have hx := text_asc 0 (by omega) w (good_asc _ _ hg) (by omega)
  rw [if_pos rfl, if_pos rfl, show tk w = w.map (fun c => (⟨0, 0, c, 0⟩ : S43)) from rfl, hx, Option.bind_some, show ((str w).toList != (str w).toList) = false from by simp, emenderlaw28_CommonPlain.j2, if_neg (by decide)]
  exact plain_l1 w (by omega) w.length k 0 (by omega) (by omega) (by omega)
def pletter (v : Int) : Int := (97 + Int.tmod v 26) % 256
theorem pletter_le (v : Int) (h : 0 ≤ v) : ltr (pletter v) = true := by
  rw [ltr_iff]
  unfold pletter
  rw [Int.tmod_eq_emod_of_nonneg h]
  omega
set_option maxHeartbeats 800000 in
theorem plain_l0 (l : List Int) (hl : ∀ x ∈ l, 0 ≤ x) : ∀ (d k : Nat) (i : Nat) (q : List Int) (x : Int), good false (q ++ [x]) = true → (x = 32 ∨ ltr x = true) → q.length ≤ 2 * i → i ≤ l.length → i ≤ 300 → 301 ≤ i + d → 2 * d + 1200 ≤ k → emenderlaw28_CommonPlain.l0 k l (str (q ++ [x])) (i : Int) = some true
  | 0, k, i, q, x, _, _, _, _, _, h, _ => by omega
  | d + 1, k, i, q, x, hg, hx, hq, hi, h3, hd, hk => by
    obtain ⟨k, rfl⟩ : ∃ m, k = m + 2 := ⟨k - 2, by omega⟩
    have hend := fun kk (h : 1100 ≤ kk) => plain_end l (q ++ [x]) (i : Int) kk hg (by simp; omega) h
    have hax : asc x := good_asc _ _ hg x (by simp)
    rw [show k + 2 = k + 1 + 1 from rfl, emenderlaw28_CommonPlain.l0]
    by_cases h1 : i < l.length
    · rw [if_pos (by omega)]
      by_cases h2 : i < 300
      · rw [decide_eq_true (show (i : Int) < 300 by omega), emenderlaw28_CommonPlain.j1, if_pos rfl, if_pos (by omega), if_pos (by omega)]
        obtain ⟨b1, b2⟩ := bt_last q x hax (by omega)
        have hq0 : (q.length : Int) < ((q.length + 1 : Nat) : Int) := by omega
        have hq1 : q.length + 1 + 1 ≤ 9223372036854775807 := by omega
        have hq2 : q.length + 1 + 1 + 1 ≤ 9223372036854775807 := by omega
        have hm1 : (q ++ [x]).length ≤ 2 * (i + 1) := by rw [List.length_append, List.length_singleton]; omega
        have hm6 : (q ++ [x] ++ [95]).length ≤ 2 * (i + 1) := by rw [List.length_append, List.length_append, List.length_singleton, List.length_singleton]; omega
        have hm2 : i + 1 ≤ l.length := by omega
        have hm3 : i + 1 ≤ 300 := by omega
        have hm4 : 301 ≤ i + 1 + d := by omega
        have hm5 : 2 * d + 1200 ≤ k := by omega
        have hi0 : (0 : Int) ≤ (i : Int) := by omega
        have hil : (i : Int) < (l.length : Int) := by omega
        have hw : wrap64 ((i : Int) + 1) = ((i + 1 : Nat) : Int) := by unfold wrap64; omega
        have a1 : ∀ c : Int, (c = 32 ∨ ltr c = true) → 0 ≤ c ∧ c < 256 ∧ c ≠ 95 := fun c hc => by
          rcases hc with h | h
          · omega
          · rw [ltr_iff] at h
            omega
        have c1 : ∀ c : Int, 0 ≤ c → c < 256 → strOfNums [c] = str [c] := fun c h h' => strOf _ (fun y hy => by rw [List.mem_singleton.1 hy]; exact ⟨h, h'⟩)
        have s1 : (str (q ++ [x])).size = q.length + 1 := by rw [str_size, List.length_append]; rfl
        have s2 : ∀ c : Int, (str [c]).size = 1 := fun c => str_size [c]
        have s3 : (str (q ++ [x] ++ [95])).size = q.length + 1 + 1 := by rw [str_size, List.length_append, List.length_append]; rfl
        have e : rd l (i : Int) = l[i] := by simp [rd, List.getD_eq_getElem?_getD, List.getElem?_eq_getElem h1]
        have hv := pletter_le _ (hl _ (List.getElem_mem h1))
        have hp : ∀ v : Int, (97 + Int.tmod v 26) % 256 = pletter v := fun _ => rfl
        rw [b1, b2, e, if_pos (show (0 : Int) ≤ (q.length : Int) by omega), if_pos (show (q.length : Int) < ((str (q ++ [x])).size : Int) from s1.symm ▸ hq0), hp]
        have hsz : ∀ c : Int, (str (q ++ [x])).size + (str [c]).size ≤ 9223372036854775807 := fun c => Nat.le_trans (Nat.add_le_add (Nat.le_of_eq s1) (Nat.le_of_eq (s2 c))) hq1
        have go1 : ∀ c : Int, (c = 32 ∨ ltr c = true) → emenderlaw28_CommonPlain.l0 k l (str ((q ++ [x]) ++ [c])) ((i + 1 : Nat) : Int) = some true := fun c hc => by
          refine plain_l0 l hl d k (i + 1) (q ++ [x]) c (good_app _ _ _ hg ?_) hc hm1 hm2 hm3 hm4 hm5
          unfold good
          rw [if_neg (a1 c hc).2.2]
          unfold good
          rw [Bool.and_true, Bool.or_eq_true, decide_eq_true_iff]
          exact hc.symm
        have A : ∀ c : Int, (c = 32 ∨ ltr c = true) → ((some (([c] : List Int) : List Int)).bind fun y => (if (str (q ++ [x])).size + (strOfNums y).size ≤ 9223372036854775807 then (emenderlaw28_CommonPlain.l0 k l (str (q ++ [x]) ++ (strOfNums y)) (wrap64 ((i : Int) + 1))) else (none))) = some true := fun c hc => by
          rw [Option.bind_some, c1 c (a1 c hc).1 (a1 c hc).2.1, if_pos (hsz c), str_append, hw]
          exact go1 c hc
        have Bz : ¬ x = 32 → (if (str (q ++ [x])).size + 1 ≤ 9223372036854775807 then ((some (([122] : List Int) : List Int)).bind fun y => (if (str (q ++ [x]) ++ (⟨#[95]⟩ : ByteArray)).size + (strOfNums y).size ≤ 9223372036854775807 then (emenderlaw28_CommonPlain.l0 k l ((str (q ++ [x]) ++ (⟨#[95]⟩ : ByteArray)) ++ (strOfNums y)) (wrap64 ((i : Int) + 1))) else (none))) else (none)) = some true := fun h32 => by
          have hlx : ltr x = true := hx.resolve_left h32
          rw [if_pos (Nat.le_trans (Nat.add_le_add_right (Nat.le_of_eq s1) 1) hq1), Option.bind_some, c1 122 (by decide) (by decide), show (⟨#[95]⟩ : ByteArray) = str [95] from rfl, str_append, if_pos (Nat.le_trans (Nat.add_le_add (Nat.le_of_eq s3) (Nat.le_of_eq (s2 122))) hq2), str_append, hw]
          refine plain_l0 l hl d k (i + 1) (q ++ [x] ++ [95]) 122 ?_ (.inr rfl) hm6 hm2 hm3 hm4 hm5
          rw [List.append_assoc (q ++ [x])]
          refine good_app _ _ _ hg ?_
          rw [endl_last, hlx]
          decide
        by_cases h210 : l[i] ≥ 210
        · rw [if_pos h210]
          by_cases h230 : l[i] ≥ 230
          · rw [if_pos h230]
            by_cases h32 : x = 32
            · rw [if_pos h32]
              exact A 32 (.inl rfl)
            · rw [if_neg h32]
              exact Bz h32
          · rw [if_neg h230]
            exact A 32 (.inl rfl)
        · rw [if_neg h210, if_neg (show ¬ l[i] ≥ 230 by omega)]
          exact A (pletter l[i]) (.inr hv)
      · rw [decide_eq_false (by omega)]
        exact hend (k + 1) (by omega)
    · rw [if_neg (by omega)]
      exact hend (k + 1) (by omega)
theorem CommonPlain : emenderlaw28_CommonPlain.PureG := by
  intro l _ hl
  have hl' : ∀ x ∈ l, 0 ≤ x := fun x hx => by have h := hl x hx; simp [Lit.wf, IntKind.min, IntKind.max, IntKind.signed, IntKind.bits] at h; omega
  refine ⟨5000, ?_⟩
  unfold emenderlaw28_CommonPlain.f
  exact plain_l0 l hl' 301 5000 0 [] 97 (by decide) (.inr (by decide)) (by simp) (Nat.zero_le _) (by omega) (by omega) (by omega)
end Go.Proofs.YtfnafjohfmlniaaDoor.Pure
