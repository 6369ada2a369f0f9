/- InlinePlain: letters and blanks are read as they are, without marks, and written so. -/
import Derived.Test.YtebbngeamnpgjaaDoorGInlinePlain
import Derived.Test.YtebbngeamnpgjaaDoorInlG
import Derived.Test.YtebbngeamnpgjaaDoorInlD
import Derived.Test.YtebbngeamnpgjaaDoorPIax0
import Derived.Test.YtebbngeamnpgjaaDoorPIax10
import Derived.Test.YtebbngeamnpgjaaDoorPIax13
import Derived.Test.YtebbngeamnpgjaaDoorPIax14
import Derived.Test.YtebbngeamnpgjaaDoorPIax3
import Derived.Test.YtebbngeamnpgjaaDoorPIax8
import Derived.Test.YtebbngeamnpgjaaDoorPIax9
namespace Go.Proofs.YtebbngeamnpgjaaDoor.Pure
open Go.RowKit Go.Proofs.YtebbngeamnpgjaaDoorW.PrintWords Go.Proofs.YtebbngeamnpgjaaDoorW.PrintMore
open Go.Proofs.YtebbngeamnpgjaaDoor Go.Proofs.YtebbngeamnpgjaaDoor.PIa Go.Proofs.YtebbngeamnpgjaaDoor.FlatA Go.Proofs.YtebbngeamnpgjaaDoor.InlA Go.Proofs.YtebbngeamnpgjaaDoor.InlB Go.Proofs.YtebbngeamnpgjaaDoor.InlC Go.Proofs.YtebbngeamnpgjaaDoor.InlD Go.Proofs.YtebbngeamnpgjaaDoor.InlG
set_option linter.unusedSimpArgs false
set_option linter.unusedVariables false
/-- A letter or a blank. -/
def plain (c : Int) : Prop := c = 32 ∨ (97 ≤ c ∧ c ≤ 122)
def toks (ps : List Int) : List S36 := ps.map fun c => ⟨0, 0, c, 0⟩
theorem plain_run : ∀ (ps : List Int), (∀ c ∈ ps, plain c) → inline_Parse.run ps 0 0 = toks ps
  | [], _ => run_nil _ _
  | c :: ps, h => by
    have hc := h c (List.mem_cons_self ..)
    unfold plain at hc
    rw [run_plain c ps 0 0 (by omega), plain_run ps (fun x hx => h x (List.mem_cons_of_mem _ hx))]
    rfl
theorem plain_ok {c : Int} (h : plain c) : okc c ∧ c ≠ 10 := by unfold plain at h; unfold okc; omega
theorem plain_right {c : Int} (h : plain c) : right 0 0 c 0 = true := by
  have hc := (plain_ok h).1
  unfold right flat_Right.f
  rw [if_pos rfl, if_pos rfl, if_pos (show c ≥ 0 from hc.1), if_pos hc.2.1, if_neg (by have := hc.2.2; omega)]
  rfl
theorem plain_good {c : Int} (h : plain c) : good ⟨0, 0, c, 0⟩ = true := by
  unfold good
  dsimp only
  rw [plain_right h, show (c != 10) = true from bne_iff_ne.2 (plain_ok h).2]
  rfl
theorem plain_go : ∀ (ps : List Int), (∀ c ∈ ps, plain c) → inline_Line.go (toks ps) 0 0 = encs ps
  | [], _ => rfl
  | c :: ps, h => by
    have hc := h c (List.mem_cons_self ..)
    have ih := plain_go ps (fun x hx => h x (List.mem_cons_of_mem _ hx))
    show inline_turn.out 0 0 0 ++ (inline_Line.esc c ++ (Lib.encodeRune c ++ inline_Line.go (toks ps) 0 (inline_turn.old 0 0 0))) = Lib.encodeRune c ++ encs ps
    have e1 : inline_turn.out 0 0 0 = [] := rfl
    have e2 : inline_turn.old 0 0 0 = 0 := rfl
    have e3 : inline_Line.esc c = [] := by unfold inline_Line.esc; unfold plain at hc; rw [if_neg (by omega)]
    rw [e1, e2, e3, ih]
    rfl
theorem plain_enc {c : Int} (h : plain c) : Lib.encodeRune c = [UInt8.ofNat c.toNat] := by
  unfold plain at h
  unfold Lib.encodeRune
  rw [Lib.encodeRuneZ_one (by omega) (by omega)]
  rfl
theorem encs_plain : ∀ (ps : List Int), (∀ c ∈ ps, plain c) → encs ps = ps.map fun c => UInt8.ofNat c.toNat
  | [], _ => rfl
  | c :: ps, h => by
    show Lib.encodeRune c ++ encs ps = _
    rw [plain_enc (h c (List.mem_cons_self ..)), encs_plain ps (fun x hx => h x (List.mem_cons_of_mem _ hx))]
    rfl
theorem plain_txt : ∀ (ps : List Int), (∀ c ∈ ps, plain c) → flat_Text.txt (toks ps) = encs ps
  | [], _ => rfl
  | c :: ps, h => by
    have ih := plain_txt ps (fun x hx => h x (List.mem_cons_of_mem _ hx))
    show flat_Text.one ⟨0, 0, c, 0⟩ ++ flat_Text.txt (toks ps) = Lib.encodeRune c ++ encs ps
    unfold flat_Text.one
    rw [if_pos rfl, if_pos (by rw [flat_right]; exact congrArg some (plain_right (h c (List.mem_cons_self ..)))), ih]
def str (ps : List Int) : ByteArray := ⟨(encs ps).toArray⟩
theorem str_size' (ps : List Int) (h : ∀ c ∈ ps, plain c) : (str ps).size = ps.length := by
  unfold str
  rw [encs_plain ps h]
  simp [ByteArray.size]
theorem str_at (ps : List Int) (h : ∀ c ∈ ps, plain c) (i : Nat) (hi : i < ps.length) : wrap64 (bt (str ps) (i : Int)) = ps[i] := by
  rw [bt_by _ _ (by rw [str_size' ps h]; exact hi)]
  unfold by_ str
  rw [encs_plain ps h, get_list, List.getD_eq_getElem?_getD, List.getElem?_map, List.getElem?_eq_getElem hi]
  have hc := h ps[i] (List.getElem_mem hi)
  unfold plain at hc
  simp only [Option.map_some, Option.getD_some, UInt8.toNat_ofNat']
  rw [InlC.w64' (by omega)]
  omega
theorem toks_at (ps : List Int) (i : Nat) (hi : i < ps.length) : rd_T36 (toks ps) (i : Int) = ⟨0, 0, ps[i], 0⟩ := by
  rw [rd31 (toks ps) i (by unfold toks; rw [List.length_map]; exact hi)]
  unfold toks
  rw [List.getElem_map]
theorem plain_l1 (ps : List Int) (h : ∀ c ∈ ps, plain c) (hl : ps.length ≤ 300) : ∀ (d k i : Nat), ps.length - i ≤ d → d + 3 ≤ k → emenderlaw14_InlinePlain.l1 k (str ps) (toks ps) i = some true
  | d, 0, i, _, hk => by omega
  | d, k + 1, i, hd, hk => by
    have e : (toks ps).length = ps.length := by unfold toks; rw [List.length_map]
    simp only [emenderlaw14_InlinePlain.l1]
    by_cases hi : i < ps.length
    · rw [if_pos (by omega), if_pos (by omega), toks_at ps i hi, if_pos rfl, if_pos rfl, if_pos (by rw [str_size' ps h]; omega), str_at ps h i hi, if_pos rfl, show wrap64 ((i : Int) + 1) = ((i + 1 : Nat) : Int) by rw [InlC.w64' (by omega)]; omega]
      cases d with
      | zero => omega
      | succ d => exact plain_l1 ps h hl d k (i + 1) (by omega) (by omega)
    · rw [if_neg (by omega)]
      unfold flat_Text.f
      rw [if_pos (by omega), plain_txt ps h, Option.bind_some, if_pos (show (⟨(InlD.encs ps).toArray⟩ : ByteArray).toList = (str ps).toList from rfl), awake14 _ (by omega)]
      rfl
theorem plain_end (ps : List Int) (h : ∀ c ∈ ps, plain c) (hl : ps.length ≤ 300) (k : Nat) (hk : 400 ≤ k) (x0 : List Int) (i : Int) : emenderlaw14_InlinePlain.j1 (k + 2) x0 (str ps) i false = some true := by
  have e : (toks ps).length = ps.length := by unfold toks; rw [List.length_map]
  have el : (encs ps).length = ps.length := by rw [encs_plain ps h, List.length_map]
  have hg : (toks ps).all good = true := List.all_eq_true.2 fun t ht => by
    unfold toks at ht
    obtain ⟨c, hc, rfl⟩ := List.mem_map.1 ht
    exact plain_good (h c hc)
  have hr : reads (str ps) = (toks ps, ((str ps).size : Int), 0) := by
    have := reads_enc ps (fun c hc => plain_ok (h c hc)) (by omega)
    rw [plain_run ps h] at this
    refine this.trans ?_
    rw [str_size' ps h, el]
  have hp : prints (toks ps) = (str ps, 0) := by
    unfold prints
    rw [if_pos hg]
    unfold lineOf str
    rw [plain_go ps h]
  simp only [emenderlaw14_InlinePlain.j1]
  rw [if_neg (by decide), our_parse, Option.bind_some, hr]
  dsimp only
  rw [our_print _ (by omega) _ (by omega), Option.bind_some, hp]
  dsimp only
  rw [if_pos rfl, if_pos rfl, if_pos rfl, if_pos (by rw [e, str_size' ps h]), show ((str ps).toList != (str ps).toList) = false from bne_self_eq_false _]
  simp only [emenderlaw14_InlinePlain.j2]
  rw [if_neg (by decide)]
  exact plain_l1 ps h hl ps.length k 0 (by omega) (by omega)
theorem str_snoc (ps : List Int) (h : ∀ c ∈ ps, plain c) (c : Int) (hc : plain c) : str ps ++ strOfNums [c] = str (ps ++ [c]) := by
  unfold str
  rw [InlD.encs_append]
  have : strOfNums [c] = ⟨(encs [c]).toArray⟩ := by
    show _ = (⟨(Lib.encodeRune c ++ []).toArray⟩ : ByteArray)
    rw [plain_enc hc]
    rfl
  rw [this]
  exact str_append _ _
theorem plain_loop (x : List Int) (hx : ∀ y ∈ x, 0 ≤ y ∧ y ≤ 255) : ∀ (d k i : Nat) (ps : List Int), (200 - i) ≤ d → 2 * d + 404 ≤ k → ps.length = i → i ≤ 200 → (∀ c ∈ ps, plain c) → emenderlaw14_InlinePlain.l0 k x (str ps) i = some true
  | d, 0, i, ps, _, hk, _, _, _ => by omega
  | d, k + 1, i, ps, hd, hk, hp, hi, h => by
    obtain ⟨k, rfl⟩ : ∃ m, k = m + 2 := ⟨k - 2, by omega⟩
    simp only [emenderlaw14_InlinePlain.l0]
    by_cases h1 : i < x.length
    · rw [if_pos (by omega)]
      by_cases h2 : i < 200
      · rw [decide_eq_true (by omega : (i : Int) < 200)]
        cases d with
        | zero => omega
        | succ d =>
        have ss := str_size' ps h
        have e1 : wrap64 ((i : Int) + 1) = ((i + 1 : Nat) : Int) := by rw [InlC.w64' (by omega)]; omega
        have hr := hx _ (List.getElem_mem h1)
        have sz : ∀ c, (strOfNums [c]).size = 1 := fun c => rfl
        have go : ∀ c, plain c → (if (str ps).size + (strOfNums [c]).size ≤ 9223372036854775807 then emenderlaw14_InlinePlain.l0 (k + 1) x (str ps ++ strOfNums [c]) (wrap64 ((i : Int) + 1)) else none) = some true := by
          intro c hc
          rw [sz, if_pos (by omega), str_snoc ps h c hc, e1]
          exact plain_loop x hx d (k + 1) (i + 1) (ps ++ [c]) (by omega) (by omega) (by simp [hp]) (by omega) (fun y hy => by
            rcases List.mem_append.1 hy with hy | hy
            · exact h y hy
            · rw [List.mem_singleton.1 hy]; exact hc)
        rw [emenderlaw14_InlinePlain.j1, if_pos rfl, if_pos (by omega), if_pos (by omega), rd_at x i h1]
        by_cases h3 : x[i] ≥ 200
        · rw [if_pos h3, Option.bind_some]
          exact go 32 (Or.inl rfl)
        · rw [if_neg h3, Option.bind_some]
          refine go _ (Or.inr ?_)
          have : Int.tmod x[i] 26 = x[i] % 26 := Int.tmod_eq_emod_of_nonneg hr.1
          rw [this]
          omega
      · rw [decide_eq_false (by omega : ¬ (i : Int) < 200)]
        exact plain_end ps h (by omega) k (by omega) _ _
    · rw [if_neg (by omega)]
      exact plain_end ps h (by omega) k (by omega) _ _
theorem InlinePlain : emenderlaw14_InlinePlain.PureG := by
  intro l _ hw
  refine ⟨900, ?_⟩
  unfold emenderlaw14_InlinePlain.f
  exact plain_loop l (fun y hy => by
    have := hw y hy
    simp [Lit.wf, IntKind.min, IntKind.max, IntKind.signed, IntKind.bits] at this
    omega) 200 900 0 [] (by omega) (by omega) rfl (by omega) (by simp)
end Go.Proofs.YtebbngeamnpgjaaDoor.Pure
