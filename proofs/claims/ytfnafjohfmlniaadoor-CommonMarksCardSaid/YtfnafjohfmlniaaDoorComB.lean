/- Lines of bytes below 80: their points, their parts where no run closes. -/
import Derived.Test.YtfnafjohfmlniaaDoorComT
import Derived.Test.YtfnafjohfmlniaaDoorPCbx0
import Derived.Test.YtfnafjohfmlniaaDoorPCbx11
import Derived.Test.YtfnafjohfmlniaaDoorPCbx12
import Derived.Test.YtfnafjohfmlniaaDoorPCbx14
import Derived.Test.YtfnafjohfmlniaaDoorPCbx2
import Derived.Test.YtfnafjohfmlniaaDoorPCbx4
import Derived.Test.YtfnafjohfmlniaaDoorPCbx6
import Derived.Test.YtfnafjohfmlniaaDoorPCbx7
namespace Go.Proofs.YtfnafjohfmlniaaDoor.ComB
open Go.RowKit Go.Proofs.YtfnafjohfmlniaaDoorW.PrintWords Go.Proofs.YtfnafjohfmlniaaDoorW.PrintMore
open Go.Proofs.YtfnafjohfmlniaaDoor Go.Proofs.YtfnafjohfmlniaaDoor.PCb Go.Proofs.YtfnafjohfmlniaaDoor.ComA Go.Proofs.YtfnafjohfmlniaaDoor.ComT
set_option linter.unusedSimpArgs false
set_option linter.unusedVariables false
def u8 (c : Int) : UInt8 := UInt8.ofNat c.toNat
/-- A line of these bytes. -/
def str (ps : List Int) : ByteArray := ⟨(ps.map u8).toArray⟩
def asc (c : Int) : Prop := 0 ≤ c ∧ c < 128 ∧ c ≠ 10
theorem str_size (ps : List Int) : (str ps).size = ps.length := by unfold str; simp [ByteArray.size]
theorem str_append (a b : List Int) : str a ++ str b = str (a ++ b) := by
  unfold str
  rw [List.map_append]
  apply ByteArray.ext
  simp
theorem get_str (pre : List Int) (c : Int) (post : List Int) (h : asc c) : ((str (pre ++ c :: post)).get! pre.length).toNat = c.toNat := by
  unfold str
  show ((((pre ++ c :: post).map u8).toArray)[pre.length]!).toNat = c.toNat
  rw [List.getElem!_toArray, List.getElem!_eq_getElem?_getD, List.getElem?_map, List.getElem?_append_right (Nat.le_refl _), Nat.sub_self]
  unfold asc at h
  show (UInt8.ofNat c.toNat).toNat = c.toNat
  rw [UInt8.toNat_ofNat']
  omega
theorem rune_str (pre : List Int) (c : Int) (post : List Int) (h : asc c) : rune (str (pre ++ c :: post)) pre.length = c ∧ width (str (pre ++ c :: post)) pre.length = 1 := by
  have hg := get_str pre c post h
  unfold asc at h
  unfold rune width
  rw [Lib.decode_at, hg]
  unfold Lib.decodeN
  rw [if_pos (by omega)]
  exact ⟨by show (c.toNat : Int) = c; omega, rfl⟩
def pts : List Int → Nat → List S79
  | [], _ => []
  | c :: r, i => ⟨c, (i : Int)⟩ :: pts r (i + 1)
theorem pts_len : ∀ (l : List Int) (i : Nat), (pts l i).length = l.length
  | [], _ => rfl
  | c :: r, i => by rw [pts, List.length_cons, pts_len r (i + 1), List.length_cons]
theorem pts_append : ∀ (a b : List Int) (i : Nat), pts (a ++ b) i = pts a i ++ pts b (i + a.length)
  | [], _, _ => rfl
  | c :: a, b, i => by
    show _ :: pts (a ++ b) (i + 1) = _ :: (pts a (i + 1) ++ pts b (i + (a.length + 1)))
    rw [pts_append a b (i + 1), show i + 1 + a.length = i + (a.length + 1) by omega]
theorem pts_mem : ∀ (l : List Int) (i : Nat) (x : S79), x ∈ pts l i → x.f0 ∈ l
  | [], _, _, h => by cases h
  | c :: r, i, x, h => by
    rcases List.mem_cons.1 h with rfl | h
    · exact List.mem_cons_self ..
    · exact List.mem_cons_of_mem _ (pts_mem r (i + 1) x h)
theorem scan_str : ∀ (ps pre : List Int) (f : Nat), (∀ c ∈ ps, asc c) → ps.length ≤ f → common_points.scan (str (pre ++ ps)) f pre.length = (none, pts ps pre.length)
  | [], pre, f, _, _ => by
    cases f with
    | zero => rfl
    | succ f => rw [common_points.scan, if_neg (by rw [str_size, List.append_nil]; omega)]; rfl
  | c :: ps, pre, f, h, hf => by
    cases f with
    | zero => simp at hf
    | succ f =>
      have hc := h c (List.mem_cons_self ..)
      obtain ⟨h1, h2⟩ := rune_str pre c ps hc
      have ih := scan_str ps (pre ++ [c]) f (fun x hx => h x (List.mem_cons_of_mem _ hx)) (by simpa using hf)
      rw [List.append_assoc, List.singleton_append, List.length_append, List.length_singleton] at ih
      unfold asc at hc
      rw [common_points.scan, if_pos (by rw [str_size, List.length_append, List.length_cons]; omega), h1, h2, if_neg (by omega), ih]
      rfl
theorem points_str (ps : List Int) (h : ∀ c ∈ ps, asc c) (hl : ps.length ≤ 4000) : common_points.f (str ps) = (pts ps 0, (ps.length : Int), 0) := by
  have hs := scan_str ps [] ps.length h (Nat.le_refl _)
  rw [List.nil_append] at hs
  unfold common_points.f
  rw [str_size, if_neg (by omega)]
  have e : common_points.scan (str ps) ps.length 0 = (none, pts ps 0) := hs
  rw [e]
  unfold common_points.res
  rw [str_size]
/-! ### No run closes -/
theorem match_id (o : List Prt) (h : ∀ x ∈ o, ∀ r, x.run = some r → r.f4 = false) : common_match.f o = o := by
  have one : ∀ j, common_match.one o j = o := by
    intro j
    unfold common_match.one
    split
    · rfl
    · rename_i r hr
      have : r.f4 = false := by
        by_cases hj : j.toNat < o.length
        · exact h _ (common_getD_mem o zPrt j.toNat hj) r hr
        · unfold prtAt at hr
          rw [List.getD_eq_getElem?_getD, List.getElem?_eq_none (by omega)] at hr
          cases hr
      rw [if_neg (by rw [this]; decide)]
  have key : ∀ (k : Nat) (j : Int), common_match.out k j o = o := by
    intro k
    induction k with
    | zero => intro j; rfl
    | succ k ih => intro j; rw [common_match.out, one, ih]
  exact key _ _
def calm (c : Int) : Prop := c ≠ 96 ∧ c ≠ 42 ∧ c ≠ 95 ∧ c ≠ 92
theorem rd_mid {p pre post : List S79} {x : S79} (hp : p = pre ++ x :: post) : rd_T79 p (pre.length : Int) = x := by
  subst hp
  unfold rd_T79
  rw [List.getD_eq_getElem?_getD, Int.toNat_natCast, List.getElem?_append_right (Nat.le_refl _), Nat.sub_self]
  rfl
theorem plain_mid {p pre post : List S79} {x : S79} (hp : p = pre ++ x :: post) (m : Int) : common_plain.f p (pre.length : Int) ((pre.length : Int) + 1) m = [common_plain.one m x] := by
  subst hp
  unfold common_plain.f common_cut
  rw [show ((pre.length : Int) + 1).toNat = pre.length + 1 by omega, Int.toNat_natCast, List.take_append, List.drop_append_of_le_length (by rw [List.length_take]; omega), List.take_of_length_le (by omega), List.drop_length, Nat.add_sub_cancel_left]
  rfl
theorem len_mid {p pre post : List S79} {x : S79} (hp : p = pre ++ x :: post) : (pre.length : Int) < (p.length : Int) := by
  subst hp
  rw [List.length_append, List.length_cons]
  omega
theorem go_calm {p pre post : List S79} {x : S79} (hp : p = pre ++ x :: post) (hx : calm x.f0) (f : Nat) : common_split.go p (f + 1) (pre.length : Int) = common_plain.one 0 x :: common_split.go p f ((pre.length : Int) + 1) := by
  obtain ⟨h1, h2, h3, h4⟩ := hx
  rw [common_split.go, if_pos (len_mid hp), rd_mid hp, if_neg h1, if_neg (by omega), if_neg (by omega), plain_mid hp]
  rfl
theorem go_calms : ∀ (w pre post p : List S79), p = pre ++ (w ++ post) → (∀ x ∈ w, calm x.f0) → ∀ f, common_split.go p (f + w.length) (pre.length : Int) = w.map (common_plain.one 0) ++ common_split.go p f (((pre.length + w.length : Nat)) : Int)
  | [], pre, post, p, _, _, f => rfl
  | x :: w, pre, post, p, hp, h, f => by
    have hp1 : p = pre ++ x :: (w ++ post) := hp
    have ih := go_calms w (pre ++ [x]) post p (by rw [hp, List.append_assoc]; rfl) (fun y hy => h y (List.mem_cons_of_mem _ hy)) f
    rw [List.length_append, List.length_singleton] at ih
    rw [show f + (x :: w).length = f + w.length + 1 from rfl, go_calm hp1 (h x (List.mem_cons_self ..)), show (pre.length : Int) + 1 = ((pre.length + 1 : Nat) : Int) by omega, ih, show pre.length + 1 + w.length = pre.length + (x :: w).length by rw [List.length_cons]; omega]
    rfl
theorem go_end (p : List S79) (f : Nat) : common_split.go p f (p.length : Int) = [] := by
  cases f with
  | zero => rfl
  | succ f => rw [common_split.go, if_neg (by omega)]
theorem go_esc {p pre post : List S79} {b x : S79} (hp : p = pre ++ b :: x :: post) (hb : b.f0 = 92) (hx : sg x.f0 = true) (f : Nat) : common_split.go p (f + 1) (pre.length : Int) = common_plain.one 0 x :: common_split.go p f ((pre.length : Int) + 1 + 1) := by
  have hp2 : p = (pre ++ [b]) ++ x :: post := by rw [hp, List.append_assoc]; rfl
  have e1 := rd_mid hp2
  have e2 := plain_mid hp2 0
  have e3 := len_mid hp2
  rw [List.length_append, List.length_singleton, show ((pre.length + 1 : Nat) : Int) = (pre.length : Int) + 1 by omega] at e1 e2 e3
  have ha : common_at.f p ((pre.length : Int) + 1) = x.f0 := by unfold common_at.f; rw [if_neg (by omega), if_neg (by omega), e1]
  rw [common_split.go, if_pos (by omega), rd_mid hp, hb, if_neg (by decide), if_neg (by decide), ha, if_pos ⟨rfl, hx⟩, e2]
  rfl
/-! ### Tokens without marks -/
def tk (cs : List Int) : List S43 := cs.map fun c => ⟨0, 0, c, 0⟩
theorem toks_plain (m : Int) : ∀ w : List S79, (w.map (common_plain.one m)).flatMap common_Parse.toks = w.map fun x => (⟨0, 0, x.f0, m⟩ : S43)
  | [] => rfl
  | x :: w => by
    rw [List.map_cons, List.flatMap_cons, toks_plain m w]
    rfl
theorem pts_f0 : ∀ (l : List Int) (i : Nat), (pts l i).map (fun x => x.f0) = l
  | [], _ => rfl
  | c :: r, i => by rw [pts, List.map_cons, pts_f0 r (i + 1)]
theorem asc_okc {c : Int} (h : asc c) : okc c ∧ c ≠ 10 := by unfold asc at h; unfold okc; omega
theorem one_asc {c m : Int} (h : asc c) (hm : 0 ≤ m ∧ m ≤ 4) : flat_Text.one ⟨0, 0, c, m⟩ = [u8 c] := by
  have hr := right_tok (t := (⟨0, 0, c, m⟩ : S43)) ⟨rfl, rfl, (asc_okc h).1, (asc_okc h).2, hm.1, hm.2⟩
  unfold flat_Text.one
  rw [if_pos rfl, if_pos hr]
  unfold asc at h
  show Lib.encodeRune c = _
  unfold Lib.encodeRune
  rw [Lib.encodeRuneZ_one (by omega) (by omega)]
  rfl
theorem txt_asc (m : Int) (hm : 0 ≤ m ∧ m ≤ 4) : ∀ cs : List Int, (∀ c ∈ cs, asc c) → flat_Text.txt (cs.map fun c => (⟨0, 0, c, m⟩ : S43)) = cs.map u8
  | [], _ => rfl
  | c :: cs, h => by
    show flat_Text.one ⟨0, 0, c, m⟩ ++ flat_Text.txt (cs.map fun c => (⟨0, 0, c, m⟩ : S43)) = _
    rw [one_asc (h c (List.mem_cons_self ..)) hm, txt_asc m hm cs (fun x hx => h x (List.mem_cons_of_mem _ hx))]
    rfl
theorem text_asc (m : Int) (hm : 0 ≤ m ∧ m ≤ 4) (cs : List Int) (h : ∀ c ∈ cs, asc c) (hl : cs.length ≤ 4000) : flat_Text.f (cs.map fun c => (⟨0, 0, c, m⟩ : S43)) = some (str cs) := by
  rw [text_f _ (by rw [List.length_map]; omega), txt_asc m hm cs h]
  rfl
theorem strOf (cs : List Int) (h : ∀ c ∈ cs, 0 ≤ c ∧ c < 256) : strOfNums cs = str cs := by
  unfold str
  first | rfl | (unfold strOfNums; rfl) | simp [strOfNums, u8]

end Go.Proofs.YtfnafjohfmlniaaDoor.ComB
