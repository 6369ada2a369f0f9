-- Written for this claim by a program (the kit's print, with hand-made contracts for what it does not take).
import Derived.Test.YtcoolajjjnkfpaaPPdx0
import Derived.Test.YtcoolajjjnkfpaaPPdx5
import Derived.Test.YtcoolajjjnkfpaaPPdx7
import Derived.Test.YtcoolajjjnkfpaaPPdx10
import Derived.Test.YtcoolajjjnkfpaaPPdx12
import Derived.Test.YtcoolajjjnkfpaaPPdx13
import Derived.Test.YtcoolajjjnkfpaaPPdx14
namespace Go.Proofs.Ytcoolajjjnkfpaa.PPd
open Go.RowKit Go.Proofs.YtcoolajjjnkfpaaW.PrintWords Go.Proofs.YtcoolajjjnkfpaaW.PrintLast Go.Proofs.YtcoolajjjnkfpaaW.PrintMore
attribute [local go_sem] max2_int min2_int max_two min_two max_three min_three max_four min_four   -- for this text's walks alone
set_option linter.unusedVariables false
set_option linter.unusedSimpArgs false

/-! ### emenderref08_Mapping_Map: function 29 -/
/-! ### The document's mapping: its rows are the caller's -/
def kArg (w0 : World) : Kd (List S37) where
  sz := 1
  E := []
  K := fun _ xs cs => ∃ A c, cs = [.slice A xs.length c] ∧ xs.length ≤ c ∧ k37.C w0 A xs.length xs
  M := fun _ _ _ xs cs => ∃ A c, cs = [.slice A xs.length c] ∧ xs.length ≤ c ∧ k37.C w0 A xs.length xs
  K_len := by
    rintro w x cs ⟨A, c, rfl, _⟩
    rfl
  K_one := by
    rintro w x cs ⟨A, c, rfl, _⟩ u hu
    rw [List.mem_singleton.1 hu]
    rfl
  K_below := fun _ h => h
  K_of_M := fun h => h
  M_mono := fun _ h => h
  M_bound := fun h => h
  M_move := fun _ h => h
  M_lower := fun _ h => h
def kLaid (w0 : World) : Kd MapOne := Kd.iso (Kd.pair (kArg w0) (Kd.int .i64)) (fun x : MapOne => (x.m, x.mirror))
theorem info78 : (Try.prog.info? 78).map (fun i => (i.zero, i.size, i.bytes)) = some (some (.agg #[.slice none 0 0, .int .i64 0]), 2, 32) := by kernel_rfl
theorem kLaid_mkM (w0 w : World) (base : Nat) (ok : Nat → Prop) (x : MapOne) {A : Option Addr} {c : Nat} (hl : x.m.length ≤ c) (g : k37.C w0 A x.m.length x.m) : (kLaid w0).M w base ok x [.slice A x.m.length c, .int .i64 x.mirror] :=
  ⟨[.slice A x.m.length c], [.int .i64 x.mirror], rfl, ⟨A, c, rfl, hl, g⟩, rfl⟩
theorem kLaid_open {w0 w : World} {x : MapOne} {cs : List Value} (h : (kLaid w0).K w x cs) : ∃ A c, cs = [.slice A x.m.length c, .int .i64 x.mirror] ∧ x.m.length ≤ c ∧ k37.C w0 A x.m.length x.m := by
  obtain ⟨_, _, rfl, ⟨A, c, rfl, l1, g1⟩, rfl⟩ := h
  exact ⟨A, c, rfl, l1, g1⟩
structure ref_M (w0 : World) (B b : Nat) (l : List MapOne) (W : World) : Prop where
  ex : ∃ v, W.heap[b]? = some (.cells #[v] 64 (0, 0)) ∧ Kd.R (kLaid w0) 78 W B (fun _ => True) v l
  base : B ≤ b
theorem ref_M.below {w0 : World} {B b : Nat} {l : List MapOne} {W W1 : World} (h : ref_M w0 B b l W) (hb : Below W.heap.size W W1) : ref_M w0 B b l W1 := by
  obtain ⟨⟨v, h1, h2⟩, h3⟩ := h
  exact ⟨⟨v, blk_below h1 hb, Kd.R_below h2 hb⟩, h3⟩
/-- Blocks that are neither the document's mapping nor its rows stay. -/
def ref_Keep (w w' : World) : Prop := ∀ (g : Nat) (cs : Array Value) (t : TypeId), t ≠ 78 → t ≠ 64 → w.heap[g]? = some (.cells cs t (0, 0)) → w'.heap[g]? = some (.cells cs t (0, 0))
theorem ref_Keep.refl (w : World) : ref_Keep w w := fun _ _ _ _ _ h => h
theorem ref_Keep.of_below {w w' : World} (hb : Below w.heap.size w w') : ref_Keep w w' := fun _ _ _ _ _ h => blk_below h hb
theorem ref_Keep.trans {a b c : World} (h : ref_Keep a b) (k : ref_Keep b c) : ref_Keep a c := fun g cs t h1 h2 h3 => k g cs t h1 h2 (h g cs t h1 h2 h3)
theorem ref_Keep.set {w w' : World} (h : ref_Keep w w') {b q : Nat} {cs : Array Value} (hb : w'.heap[b]? = some (.cells cs q (0, 0))) (hq : q = 78 ∨ q = 64) (j : Nat) (u : Value) : ref_Keep w (w'.setCell ⟨b, j, none⟩ u) :=
  fun g cs t h1 h2 h3 => blk_far (h g cs t h1 h2 h3) (fun e => blk_ne hb (h g cs t h1 h2 h3) (fun e2 => hq.elim (fun z => h1 (by rw [← e2, z])) (fun z => h2 (by rw [← e2, z]))) e.symm) u
theorem at_Laid {w0 w : World} {A : Option Addr} {n : Nat} {xs : List MapOne} (h : Kd.C (kLaid w0) w A n xs) (i : Int) (h0 : 0 ≤ i) (h1 : i < n) : ∃ ad A1 c1, A = some ad ∧ w.cell? (ad.add (i.toNat * 2)) = some (.slice A1 (oneAt xs i).m.length c1) ∧ w.cell? ⟨(ad.add (i.toNat * 2)).block, (ad.add (i.toNat * 2)).off + 1, none⟩ = some (.int .i64 (oneAt xs i).mirror) ∧ (oneAt xs i).m.length ≤ c1 ∧ k37.C w0 A1 (oneAt xs i).m.length (oneAt xs i).m := by
  obtain ⟨ad, c, e, _, hK, hc0⟩ := Kd.C_get h zOne i h0 h1
  have hc : ∀ j u, c[j]? = some u → w.cell? (ad.add (i.toNat * 2 + j)) = some u := hc0
  obtain ⟨A1, c1, rfl, l1, g1⟩ := kLaid_open hK
  exact ⟨ad, A1, c1, e, hc 0 _ rfl, by rw [← add_field _ _ 1 (by omega)]; exact hc 1 _ rfl, l1, g1⟩
theorem laid_store {w0 W : World} {B g n cap : Nat} {l : List MapOne} (h : Kd.R (kLaid w0) 78 W B (fun _ => True) (.slice (some ⟨g, 0, none⟩) n cap) l) (i : Int) (h0 : 0 ≤ i) (h1 : i < n) (j : Int) :
    Kd.R (kLaid w0) 78 (W.setCell ⟨g, i.toNat * 2 + 1, none⟩ (.int .i64 j)) B (fun _ => True) (.slice (some ⟨g, 0, none⟩) n cap) (l.set i.toNat ⟨(oneAt l i).m, j⟩) ∧ W.grownBy (W.setCell ⟨g, i.toNat * 2 + 1, none⟩ (.int .i64 j)) (some g) ∧ W.frozen? ⟨g, i.toNat * 2 + 1, none⟩ = false ∧ W.cell? ⟨g, i.toNat * 2 + 1, none⟩ = some (.int .i64 (oneAt l i).mirror) := by
  obtain ⟨c, hcl, hM, hcc, hfz⟩ := Kd.R_elem h zOne i h0 h1
  obtain ⟨_, _, rfl, ⟨A, c, rfl, hl, hv⟩, rfl⟩ := hM
  have hs := Kd.R_seg (seg := [.int .i64 j]) (j := 1) h i h0 h1 hcl hcc (show 1 + 1 ≤ 2 by decide) (x' := ⟨(oneAt l i).m, j⟩) (okp := fun k => True ∧ k ≠ g) ⟨[.slice A _ c], [.int .i64 j], rfl, ⟨A, c, rfl, hl, hv⟩, rfl⟩ (fun _ hk => hk)
  exact ⟨hs.1, hs.2, hfz 1, hcc 1 _ rfl⟩
def ref_Add.St (w0 : World) (B b : Nat) (q : Bool) (l : List MapOne) (r : List S37) (wB w w' : World) : Prop := ref_M w0 B b (pos_Add.l q l r) w' ∧ Below B wB w' ∧ ref_Keep w w'
set_option maxHeartbeats 8000000 in
set_option maxRecDepth 100000 in
theorem ref_Add.calls (k : Nat) (w0 : World) (B b : Nat) (l : List MapOne) (A0 : Option Addr) (c0 : Nat) (r : List S37) (q : Bool) (wB w : World) (h : ref_M w0 B b l w) (hW0 : Below w0.heap.size w0 w) (hB : Below B wB w) (hBw : B ≤ w.heap.size) (hr : Kd.C k37 w0 A0 r.length r) (hc : r.length ≤ c0) (hq : emenderref08_Right.f k r = some q) :
    Calls Try.prog 27 #[.pointer (some ⟨b, 0, none⟩), .slice A0 r.length c0] w fun e w' => e = .returned (.int .i64 (pos_Add.e q l)) ∧ ref_Add.St w0 B b q l r wB w w' := by
  have hu64 := Try.underlying64
  have hu78 := Try.underlying78
  have HM := Aside0.mk h
  have HBL := Aside0.mk hB
  have HBW := Aside0.mk hBw
  have HR := Aside0.mk hr
  have HC := Aside0.mk hc
  have HQ := Aside0.mk hq
  have HW := Aside0.mk hW0
  clear h hB hBw hr hc hq hW0
  go_enter Try.func27, Try.ntmps27
  go_wp2_with fail
  refine (emenderref08_Right.calls k A0 c0 r q _ (Kd.C_below HR.out HW.out) HC.out HQ.out).mono ?_
  rintro e w1 ⟨rfl, hb⟩
  have HM1 := Aside0.mk (HM.out.below hb)
  have HBL1 := Aside0.mk (HBL.out.trans (hb.mono HBW.out))
  have HBW1 := Aside0.mk (Nat.le_trans HBW.out hb.size)
  have HK1 := Aside0.mk (ref_Keep.of_below hb)
  clear hb HM HBL HBW HQ HW
  have hm := HM1.out
  obtain ⟨⟨v, h1, h2⟩, h3⟩ := hm
  obtain ⟨A, c, hv⟩ := Kd.R_slice h2
  subst hv
  have s0 : w1.cell? ⟨b, 0, none⟩ = some (.slice A l.length c) := (blk_cell h1 0).trans rfl
  cases q with
  | false =>
    clear h1 h2 h3
    go_wp2
    go_ret
    exact ⟨rfl, HM1.out, HBL1.out, HK1.out⟩
  | true =>
    by_cases n4 : l.length < 4096
    case neg =>
      have n4b : decide ((l.length : Int) ≥ 4096) = true := decide_eq_true (by omega)
      have n4c : decide (4096 ≤ l.length) = true := decide_eq_true (by omega)
      have NO : Aside0 (pos_Add.ok true l = false) := ⟨by unfold pos_Add.ok; rw [decide_eq_false n4]; rfl⟩
      clear h1 h2 h3 n4
      go_wp2
      go_ret
      exact ⟨by unfold pos_Add.e; rw [NO.out]; rfl, by unfold pos_Add.l; rw [NO.out]; exact HM1.out, HBL1.out, HK1.out⟩
    have n4b : decide ((l.length : Int) ≥ 4096) = false := decide_eq_false (by omega)
    have n4c : decide (4096 ≤ l.length) = false := decide_eq_false (by omega)
    have YES : Aside0 (pos_Add.ok true l = true) := ⟨by unfold pos_Add.ok; rw [decide_eq_true n4]; rfl⟩
    have HBO := Aside0.mk h1
    have HRO := Aside0.mk h2
    have HB3 := Aside0.mk h3
    have HN := Aside0.mk n4
    clear h1 h2 h3 n4
    go_wp2_with (first | (at_builtin; refine Kd.R_append (kLaid w0) (w0 := wB) B rfl (.tmp 20) (.tmp 23) 62 78 (.agg #[.slice none 0 0, .int .i64 0]) 32 rfl Try.underlying62 info78 rfl (show (0 : Nat) < 2 by decide) (by decide) (.slice A l.length c) l (⟨r, -1⟩ : MapOne) [.slice A0 r.length c0, .int .i64 (-1)] (fun _ => True) (fun _ => False) (by first | rfl | (go_simp; done) | (go_simp; rfl)) (by first | rfl | (go_simp; done) | (go_simp; rfl) | simp) (kLaid_mkM w0 _ _ _ (⟨r, -1⟩ : MapOne) HC.out HR.out) (fun _ h => h.elim) (fun _ _ => trivial) HRO.out HBL1.out HBW1.out (by have := HN.out; omega) ?_; intro v1 w8 ho hb hg hat; obtain ⟨A8, c8, hv8⟩ := Kd.R_slice ho; obtain ⟨nv, hnv⟩ : ∃ n_, n_ = (l ++ [(⟨r, -1⟩ : MapOne)]).length := ⟨_, rfl⟩; rw [← hnv] at hv8; subst hv8; clear hnv; have R8 := Aside0.mk ho; have B8 := Aside0.mk hb; have G8 := Aside0.mk (blk_grown HBO.out hg (Kd.R_ne HRO.out HBO.out (by decide))); have K8 := Aside0.mk (show ref_Keep w w8 from HK1.out.trans (fun g cs t e1 e2 e3 => blk_grown e3 hg (fun e => (Kd.R_ne HRO.out e3 (fun e4 => e1 e4.symm)) e))); have hco : w8.cell? ⟨b, 0, none⟩ = some (.slice A l.length c) := (blk_cell G8.out 0).trans rfl; have hfo := blk_frozen G8.out 0; clear ho hb hg hat))
    go_ret
    exact ⟨by unfold pos_Add.e; rw [YES.out]; rfl, by unfold pos_Add.l; rw [YES.out]; exact ⟨⟨_, blk_put G8.out 0 _ rfl, Kd.R_set R8.out G8.out (show ∀ q : Nat, q ∈ ([78] : List Nat) → q ≠ 64 by decide) 0 _⟩, HB3.out⟩, B8.out.setCell HB3.out _, K8.out.set G8.out (.inr rfl) 0 _⟩
/-! ### The document's mirror -/
theorem row_zero {α : Type} {d : Kd α} {e B n cap : Nat} {ok : Nat → Prop} {W : World} {A : Option Addr} {l : List α} (h : d.R e W B ok (.slice A n cap) l) (hn : 0 < l.length) : ∃ g : Nat, A = some ⟨g, 0, none⟩ := by
  obtain ⟨ad, c', e⟩ := Kd.R_slice1 h hn
  injection e with e1 e2 e3
  subst e1
  rcases h with ⟨_, inner, ⟨_, hh⟩, _⟩
  rcases hh with ⟨hh, _⟩ | ⟨g, cap', cur, hh, _⟩
  · cases hh
  · injection hh with hh
    exact ⟨g, hh⟩
theorem oneAt_set_ne {l : List MapOne} {i j : Int} (h0 : 0 ≤ i) (h1 : 0 ≤ j) (h : i ≠ j) (x : MapOne) : oneAt (l.set i.toNat x) j = oneAt l j := by
  unfold oneAt
  rw [List.getD_eq_getElem?_getD, List.getD_eq_getElem?_getD, List.getElem?_set_ne (by omega)]
set_option maxHeartbeats 8000000 in
set_option maxRecDepth 100000 in
theorem ref_Set.calls (w0 : World) (B b : Nat) (l : List MapOne) (i j : Int) (wB w : World) (h : ref_M w0 B b l w) (hB : Below B wB w) :
    Calls Try.prog 28 #[.pointer (some ⟨b, 0, none⟩), .int .i64 i, .int .i64 j] w fun e w' => e = .returned (.int .i64 (pos_Mirror.e l i j)) ∧ ref_M w0 B b (pos_Mirror.l l i j) w' ∧ Below B wB w' ∧ ref_Keep w w' := by
  have hu64 := Try.underlying64
  have hu78 := Try.underlying78
  have HM := Aside0.mk h
  obtain ⟨⟨v, h1, h2⟩, h3⟩ := h
  obtain ⟨A, c, rfl⟩ := Kd.R_slice h2
  have s0 : w.cell? ⟨b, 0, none⟩ = some (.slice A l.length c) := (blk_cell h1 0).trans rfl
  have HB := Aside0.mk hB
  have H1 := Aside0.mk h1
  have H2 := Aside0.mk h2
  have H3 := Aside0.mk h3
  clear h1 h2 h3 hB
  have DONE : Aside0 (pos_Mirror.bad l i j = true → (Ending.returned (.int .i64 1) = .returned (.int .i64 (pos_Mirror.e l i j)) ∧ ref_M w0 B b (pos_Mirror.l l i j) w ∧ Below B wB w ∧ ref_Keep w w)) := ⟨fun hb => ⟨by unfold pos_Mirror.e; rw [if_pos hb], by unfold pos_Mirror.l; rw [if_pos hb]; exact HM.out, HB.out, ref_Keep.refl w⟩⟩
  by_cases n1 : i < 0
  · have n1b : decide (i < 0) = true := decide_eq_true n1
    have D := Aside0.mk (DONE.out (by unfold pos_Mirror.bad; rw [n1b]; rfl))
    clear n1 DONE H1 H2 H3 HB
    go_enter Try.func28, Try.ntmps28
    go_wp2
    go_ret
    exact D.out
  have n1b : decide (i < 0) = false := decide_eq_false n1
  by_cases n2 : j ≤ i
  · have n2b : decide (j ≤ i) = true := decide_eq_true n2
    have D := Aside0.mk (DONE.out (by unfold pos_Mirror.bad; rw [n1b, n2b]; rfl))
    clear n1 n2 DONE H1 H2 H3 HB
    go_enter Try.func28, Try.ntmps28
    go_wp2
    go_ret
    exact D.out
  have n2b : decide (j ≤ i) = false := decide_eq_false n2
  by_cases n3 : (l.length : Int) ≤ j
  · have n3b : decide ((l.length : Int) ≤ j) = true := decide_eq_true n3
    have D := Aside0.mk (DONE.out (by unfold pos_Mirror.bad; rw [n1b, n2b, n3b]; rfl))
    clear n1 n2 n3 DONE H1 H2 H3 HB
    go_enter Try.func28, Try.ntmps28
    go_wp2
    go_ret
    exact D.out
  have n3b : decide ((l.length : Int) ≤ j) = false := decide_eq_false n3
  have i0 : 0 ≤ i := by omega
  have i1 : i < (l.length : Int) := by omega
  have j0 : 0 ≤ j := by omega
  have j1 : j < (l.length : Int) := by omega
  obtain ⟨g, rfl⟩ := row_zero H2.out (by omega)
  obtain ⟨ri, gi, fi, xi⟩ := laid_store H2.out i i0 i1 j
  obtain ⟨_, _, _, xj⟩ := laid_store H2.out j j0 j1 i
  have i0t := eq_true i0
  have i1t := eq_true i1
  have j0t := eq_true j0
  have j1t := eq_true j1
  have NN := Aside0.mk (And.intro i0 (And.intro (show i < j by omega) j1))
  have RI := Aside0.mk ri
  clear n1 n2 n3 i0 i1 j0 j1 ri gi
  by_cases n4 : 0 ≤ (oneAt l i).mirror
  · have n4b : decide (0 ≤ (oneAt l i).mirror) = true := decide_eq_true n4
    have D := Aside0.mk (DONE.out (by unfold pos_Mirror.bad; rw [n1b, n2b, n3b, n4b]; rfl))
    clear n4 DONE H1 H2 H3 HB RI fi
    go_enter Try.func28, Try.ntmps28
    go_wp2
    go_ret
    exact D.out
  have n4b : decide (0 ≤ (oneAt l i).mirror) = false := decide_eq_false n4
  by_cases n5 : 0 ≤ (oneAt l j).mirror
  · have n5b : decide (0 ≤ (oneAt l j).mirror) = true := decide_eq_true n5
    have D := Aside0.mk (DONE.out (by unfold pos_Mirror.bad; rw [n1b, n2b, n3b, n4b, n5b]; rfl))
    clear n4 n5 DONE H1 H2 H3 HB RI fi
    go_enter Try.func28, Try.ntmps28
    go_wp2
    go_ret
    exact D.out
  have n5b : decide (0 ≤ (oneAt l j).mirror) = false := decide_eq_false n5
  have GOOD : Aside0 (pos_Mirror.bad l i j = false) := ⟨by unfold pos_Mirror.bad; rw [n1b, n2b, n3b, n4b, n5b]; rfl⟩
  obtain ⟨cs, hcs⟩ := Kd.R_typed H2.out g (by simp [Value.ownBlock])
  have HG := Aside0.mk hcs
  have HGB := Aside0.mk (Kd.R_base H2.out g (by simp [Value.ownBlock]))
  have BG : Aside0 (b ≠ g) := ⟨blk_ne H1.out hcs (by decide)⟩
  clear n4 n5 DONE hcs
  go_enter Try.func28, Try.ntmps28
  go_upto_region 4 with (fail)
  have R1 := RI
  have B1 := Aside0.mk (HB.out.setCell (p := ⟨g, i.toNat * 2 + 1, none⟩) HGB.out (.int .i64 j))
  have Z1 := Aside0.mk (blk_far (p := ⟨g, i.toNat * 2 + 1, none⟩) H1.out BG.out (.int .i64 j))
  have K1 := Aside0.mk ((ref_Keep.refl w).set HG.out (.inl rfl) (i.toNat * 2 + 1) (.int .i64 j))
  have G1 := Aside0.mk (blk_set HG.out (i.toNat * 2 + 1) (.int .i64 j))
  clear RI HB H1 HG s0 fi xi xj H2
  generalize w.setCell ⟨g, i.toNat * 2 + 1, none⟩ (.int .i64 j) = w1 at *
  have s0 : w1.cell? ⟨b, 0, none⟩ = some (.slice (some ⟨g, 0, none⟩) l.length c) := (blk_cell Z1.out 0).trans rfl
  obtain ⟨rj, gj, fj, xj⟩ := laid_store R1.out j (by have := NN.out; omega) NN.out.2.2 i
  rw [oneAt_set_ne NN.out.1 (by have := NN.out; omega) (by have := NN.out; omega)] at rj xj
  have R2 := Aside0.mk rj
  have B2 := Aside0.mk (B1.out.setCell (p := ⟨g, j.toNat * 2 + 1, none⟩) HGB.out (.int .i64 i))
  have Z2 := Aside0.mk (blk_far (p := ⟨g, j.toNat * 2 + 1, none⟩) Z1.out BG.out (.int .i64 i))
  have K2 := Aside0.mk (K1.out.set G1.out (.inl rfl) (j.toNat * 2 + 1) (.int .i64 i))
  clear rj gj R1 B1 Z1 K1 G1
  go_wp2
  go_ret
  have LN : ((l.set i.toNat ⟨(oneAt l i).m, j⟩).set j.toNat ⟨(oneAt l j).m, i⟩).length = l.length := by rw [List.length_set, List.length_set]
  exact ⟨by unfold pos_Mirror.e; rw [GOOD.out]; rfl, by unfold pos_Mirror.l; rw [GOOD.out]; exact ⟨⟨_, Z2.out, R2.out⟩, H3.out⟩, B2.out, K2.out⟩
/-! ### A place through the document's mapping -/
def ref_MMap.l (k : Nat) (l : List MapOne) (side : Int) : Nat → Int → Int → Bool → Option (Int × Bool × Int × Int × Int)
  | 0, _, _, _ => none
  | f + 1, i, p, gone =>
    if i < (l.length : Int) then
      (emenderref08_Map.f k (oneAt l i).m p side).bind fun s =>
        if s.2.2.2.2 = 0 then
          (if pos_MMap.mir l i s = true then
            (emenderref08_Recover.f k (oneAt l (oneAt l i).mirror).m s.2.2.1 (if (rd_T37 (oneAt l (oneAt l i).mirror).m s.2.2.1).f2 < s.2.2.2.1 then (rd_T37 (oneAt l (oneAt l i).mirror).m s.2.2.1).f2 else s.2.2.2.1)).bind fun x => if 65536 < x.1 then some (0, false, 0, 0, 1) else ref_MMap.l k l side f ((oneAt l i).mirror + 1) x.1 gone
          else if 65536 < s.1 then some (0, false, 0, 0, 1) else ref_MMap.l k l side f (i + 1) s.1 (gone || s.2.1))
        else some (0, false, 0, 0, 1)
    else some (p, gone, -1, 0, 0)
def ref_MMap.f (k : Nat) (l : List MapOne) (i p side : Int) : Option (Int × Bool × Int × Int × Int) :=
  if pos_MMap.bad l i p = true then some (0, false, 0, 0, 1) else ref_MMap.l k l side (l.length + 1) i p false
theorem ref_MMap.res {tmps : Array Value} {W : World} {g : Nat} {v0 v1 v2 v3 e : Value} (p8 : tmps.getD 8 undef = .pointer (some ⟨g, 0, none⟩)) (p9 : tmps.getD 9 undef = e) (h3 : W.heap[g]? = some (.cells #[v0, v1, v2, v3] 24 (0, 0))) :
    (results Try.f29 tmps).run Try.prog W = .ok (.tuple #[.agg #[v0, v1, v2, v3], e]) W := by
  have h1 : tmps[8]?.getD undef = .pointer (some ⟨g, 0, none⟩) := by simpa using p8
  have h2 : tmps[9]?.getD undef = e := by simpa using p9
  have hc0 : W.cell? ⟨g, 0, none⟩ = some v0 := (blk_cell h3 0).trans rfl
  have hc1 : W.cell? ⟨g, 1, none⟩ = some v1 := (blk_cell h3 1).trans rfl
  have hc2 : W.cell? ⟨g, 2, none⟩ = some v2 := (blk_cell h3 2).trans rfl
  have hc3 : W.cell? ⟨g, 3, none⟩ = some v3 := (blk_cell h3 3).trans rfl
  have hr : Try.f29.results = #[.cell 8 24, .tmp 9] := rfl
  simp [results, hr, h1, h2, asAddr, go_sem, hc0, hc1, hc2, hc3]
structure ref_MMap.I (k : Nat) (w0 : World) (B b g8 : Nat) (l : List MapOne) (side : Int) (A : Option Addr) (c : Nat) (r : Int × Bool × Int × Int × Int) (w : World) (kq : Nat) (i p : Int) (gone : Bool) (W : World) : Prop where
  map : W.heap[b]? = some (.cells #[.slice A l.length c] 64 (0, 0))
  row : Kd.R (kLaid w0) 78 W B (fun _ => True) (.slice A l.length c) l
  out : W.heap[g8]? = some (.cells #[.int .i64 0, .bool false, .int .i64 0, .int .i64 0] 24 (0, 0))
  at8 : w.heap.size ≤ g8
  below : Below w.heap.size w W
  zero : Below w0.heap.size w0 W
  go : ref_MMap.l k l side kq i p gone = some r
  lo : 0 ≤ i
  hi : i ≤ (l.length : Int)
theorem ref_MMap.I.weak {k : Nat} {w0 : World} {B b g8 : Nat} {l : List MapOne} {side : Int} {A : Option Addr} {c : Nat} {r : Int × Bool × Int × Int × Int} {w W W1 : World} {kq : Nat} {i p : Int} {gone : Bool} (h : ref_MMap.I k w0 B b g8 l side A c r w kq i p gone W) (hb : Below W.heap.size W W1) : ref_MMap.I k w0 B b g8 l side A c r w kq i p gone W1 :=
  ⟨blk_below h.map hb, Kd.R_below h.row hb, blk_below h.out hb, h.at8, below_step h.below hb, h.zero.trans (hb.mono h.zero.size), h.go, h.lo, h.hi⟩
theorem ref_MMap.I.next {k : Nat} {w0 : World} {B b g8 : Nat} {l : List MapOne} {side : Int} {A : Option Addr} {c : Nat} {r : Int × Bool × Int × Int × Int} {w W : World} {kq kq' : Nat} {i p : Int} {gone : Bool} (h : ref_MMap.I k w0 B b g8 l side A c r w kq i p gone W) {i' p' : Int} {gone' : Bool} (hg : ref_MMap.l k l side kq' i' p' gone' = some r) (lo : 0 ≤ i') (hi : i' ≤ (l.length : Int)) : ref_MMap.I k w0 B b g8 l side A c r w kq' i' p' gone' W :=
  ⟨h.map, h.row, h.out, h.at8, h.below, h.zero, hg, lo, hi⟩
/-- What is handed back where a place is none. -/
theorem ref_MMap.I.c8 {k : Nat} {w0 : World} {B b g8 : Nat} {l : List MapOne} {side : Int} {A : Option Addr} {c : Nat} {r : Int × Bool × Int × Int × Int} {w W : World} {kq : Nat} {i p : Int} {gone : Bool} (h : ref_MMap.I k w0 B b g8 l side A c r w kq i p gone W) :
    (W.cell? ⟨g8, 0, none⟩ = some (.int .i64 0) ∧ W.cell? ⟨g8, 1, none⟩ = some (.bool false) ∧ W.cell? ⟨g8, 2, none⟩ = some (.int .i64 0) ∧ W.cell? ⟨g8, 3, none⟩ = some (.int .i64 0)) ∧ (W.frozen? ⟨g8, 0, none⟩ = false ∧ W.frozen? ⟨g8, 1, none⟩ = false ∧ W.frozen? ⟨g8, 2, none⟩ = false ∧ W.frozen? ⟨g8, 3, none⟩ = false) :=
  ⟨⟨(blk_cell h.out 0).trans rfl, (blk_cell h.out 1).trans rfl, (blk_cell h.out 2).trans rfl, (blk_cell h.out 3).trans rfl⟩, blk_frozen h.out 0, blk_frozen h.out 1, blk_frozen h.out 2, blk_frozen h.out 3⟩
def ref_MMap.T12 : Bool × List (List Nat × List Nat) := (true, [([], []), ([0], [0]), ([1], [1]), ([2], [2]), ([3], [3]), ([3], [3]), ([4, 5, 3], [3, 4, 5]), ([3, 6], [3, 6]), ([7, 3], [7]), ([8], [8]), ([9, 8], [8, 9]), ([8], [8]), ([11, 8], [8, 11]), ([12, 8], [8, 12]), ([13, 8], [8, 13]), ([8], [8]), ([14, 15, 8], [8, 14, 15]), ([16, 8], [8, 16]), ([17, 8], [8, 17]), ([18, 8], [8, 18]), ([10, 19, 8], [8, 10, 19]), ([8, 20], [8, 20])])
def ref_MMap.B12 : List Nat := [0, 1, 3, 7, 15, 15, 63, 127, 255, 511, 1023, 511, 2559, 6655, 14847, 511, 63999, 129535, 260607, 522751, 1048575, 2097151]
theorem ref_MMap.tab12 : rtab .any (opsOf Try.f29 12) = ref_MMap.T12 := by kernel_rfl
theorem ref_MMap.bits12 : waitsOk ref_MMap.T12.2 ref_MMap.B12 = true := by kernel_rfl
def ref_MMap.T13 : Bool × List (List Nat × List Nat) := (true, [([], []), ([0], [0]), ([1], [1]), ([2], [2]), ([], []), ([3, 4], [3, 4]), ([5], [5]), ([6], [6]), ([], []), ([8], [8]), ([], []), ([10], [10]), ([], []), ([12], [12]), ([13], [13]), ([14], [14]), ([], []), ([15, 16], [15, 16]), ([17], [17]), ([18], [18]), ([], []), ([20], [20]), ([19, 21], [19, 21]), ([22], [22]), ([23], [23]), ([11, 24], [11, 24]), ([7, 9, 25], [7, 9, 25]), ([26], [26]), ([27], [27]), ([27], [27]), ([28, 26, 0, 1, 2, 3, 4, 5, 6, 7, 8, 9, 10, 11, 12, 13, 14, 15, 16, 17, 18, 19, 20, 21, 22, 23, 24, 25, 26, 27, 28], [28]), ([29, 30, 0, 1, 2, 3, 4, 5, 6, 7, 8, 9, 10, 11, 12, 13, 14, 15, 16, 17, 18, 19, 20, 21, 22, 23, 24, 25, 26, 27, 28, 29, 30], [29])])
def ref_MMap.B13 : List Nat := [0, 1, 3, 7, 0, 31, 63, 127, 0, 256, 0, 1024, 0, 4096, 12288, 28672, 0, 126976, 258048, 520192, 0, 1048576, 4190208, 8384512, 16773120, 33553408, 67108863, 134217727, 268435455, 268435455, 536870911, 2147483647]
theorem ref_MMap.tab13 : rtab .any (opsOf Try.f29 13) = ref_MMap.T13 := by kernel_rfl
theorem ref_MMap.bits13 : waitsOk ref_MMap.T13.2 ref_MMap.B13 = true := by kernel_rfl
set_option maxRecDepth 100000 in
set_option maxHeartbeats 16000000 in
theorem ref_MMap.calls (k : Nat) (w0 : World) (B b : Nat) (l : List MapOne) (i p side r1 : Int) (r2 : Bool) (r3 r4 r5 : Int) (w : World) (h : ref_M w0 B b l w) (hz : Below w0.heap.size w0 w) (hl : l.length ≤ 4096) (hm : ∀ x ∈ l, x.mirror < (l.length : Int)) (hf : ref_MMap.f k l i p side = some (r1, r2, r3, r4, r5)) :
    Calls Try.prog 29 #[.pointer (some ⟨b, 0, none⟩), .int .i64 i, .int .i64 p, .int .i64 side] w fun e w' => e = .returned (.tuple #[.agg #[.int .i64 r1, .bool r2, .int .i64 r3, .int .i64 r4], .int .i64 r5]) ∧ Below w.heap.size w w' := by
  have hu24 := Try.underlying24
  have hu64 := Try.underlying64
  have hu78 := Try.underlying78
  unfold ref_MMap.f at hf
  have H := Aside0.mk hf
  have HL := Aside0.mk hl
  have HMI := Aside0.mk hm
  clear hf hl hm
  have hB0 : Below w.heap.size w (w.alloc (.cells #[.int .i64 0, .bool false, .int .i64 0, .int .i64 0] 24)) := below_alloc (Below.refl _ _) _
  have z3 : (w.alloc (.cells #[.int .i64 0, .bool false, .int .i64 0, .int .i64 0] 24)).heap[w.heap.size]? = some (.cells #[.int .i64 0, .bool false, .int .i64 0, .int .i64 0] 24 (0, 0)) := blk_new _ _
  have HM := Aside0.mk (h.below hB0)
  have HB0 := Aside0.mk hB0
  have HZ0 := Aside0.mk (hz.trans (hB0.mono hz.size))
  have Z3 := Aside0.mk z3
  have hmm := HM.out
  obtain ⟨⟨v, h1, h2⟩, h3⟩ := hmm
  obtain ⟨A, c, hv⟩ := Kd.R_slice h2
  subst hv
  have s0 : (w.alloc (.cells #[.int .i64 0, .bool false, .int .i64 0, .int .i64 0] 24)).cell? ⟨b, 0, none⟩ = some (.slice A l.length c) := (blk_cell h1 0).trans rfl
  have hc0 : (w.alloc (.cells #[.int .i64 0, .bool false, .int .i64 0, .int .i64 0] 24)).cell? ⟨w.heap.size, 0, none⟩ = some (.int .i64 0) := (blk_cell z3 0).trans rfl
  have hc1 : (w.alloc (.cells #[.int .i64 0, .bool false, .int .i64 0, .int .i64 0] 24)).cell? ⟨w.heap.size, 1, none⟩ = some (.bool false) := (blk_cell z3 1).trans rfl
  have hc2 : (w.alloc (.cells #[.int .i64 0, .bool false, .int .i64 0, .int .i64 0] 24)).cell? ⟨w.heap.size, 2, none⟩ = some (.int .i64 0) := (blk_cell z3 2).trans rfl
  have hc3 : (w.alloc (.cells #[.int .i64 0, .bool false, .int .i64 0, .int .i64 0] 24)).cell? ⟨w.heap.size, 3, none⟩ = some (.int .i64 0) := (blk_cell z3 3).trans rfl
  have hf0 := blk_frozen z3 0
  have hf1 := blk_frozen z3 1
  have hf2 := blk_frozen z3 2
  have hf3 := blk_frozen z3 3
  have H1 := Aside0.mk h1
  have H2 := Aside0.mk h2
  clear hB0 z3 h h1 h2 h3 hz
  go_enter Try.func29, Try.ntmps29
  go_upto_region 1 with (fail)
  generalize w.alloc (.cells #[.int .i64 0, .bool false, .int .i64 0, .int .i64 0] 24) = W2 at *
  by_cases n1 : i < 0
  · have n1b : decide (i < 0) = true := decide_eq_true n1
    clear n1
    have e0 := H.out
    rw [if_pos (show pos_MMap.bad l i p = true by unfold pos_MMap.bad; simp only [n1b, Bool.true_or, Bool.or_true])] at e0
    simp only [Option.some.injEq, Prod.mk.injEq] at e0
    obtain ⟨rfl, rfl, rfl, rfl, rfl⟩ := e0
    clear H
    go_wp2
    have w0 := blk_put (blk_put (blk_put (blk_put Z3.out 0 (.int .i64 0) rfl) 1 (.bool false) rfl) 2 (.int .i64 0) rfl) 3 (.int .i64 0) rfl
    refine bodyPost_ret (ref_MMap.res rfl rfl w0) rfl ?_
    exact ⟨rfl, below_set (below_set (below_set (below_set HB0.out (Nat.le_refl _)) (Nat.le_refl _)) (Nat.le_refl _)) (Nat.le_refl _)⟩
  have n1b : decide (i < 0) = false := decide_eq_false n1
  by_cases n2 : (l.length : Int) < i
  · have n2b : decide ((l.length : Int) < i) = true := decide_eq_true n2
    clear n1 n2
    have e0 := H.out
    rw [if_pos (show pos_MMap.bad l i p = true by unfold pos_MMap.bad; simp only [n2b, Bool.true_or, Bool.or_true])] at e0
    simp only [Option.some.injEq, Prod.mk.injEq] at e0
    obtain ⟨rfl, rfl, rfl, rfl, rfl⟩ := e0
    clear H
    go_wp2
    have w0 := blk_put (blk_put (blk_put (blk_put Z3.out 0 (.int .i64 0) rfl) 1 (.bool false) rfl) 2 (.int .i64 0) rfl) 3 (.int .i64 0) rfl
    refine bodyPost_ret (ref_MMap.res rfl rfl w0) rfl ?_
    exact ⟨rfl, below_set (below_set (below_set (below_set HB0.out (Nat.le_refl _)) (Nat.le_refl _)) (Nat.le_refl _)) (Nat.le_refl _)⟩
  have n2b : decide ((l.length : Int) < i) = false := decide_eq_false n2
  by_cases n3 : p < 0
  · have n3b : decide (p < 0) = true := decide_eq_true n3
    clear n1 n2 n3
    have e0 := H.out
    rw [if_pos (show pos_MMap.bad l i p = true by unfold pos_MMap.bad; simp only [n3b, Bool.true_or, Bool.or_true])] at e0
    simp only [Option.some.injEq, Prod.mk.injEq] at e0
    obtain ⟨rfl, rfl, rfl, rfl, rfl⟩ := e0
    clear H
    go_wp2
    have w0 := blk_put (blk_put (blk_put (blk_put Z3.out 0 (.int .i64 0) rfl) 1 (.bool false) rfl) 2 (.int .i64 0) rfl) 3 (.int .i64 0) rfl
    refine bodyPost_ret (ref_MMap.res rfl rfl w0) rfl ?_
    exact ⟨rfl, below_set (below_set (below_set (below_set HB0.out (Nat.le_refl _)) (Nat.le_refl _)) (Nat.le_refl _)) (Nat.le_refl _)⟩
  have n3b : decide (p < 0) = false := decide_eq_false n3
  by_cases n4 : 65536 < p
  · have n4b : decide (65536 < p) = true := decide_eq_true n4
    clear n1 n2 n3 n4
    have e0 := H.out
    rw [if_pos (show pos_MMap.bad l i p = true by unfold pos_MMap.bad; simp only [n4b, Bool.true_or, Bool.or_true])] at e0
    simp only [Option.some.injEq, Prod.mk.injEq] at e0
    obtain ⟨rfl, rfl, rfl, rfl, rfl⟩ := e0
    clear H
    go_wp2
    have w0 := blk_put (blk_put (blk_put (blk_put Z3.out 0 (.int .i64 0) rfl) 1 (.bool false) rfl) 2 (.int .i64 0) rfl) 3 (.int .i64 0) rfl
    refine bodyPost_ret (ref_MMap.res rfl rfl w0) rfl ?_
    exact ⟨rfl, below_set (below_set (below_set (below_set HB0.out (Nat.le_refl _)) (Nat.le_refl _)) (Nat.le_refl _)) (Nat.le_refl _)⟩
  have n4b : decide (65536 < p) = false := decide_eq_false n4
  have e0 := H.out
  rw [if_neg (show ¬ pos_MMap.bad l i p = true by unfold pos_MMap.bad; simp only [n1b, n2b, n3b, n4b, Bool.false_or]; decide)] at e0
  have H0 := Aside0.mk e0
  have NI := Aside0.mk (And.intro n1 (And.intro n2 (And.intro n3 n4)))
  clear H e0 n1 n2 n3 n4
  go_wp2
  have I0 := Aside0.mk (show ref_MMap.I k w0 B b w.heap.size l side A c (r1, r2, r3, r4, r5) w (l.length + 1) i p false W2 from ⟨H1.out, H2.out, Z3.out, Nat.le_refl _, HB0.out, HZ0.out, H0.out, by have := NI.out; omega, by have := NI.out; omega⟩)
  clear H0 NI H1 H2 Z3 HM n1b n2b n3b n4b s0 hc0 hc1 hc2 hc3 hf0 hf1 hf2 hf3 HB0 HZ0
  go_loopg [10, 11, 12, 13, 14, 15, 16, 17] (l.length + 1) (fun kq v10 v11 v12 v13 v14 v15 v16 v17 w' => ∃ (i p : Int) (gone : Bool), v10 = .bool gone ∧ v11 = .int .i64 p ∧ v12 = .int .i64 i ∧ Aside0 (ref_MMap.I k w0 B b w.heap.size l side A c (r1, r2, r3, r4, r5) w kq i p gone w'))
  case atStart => exact ⟨_, _, _, rfl, rfl, rfl, I0⟩
  case round =>
    clear I0
    obtain ⟨i, p, gone, rfl, rfl, rfl, HI⟩ := hrel
    have hgo := HI.out.go
    cases gk with
    | zero => simp [ref_MMap.l] at hgo
    | succ f =>
    simp only [ref_MMap.l] at hgo
    have s0 : wr.cell? ⟨b, 0, none⟩ = some (.slice A l.length c) := (blk_cell HI.out.map 0).trans rfl
    by_cases c5 : i < (l.length : Int)
    · have c5b : decide (i < (l.length : Int)) = true := decide_eq_true c5
      rw [if_pos c5] at hgo
      obtain ⟨⟨q1, q2, q3, q4, q5⟩, hs, hgo⟩ := Option.bind_eq_some_iff.1 hgo
      dsimp only at hgo
      have HG := Aside0.mk hgo
      have HS := Aside0.mk hs
      have C5 := Aside0.mk c5
      have i0 : 0 ≤ i := HI.out.lo
      have I00 := Aside0.mk i0
      have ct := eq_true c5
      have c0t := eq_true i0
      obtain ⟨ad, A1, c1, eA, el0, el1, lc1, kc1⟩ := at_Laid (Kd.R_reads' HI.out.row).2.2 i i0 c5
      subst eA
      have LC := Aside0.mk lc1
      have KC := Aside0.mk kc1
      clear hgo hs c5 lc1 kc1 el1 i0
      go_wp2_with fail
      refine (emenderref08_Map.calls k A1 c1 (oneAt l i).m p side q1 q2 q3 q4 q5 _ (Kd.C_below KC.out HI.out.zero) LC.out HS.out).mono ?_
      rintro e w3 ⟨rfl, hb⟩
      have I3 := Aside0.mk ((HI.out.weak hb).weak (below_alloc (Below.refl _ _) (.cells #[.int .i64 q1, .bool q2, .int .i64 q3, .int .i64 q4] 24)))
      have zb := blk_new w3 (.cells #[.int .i64 q1, .bool q2, .int .i64 q3, .int .i64 q4] 24)
      have YB := Aside0.mk zb
      clear HI hb s0 el0 zb
      go_upto_region 9 with (fail)
      generalize w3.alloc (.cells #[.int .i64 q1, .bool q2, .int .i64 q3, .int .i64 q4] 24) = w4 at *
      generalize w3.heap.size = gs at *
      have hgo := HG.out
      by_cases c7 : q5 = 0
      case neg =>
        have c7b : (q5 != 0) = true := bne_iff_ne.mpr c7
        rw [if_neg c7] at hgo
        simp only [Option.some.injEq, Prod.mk.injEq] at hgo
        obtain ⟨rfl, rfl, rfl, rfl, rfl⟩ := hgo
        obtain ⟨⟨hc0, hc1, hc2, hc3⟩, hf0, hf1, hf2, hf3⟩ := I3.out.c8
        clear c7 HG
        go_wp2
        have w0 := blk_put (blk_put (blk_put (blk_put I3.out.out 0 (.int .i64 0) rfl) 1 (.bool false) rfl) 2 (.int .i64 0) rfl) 3 (.int .i64 0) rfl
        refine bodyPost_ret (ref_MMap.res rfl rfl w0) rfl ?_
        exact ⟨rfl, below_set (below_set (below_set (below_set I3.out.below (Nat.le_refl _)) (Nat.le_refl _)) (Nat.le_refl _)) (Nat.le_refl _)⟩
      have c7b : (q5 != 0) = false := bne_eq_false_iff_eq.mpr c7
      rw [if_pos c7] at hgo
      have HG := Aside0.mk hgo
      clear hgo c7
      obtain ⟨ad_, A2, c2, eA2, em0, em1, lc2, kc2⟩ := at_Laid (Kd.R_reads' I3.out.row).2.2 i I00.out C5.out
      cases eA2
      have s0 : w4.cell? ⟨b, 0, none⟩ = some (.slice (some ad) l.length c) := (blk_cell I3.out.map 0).trans rfl
      clear lc2 kc2 em0
      go_upto_region 12 with (fail)
      have t2 : w4.cell? ⟨gs, 2, none⟩ = some (.int .i64 q3) := (blk_cell YB.out 2).trans rfl
      clear em1
      by_cases m1 : 0 ≤ q3
      case neg =>
        have m1b : decide (0 ≤ q3) = false := decide_eq_false m1
        have hgo := HG.out
        rw [if_neg (show ¬ pos_MMap.mir l i (q1, q2, q3, q4, q5) = true by unfold pos_MMap.mir; dsimp only; rw [m1b, Bool.false_and]; decide)] at hgo
        have HG := Aside0.mk hgo
        clear hgo m1
        go_wp2
        refine start_ (n := 22) (S := fun w' => w'.cell? ⟨gs, 2, none⟩ = some (.int .i64 q3)) (ds := []) #[false, false, false, false, false, false, false, false, false, false, false, false, false, false, false, false, false, false, false, false, false, false] (by kernel_rfl) rfl rfl t2 (fun hHeld => ?_)
        refine with_tabW ref_MMap.tab12 ref_MMap.bits12 (fun HT_ HW_ => ?_)
        have I5 := Aside0.mk (I3.out.weak (Below.drew (Below.refl _ w4)))
        have Y5 := Aside0.mk (blk_drew YB.out)
        clear I3 YB
        generalize w4.drew = w5 at *
        refine pure_ (i := 0) (N := some 74) (v := ?_) (a' := ?_) #[true, false, false, false, false, false, false, false, false, false, false, false, false, false, false, false, false, false, false, false, false, false] rfl rfl (any_of HT_.out (by kernel_rfl)) (fun _ _ _ h => h) (Or.inl ⟨by rfl, ?_⟩) ?_ ?_
        rotate_left
        · intro w'
          go_simp
          with_reducible rfl
        rotate_left
        · simp only [Act.put, List.setIfInBounds_toArray, List.set_cons_zero, List.set_cons_succ, i64_w, i32_w]
          rfl
        refine take_ (i := 1) (N := some 75) (v := ?_) (a' := ?_) #[true, true, false, false, false, false, false, false, false, false, false, false, false, false, false, false, false, false, false, false, false, false] rfl rfl (take_ofW HT_.out HW_.out (by kernel_rfl)) (fun _ _ _ h => h) (Or.inl ⟨by rfl, ?_⟩) hHeld ?_ ?_
        rotate_left
        · intro w' s0
          go_simp
          with_reducible rfl
        rotate_left
        · simp only [Act.put, List.setIfInBounds_toArray, List.set_cons_zero, List.set_cons_succ, i64_w, i32_w]
          rfl
        refine pure_ (i := 2) (N := some 76) (v := ?_) (a' := ?_) #[true, true, true, false, false, false, false, false, false, false, false, false, false, false, false, false, false, false, false, false, false, false] rfl rfl (any_of HT_.out (by kernel_rfl)) (fun _ _ _ h => h) (Or.inl ⟨by rfl, ?_⟩) ?_ ?_
        rotate_left
        · intro w'
          go_simp
          with_reducible rfl
        rotate_left
        · simp only [Act.put, List.setIfInBounds_toArray, List.set_cons_zero, List.set_cons_succ, i64_w, i32_w]
          rfl
        refine pure_ (i := 3) (N := some 77) (v := ?_) (a' := ?_) #[true, true, true, true, false, false, false, false, false, false, false, false, false, false, false, false, false, false, false, false, false, false] rfl rfl (any_of HT_.out (by kernel_rfl)) (fun _ _ _ h => h) (Or.inl ⟨by rfl, ?_⟩) ?_ ?_
        rotate_left
        · intro w'
          go_simp
          with_reducible rfl
        rotate_left
        · simp only [Act.put, List.setIfInBounds_toArray, List.set_cons_zero, List.set_cons_succ, i64_w, i32_w]
          rfl
        refine pure_ (i := 4) (N := some 78) (v := undef) (a' := ?_) #[true, true, true, true, true, false, false, false, false, false, false, false, false, false, false, false, false, false, false, false, false, false] rfl rfl (any_of HT_.out (by kernel_rfl)) (fun _ _ _ h => h) (Or.inr ⟨by rfl, rfl⟩) ?_ ?_
        rotate_left
        · simp only [Act.put, List.setIfInBounds_toArray, List.set_cons_zero, List.set_cons_succ, i64_w, i32_w]
          rfl
        refine pure_ (i := 5) (N := some 79) (v := undef) (a' := ?_) #[true, true, true, true, true, true, false, false, false, false, false, false, false, false, false, false, false, false, false, false, false, false] rfl rfl (any_of HT_.out (by kernel_rfl)) (fun _ _ _ h => h) (Or.inr ⟨by rfl, rfl⟩) ?_ ?_
        rotate_left
        · simp only [Act.put, List.setIfInBounds_toArray, List.set_cons_zero, List.set_cons_succ, i64_w, i32_w]
          rfl
        refine pure_ (i := 6) (N := some 80) (v := undef) (a' := ?_) #[true, true, true, true, true, true, true, false, false, false, false, false, false, false, false, false, false, false, false, false, false, false] rfl rfl (any_of HT_.out (by kernel_rfl)) (fun _ _ _ h => h) (Or.inr ⟨by rfl, rfl⟩) ?_ ?_
        rotate_left
        · simp only [Act.put, List.setIfInBounds_toArray, List.set_cons_zero, List.set_cons_succ, i64_w, i32_w]
          rfl
        refine pure_ (i := 7) (N := some 81) (v := ?_) (a' := ?_) #[true, true, true, true, true, true, true, true, false, false, false, false, false, false, false, false, false, false, false, false, false, false] rfl rfl (any_of HT_.out (by kernel_rfl)) (fun _ _ _ h => h) (Or.inl ⟨by rfl, ?_⟩) ?_ ?_
        rotate_left
        · intro w'
          go_simp
          with_reducible rfl
        rotate_left
        · simp only [Act.put, List.setIfInBounds_toArray, List.set_cons_zero, List.set_cons_succ, i64_w, i32_w]
          rfl
        refine pure_ (i := 8) (N := some 82) (v := ?_) (a' := ?_) #[true, true, true, true, true, true, true, true, true, false, false, false, false, false, false, false, false, false, false, false, false, false] rfl rfl (any_of HT_.out (by kernel_rfl)) (fun _ _ _ h => h) (Or.inl ⟨by rfl, ?_⟩) ?_ ?_
        rotate_left
        · intro w'
          go_simp
          with_reducible rfl
        rotate_left
        · simp only [Act.put, List.setIfInBounds_toArray, List.set_cons_zero, List.set_cons_succ, i64_w, i32_w]
          rfl
        refine pure_ (i := 9) (N := some 83) (v := undef) (a' := ?_) #[true, true, true, true, true, true, true, true, true, true, false, false, false, false, false, false, false, false, false, false, false, false] rfl rfl (any_of HT_.out (by kernel_rfl)) (fun _ _ _ h => h) (Or.inr ⟨by rfl, rfl⟩) ?_ ?_
        rotate_left
        · simp only [Act.put, List.setIfInBounds_toArray, List.set_cons_zero, List.set_cons_succ, i64_w, i32_w]
          rfl
        refine pure_ (i := 10) (N := some 84) (v := undef) (a' := ?_) #[true, true, true, true, true, true, true, true, true, true, true, false, false, false, false, false, false, false, false, false, false, false] rfl rfl (any_of HT_.out (by kernel_rfl)) (fun _ _ _ h => h) (Or.inr ⟨by rfl, rfl⟩) ?_ ?_
        rotate_left
        · simp only [Act.put, List.setIfInBounds_toArray, List.set_cons_zero, List.set_cons_succ, i64_w, i32_w]
          rfl
        refine pure_ (i := 11) (N := some 85) (v := undef) (a' := ?_) #[true, true, true, true, true, true, true, true, true, true, true, true, false, false, false, false, false, false, false, false, false, false] rfl rfl (any_of HT_.out (by kernel_rfl)) (fun _ _ _ h => h) (Or.inr ⟨by rfl, rfl⟩) ?_ ?_
        rotate_left
        · simp only [Act.put, List.setIfInBounds_toArray, List.set_cons_zero, List.set_cons_succ, i64_w, i32_w]
          rfl
        refine pure_ (i := 12) (N := some 86) (v := undef) (a' := ?_) #[true, true, true, true, true, true, true, true, true, true, true, true, true, false, false, false, false, false, false, false, false, false] rfl rfl (any_of HT_.out (by kernel_rfl)) (fun _ _ _ h => h) (Or.inr ⟨by rfl, rfl⟩) ?_ ?_
        rotate_left
        · simp only [Act.put, List.setIfInBounds_toArray, List.set_cons_zero, List.set_cons_succ, i64_w, i32_w]
          rfl
        refine pure_ (i := 13) (N := some 87) (v := undef) (a' := ?_) #[true, true, true, true, true, true, true, true, true, true, true, true, true, true, false, false, false, false, false, false, false, false] rfl rfl (any_of HT_.out (by kernel_rfl)) (fun _ _ _ h => h) (Or.inr ⟨by rfl, rfl⟩) ?_ ?_
        rotate_left
        · simp only [Act.put, List.setIfInBounds_toArray, List.set_cons_zero, List.set_cons_succ, i64_w, i32_w]
          rfl
        refine pure_ (i := 14) (N := some 88) (v := undef) (a' := ?_) #[true, true, true, true, true, true, true, true, true, true, true, true, true, true, true, false, false, false, false, false, false, false] rfl rfl (any_of HT_.out (by kernel_rfl)) (fun _ _ _ h => h) (Or.inr ⟨by rfl, rfl⟩) ?_ ?_
        rotate_left
        · simp only [Act.put, List.setIfInBounds_toArray, List.set_cons_zero, List.set_cons_succ, i64_w, i32_w]
          rfl
        refine pure_ (i := 15) (N := some 89) (v := undef) (a' := ?_) #[true, true, true, true, true, true, true, true, true, true, true, true, true, true, true, true, false, false, false, false, false, false] rfl rfl (any_of HT_.out (by kernel_rfl)) (fun _ _ _ h => h) (Or.inr ⟨by rfl, rfl⟩) ?_ ?_
        rotate_left
        · simp only [Act.put, List.setIfInBounds_toArray, List.set_cons_zero, List.set_cons_succ, i64_w, i32_w]
          rfl
        refine pure_ (i := 16) (N := some 90) (v := undef) (a' := ?_) #[true, true, true, true, true, true, true, true, true, true, true, true, true, true, true, true, true, false, false, false, false, false] rfl rfl (any_of HT_.out (by kernel_rfl)) (fun _ _ _ h => h) (Or.inr ⟨by rfl, rfl⟩) ?_ ?_
        rotate_left
        · simp only [Act.put, List.setIfInBounds_toArray, List.set_cons_zero, List.set_cons_succ, i64_w, i32_w]
          rfl
        refine pure_ (i := 17) (N := some 91) (v := undef) (a' := ?_) #[true, true, true, true, true, true, true, true, true, true, true, true, true, true, true, true, true, true, false, false, false, false] rfl rfl (any_of HT_.out (by kernel_rfl)) (fun _ _ _ h => h) (Or.inr ⟨by rfl, rfl⟩) ?_ ?_
        rotate_left
        · simp only [Act.put, List.setIfInBounds_toArray, List.set_cons_zero, List.set_cons_succ, i64_w, i32_w]
          rfl
        refine pure_ (i := 18) (N := some 92) (v := undef) (a' := ?_) #[true, true, true, true, true, true, true, true, true, true, true, true, true, true, true, true, true, true, true, false, false, false] rfl rfl (any_of HT_.out (by kernel_rfl)) (fun _ _ _ h => h) (Or.inr ⟨by rfl, rfl⟩) ?_ ?_
        rotate_left
        · simp only [Act.put, List.setIfInBounds_toArray, List.set_cons_zero, List.set_cons_succ, i64_w, i32_w]
          rfl
        refine pure_ (i := 19) (N := some 93) (v := undef) (a' := ?_) #[true, true, true, true, true, true, true, true, true, true, true, true, true, true, true, true, true, true, true, true, false, false] rfl rfl (any_of HT_.out (by kernel_rfl)) (fun _ _ _ h => h) (Or.inr ⟨by rfl, rfl⟩) ?_ ?_
        rotate_left
        · simp only [Act.put, List.setIfInBounds_toArray, List.set_cons_zero, List.set_cons_succ, i64_w, i32_w]
          rfl
        refine pure_ (i := 20) (N := some 94) (v := undef) (a' := ?_) #[true, true, true, true, true, true, true, true, true, true, true, true, true, true, true, true, true, true, true, true, true, false] rfl rfl (any_of HT_.out (by kernel_rfl)) (fun _ _ _ h => h) (Or.inr ⟨by rfl, rfl⟩) ?_ ?_
        rotate_left
        · simp only [Act.put, List.setIfInBounds_toArray, List.set_cons_zero, List.set_cons_succ, i64_w, i32_w]
          rfl
        refine pure_ (i := 21) (N := some 95) (v := ?_) (a' := ?_) #[true, true, true, true, true, true, true, true, true, true, true, true, true, true, true, true, true, true, true, true, true, true] rfl rfl (any_of HT_.out (by kernel_rfl)) (fun _ _ _ h => h) (Or.inl ⟨by rfl, ?_⟩) ?_ ?_
        rotate_left
        · intro w'
          go_simp
          with_reducible rfl
        rotate_left
        · simp only [Act.put, List.setIfInBounds_toArray, List.set_cons_zero, List.set_cons_succ, i64_w, i32_w]
          rfl
        refine done_ (done_of HT_.out (by kernel_rfl)) ?_
        have y0 : w5.cell? ⟨gs, 0, none⟩ = some (.int .i64 q1) := (blk_cell Y5.out 0).trans rfl
        have y1 : w5.cell? ⟨gs, 1, none⟩ = some (.bool q2) := (blk_cell Y5.out 1).trans rfl
        obtain ⟨⟨hc0, hc1, hc2, hc3⟩, hf0, hf1, hf2, hf3⟩ := I5.out.c8
        have HWI := Aside0.mk (show wrap64 (i + 1) = i + 1 from by have := C5.out; have := HL.out; have := I00.out; unfold wrap64; omega)
        have hgo := HG.out
        by_cases c9 : 65536 < q1
        · have c9b : decide (65536 < q1) = true := decide_eq_true c9
          rw [if_pos c9] at hgo
          simp only [Option.some.injEq, Prod.mk.injEq] at hgo
          obtain ⟨rfl, rfl, rfl, rfl, rfl⟩ := hgo
          clear c9 HG
          cases gone with
          | true =>
            go_wp2
            have w0 := blk_put (blk_put (blk_put (blk_put I5.out.out 0 (.int .i64 0) rfl) 1 (.bool false) rfl) 2 (.int .i64 0) rfl) 3 (.int .i64 0) rfl
            refine bodyPost_ret (ref_MMap.res rfl rfl w0) rfl ?_
            exact ⟨rfl, below_set (below_set (below_set (below_set I5.out.below (Nat.le_refl _)) (Nat.le_refl _)) (Nat.le_refl _)) (Nat.le_refl _)⟩
          | false =>
            go_wp2
            have w0 := blk_put (blk_put (blk_put (blk_put I5.out.out 0 (.int .i64 0) rfl) 1 (.bool false) rfl) 2 (.int .i64 0) rfl) 3 (.int .i64 0) rfl
            refine bodyPost_ret (ref_MMap.res rfl rfl w0) rfl ?_
            exact ⟨rfl, below_set (below_set (below_set (below_set I5.out.below (Nat.le_refl _)) (Nat.le_refl _)) (Nat.le_refl _)) (Nat.le_refl _)⟩
        · have c9b : decide (65536 < q1) = false := decide_eq_false c9
          rw [if_neg c9] at hgo
          have HG2 := Aside0.mk hgo
          clear c9 HG hgo
          cases gone with
          | true =>
            go_wp2
            go_roundg f
            case measure => omega
            case rel => exact ⟨i + 1, q1, _, rfl, rfl, by rw [HWI.out], ⟨I5.out.next (by simpa using HG2.out) (by have := I00.out; omega) (by have := C5.out; omega)⟩⟩
          | false =>
            go_wp2
            go_roundg f
            case measure => omega
            case rel => exact ⟨i + 1, q1, _, rfl, rfl, by rw [HWI.out], ⟨I5.out.next (by simpa using HG2.out) (by have := I00.out; omega) (by have := C5.out; omega)⟩⟩
      have m1b : decide (0 ≤ q3) = true := decide_eq_true m1
      by_cases m2 : i < (oneAt l i).mirror
      · have m2b : decide (i < (oneAt l i).mirror) = true := decide_eq_true m2
        have J := Aside0.mk (And.intro (show 0 ≤ (oneAt l i).mirror by have := I00.out; omega) (HMI.out _ (oneAt_mem I00.out C5.out)))
        have j0t := eq_true J.out.1
        have j1t := eq_true J.out.2
        obtain ⟨ad_, A3, c3, eA3, en0, en1, lc3, kc3⟩ := at_Laid (Kd.R_reads' I3.out.row).2.2 (oneAt l i).mirror J.out.1 J.out.2
        cases eA3
        clear en1 lc3 kc3
        by_cases m3 : q3 < ((oneAt l (oneAt l i).mirror).m.length : Int)
        · have m3b : decide (q3 < ((oneAt l (oneAt l i).mirror).m.length : Int)) = true := decide_eq_true m3
          have hgo := HG.out
          rw [if_pos (show pos_MMap.mir l i (q1, q2, q3, q4, q5) = true by unfold pos_MMap.mir; dsimp only; rw [m1b, m2b, m3b]; rfl)] at hgo
          obtain ⟨⟨x1, x2⟩, hx, hgo⟩ := Option.bind_eq_some_iff.1 hgo
          dsimp only at hx hgo
          have HX := Aside0.mk hx
          have HGN := Aside0.mk hgo
          have M1 := Aside0.mk m1
          have M3 := Aside0.mk m3
          have m1t := eq_true m1
          have m3t := eq_true m3
          clear hgo hx m1 m2 m3
          go_wp2
          refine start_ (n := 22) (S := fun w' => w'.cell? ⟨gs, 2, none⟩ = some (.int .i64 q3) ∧ w'.cell? ⟨b, 0, none⟩ = some (.slice (some ad) l.length c) ∧ w'.cell? (ad.add ((oneAt l i).mirror.toNat * 2)) = some (.slice A3 (oneAt l (oneAt l i).mirror).m.length c3)) (ds := []) #[false, false, false, false, false, false, false, false, false, false, false, false, false, false, false, false, false, false, false, false, false, false] (by kernel_rfl) rfl rfl ⟨t2, s0, en0⟩ (fun hHeld => ?_)
          refine with_tabW ref_MMap.tab12 ref_MMap.bits12 (fun HT_ HW_ => ?_)
          have I5 := Aside0.mk (I3.out.weak (Below.drew (Below.refl _ w4)))
          have Y5 := Aside0.mk (blk_drew YB.out)
          clear I3 YB
          generalize w4.drew = w5 at *
          refine pure_ (i := 0) (N := some 74) (v := ?_) (a' := ?_) #[true, false, false, false, false, false, false, false, false, false, false, false, false, false, false, false, false, false, false, false, false, false] rfl rfl (any_of HT_.out (by kernel_rfl)) (fun _ _ _ h => h) (Or.inl ⟨by rfl, ?_⟩) ?_ ?_
          rotate_left
          · intro w'
            go_simp
            with_reducible rfl
          rotate_left
          · simp only [Act.put, List.setIfInBounds_toArray, List.set_cons_zero, List.set_cons_succ, i64_w, i32_w]
            rfl
          refine take_ (i := 1) (N := some 75) (v := ?_) (a' := ?_) #[true, true, false, false, false, false, false, false, false, false, false, false, false, false, false, false, false, false, false, false, false, false] rfl rfl (take_ofW HT_.out HW_.out (by kernel_rfl)) (fun _ _ _ h => h) (Or.inl ⟨by rfl, ?_⟩) hHeld ?_ ?_
          rotate_left
          · rintro w' ⟨s0, s1, s2⟩
            go_simp
            with_reducible rfl
          rotate_left
          · simp only [Act.put, List.setIfInBounds_toArray, List.set_cons_zero, List.set_cons_succ, i64_w, i32_w]
            rfl
          refine pure_ (i := 2) (N := some 76) (v := ?_) (a' := ?_) #[true, true, true, false, false, false, false, false, false, false, false, false, false, false, false, false, false, false, false, false, false, false] rfl rfl (any_of HT_.out (by kernel_rfl)) (fun _ _ _ h => h) (Or.inl ⟨by rfl, ?_⟩) ?_ ?_
          rotate_left
          · intro w'
            go_simp
            with_reducible rfl
          rotate_left
          · simp only [Act.put, List.setIfInBounds_toArray, List.set_cons_zero, List.set_cons_succ, i64_w, i32_w]
            rfl
          refine pure_ (i := 3) (N := some 77) (v := ?_) (a' := ?_) #[true, true, true, true, false, false, false, false, false, false, false, false, false, false, false, false, false, false, false, false, false, false] rfl rfl (any_of HT_.out (by kernel_rfl)) (fun _ _ _ h => h) (Or.inl ⟨by rfl, ?_⟩) ?_ ?_
          rotate_left
          · intro w'
            go_simp
            with_reducible rfl
          rotate_left
          · simp only [Act.put, List.setIfInBounds_toArray, List.set_cons_zero, List.set_cons_succ, i64_w, i32_w]
            rfl
          refine pure_ (i := 4) (N := some 78) (v := ?_) (a' := ?_) #[true, true, true, true, true, false, false, false, false, false, false, false, false, false, false, false, false, false, false, false, false, false] rfl rfl (any_of HT_.out (by kernel_rfl)) (fun _ _ _ h => h) (Or.inl ⟨by rfl, ?_⟩) ?_ ?_
          rotate_left
          · intro w'
            go_simp
            with_reducible rfl
          rotate_left
          · simp only [Act.put, List.setIfInBounds_toArray, List.set_cons_zero, List.set_cons_succ, i64_w, i32_w]
            rfl
          refine pure_ (i := 5) (N := some 79) (v := ?_) (a' := ?_) #[true, true, true, true, true, true, false, false, false, false, false, false, false, false, false, false, false, false, false, false, false, false] rfl rfl (any_of HT_.out (by kernel_rfl)) (fun _ _ _ h => h) (Or.inl ⟨by rfl, ?_⟩) ?_ ?_
          rotate_left
          · intro w'
            go_simp
            with_reducible rfl
          rotate_left
          · simp only [Act.put, List.setIfInBounds_toArray, List.set_cons_zero, List.set_cons_succ, i64_w, i32_w]
            rfl
          refine pure_ (i := 6) (N := some 80) (v := ?_) (a' := ?_) #[true, true, true, true, true, true, true, false, false, false, false, false, false, false, false, false, false, false, false, false, false, false] rfl rfl (any_of HT_.out (by kernel_rfl)) (fun _ _ _ h => h) (Or.inl ⟨by rfl, ?_⟩) ?_ ?_
          rotate_left
          · intro w'
            go_simp
            with_reducible rfl
          rotate_left
          · simp only [Act.put, List.setIfInBounds_toArray, List.set_cons_zero, List.set_cons_succ, i64_w, i32_w]
            rfl
          refine pure_ (i := 7) (N := some 81) (v := ?_) (a' := ?_) #[true, true, true, true, true, true, true, true, false, false, false, false, false, false, false, false, false, false, false, false, false, false] rfl rfl (any_of HT_.out (by kernel_rfl)) (fun _ _ _ h => h) (Or.inl ⟨by rfl, ?_⟩) ?_ ?_
          rotate_left
          · intro w'
            go_simp
            with_reducible rfl
          rotate_left
          · simp only [Act.put, List.setIfInBounds_toArray, List.set_cons_zero, List.set_cons_succ, i64_w, i32_w]
            rfl
          refine pure_ (i := 8) (N := some 82) (v := ?_) (a' := ?_) #[true, true, true, true, true, true, true, true, true, false, false, false, false, false, false, false, false, false, false, false, false, false] rfl rfl (any_of HT_.out (by kernel_rfl)) (fun _ _ _ h => h) (Or.inl ⟨by rfl, ?_⟩) ?_ ?_
          rotate_left
          · intro w'
            go_simp
            with_reducible rfl
          rotate_left
          · simp only [Act.put, List.setIfInBounds_toArray, List.set_cons_zero, List.set_cons_succ, i64_w, i32_w]
            rfl
          refine pure_ (i := 9) (N := some 83) (v := ?_) (a' := ?_) #[true, true, true, true, true, true, true, true, true, true, false, false, false, false, false, false, false, false, false, false, false, false] rfl rfl (any_of HT_.out (by kernel_rfl)) (fun _ _ _ h => h) (Or.inl ⟨by rfl, ?_⟩) ?_ ?_
          rotate_left
          · intro w'
            go_simp
            with_reducible rfl
          rotate_left
          · simp only [Act.put, List.setIfInBounds_toArray, List.set_cons_zero, List.set_cons_succ, i64_w, i32_w]
            rfl
          refine take_ (i := 10) (N := some 84) (v := ?_) (a' := ?_) #[true, true, true, true, true, true, true, true, true, true, true, false, false, false, false, false, false, false, false, false, false, false] rfl rfl (take_ofW HT_.out HW_.out (by kernel_rfl)) (fun _ _ _ h => h) (Or.inl ⟨by rfl, ?_⟩) hHeld ?_ ?_
          rotate_left
          · rintro w' ⟨s0, s1, s2⟩
            go_simp
            with_reducible rfl
          rotate_left
          · simp only [Act.put, List.setIfInBounds_toArray, List.set_cons_zero, List.set_cons_succ, i64_w, i32_w]
            rfl
          refine pure_ (i := 11) (N := some 85) (v := ?_) (a' := ?_) #[true, true, true, true, true, true, true, true, true, true, true, true, false, false, false, false, false, false, false, false, false, false] rfl rfl (any_of HT_.out (by kernel_rfl)) (fun _ _ _ h => h) (Or.inl ⟨by rfl, ?_⟩) ?_ ?_
          rotate_left
          · intro w'
            go_simp
            with_reducible rfl
          rotate_left
          · simp only [Act.put, List.setIfInBounds_toArray, List.set_cons_zero, List.set_cons_succ, i64_w, i32_w]
            rfl
          refine pure_ (i := 12) (N := some 86) (v := ?_) (a' := ?_) #[true, true, true, true, true, true, true, true, true, true, true, true, true, false, false, false, false, false, false, false, false, false] rfl rfl (any_of HT_.out (by kernel_rfl)) (fun _ _ _ h => h) (Or.inl ⟨by rfl, ?_⟩) ?_ ?_
          rotate_left
          · intro w'
            go_simp
            with_reducible rfl
          rotate_left
          · simp only [Act.put, List.setIfInBounds_toArray, List.set_cons_zero, List.set_cons_succ, i64_w, i32_w]
            rfl
          refine pure_ (i := 13) (N := some 87) (v := ?_) (a' := ?_) #[true, true, true, true, true, true, true, true, true, true, true, true, true, true, false, false, false, false, false, false, false, false] rfl rfl (any_of HT_.out (by kernel_rfl)) (fun _ _ _ h => h) (Or.inl ⟨by rfl, ?_⟩) ?_ ?_
          rotate_left
          · intro w'
            go_simp
            with_reducible rfl
          rotate_left
          · simp only [Act.put, List.setIfInBounds_toArray, List.set_cons_zero, List.set_cons_succ, i64_w, i32_w]
            rfl
          refine take_ (i := 14) (N := some 88) (v := ?_) (a' := ?_) #[true, true, true, true, true, true, true, true, true, true, true, true, true, true, true, false, false, false, false, false, false, false] rfl rfl (take_ofW HT_.out HW_.out (by kernel_rfl)) (fun _ _ _ h => h) (Or.inl ⟨by rfl, ?_⟩) hHeld ?_ ?_
          rotate_left
          · rintro w' ⟨s0, s1, s2⟩
            go_simp
            with_reducible rfl
          rotate_left
          · simp only [Act.put, List.setIfInBounds_toArray, List.set_cons_zero, List.set_cons_succ, i64_w, i32_w]
            rfl
          refine pure_ (i := 15) (N := some 89) (v := ?_) (a' := ?_) #[true, true, true, true, true, true, true, true, true, true, true, true, true, true, true, true, false, false, false, false, false, false] rfl rfl (any_of HT_.out (by kernel_rfl)) (fun _ _ _ h => h) (Or.inl ⟨by rfl, ?_⟩) ?_ ?_
          rotate_left
          · intro w'
            go_simp
            with_reducible rfl
          rotate_left
          · simp only [Act.put, List.setIfInBounds_toArray, List.set_cons_zero, List.set_cons_succ, i64_w, i32_w]
            rfl
          refine pure_ (i := 16) (N := some 90) (v := ?_) (a' := ?_) #[true, true, true, true, true, true, true, true, true, true, true, true, true, true, true, true, true, false, false, false, false, false] rfl rfl (any_of HT_.out (by kernel_rfl)) (fun _ _ _ h => h) (Or.inl ⟨by rfl, ?_⟩) ?_ ?_
          rotate_left
          · intro w'
            go_simp
            with_reducible rfl
          rotate_left
          · simp only [Act.put, List.setIfInBounds_toArray, List.set_cons_zero, List.set_cons_succ, i64_w, i32_w]
            rfl
          refine pure_ (i := 17) (N := some 91) (v := ?_) (a' := ?_) #[true, true, true, true, true, true, true, true, true, true, true, true, true, true, true, true, true, true, false, false, false, false] rfl rfl (any_of HT_.out (by kernel_rfl)) (fun _ _ _ h => h) (Or.inl ⟨by rfl, ?_⟩) ?_ ?_
          rotate_left
          · intro w'
            go_simp
            with_reducible rfl
          rotate_left
          · simp only [Act.put, List.setIfInBounds_toArray, List.set_cons_zero, List.set_cons_succ, i64_w, i32_w]
            rfl
          refine take_ (i := 18) (N := some 92) (v := ?_) (a' := ?_) #[true, true, true, true, true, true, true, true, true, true, true, true, true, true, true, true, true, true, true, false, false, false] rfl rfl (take_ofW HT_.out HW_.out (by kernel_rfl)) (fun _ _ _ h => h) (Or.inl ⟨by rfl, ?_⟩) hHeld ?_ ?_
          rotate_left
          · rintro w' ⟨s0, s1, s2⟩
            go_simp
            with_reducible rfl
          rotate_left
          · simp only [Act.put, List.setIfInBounds_toArray, List.set_cons_zero, List.set_cons_succ, i64_w, i32_w]
            rfl
          refine pure_ (i := 19) (N := some 93) (v := ?_) (a' := ?_) #[true, true, true, true, true, true, true, true, true, true, true, true, true, true, true, true, true, true, true, true, false, false] rfl rfl (any_of HT_.out (by kernel_rfl)) (fun _ _ _ h => h) (Or.inl ⟨by rfl, ?_⟩) ?_ ?_
          rotate_left
          · intro w'
            go_simp
            with_reducible rfl
          rotate_left
          · simp only [Act.put, List.setIfInBounds_toArray, List.set_cons_zero, List.set_cons_succ, i64_w, i32_w]
            rfl
          refine pure_ (i := 20) (N := some 94) (v := ?_) (a' := ?_) #[true, true, true, true, true, true, true, true, true, true, true, true, true, true, true, true, true, true, true, true, true, false] rfl rfl (any_of HT_.out (by kernel_rfl)) (fun _ _ _ h => h) (Or.inl ⟨by rfl, ?_⟩) ?_ ?_
          rotate_left
          · intro w'
            go_simp
            with_reducible rfl
          rotate_left
          · simp only [Act.put, List.setIfInBounds_toArray, List.set_cons_zero, List.set_cons_succ, i64_w, i32_w]
            rfl
          refine pure_ (i := 21) (N := some 95) (v := ?_) (a' := ?_) #[true, true, true, true, true, true, true, true, true, true, true, true, true, true, true, true, true, true, true, true, true, true] rfl rfl (any_of HT_.out (by kernel_rfl)) (fun _ _ _ h => h) (Or.inl ⟨by rfl, ?_⟩) ?_ ?_
          rotate_left
          · intro w'
            go_simp
            with_reducible rfl
          rotate_left
          · simp only [Act.put, List.setIfInBounds_toArray, List.set_cons_zero, List.set_cons_succ, i64_w, i32_w]
            rfl
          refine done_ (done_of HT_.out (by kernel_rfl)) ?_
          clear en0
          obtain ⟨ad_, A3, c3, eA3, en0, _, lc3, kc3⟩ := at_Laid (Kd.R_reads' I5.out.row).2.2 (oneAt l i).mirror J.out.1 J.out.2
          cases eA3
          obtain ⟨ae, eE, _, _, u2⟩ := at_T37 (Kd.C_below kc3 I5.out.zero) q3 M1.out M3.out
          subst eE
          have KC3 := Aside0.mk kc3
          have LC3 := Aside0.mk lc3
          have s0 : w5.cell? ⟨b, 0, none⟩ = some (.slice (some ad) l.length c) := (blk_cell I5.out.map 0).trans rfl
          have t2 : w5.cell? ⟨gs, 2, none⟩ = some (.int .i64 q3) := (blk_cell Y5.out 2).trans rfl
          have t3 : w5.cell? ⟨gs, 3, none⟩ = some (.int .i64 q4) := (blk_cell Y5.out 3).trans rfl
          clear kc3 lc3
          go_wp2
          refine start_ (n := 32) (S := fun w' => w'.cell? ⟨gs, 2, none⟩ = some (.int .i64 q3) ∧ w'.cell? ⟨gs, 3, none⟩ = some (.int .i64 q4) ∧ w'.cell? ⟨b, 0, none⟩ = some (.slice (some ad) l.length c) ∧ w'.cell? (ad.add ((oneAt l i).mirror.toNat * 2)) = some (.slice (some ae) (oneAt l (oneAt l i).mirror).m.length c3) ∧ w'.cell? ⟨(ae.add (q3.toNat * 3)).block, (ae.add (q3.toNat * 3)).off + 2, none⟩ = some (.int .i64 (rd_T37 (oneAt l (oneAt l i).mirror).m q3).f2)) (ds := []) #[false, false, false, false, false, false, false, false, false, false, false, false, false, false, false, false, false, false, false, false, false, false, false, false, false, false, false, false, false, false, false, false] (by kernel_rfl) rfl rfl ⟨t2, t3, s0, en0, u2⟩ (fun hHeld => ?_)
          refine with_tabW ref_MMap.tab13 ref_MMap.bits13 (fun HT_ HW_ => ?_)
          have I6 := Aside0.mk (I5.out.weak (Below.drew (Below.refl _ w5)))
          have Y6 := Aside0.mk (blk_drew Y5.out)
          clear I5 Y5
          generalize w5.drew = w6 at *
          refine pure_ (i := 0) (N := some 97) (v := ?_) (a' := ?_) #[true, false, false, false, false, false, false, false, false, false, false, false, false, false, false, false, false, false, false, false, false, false, false, false, false, false, false, false, false, false, false, false] rfl rfl (any_of HT_.out (by kernel_rfl)) (fun _ _ _ h => h) (Or.inl ⟨by rfl, ?_⟩) ?_ ?_
          rotate_left
          · intro w'
            go_simp
            with_reducible rfl
          rotate_left
          · simp only [Act.put, List.setIfInBounds_toArray, List.set_cons_zero, List.set_cons_succ, i64_w, i32_w]
            rfl
          refine pure_ (i := 1) (N := some 98) (v := ?_) (a' := ?_) #[true, true, false, false, false, false, false, false, false, false, false, false, false, false, false, false, false, false, false, false, false, false, false, false, false, false, false, false, false, false, false, false] rfl rfl (any_of HT_.out (by kernel_rfl)) (fun _ _ _ h => h) (Or.inl ⟨by rfl, ?_⟩) ?_ ?_
          rotate_left
          · intro w'
            go_simp
            with_reducible rfl
          rotate_left
          · simp only [Act.put, List.setIfInBounds_toArray, List.set_cons_zero, List.set_cons_succ, i64_w, i32_w]
            rfl
          refine pure_ (i := 2) (N := some 99) (v := ?_) (a' := ?_) #[true, true, true, false, false, false, false, false, false, false, false, false, false, false, false, false, false, false, false, false, false, false, false, false, false, false, false, false, false, false, false, false] rfl rfl (any_of HT_.out (by kernel_rfl)) (fun _ _ _ h => h) (Or.inl ⟨by rfl, ?_⟩) ?_ ?_
          rotate_left
          · intro w'
            go_simp
            with_reducible rfl
          rotate_left
          · simp only [Act.put, List.setIfInBounds_toArray, List.set_cons_zero, List.set_cons_succ, i64_w, i32_w]
            rfl
          refine take_ (i := 3) (N := some 100) (v := ?_) (a' := ?_) #[true, true, true, true, false, false, false, false, false, false, false, false, false, false, false, false, false, false, false, false, false, false, false, false, false, false, false, false, false, false, false, false] rfl rfl (take_ofW HT_.out HW_.out (by kernel_rfl)) (fun _ _ _ h => h) (Or.inl ⟨by rfl, ?_⟩) hHeld ?_ ?_
          rotate_left
          · rintro w' ⟨s0, s1, s2, s3, s4⟩
            go_simp
            with_reducible rfl
          rotate_left
          · simp only [Act.put, List.setIfInBounds_toArray, List.set_cons_zero, List.set_cons_succ, i64_w, i32_w]
            rfl
          refine pure_ (i := 4) (N := some 101) (v := ?_) (a' := ?_) #[true, true, true, true, true, false, false, false, false, false, false, false, false, false, false, false, false, false, false, false, false, false, false, false, false, false, false, false, false, false, false, false] rfl rfl (any_of HT_.out (by kernel_rfl)) (fun _ _ _ h => h) (Or.inl ⟨by rfl, ?_⟩) ?_ ?_
          rotate_left
          · intro w'
            go_simp
            with_reducible rfl
          rotate_left
          · simp only [Act.put, List.setIfInBounds_toArray, List.set_cons_zero, List.set_cons_succ, i64_w, i32_w]
            rfl
          refine pure_ (i := 5) (N := some 102) (v := ?_) (a' := ?_) #[true, true, true, true, true, true, false, false, false, false, false, false, false, false, false, false, false, false, false, false, false, false, false, false, false, false, false, false, false, false, false, false] rfl rfl (any_of HT_.out (by kernel_rfl)) (fun _ _ _ h => h) (Or.inl ⟨by rfl, ?_⟩) ?_ ?_
          rotate_left
          · intro w'
            go_simp
            with_reducible rfl
          rotate_left
          · simp only [Act.put, List.setIfInBounds_toArray, List.set_cons_zero, List.set_cons_succ, i64_w, i32_w]
            rfl
          refine pure_ (i := 6) (N := some 103) (v := ?_) (a' := ?_) #[true, true, true, true, true, true, true, false, false, false, false, false, false, false, false, false, false, false, false, false, false, false, false, false, false, false, false, false, false, false, false, false] rfl rfl (any_of HT_.out (by kernel_rfl)) (fun _ _ _ h => h) (Or.inl ⟨by rfl, ?_⟩) ?_ ?_
          rotate_left
          · intro w'
            go_simp
            with_reducible rfl
          rotate_left
          · simp only [Act.put, List.setIfInBounds_toArray, List.set_cons_zero, List.set_cons_succ, i64_w, i32_w]
            rfl
          refine take_ (i := 7) (N := some 104) (v := ?_) (a' := ?_) #[true, true, true, true, true, true, true, true, false, false, false, false, false, false, false, false, false, false, false, false, false, false, false, false, false, false, false, false, false, false, false, false] rfl rfl (take_ofW HT_.out HW_.out (by kernel_rfl)) (fun _ _ _ h => h) (Or.inl ⟨by rfl, ?_⟩) hHeld ?_ ?_
          rotate_left
          · rintro w' ⟨s0, s1, s2, s3, s4⟩
            go_simp
            with_reducible rfl
          rotate_left
          · simp only [Act.put, List.setIfInBounds_toArray, List.set_cons_zero, List.set_cons_succ, i64_w, i32_w]
            rfl
          refine pure_ (i := 8) (N := some 105) (v := ?_) (a' := ?_) #[true, true, true, true, true, true, true, true, true, false, false, false, false, false, false, false, false, false, false, false, false, false, false, false, false, false, false, false, false, false, false, false] rfl rfl (any_of HT_.out (by kernel_rfl)) (fun _ _ _ h => h) (Or.inl ⟨by rfl, ?_⟩) ?_ ?_
          rotate_left
          · intro w'
            go_simp
            with_reducible rfl
          rotate_left
          · simp only [Act.put, List.setIfInBounds_toArray, List.set_cons_zero, List.set_cons_succ, i64_w, i32_w]
            rfl
          refine take_ (i := 9) (N := some 106) (v := ?_) (a' := ?_) #[true, true, true, true, true, true, true, true, true, true, false, false, false, false, false, false, false, false, false, false, false, false, false, false, false, false, false, false, false, false, false, false] rfl rfl (take_ofW HT_.out HW_.out (by kernel_rfl)) (fun _ _ _ h => h) (Or.inl ⟨by rfl, ?_⟩) hHeld ?_ ?_
          rotate_left
          · rintro w' ⟨s0, s1, s2, s3, s4⟩
            go_simp
            with_reducible rfl
          rotate_left
          · simp only [Act.put, List.setIfInBounds_toArray, List.set_cons_zero, List.set_cons_succ, i64_w, i32_w]
            rfl
          refine pure_ (i := 10) (N := some 107) (v := ?_) (a' := ?_) #[true, true, true, true, true, true, true, true, true, true, true, false, false, false, false, false, false, false, false, false, false, false, false, false, false, false, false, false, false, false, false, false] rfl rfl (any_of HT_.out (by kernel_rfl)) (fun _ _ _ h => h) (Or.inl ⟨by rfl, ?_⟩) ?_ ?_
          rotate_left
          · intro w'
            go_simp
            with_reducible rfl
          rotate_left
          · simp only [Act.put, List.setIfInBounds_toArray, List.set_cons_zero, List.set_cons_succ, i64_w, i32_w]
            rfl
          refine take_ (i := 11) (N := some 108) (v := ?_) (a' := ?_) #[true, true, true, true, true, true, true, true, true, true, true, true, false, false, false, false, false, false, false, false, false, false, false, false, false, false, false, false, false, false, false, false] rfl rfl (take_ofW HT_.out HW_.out (by kernel_rfl)) (fun _ _ _ h => h) (Or.inl ⟨by rfl, ?_⟩) hHeld ?_ ?_
          rotate_left
          · rintro w' ⟨s0, s1, s2, s3, s4⟩
            go_simp
            with_reducible rfl
          rotate_left
          · simp only [Act.put, List.setIfInBounds_toArray, List.set_cons_zero, List.set_cons_succ, i64_w, i32_w]
            rfl
          refine pure_ (i := 12) (N := some 109) (v := ?_) (a' := ?_) #[true, true, true, true, true, true, true, true, true, true, true, true, true, false, false, false, false, false, false, false, false, false, false, false, false, false, false, false, false, false, false, false] rfl rfl (any_of HT_.out (by kernel_rfl)) (fun _ _ _ h => h) (Or.inl ⟨by rfl, ?_⟩) ?_ ?_
          rotate_left
          · intro w'
            go_simp
            with_reducible rfl
          rotate_left
          · simp only [Act.put, List.setIfInBounds_toArray, List.set_cons_zero, List.set_cons_succ, i64_w, i32_w]
            rfl
          refine pure_ (i := 13) (N := some 110) (v := ?_) (a' := ?_) #[true, true, true, true, true, true, true, true, true, true, true, true, true, true, false, false, false, false, false, false, false, false, false, false, false, false, false, false, false, false, false, false] rfl rfl (any_of HT_.out (by kernel_rfl)) (fun _ _ _ h => h) (Or.inl ⟨by rfl, ?_⟩) ?_ ?_
          rotate_left
          · intro w'
            go_simp
            with_reducible rfl
          rotate_left
          · simp only [Act.put, List.setIfInBounds_toArray, List.set_cons_zero, List.set_cons_succ, i64_w, i32_w]
            rfl
          refine pure_ (i := 14) (N := some 111) (v := ?_) (a' := ?_) #[true, true, true, true, true, true, true, true, true, true, true, true, true, true, true, false, false, false, false, false, false, false, false, false, false, false, false, false, false, false, false, false] rfl rfl (any_of HT_.out (by kernel_rfl)) (fun _ _ _ h => h) (Or.inl ⟨by rfl, ?_⟩) ?_ ?_
          rotate_left
          · intro w'
            go_simp
            with_reducible rfl
          rotate_left
          · simp only [Act.put, List.setIfInBounds_toArray, List.set_cons_zero, List.set_cons_succ, i64_w, i32_w]
            rfl
          refine take_ (i := 15) (N := some 112) (v := ?_) (a' := ?_) #[true, true, true, true, true, true, true, true, true, true, true, true, true, true, true, true, false, false, false, false, false, false, false, false, false, false, false, false, false, false, false, false] rfl rfl (take_ofW HT_.out HW_.out (by kernel_rfl)) (fun _ _ _ h => h) (Or.inl ⟨by rfl, ?_⟩) hHeld ?_ ?_
          rotate_left
          · rintro w' ⟨s0, s1, s2, s3, s4⟩
            go_simp
            with_reducible rfl
          rotate_left
          · simp only [Act.put, List.setIfInBounds_toArray, List.set_cons_zero, List.set_cons_succ, i64_w, i32_w]
            rfl
          refine pure_ (i := 16) (N := some 113) (v := ?_) (a' := ?_) #[true, true, true, true, true, true, true, true, true, true, true, true, true, true, true, true, true, false, false, false, false, false, false, false, false, false, false, false, false, false, false, false] rfl rfl (any_of HT_.out (by kernel_rfl)) (fun _ _ _ h => h) (Or.inl ⟨by rfl, ?_⟩) ?_ ?_
          rotate_left
          · intro w'
            go_simp
            with_reducible rfl
          rotate_left
          · simp only [Act.put, List.setIfInBounds_toArray, List.set_cons_zero, List.set_cons_succ, i64_w, i32_w]
            rfl
          refine pure_ (i := 17) (N := some 114) (v := ?_) (a' := ?_) #[true, true, true, true, true, true, true, true, true, true, true, true, true, true, true, true, true, true, false, false, false, false, false, false, false, false, false, false, false, false, false, false] rfl rfl (any_of HT_.out (by kernel_rfl)) (fun _ _ _ h => h) (Or.inl ⟨by rfl, ?_⟩) ?_ ?_
          rotate_left
          · intro w'
            go_simp
            with_reducible rfl
          rotate_left
          · simp only [Act.put, List.setIfInBounds_toArray, List.set_cons_zero, List.set_cons_succ, i64_w, i32_w]
            rfl
          refine pure_ (i := 18) (N := some 115) (v := ?_) (a' := ?_) #[true, true, true, true, true, true, true, true, true, true, true, true, true, true, true, true, true, true, true, false, false, false, false, false, false, false, false, false, false, false, false, false] rfl rfl (any_of HT_.out (by kernel_rfl)) (fun _ _ _ h => h) (Or.inl ⟨by rfl, ?_⟩) ?_ ?_
          rotate_left
          · intro w'
            go_simp
            with_reducible rfl
          rotate_left
          · simp only [Act.put, List.setIfInBounds_toArray, List.set_cons_zero, List.set_cons_succ, i64_w, i32_w]
            rfl
          refine take_ (i := 19) (N := some 116) (v := ?_) (a' := ?_) #[true, true, true, true, true, true, true, true, true, true, true, true, true, true, true, true, true, true, true, true, false, false, false, false, false, false, false, false, false, false, false, false] rfl rfl (take_ofW HT_.out HW_.out (by kernel_rfl)) (fun _ _ _ h => h) (Or.inl ⟨by rfl, ?_⟩) hHeld ?_ ?_
          rotate_left
          · rintro w' ⟨s0, s1, s2, s3, s4⟩
            go_simp
            with_reducible rfl
          rotate_left
          · simp only [Act.put, List.setIfInBounds_toArray, List.set_cons_zero, List.set_cons_succ, i64_w, i32_w]
            rfl
          refine pure_ (i := 20) (N := some 117) (v := ?_) (a' := ?_) #[true, true, true, true, true, true, true, true, true, true, true, true, true, true, true, true, true, true, true, true, true, false, false, false, false, false, false, false, false, false, false, false] rfl rfl (any_of HT_.out (by kernel_rfl)) (fun _ _ _ h => h) (Or.inl ⟨by rfl, ?_⟩) ?_ ?_
          rotate_left
          · intro w'
            go_simp
            with_reducible rfl
          rotate_left
          · simp only [Act.put, List.setIfInBounds_toArray, List.set_cons_zero, List.set_cons_succ, i64_w, i32_w]
            rfl
          refine take_ (i := 21) (N := some 118) (v := ?_) (a' := ?_) #[true, true, true, true, true, true, true, true, true, true, true, true, true, true, true, true, true, true, true, true, true, true, false, false, false, false, false, false, false, false, false, false] rfl rfl (take_ofW HT_.out HW_.out (by kernel_rfl)) (fun _ _ _ h => h) (Or.inl ⟨by rfl, ?_⟩) hHeld ?_ ?_
          rotate_left
          · rintro w' ⟨s0, s1, s2, s3, s4⟩
            go_simp
            with_reducible rfl
          rotate_left
          · simp only [Act.put, List.setIfInBounds_toArray, List.set_cons_zero, List.set_cons_succ, i64_w, i32_w]
            rfl
          refine pure_ (i := 22) (N := some 119) (v := ?_) (a' := ?_) #[true, true, true, true, true, true, true, true, true, true, true, true, true, true, true, true, true, true, true, true, true, true, true, false, false, false, false, false, false, false, false, false] rfl rfl (any_of HT_.out (by kernel_rfl)) (fun _ _ _ h => h) (Or.inl ⟨by rfl, ?_⟩) ?_ ?_
          rotate_left
          · intro w'
            go_simp
            with_reducible rfl
          rotate_left
          · simp only [Act.put, List.setIfInBounds_toArray, List.set_cons_zero, List.set_cons_succ, i64_w, i32_w]
            rfl
          refine pure_ (i := 23) (N := some 120) (v := ?_) (a' := ?_) #[true, true, true, true, true, true, true, true, true, true, true, true, true, true, true, true, true, true, true, true, true, true, true, true, false, false, false, false, false, false, false, false] rfl rfl (any_of HT_.out (by kernel_rfl)) (fun _ _ _ h => h) (Or.inl ⟨by rfl, ?_⟩) ?_ ?_
          rotate_left
          · intro w'
            go_simp
            with_reducible rfl
          rotate_left
          · simp only [Act.put, List.setIfInBounds_toArray, List.set_cons_zero, List.set_cons_succ, i64_w, i32_w]
            rfl
          refine take_ (i := 24) (N := some 121) (v := ?_) (a' := ?_) #[true, true, true, true, true, true, true, true, true, true, true, true, true, true, true, true, true, true, true, true, true, true, true, true, true, false, false, false, false, false, false, false] rfl rfl (take_ofW HT_.out HW_.out (by kernel_rfl)) (fun _ _ _ h => h) (Or.inl ⟨by rfl, ?_⟩) hHeld ?_ ?_
          rotate_left
          · rintro w' ⟨s0, s1, s2, s3, s4⟩
            go_simp
            with_reducible rfl
          rotate_left
          · simp only [Act.put, List.setIfInBounds_toArray, List.set_cons_zero, List.set_cons_succ, i64_w, i32_w]
            rfl
          refine pure_ (i := 25) (N := some 122) (v := ?_) (a' := ?_) #[true, true, true, true, true, true, true, true, true, true, true, true, true, true, true, true, true, true, true, true, true, true, true, true, true, true, false, false, false, false, false, false] rfl rfl (any_of HT_.out (by kernel_rfl)) (fun _ _ _ h => h) (Or.inl ⟨by rfl, ?_⟩) ?_ ?_
          rotate_left
          · intro w'
            go_simp
            with_reducible rfl
          rotate_left
          · simp only [Act.put, List.setIfInBounds_toArray, List.set_cons_zero, List.set_cons_succ, i64_w, i32_w]
            rfl
          refine one_ (i := 26) (N := some 123) #[true, true, true, true, true, true, true, true, true, true, true, true, true, true, true, true, true, true, true, true, true, true, true, true, true, true, true, false, false, false, false, false] rfl rfl (one_of HT_.out (by kernel_rfl)) (by decide) (fun K hK => ?_)
          refine goes_ Try.func21 (by kernel_rfl) rfl #[.slice (some ae) (oneAt l (oneAt l i).mirror).m.length c3, .int .i64 q3, .int .i64 (if (rd_T37 (oneAt l (oneAt l i).mirror).m q3).f2 < q4 then (rd_T37 (oneAt l (oneAt l i).mirror).m q3).f2 else q4)] (by rfl) rfl rfl (by simp only [List.map_toArray, List.map_cons, List.map_nil]; rfl) ?_
          refine (emenderref08_Recover.calls k (some ae) c3 (oneAt l (oneAt l i).mirror).m q3 (if (rd_T37 (oneAt l (oneAt l i).mirror).m q3).f2 < q4 then (rd_T37 (oneAt l (oneAt l i).mirror).m q3).f2 else q4) x1 x2 _ (Kd.C_below KC3.out I6.out.zero) LC3.out HX.out).mono ?_
          rintro e w7 ⟨rfl, hb⟩
          refine ⟨_, rfl, ?_⟩
          have I7 := Aside0.mk (I6.out.weak hb)
          have keep : ∀ (ad : Addr) (u : Value), w6.cell? ad = some u → w7.cell? ad = some u := fun ad u s => (hb.cell (World.block_lt_of_cell? w6 _ s)).trans s
          refine hK.out _ _ ⟨keep _ _ hHeld.1, keep _ _ hHeld.2.1, keep _ _ hHeld.2.2.1, keep _ _ hHeld.2.2.2.1, keep _ _ hHeld.2.2.2.2⟩ (fun hHeld => ?_)
          clear hK K keep hb I6
          refine norm_ (a' := ?_) ?_ ?_
          rotate_left
          · show Act.put _ (some 123) _ = _
            simp only [Act.put, List.setIfInBounds_toArray, List.set_cons_zero, List.set_cons_succ, i64_w, i32_w]
            rfl
          refine pure_ (i := 27) (N := some 96) (v := ?_) (a' := ?_) #[true, true, true, true, true, true, true, true, true, true, true, true, true, true, true, true, true, true, true, true, true, true, true, true, true, true, true, true, false, false, false, false] rfl rfl (any_of HT_.out (by kernel_rfl)) (fun _ _ _ h => h) (Or.inl ⟨by rfl, ?_⟩) ?_ ?_
          rotate_left
          · intro w'
            go_simp
            with_reducible rfl
          rotate_left
          · simp only [Act.put, List.setIfInBounds_toArray, List.set_cons_zero, List.set_cons_succ, i64_w, i32_w]
            rfl
          refine pure_ (i := 28) (N := some 124) (v := ?_) (a' := ?_) #[true, true, true, true, true, true, true, true, true, true, true, true, true, true, true, true, true, true, true, true, true, true, true, true, true, true, true, true, true, false, false, false] rfl rfl (any_of HT_.out (by kernel_rfl)) (fun _ _ _ h => h) (Or.inl ⟨by rfl, ?_⟩) ?_ ?_
          rotate_left
          · intro w'
            go_simp
            with_reducible rfl
          rotate_left
          · simp only [Act.put, List.setIfInBounds_toArray, List.set_cons_zero, List.set_cons_succ, i64_w, i32_w]
            rfl
          refine pure_ (i := 29) (N := some 125) (v := ?_) (a' := ?_) #[true, true, true, true, true, true, true, true, true, true, true, true, true, true, true, true, true, true, true, true, true, true, true, true, true, true, true, true, true, true, false, false] rfl rfl (any_of HT_.out (by kernel_rfl)) (fun _ _ _ h => h) (Or.inl ⟨by rfl, ?_⟩) ?_ ?_
          rotate_left
          · intro w'
            go_simp
            with_reducible rfl
          rotate_left
          · simp only [Act.put, List.setIfInBounds_toArray, List.set_cons_zero, List.set_cons_succ, i64_w, i32_w]
            rfl
          refine pure_ (i := 30) (N := some 16) (v := ?_) (a' := ?_) #[true, true, true, true, true, true, true, true, true, true, true, true, true, true, true, true, true, true, true, true, true, true, true, true, true, true, true, true, true, true, true, false] rfl rfl (any_of HT_.out (by kernel_rfl)) (fun _ _ _ h => h) (Or.inl ⟨by rfl, ?_⟩) ?_ ?_
          rotate_left
          · intro w'
            go_simp
            with_reducible rfl
          rotate_left
          · simp only [Act.put, List.setIfInBounds_toArray, List.set_cons_zero, List.set_cons_succ, i64_w, i32_w]
            rfl
          refine pure_ (i := 31) (N := some 17) (v := ?_) (a' := ?_) #[true, true, true, true, true, true, true, true, true, true, true, true, true, true, true, true, true, true, true, true, true, true, true, true, true, true, true, true, true, true, true, true] rfl rfl (any_of HT_.out (by kernel_rfl)) (fun _ _ _ h => h) (Or.inl ⟨by rfl, ?_⟩) ?_ ?_
          rotate_left
          · intro w'
            go_simp
            with_reducible rfl
          rotate_left
          · simp only [Act.put, List.setIfInBounds_toArray, List.set_cons_zero, List.set_cons_succ, i64_w, i32_w]
            rfl
          refine done_ (done_of HT_.out (by kernel_rfl)) ?_
          generalize (if (rd_T37 (oneAt l (oneAt l i).mirror).m q3).f2 < q4 then (rd_T37 (oneAt l (oneAt l i).mirror).m q3).f2 else q4) = mn at *
          obtain ⟨⟨hc0, hc1, hc2, hc3⟩, hf0, hf1, hf2, hf3⟩ := I7.out.c8
          have HWI := Aside0.mk (show wrap64 ((oneAt l i).mirror + 1) = (oneAt l i).mirror + 1 from by have := J.out; have := HL.out; unfold wrap64; omega)
          have hgo := HGN.out
          by_cases c9 : 65536 < x1
          · have c9b : decide (65536 < x1) = true := decide_eq_true c9
            rw [if_pos c9] at hgo
            simp only [Option.some.injEq, Prod.mk.injEq] at hgo
            obtain ⟨rfl, rfl, rfl, rfl, rfl⟩ := hgo
            clear c9 HG
            go_wp2
            have w0 := blk_put (blk_put (blk_put (blk_put I7.out.out 0 (.int .i64 0) rfl) 1 (.bool false) rfl) 2 (.int .i64 0) rfl) 3 (.int .i64 0) rfl
            refine bodyPost_ret (ref_MMap.res rfl rfl w0) rfl ?_
            exact ⟨rfl, below_set (below_set (below_set (below_set I7.out.below (Nat.le_refl _)) (Nat.le_refl _)) (Nat.le_refl _)) (Nat.le_refl _)⟩
          · have c9b : decide (65536 < x1) = false := decide_eq_false c9
            rw [if_neg c9] at hgo
            have HG2 := Aside0.mk hgo
            clear c9 HG hgo
            go_wp2
            go_roundg f
            case measure => omega
            case rel => exact ⟨(oneAt l i).mirror + 1, x1, gone, rfl, rfl, by rw [HWI.out], ⟨I7.out.next HG2.out (by have := J.out; omega) (by have := J.out; omega)⟩⟩
        · have m3b : decide (q3 < ((oneAt l (oneAt l i).mirror).m.length : Int)) = false := decide_eq_false m3
          have hgo := HG.out
          rw [if_neg (show ¬ pos_MMap.mir l i (q1, q2, q3, q4, q5) = true by unfold pos_MMap.mir; dsimp only; rw [m1b, m2b, m3b]; decide)] at hgo
          have HG := Aside0.mk hgo
          clear hgo m1 m2 m3
          go_wp2
          refine start_ (n := 22) (S := fun w' => w'.cell? ⟨gs, 2, none⟩ = some (.int .i64 q3) ∧ w'.cell? ⟨b, 0, none⟩ = some (.slice (some ad) l.length c) ∧ w'.cell? (ad.add ((oneAt l i).mirror.toNat * 2)) = some (.slice A3 (oneAt l (oneAt l i).mirror).m.length c3)) (ds := []) #[false, false, false, false, false, false, false, false, false, false, false, false, false, false, false, false, false, false, false, false, false, false] (by kernel_rfl) rfl rfl ⟨t2, s0, en0⟩ (fun hHeld => ?_)
          refine with_tabW ref_MMap.tab12 ref_MMap.bits12 (fun HT_ HW_ => ?_)
          have I5 := Aside0.mk (I3.out.weak (Below.drew (Below.refl _ w4)))
          have Y5 := Aside0.mk (blk_drew YB.out)
          clear I3 YB
          generalize w4.drew = w5 at *
          refine pure_ (i := 0) (N := some 74) (v := ?_) (a' := ?_) #[true, false, false, false, false, false, false, false, false, false, false, false, false, false, false, false, false, false, false, false, false, false] rfl rfl (any_of HT_.out (by kernel_rfl)) (fun _ _ _ h => h) (Or.inl ⟨by rfl, ?_⟩) ?_ ?_
          rotate_left
          · intro w'
            go_simp
            with_reducible rfl
          rotate_left
          · simp only [Act.put, List.setIfInBounds_toArray, List.set_cons_zero, List.set_cons_succ, i64_w, i32_w]
            rfl
          refine take_ (i := 1) (N := some 75) (v := ?_) (a' := ?_) #[true, true, false, false, false, false, false, false, false, false, false, false, false, false, false, false, false, false, false, false, false, false] rfl rfl (take_ofW HT_.out HW_.out (by kernel_rfl)) (fun _ _ _ h => h) (Or.inl ⟨by rfl, ?_⟩) hHeld ?_ ?_
          rotate_left
          · rintro w' ⟨s0, s1, s2⟩
            go_simp
            with_reducible rfl
          rotate_left
          · simp only [Act.put, List.setIfInBounds_toArray, List.set_cons_zero, List.set_cons_succ, i64_w, i32_w]
            rfl
          refine pure_ (i := 2) (N := some 76) (v := ?_) (a' := ?_) #[true, true, true, false, false, false, false, false, false, false, false, false, false, false, false, false, false, false, false, false, false, false] rfl rfl (any_of HT_.out (by kernel_rfl)) (fun _ _ _ h => h) (Or.inl ⟨by rfl, ?_⟩) ?_ ?_
          rotate_left
          · intro w'
            go_simp
            with_reducible rfl
          rotate_left
          · simp only [Act.put, List.setIfInBounds_toArray, List.set_cons_zero, List.set_cons_succ, i64_w, i32_w]
            rfl
          refine pure_ (i := 3) (N := some 77) (v := ?_) (a' := ?_) #[true, true, true, true, false, false, false, false, false, false, false, false, false, false, false, false, false, false, false, false, false, false] rfl rfl (any_of HT_.out (by kernel_rfl)) (fun _ _ _ h => h) (Or.inl ⟨by rfl, ?_⟩) ?_ ?_
          rotate_left
          · intro w'
            go_simp
            with_reducible rfl
          rotate_left
          · simp only [Act.put, List.setIfInBounds_toArray, List.set_cons_zero, List.set_cons_succ, i64_w, i32_w]
            rfl
          refine pure_ (i := 4) (N := some 78) (v := ?_) (a' := ?_) #[true, true, true, true, true, false, false, false, false, false, false, false, false, false, false, false, false, false, false, false, false, false] rfl rfl (any_of HT_.out (by kernel_rfl)) (fun _ _ _ h => h) (Or.inl ⟨by rfl, ?_⟩) ?_ ?_
          rotate_left
          · intro w'
            go_simp
            with_reducible rfl
          rotate_left
          · simp only [Act.put, List.setIfInBounds_toArray, List.set_cons_zero, List.set_cons_succ, i64_w, i32_w]
            rfl
          refine pure_ (i := 5) (N := some 79) (v := ?_) (a' := ?_) #[true, true, true, true, true, true, false, false, false, false, false, false, false, false, false, false, false, false, false, false, false, false] rfl rfl (any_of HT_.out (by kernel_rfl)) (fun _ _ _ h => h) (Or.inl ⟨by rfl, ?_⟩) ?_ ?_
          rotate_left
          · intro w'
            go_simp
            with_reducible rfl
          rotate_left
          · simp only [Act.put, List.setIfInBounds_toArray, List.set_cons_zero, List.set_cons_succ, i64_w, i32_w]
            rfl
          refine pure_ (i := 6) (N := some 80) (v := ?_) (a' := ?_) #[true, true, true, true, true, true, true, false, false, false, false, false, false, false, false, false, false, false, false, false, false, false] rfl rfl (any_of HT_.out (by kernel_rfl)) (fun _ _ _ h => h) (Or.inl ⟨by rfl, ?_⟩) ?_ ?_
          rotate_left
          · intro w'
            go_simp
            with_reducible rfl
          rotate_left
          · simp only [Act.put, List.setIfInBounds_toArray, List.set_cons_zero, List.set_cons_succ, i64_w, i32_w]
            rfl
          refine pure_ (i := 7) (N := some 81) (v := ?_) (a' := ?_) #[true, true, true, true, true, true, true, true, false, false, false, false, false, false, false, false, false, false, false, false, false, false] rfl rfl (any_of HT_.out (by kernel_rfl)) (fun _ _ _ h => h) (Or.inl ⟨by rfl, ?_⟩) ?_ ?_
          rotate_left
          · intro w'
            go_simp
            with_reducible rfl
          rotate_left
          · simp only [Act.put, List.setIfInBounds_toArray, List.set_cons_zero, List.set_cons_succ, i64_w, i32_w]
            rfl
          refine pure_ (i := 8) (N := some 82) (v := ?_) (a' := ?_) #[true, true, true, true, true, true, true, true, true, false, false, false, false, false, false, false, false, false, false, false, false, false] rfl rfl (any_of HT_.out (by kernel_rfl)) (fun _ _ _ h => h) (Or.inl ⟨by rfl, ?_⟩) ?_ ?_
          rotate_left
          · intro w'
            go_simp
            with_reducible rfl
          rotate_left
          · simp only [Act.put, List.setIfInBounds_toArray, List.set_cons_zero, List.set_cons_succ, i64_w, i32_w]
            rfl
          refine pure_ (i := 9) (N := some 83) (v := ?_) (a' := ?_) #[true, true, true, true, true, true, true, true, true, true, false, false, false, false, false, false, false, false, false, false, false, false] rfl rfl (any_of HT_.out (by kernel_rfl)) (fun _ _ _ h => h) (Or.inl ⟨by rfl, ?_⟩) ?_ ?_
          rotate_left
          · intro w'
            go_simp
            with_reducible rfl
          rotate_left
          · simp only [Act.put, List.setIfInBounds_toArray, List.set_cons_zero, List.set_cons_succ, i64_w, i32_w]
            rfl
          refine take_ (i := 10) (N := some 84) (v := ?_) (a' := ?_) #[true, true, true, true, true, true, true, true, true, true, true, false, false, false, false, false, false, false, false, false, false, false] rfl rfl (take_ofW HT_.out HW_.out (by kernel_rfl)) (fun _ _ _ h => h) (Or.inl ⟨by rfl, ?_⟩) hHeld ?_ ?_
          rotate_left
          · rintro w' ⟨s0, s1, s2⟩
            go_simp
            with_reducible rfl
          rotate_left
          · simp only [Act.put, List.setIfInBounds_toArray, List.set_cons_zero, List.set_cons_succ, i64_w, i32_w]
            rfl
          refine pure_ (i := 11) (N := some 85) (v := ?_) (a' := ?_) #[true, true, true, true, true, true, true, true, true, true, true, true, false, false, false, false, false, false, false, false, false, false] rfl rfl (any_of HT_.out (by kernel_rfl)) (fun _ _ _ h => h) (Or.inl ⟨by rfl, ?_⟩) ?_ ?_
          rotate_left
          · intro w'
            go_simp
            with_reducible rfl
          rotate_left
          · simp only [Act.put, List.setIfInBounds_toArray, List.set_cons_zero, List.set_cons_succ, i64_w, i32_w]
            rfl
          refine pure_ (i := 12) (N := some 86) (v := ?_) (a' := ?_) #[true, true, true, true, true, true, true, true, true, true, true, true, true, false, false, false, false, false, false, false, false, false] rfl rfl (any_of HT_.out (by kernel_rfl)) (fun _ _ _ h => h) (Or.inl ⟨by rfl, ?_⟩) ?_ ?_
          rotate_left
          · intro w'
            go_simp
            with_reducible rfl
          rotate_left
          · simp only [Act.put, List.setIfInBounds_toArray, List.set_cons_zero, List.set_cons_succ, i64_w, i32_w]
            rfl
          refine pure_ (i := 13) (N := some 87) (v := ?_) (a' := ?_) #[true, true, true, true, true, true, true, true, true, true, true, true, true, true, false, false, false, false, false, false, false, false] rfl rfl (any_of HT_.out (by kernel_rfl)) (fun _ _ _ h => h) (Or.inl ⟨by rfl, ?_⟩) ?_ ?_
          rotate_left
          · intro w'
            go_simp
            with_reducible rfl
          rotate_left
          · simp only [Act.put, List.setIfInBounds_toArray, List.set_cons_zero, List.set_cons_succ, i64_w, i32_w]
            rfl
          refine take_ (i := 14) (N := some 88) (v := ?_) (a' := ?_) #[true, true, true, true, true, true, true, true, true, true, true, true, true, true, true, false, false, false, false, false, false, false] rfl rfl (take_ofW HT_.out HW_.out (by kernel_rfl)) (fun _ _ _ h => h) (Or.inl ⟨by rfl, ?_⟩) hHeld ?_ ?_
          rotate_left
          · rintro w' ⟨s0, s1, s2⟩
            go_simp
            with_reducible rfl
          rotate_left
          · simp only [Act.put, List.setIfInBounds_toArray, List.set_cons_zero, List.set_cons_succ, i64_w, i32_w]
            rfl
          refine pure_ (i := 15) (N := some 89) (v := ?_) (a' := ?_) #[true, true, true, true, true, true, true, true, true, true, true, true, true, true, true, true, false, false, false, false, false, false] rfl rfl (any_of HT_.out (by kernel_rfl)) (fun _ _ _ h => h) (Or.inl ⟨by rfl, ?_⟩) ?_ ?_
          rotate_left
          · intro w'
            go_simp
            with_reducible rfl
          rotate_left
          · simp only [Act.put, List.setIfInBounds_toArray, List.set_cons_zero, List.set_cons_succ, i64_w, i32_w]
            rfl
          refine pure_ (i := 16) (N := some 90) (v := ?_) (a' := ?_) #[true, true, true, true, true, true, true, true, true, true, true, true, true, true, true, true, true, false, false, false, false, false] rfl rfl (any_of HT_.out (by kernel_rfl)) (fun _ _ _ h => h) (Or.inl ⟨by rfl, ?_⟩) ?_ ?_
          rotate_left
          · intro w'
            go_simp
            with_reducible rfl
          rotate_left
          · simp only [Act.put, List.setIfInBounds_toArray, List.set_cons_zero, List.set_cons_succ, i64_w, i32_w]
            rfl
          refine pure_ (i := 17) (N := some 91) (v := ?_) (a' := ?_) #[true, true, true, true, true, true, true, true, true, true, true, true, true, true, true, true, true, true, false, false, false, false] rfl rfl (any_of HT_.out (by kernel_rfl)) (fun _ _ _ h => h) (Or.inl ⟨by rfl, ?_⟩) ?_ ?_
          rotate_left
          · intro w'
            go_simp
            with_reducible rfl
          rotate_left
          · simp only [Act.put, List.setIfInBounds_toArray, List.set_cons_zero, List.set_cons_succ, i64_w, i32_w]
            rfl
          refine take_ (i := 18) (N := some 92) (v := ?_) (a' := ?_) #[true, true, true, true, true, true, true, true, true, true, true, true, true, true, true, true, true, true, true, false, false, false] rfl rfl (take_ofW HT_.out HW_.out (by kernel_rfl)) (fun _ _ _ h => h) (Or.inl ⟨by rfl, ?_⟩) hHeld ?_ ?_
          rotate_left
          · rintro w' ⟨s0, s1, s2⟩
            go_simp
            with_reducible rfl
          rotate_left
          · simp only [Act.put, List.setIfInBounds_toArray, List.set_cons_zero, List.set_cons_succ, i64_w, i32_w]
            rfl
          refine pure_ (i := 19) (N := some 93) (v := ?_) (a' := ?_) #[true, true, true, true, true, true, true, true, true, true, true, true, true, true, true, true, true, true, true, true, false, false] rfl rfl (any_of HT_.out (by kernel_rfl)) (fun _ _ _ h => h) (Or.inl ⟨by rfl, ?_⟩) ?_ ?_
          rotate_left
          · intro w'
            go_simp
            with_reducible rfl
          rotate_left
          · simp only [Act.put, List.setIfInBounds_toArray, List.set_cons_zero, List.set_cons_succ, i64_w, i32_w]
            rfl
          refine pure_ (i := 20) (N := some 94) (v := ?_) (a' := ?_) #[true, true, true, true, true, true, true, true, true, true, true, true, true, true, true, true, true, true, true, true, true, false] rfl rfl (any_of HT_.out (by kernel_rfl)) (fun _ _ _ h => h) (Or.inl ⟨by rfl, ?_⟩) ?_ ?_
          rotate_left
          · intro w'
            go_simp
            with_reducible rfl
          rotate_left
          · simp only [Act.put, List.setIfInBounds_toArray, List.set_cons_zero, List.set_cons_succ, i64_w, i32_w]
            rfl
          refine pure_ (i := 21) (N := some 95) (v := ?_) (a' := ?_) #[true, true, true, true, true, true, true, true, true, true, true, true, true, true, true, true, true, true, true, true, true, true] rfl rfl (any_of HT_.out (by kernel_rfl)) (fun _ _ _ h => h) (Or.inl ⟨by rfl, ?_⟩) ?_ ?_
          rotate_left
          · intro w'
            go_simp
            with_reducible rfl
          rotate_left
          · simp only [Act.put, List.setIfInBounds_toArray, List.set_cons_zero, List.set_cons_succ, i64_w, i32_w]
            rfl
          refine done_ (done_of HT_.out (by kernel_rfl)) ?_
          have y0 : w5.cell? ⟨gs, 0, none⟩ = some (.int .i64 q1) := (blk_cell Y5.out 0).trans rfl
          have y1 : w5.cell? ⟨gs, 1, none⟩ = some (.bool q2) := (blk_cell Y5.out 1).trans rfl
          obtain ⟨⟨hc0, hc1, hc2, hc3⟩, hf0, hf1, hf2, hf3⟩ := I5.out.c8
          have HWI := Aside0.mk (show wrap64 (i + 1) = i + 1 from by have := C5.out; have := HL.out; have := I00.out; unfold wrap64; omega)
          have hgo := HG.out
          by_cases c9 : 65536 < q1
          · have c9b : decide (65536 < q1) = true := decide_eq_true c9
            rw [if_pos c9] at hgo
            simp only [Option.some.injEq, Prod.mk.injEq] at hgo
            obtain ⟨rfl, rfl, rfl, rfl, rfl⟩ := hgo
            clear c9 HG
            cases gone with
            | true =>
              go_wp2
              have w0 := blk_put (blk_put (blk_put (blk_put I5.out.out 0 (.int .i64 0) rfl) 1 (.bool false) rfl) 2 (.int .i64 0) rfl) 3 (.int .i64 0) rfl
              refine bodyPost_ret (ref_MMap.res rfl rfl w0) rfl ?_
              exact ⟨rfl, below_set (below_set (below_set (below_set I5.out.below (Nat.le_refl _)) (Nat.le_refl _)) (Nat.le_refl _)) (Nat.le_refl _)⟩
            | false =>
              go_wp2
              have w0 := blk_put (blk_put (blk_put (blk_put I5.out.out 0 (.int .i64 0) rfl) 1 (.bool false) rfl) 2 (.int .i64 0) rfl) 3 (.int .i64 0) rfl
              refine bodyPost_ret (ref_MMap.res rfl rfl w0) rfl ?_
              exact ⟨rfl, below_set (below_set (below_set (below_set I5.out.below (Nat.le_refl _)) (Nat.le_refl _)) (Nat.le_refl _)) (Nat.le_refl _)⟩
          · have c9b : decide (65536 < q1) = false := decide_eq_false c9
            rw [if_neg c9] at hgo
            have HG2 := Aside0.mk hgo
            clear c9 HG hgo
            cases gone with
            | true =>
              go_wp2
              go_roundg f
              case measure => omega
              case rel => exact ⟨i + 1, q1, _, rfl, rfl, by rw [HWI.out], ⟨I5.out.next (by simpa using HG2.out) (by have := I00.out; omega) (by have := C5.out; omega)⟩⟩
            | false =>
              go_wp2
              go_roundg f
              case measure => omega
              case rel => exact ⟨i + 1, q1, _, rfl, rfl, by rw [HWI.out], ⟨I5.out.next (by simpa using HG2.out) (by have := I00.out; omega) (by have := C5.out; omega)⟩⟩
      · have m2b : decide (i < (oneAt l i).mirror) = false := decide_eq_false m2
        have hgo := HG.out
        rw [if_neg (show ¬ pos_MMap.mir l i (q1, q2, q3, q4, q5) = true by unfold pos_MMap.mir; dsimp only; rw [m2b, Bool.false_and, Bool.and_false]; decide)] at hgo
        have HG := Aside0.mk hgo
        clear hgo m1 m2
        go_wp2
        refine start_ (n := 22) (S := fun w' => w'.cell? ⟨gs, 2, none⟩ = some (.int .i64 q3)) (ds := []) #[false, false, false, false, false, false, false, false, false, false, false, false, false, false, false, false, false, false, false, false, false, false] (by kernel_rfl) rfl rfl t2 (fun hHeld => ?_)
        refine with_tabW ref_MMap.tab12 ref_MMap.bits12 (fun HT_ HW_ => ?_)
        have I5 := Aside0.mk (I3.out.weak (Below.drew (Below.refl _ w4)))
        have Y5 := Aside0.mk (blk_drew YB.out)
        clear I3 YB
        generalize w4.drew = w5 at *
        refine pure_ (i := 0) (N := some 74) (v := ?_) (a' := ?_) #[true, false, false, false, false, false, false, false, false, false, false, false, false, false, false, false, false, false, false, false, false, false] rfl rfl (any_of HT_.out (by kernel_rfl)) (fun _ _ _ h => h) (Or.inl ⟨by rfl, ?_⟩) ?_ ?_
        rotate_left
        · intro w'
          go_simp
          with_reducible rfl
        rotate_left
        · simp only [Act.put, List.setIfInBounds_toArray, List.set_cons_zero, List.set_cons_succ, i64_w, i32_w]
          rfl
        refine take_ (i := 1) (N := some 75) (v := ?_) (a' := ?_) #[true, true, false, false, false, false, false, false, false, false, false, false, false, false, false, false, false, false, false, false, false, false] rfl rfl (take_ofW HT_.out HW_.out (by kernel_rfl)) (fun _ _ _ h => h) (Or.inl ⟨by rfl, ?_⟩) hHeld ?_ ?_
        rotate_left
        · intro w' s0
          go_simp
          with_reducible rfl
        rotate_left
        · simp only [Act.put, List.setIfInBounds_toArray, List.set_cons_zero, List.set_cons_succ, i64_w, i32_w]
          rfl
        refine pure_ (i := 2) (N := some 76) (v := ?_) (a' := ?_) #[true, true, true, false, false, false, false, false, false, false, false, false, false, false, false, false, false, false, false, false, false, false] rfl rfl (any_of HT_.out (by kernel_rfl)) (fun _ _ _ h => h) (Or.inl ⟨by rfl, ?_⟩) ?_ ?_
        rotate_left
        · intro w'
          go_simp
          with_reducible rfl
        rotate_left
        · simp only [Act.put, List.setIfInBounds_toArray, List.set_cons_zero, List.set_cons_succ, i64_w, i32_w]
          rfl
        refine pure_ (i := 3) (N := some 77) (v := ?_) (a' := ?_) #[true, true, true, true, false, false, false, false, false, false, false, false, false, false, false, false, false, false, false, false, false, false] rfl rfl (any_of HT_.out (by kernel_rfl)) (fun _ _ _ h => h) (Or.inl ⟨by rfl, ?_⟩) ?_ ?_
        rotate_left
        · intro w'
          go_simp
          with_reducible rfl
        rotate_left
        · simp only [Act.put, List.setIfInBounds_toArray, List.set_cons_zero, List.set_cons_succ, i64_w, i32_w]
          rfl
        refine pure_ (i := 4) (N := some 78) (v := ?_) (a' := ?_) #[true, true, true, true, true, false, false, false, false, false, false, false, false, false, false, false, false, false, false, false, false, false] rfl rfl (any_of HT_.out (by kernel_rfl)) (fun _ _ _ h => h) (Or.inl ⟨by rfl, ?_⟩) ?_ ?_
        rotate_left
        · intro w'
          go_simp
          with_reducible rfl
        rotate_left
        · simp only [Act.put, List.setIfInBounds_toArray, List.set_cons_zero, List.set_cons_succ, i64_w, i32_w]
          rfl
        refine pure_ (i := 5) (N := some 79) (v := ?_) (a' := ?_) #[true, true, true, true, true, true, false, false, false, false, false, false, false, false, false, false, false, false, false, false, false, false] rfl rfl (any_of HT_.out (by kernel_rfl)) (fun _ _ _ h => h) (Or.inl ⟨by rfl, ?_⟩) ?_ ?_
        rotate_left
        · intro w'
          go_simp
          with_reducible rfl
        rotate_left
        · simp only [Act.put, List.setIfInBounds_toArray, List.set_cons_zero, List.set_cons_succ, i64_w, i32_w]
          rfl
        refine pure_ (i := 6) (N := some 80) (v := ?_) (a' := ?_) #[true, true, true, true, true, true, true, false, false, false, false, false, false, false, false, false, false, false, false, false, false, false] rfl rfl (any_of HT_.out (by kernel_rfl)) (fun _ _ _ h => h) (Or.inl ⟨by rfl, ?_⟩) ?_ ?_
        rotate_left
        · intro w'
          go_simp
          with_reducible rfl
        rotate_left
        · simp only [Act.put, List.setIfInBounds_toArray, List.set_cons_zero, List.set_cons_succ, i64_w, i32_w]
          rfl
        refine pure_ (i := 7) (N := some 81) (v := ?_) (a' := ?_) #[true, true, true, true, true, true, true, true, false, false, false, false, false, false, false, false, false, false, false, false, false, false] rfl rfl (any_of HT_.out (by kernel_rfl)) (fun _ _ _ h => h) (Or.inl ⟨by rfl, ?_⟩) ?_ ?_
        rotate_left
        · intro w'
          go_simp
          with_reducible rfl
        rotate_left
        · simp only [Act.put, List.setIfInBounds_toArray, List.set_cons_zero, List.set_cons_succ, i64_w, i32_w]
          rfl
        refine pure_ (i := 8) (N := some 82) (v := ?_) (a' := ?_) #[true, true, true, true, true, true, true, true, true, false, false, false, false, false, false, false, false, false, false, false, false, false] rfl rfl (any_of HT_.out (by kernel_rfl)) (fun _ _ _ h => h) (Or.inl ⟨by rfl, ?_⟩) ?_ ?_
        rotate_left
        · intro w'
          go_simp
          with_reducible rfl
        rotate_left
        · simp only [Act.put, List.setIfInBounds_toArray, List.set_cons_zero, List.set_cons_succ, i64_w, i32_w]
          rfl
        refine pure_ (i := 9) (N := some 83) (v := undef) (a' := ?_) #[true, true, true, true, true, true, true, true, true, true, false, false, false, false, false, false, false, false, false, false, false, false] rfl rfl (any_of HT_.out (by kernel_rfl)) (fun _ _ _ h => h) (Or.inr ⟨by rfl, rfl⟩) ?_ ?_
        rotate_left
        · simp only [Act.put, List.setIfInBounds_toArray, List.set_cons_zero, List.set_cons_succ, i64_w, i32_w]
          rfl
        refine pure_ (i := 10) (N := some 84) (v := undef) (a' := ?_) #[true, true, true, true, true, true, true, true, true, true, true, false, false, false, false, false, false, false, false, false, false, false] rfl rfl (any_of HT_.out (by kernel_rfl)) (fun _ _ _ h => h) (Or.inr ⟨by rfl, rfl⟩) ?_ ?_
        rotate_left
        · simp only [Act.put, List.setIfInBounds_toArray, List.set_cons_zero, List.set_cons_succ, i64_w, i32_w]
          rfl
        refine pure_ (i := 11) (N := some 85) (v := undef) (a' := ?_) #[true, true, true, true, true, true, true, true, true, true, true, true, false, false, false, false, false, false, false, false, false, false] rfl rfl (any_of HT_.out (by kernel_rfl)) (fun _ _ _ h => h) (Or.inr ⟨by rfl, rfl⟩) ?_ ?_
        rotate_left
        · simp only [Act.put, List.setIfInBounds_toArray, List.set_cons_zero, List.set_cons_succ, i64_w, i32_w]
          rfl
        refine pure_ (i := 12) (N := some 86) (v := undef) (a' := ?_) #[true, true, true, true, true, true, true, true, true, true, true, true, true, false, false, false, false, false, false, false, false, false] rfl rfl (any_of HT_.out (by kernel_rfl)) (fun _ _ _ h => h) (Or.inr ⟨by rfl, rfl⟩) ?_ ?_
        rotate_left
        · simp only [Act.put, List.setIfInBounds_toArray, List.set_cons_zero, List.set_cons_succ, i64_w, i32_w]
          rfl
        refine pure_ (i := 13) (N := some 87) (v := undef) (a' := ?_) #[true, true, true, true, true, true, true, true, true, true, true, true, true, true, false, false, false, false, false, false, false, false] rfl rfl (any_of HT_.out (by kernel_rfl)) (fun _ _ _ h => h) (Or.inr ⟨by rfl, rfl⟩) ?_ ?_
        rotate_left
        · simp only [Act.put, List.setIfInBounds_toArray, List.set_cons_zero, List.set_cons_succ, i64_w, i32_w]
          rfl
        refine pure_ (i := 14) (N := some 88) (v := undef) (a' := ?_) #[true, true, true, true, true, true, true, true, true, true, true, true, true, true, true, false, false, false, false, false, false, false] rfl rfl (any_of HT_.out (by kernel_rfl)) (fun _ _ _ h => h) (Or.inr ⟨by rfl, rfl⟩) ?_ ?_
        rotate_left
        · simp only [Act.put, List.setIfInBounds_toArray, List.set_cons_zero, List.set_cons_succ, i64_w, i32_w]
          rfl
        refine pure_ (i := 15) (N := some 89) (v := undef) (a' := ?_) #[true, true, true, true, true, true, true, true, true, true, true, true, true, true, true, true, false, false, false, false, false, false] rfl rfl (any_of HT_.out (by kernel_rfl)) (fun _ _ _ h => h) (Or.inr ⟨by rfl, rfl⟩) ?_ ?_
        rotate_left
        · simp only [Act.put, List.setIfInBounds_toArray, List.set_cons_zero, List.set_cons_succ, i64_w, i32_w]
          rfl
        refine pure_ (i := 16) (N := some 90) (v := undef) (a' := ?_) #[true, true, true, true, true, true, true, true, true, true, true, true, true, true, true, true, true, false, false, false, false, false] rfl rfl (any_of HT_.out (by kernel_rfl)) (fun _ _ _ h => h) (Or.inr ⟨by rfl, rfl⟩) ?_ ?_
        rotate_left
        · simp only [Act.put, List.setIfInBounds_toArray, List.set_cons_zero, List.set_cons_succ, i64_w, i32_w]
          rfl
        refine pure_ (i := 17) (N := some 91) (v := undef) (a' := ?_) #[true, true, true, true, true, true, true, true, true, true, true, true, true, true, true, true, true, true, false, false, false, false] rfl rfl (any_of HT_.out (by kernel_rfl)) (fun _ _ _ h => h) (Or.inr ⟨by rfl, rfl⟩) ?_ ?_
        rotate_left
        · simp only [Act.put, List.setIfInBounds_toArray, List.set_cons_zero, List.set_cons_succ, i64_w, i32_w]
          rfl
        refine pure_ (i := 18) (N := some 92) (v := undef) (a' := ?_) #[true, true, true, true, true, true, true, true, true, true, true, true, true, true, true, true, true, true, true, false, false, false] rfl rfl (any_of HT_.out (by kernel_rfl)) (fun _ _ _ h => h) (Or.inr ⟨by rfl, rfl⟩) ?_ ?_
        rotate_left
        · simp only [Act.put, List.setIfInBounds_toArray, List.set_cons_zero, List.set_cons_succ, i64_w, i32_w]
          rfl
        refine pure_ (i := 19) (N := some 93) (v := undef) (a' := ?_) #[true, true, true, true, true, true, true, true, true, true, true, true, true, true, true, true, true, true, true, true, false, false] rfl rfl (any_of HT_.out (by kernel_rfl)) (fun _ _ _ h => h) (Or.inr ⟨by rfl, rfl⟩) ?_ ?_
        rotate_left
        · simp only [Act.put, List.setIfInBounds_toArray, List.set_cons_zero, List.set_cons_succ, i64_w, i32_w]
          rfl
        refine pure_ (i := 20) (N := some 94) (v := undef) (a' := ?_) #[true, true, true, true, true, true, true, true, true, true, true, true, true, true, true, true, true, true, true, true, true, false] rfl rfl (any_of HT_.out (by kernel_rfl)) (fun _ _ _ h => h) (Or.inr ⟨by rfl, rfl⟩) ?_ ?_
        rotate_left
        · simp only [Act.put, List.setIfInBounds_toArray, List.set_cons_zero, List.set_cons_succ, i64_w, i32_w]
          rfl
        refine pure_ (i := 21) (N := some 95) (v := ?_) (a' := ?_) #[true, true, true, true, true, true, true, true, true, true, true, true, true, true, true, true, true, true, true, true, true, true] rfl rfl (any_of HT_.out (by kernel_rfl)) (fun _ _ _ h => h) (Or.inl ⟨by rfl, ?_⟩) ?_ ?_
        rotate_left
        · intro w'
          go_simp
          with_reducible rfl
        rotate_left
        · simp only [Act.put, List.setIfInBounds_toArray, List.set_cons_zero, List.set_cons_succ, i64_w, i32_w]
          rfl
        refine done_ (done_of HT_.out (by kernel_rfl)) ?_
        have y0 : w5.cell? ⟨gs, 0, none⟩ = some (.int .i64 q1) := (blk_cell Y5.out 0).trans rfl
        have y1 : w5.cell? ⟨gs, 1, none⟩ = some (.bool q2) := (blk_cell Y5.out 1).trans rfl
        obtain ⟨⟨hc0, hc1, hc2, hc3⟩, hf0, hf1, hf2, hf3⟩ := I5.out.c8
        have HWI := Aside0.mk (show wrap64 (i + 1) = i + 1 from by have := C5.out; have := HL.out; have := I00.out; unfold wrap64; omega)
        have hgo := HG.out
        by_cases c9 : 65536 < q1
        · have c9b : decide (65536 < q1) = true := decide_eq_true c9
          rw [if_pos c9] at hgo
          simp only [Option.some.injEq, Prod.mk.injEq] at hgo
          obtain ⟨rfl, rfl, rfl, rfl, rfl⟩ := hgo
          clear c9 HG
          cases gone with
          | true =>
            go_wp2
            have w0 := blk_put (blk_put (blk_put (blk_put I5.out.out 0 (.int .i64 0) rfl) 1 (.bool false) rfl) 2 (.int .i64 0) rfl) 3 (.int .i64 0) rfl
            refine bodyPost_ret (ref_MMap.res rfl rfl w0) rfl ?_
            exact ⟨rfl, below_set (below_set (below_set (below_set I5.out.below (Nat.le_refl _)) (Nat.le_refl _)) (Nat.le_refl _)) (Nat.le_refl _)⟩
          | false =>
            go_wp2
            have w0 := blk_put (blk_put (blk_put (blk_put I5.out.out 0 (.int .i64 0) rfl) 1 (.bool false) rfl) 2 (.int .i64 0) rfl) 3 (.int .i64 0) rfl
            refine bodyPost_ret (ref_MMap.res rfl rfl w0) rfl ?_
            exact ⟨rfl, below_set (below_set (below_set (below_set I5.out.below (Nat.le_refl _)) (Nat.le_refl _)) (Nat.le_refl _)) (Nat.le_refl _)⟩
        · have c9b : decide (65536 < q1) = false := decide_eq_false c9
          rw [if_neg c9] at hgo
          have HG2 := Aside0.mk hgo
          clear c9 HG hgo
          cases gone with
          | true =>
            go_wp2
            go_roundg f
            case measure => omega
            case rel => exact ⟨i + 1, q1, _, rfl, rfl, by rw [HWI.out], ⟨I5.out.next (by simpa using HG2.out) (by have := I00.out; omega) (by have := C5.out; omega)⟩⟩
          | false =>
            go_wp2
            go_roundg f
            case measure => omega
            case rel => exact ⟨i + 1, q1, _, rfl, rfl, by rw [HWI.out], ⟨I5.out.next (by simpa using HG2.out) (by have := I00.out; omega) (by have := C5.out; omega)⟩⟩
    · have c5b : decide (i < (l.length : Int)) = false := decide_eq_false c5
      rw [if_neg c5] at hgo
      simp only [Option.some.injEq, Prod.mk.injEq] at hgo
      obtain ⟨rfl, rfl, rfl, rfl, rfl⟩ := hgo
      obtain ⟨⟨hc0, hc1, hc2, hc3⟩, hf0, hf1, hf2, hf3⟩ := HI.out.c8
      have Z3 := Aside0.mk HI.out.out
      have HB := Aside0.mk HI.out.below
      clear c5 HI
      go_wp2
      have w0 := blk_put (blk_put (blk_put (blk_put Z3.out 0 (.int .i64 p) rfl) 1 (.bool gone) rfl) 2 (.int .i64 (-1)) rfl) 3 (.int .i64 0) rfl
      refine bodyPost_ret (ref_MMap.res rfl rfl w0) rfl ?_
      exact ⟨rfl, below_set (below_set (below_set (below_set HB.out (Nat.le_refl _)) (Nat.le_refl _)) (Nat.le_refl _)) (Nat.le_refl _)⟩

end Go.Proofs.Ytcoolajjjnkfpaa.PPd
