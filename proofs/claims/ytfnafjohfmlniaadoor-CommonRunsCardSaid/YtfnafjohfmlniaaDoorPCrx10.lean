-- Written for this claim by a program (the kit's print, with hand-made contracts for what it does not take).
import Derived.Test.YtfnafjohfmlniaaDoorPCrx0
import Derived.Test.YtfnafjohfmlniaaDoorPCrx1
import Derived.Test.YtfnafjohfmlniaaDoorPCrx7
import Derived.Test.YtfnafjohfmlniaaDoorPCrx9
namespace Go.Proofs.YtfnafjohfmlniaaDoor.PCr
open Go.RowKit Go.Proofs.YtfnafjohfmlniaaDoorW.PrintWords Go.Proofs.YtfnafjohfmlniaaDoorW.PrintLast Go.Proofs.YtfnafjohfmlniaaDoorW.PrintMore
attribute [local go_sem] max2_int min2_int max_two min_two max_three min_three max_four min_four   -- for this text's walks alone
set_option linter.unusedVariables false
set_option linter.unusedSimpArgs false

/-! ### common_line_match: function 19 -/
/-! ### All pairs -/
def prtGood (x : Prt) : Prop := (0 ≤ x.left ∧ x.left ≤ 4000) ∧ ∀ r, x.run = some r → (0 ≤ r.f1 ∧ r.f1 ≤ 4000) ∧ 0 ≤ r.f2 ∧ r.f2 ≤ 255
def prtsGood (o : List Prt) : Prop := ∀ x ∈ o, prtGood x
theorem prtsGood.ok {o : List Prt} (h : prtsGood o) : prtOk o := fun x hx r hr => ((h x hx).2 r hr).1
theorem prtsGood.at {o : List Prt} (h : prtsGood o) {i : Int} (h0 : 0 ≤ i) (h1 : i < (o.length : Int)) : prtGood (prtAt o i) := h _ (prtAt_mem h0 h1)
theorem prtsGood.set {o : List Prt} (h : prtsGood o) (i : Nat) {x : Prt} (hx : prtGood x) : prtsGood (o.set i x) := by
  intro y hy
  rcases List.mem_or_eq_of_mem_set hy with hy | rfl
  · exact h y hy
  · exact hx
theorem prtMark_good {x : Prt} (m : Int) (h : prtGood x) : prtGood (prtMark m x) := h
theorem prtLeft_good {x : Prt} {n : Int} (h : prtGood x) (h0 : 0 ≤ n) (h1 : n ≤ x.left) : prtGood (prtLeft n x) := ⟨⟨by show 0 ≤ x.left - n; omega, by have := h.1.2; show x.left - n ≤ 4000; omega⟩, h.2⟩
theorem marks_good (m : Int) : ∀ (k : Nat) {o : List Prt} {i : Int}, prtsGood o → 0 ≤ i → i + k ≤ (o.length : Int) → prtsGood (common_pair.marks m o i k)
  | 0, _, _, h, _, _ => h
  | k + 1, o, i, h, h0, h1 => by
    rw [common_pair.marks]
    exact marks_good m k (h.set _ (prtMark_good m (h.at h0 (by omega)))) (by omega) (by rw [List.length_set]; omega)
theorem marks_at (m : Int) : ∀ (k : Nat) (o : List Prt) (i j : Int), 0 ≤ i → 0 ≤ j → (j < i ∨ i + k ≤ j) → prtAt (common_pair.marks m o i k) j = prtAt o j
  | 0, _, _, _, _, _, _ => rfl
  | k + 1, o, i, j, h0, hj, h => by
    rw [common_pair.marks, marks_at m k _ (i + 1) j (by omega) hj (by omega), prtAt_set_ne h0 hj (by omega)]
theorem marks_run (m : Int) : ∀ (k : Nat) (o : List Prt) (i j : Int), 0 ≤ i → i + k ≤ (o.length : Int) → 0 ≤ j → (prtAt (common_pair.marks m o i k) j).run = (prtAt o j).run
  | 0, _, _, _, _, _, _ => rfl
  | k + 1, o, i, j, h0, h1, hj => by
    rw [common_pair.marks, marks_run m k _ (i + 1) j (by omega) (by rw [List.length_set]; omega) hj]
    by_cases e : i = j
    · subst e; rw [prtAt_set_self h0 (by omega)]; rfl
    · rw [prtAt_set_ne h0 hj e]
theorem common_pair.facts {o : List Prt} {i j : Int} (h : prtsGood o) (h0 : 0 ≤ i) (hij : i < j) (hj : j < (o.length : Int)) (hi1 : 1 ≤ (prtAt o i).left) (hj1 : 1 ≤ (prtAt o j).left) :
    prtsGood (common_pair.f o i j) ∧ (common_pair.f o i j).length = o.length ∧ (prtAt (common_pair.f o i j) j).left < (prtAt o j).left ∧ (∀ k, 0 ≤ k → (prtAt (common_pair.f o i j) k).run = (prtAt o k).run) := by
  have key : ∀ (n m : Int), 1 ≤ n → n ≤ (prtAt o i).left → n ≤ (prtAt o j).left → prtsGood (common_pair.take n (common_pair.take n (common_pair.marks m o (i + 1) (j - i - 1).toNat) i) j) ∧ (prtAt (common_pair.take n (common_pair.take n (common_pair.marks m o (i + 1) (j - i - 1).toNat) i) j) j).left < (prtAt o j).left ∧ (∀ k, 0 ≤ k → (prtAt (common_pair.take n (common_pair.take n (common_pair.marks m o (i + 1) (j - i - 1).toNat) i) j) k).run = (prtAt o k).run) := by
    intro n m hn hni hnj
    have hlen := common_pair.marks_len m (j - i - 1).toNat o (i + 1)
    have e1 := marks_at m (j - i - 1).toNat o (i + 1) i (by omega) h0 (by omega)
    have e2 := marks_at m (j - i - 1).toNat o (i + 1) j (by omega) (by omega) (by omega)
    have g1 := marks_good m (j - i - 1).toNat (o := o) (i := i + 1) h (by omega) (by omega)
    have r1 := fun k hk => marks_run m (j - i - 1).toNat o (i + 1) k (by omega) (by omega) hk
    generalize common_pair.marks m o (i + 1) (j - i - 1).toNat = l at *
    unfold common_pair.take
    have e3 : prtAt (l.set i.toNat (prtLeft n (prtAt l i))) j = prtAt o j := (prtAt_set_ne h0 (by omega) (by omega) _).trans e2
    have hj2 : j < ((l.set i.toNat (prtLeft n (prtAt l i))).length : Int) := by rw [List.length_set]; omega
    refine ⟨?_, ?_, fun k hk => ?_⟩
    · refine (g1.set _ (prtLeft_good (g1.at h0 (by omega)) (by omega) (by rw [e1]; exact hni))).set _ (prtLeft_good ?_ (by omega) ?_)
      · rw [e3]; exact h.at (by omega) hj
      · rw [e3]; exact hnj
    · rw [prtAt_set_self (by omega) hj2, e3]
      show (prtAt o j).left - n < _
      omega
    · by_cases ek : j = k
      · subst ek; rw [prtAt_set_self (by omega) hj2, e3]; rfl
      · rw [prtAt_set_ne (by omega) hk ek]
        by_cases ek2 : i = k
        · subst ek2; rw [prtAt_set_self h0 (by omega)]; exact r1 i h0
        · rw [prtAt_set_ne h0 hk ek2]; exact r1 k hk
  refine ⟨?_, common_pair.len o i j, ?_⟩
  · unfold common_pair.f
    by_cases c : common_pair.two o i j = true
    · rw [if_pos c]
      unfold common_pair.two at c
      simp only [Bool.and_eq_true, decide_eq_true_eq] at c
      exact (key 2 1 (by omega) (by omega) (by omega)).1
    · rw [if_neg c]
      exact (key 1 2 (by omega) hi1 hj1).1
  · unfold common_pair.f
    by_cases c : common_pair.two o i j = true
    · rw [if_pos c]
      unfold common_pair.two at c
      simp only [Bool.and_eq_true, decide_eq_true_eq] at c
      exact (key 2 1 (by omega) (by omega) (by omega)).2
    · rw [if_neg c]
      exact (key 1 2 (by omega) hi1 hj1).2
theorem common_opener.go_spec (o : List Prt) (r : S38) : ∀ k : Nat, common_opener.go o r k = -1 ∨ (0 ≤ common_opener.go o r k ∧ common_opener.go o r k < (k : Int) ∧ common_opener.ok (prtAt o (common_opener.go o r k)) r = true)
  | 0 => .inl rfl
  | k + 1 => by
    rw [common_opener.go]
    by_cases c : common_opener.ok (prtAt o (k : Int)) r = true
    · rw [if_pos c]
      exact .inr ⟨by omega, by omega, c⟩
    · rw [if_neg c]
      rcases common_opener.go_spec o r k with h | ⟨h1, h2, h3⟩
      · exact .inl h
      · exact .inr ⟨h1, by omega, h3⟩
theorem common_opener.ok_left {x : Prt} {r : S38} (h : common_opener.ok x r = true) : x.left ≠ 0 := by
  unfold common_opener.ok at h
  split at h
  · cases h
  · simp only [Bool.and_eq_true, decide_eq_true_eq] at h
    exact h.2.1
def prtPass (v : Bool) (x : Prt) : Prt := ⟨x.tok, x.run, x.left, v⟩
def common_match.inn (j : Int) (r : S38) : Nat → List Prt → List Prt
  | 0, o => o
  | f + 1, o =>
    if 0 < (prtAt o j).left then
      (if common_opener.go o r j.toNat < 0 then o.set j.toNat (prtPass (!r.f3) (prtAt o j))
       else common_match.inn j r f (common_pair.f o (common_opener.go o r j.toNat) j))
    else o
def common_match.one (o : List Prt) (j : Int) : List Prt :=
  match (prtAt o j).run with
  | none => o
  | some r => if r.f4 = true then common_match.inn j r 4001 o else o
def common_match.out : Nat → Int → List Prt → List Prt
  | 0, _, o => o
  | k + 1, j, o => common_match.out k (j + 1) (common_match.one o j)
def common_match.f (o : List Prt) : List Prt := common_match.out o.length 0 o
structure common_match.I (B b : Nat) (A : Option Addr) (c : Nat) (p : List S79) (w0 : World) (n : Nat) (o : List Prt) (W : World) : Prop where
  line : common_L B b A c p o W
  below : Below B w0 W
  good : prtsGood o
  len : o.length = n
def common_match.T8 : Bool × List (List Nat × List Nat) := (true, [([], []), ([0], [0]), ([1], [1]), ([2], [2]), ([], []), ([], []), ([5], [5]), ([6], [6]), ([7], [7]), ([8], [8]), ([3, 4, 0, 1, 2, 3, 4, 5, 6, 7, 8, 9], [3, 4]), ([10, 0, 1, 2, 3, 4, 5, 6, 7, 8, 9], [10]), ([11, 9, 0, 1, 2, 3, 4, 5, 6, 7, 8, 9], [9, 11])])
def common_match.B8 : List Nat := [0, 1, 3, 7, 0, 0, 32, 96, 224, 480, 1023, 2047, 4095]
theorem common_match.tab8 : rtab .any (opsOf Tryd.f19 8) = common_match.T8 := by kernel_rfl
theorem common_match.bits8 : waitsOk common_match.T8.2 common_match.B8 = true := by kernel_rfl
set_option maxRecDepth 100000 in
set_option maxHeartbeats 16000000 in
theorem common_match.calls (B b : Nat) (A : Option Addr) (c : Nat) (p : List S79) (out : List Prt) (w0 w : World) (h : common_L B b A c p out w) (hB : Below B w0 w) (hl : out.length ≤ 4000) (hg : prtsGood out) :
    Calls Tryd.prog 19 #[.pointer (some ⟨b, 0, none⟩)] w fun e w' => e = .returned (.tuple #[]) ∧ common_L B b A c p (common_match.f out) w' ∧ Below B w0 w' ∧ prtsGood (common_match.f out) ∧ (common_match.f out).length = out.length := by
  have hu54 := Tryd.underlying54
  have hu57 := Tryd.underlying57
  have hu38 := Tryd.underlying38
  have I0 := Aside0.mk (show common_match.I B b A c p w0 out.length out w from ⟨h, hB, hg, rfl⟩)
  have HL := Aside0.mk hl
  obtain ⟨Ao0, co0, h1, h2, h3, h4⟩ := h.open
  have s1 : w.cell? ⟨b, 1, none⟩ = some (.slice Ao0 out.length co0) := (blk_cell h1 1).trans rfl
  clear h hB hl hg h1 h2 h3 h4
  go_enter Tryd.func19, Tryd.ntmps19
  go_wp2
  go_loopg [10] out.length (fun kq v10 w' => ∃ (j : Int) (o : List Prt), v10 = .int .i64 j ∧ Aside0 (0 ≤ j ∧ (kq : Int) = (out.length : Int) - j ∧ common_match.out kq j o = common_match.f out ∧ common_match.I B b A c p w0 out.length o w'))
  case atStart => exact ⟨0, out, rfl, ⟨by omega, by omega, rfl, I0.out⟩⟩
  case round =>
    clear I0 s1
    obtain ⟨j, o, rfl, HI⟩ := hrel
    cases gk with
    | zero =>
      have e : j = (out.length : Int) := by have := HI.out.2.1; omega
      subst e
      have c5b : decide (out.length < out.length) = false := decide_eq_false (by omega)
      have HG := Aside0.mk (show o = common_match.f out from HI.out.2.2.1)
      go_wp2
      go_end0
      exact ⟨rfl, by rw [← HG.out]; exact HI.out.2.2.2.line, HI.out.2.2.2.below, by rw [← HG.out]; exact HI.out.2.2.2.good, by rw [← HG.out]; exact HI.out.2.2.2.len⟩
    | succ f =>
    have jn : j < (out.length : Int) := by have := HI.out.2.1; omega
    have c5b : decide (j < (out.length : Int)) = true := decide_eq_true jn
    have j0 : 0 ≤ j := HI.out.1
    have j0t := eq_true j0
    have j1t := eq_true jn
    have LO := Aside0.mk HI.out.2.2.2.len
    have hgo := HI.out.2.2.1
    rw [common_match.out] at hgo
    obtain ⟨Ao, co, h1, h2, h3, h4⟩ := HI.out.2.2.2.line.open
    obtain ⟨cp, rfl⟩ := prt_row h3 (by have := LO.out; omega)
    obtain ⟨v, hv, _, _, _, _, x4, x5, _⟩ := prt_at h3 j j0 (by have := LO.out; omega)
    rw [LO.out] at h1
    have s1 : wr.cell? ⟨b, 1, none⟩ = some (.slice (some ⟨cp, 0, none⟩) out.length co) := (blk_cell h1 1).trans rfl
    have hwj : wrap64 (j + 1) = j + 1 := by have := HL.out; unfold wrap64; omega
    have JJ := Aside0.mk (And.intro j0 (And.intro jn HI.out.2.1))
    have II := Aside0.mk HI.out.2.2.2
    clear h1 h2 h3 h4 HI j0 jn
    cases hrun : (prtAt o j).run with
    | none =>
      rw [hrun] at hv
      obtain rfl : v = .pointer none := hv
      have HG := Aside0.mk (show common_match.out f (j + 1) o = common_match.f out from by rw [common_match.one, hrun] at hgo; exact hgo)
      clear hgo hrun
      go_wp2
      go_roundg f
      case measure => omega
      case rel => exact ⟨j + 1, o, by rw [hwj], ⟨by have := JJ.out; omega, by have := JJ.out; omega, HG.out, II.out⟩⟩
    | some r =>
      rw [hrun] at hv
      obtain ⟨gr, rfl, _, hgr⟩ := hv
      have yf4 : wr.cell? ⟨gr, 4, none⟩ = some (.bool r.f4) := (blk_cell hgr 4).trans rfl
      cases hcl : r.f4 with
      | false =>
        rw [hcl] at yf4
        have HG := Aside0.mk (show common_match.out f (j + 1) o = common_match.f out from by rw [common_match.one, hrun] at hgo; simpa [hcl] using hgo)
        clear hgo hrun hcl hgr
        go_wp2
        go_roundg f
        case measure => omega
        case rel => exact ⟨j + 1, o, by rw [hwj], ⟨by have := JJ.out; omega, by have := JJ.out; omega, HG.out, II.out⟩⟩
      | true =>
        rw [hcl] at yf4
        have HG := Aside0.mk (show common_match.out f (j + 1) (common_match.inn j r 4001 o) = common_match.f out from by rw [common_match.one, hrun] at hgo; simpa [hcl] using hgo)
        have RUN0 := Aside0.mk (show (prtAt o j).run = some r ∧ (prtAt o j).left ≤ 4000 ∧ wr.heap[gr]? = some (.cells (encRun r) 38 (0, 0)) from ⟨hrun, (II.out.good.at JJ.out.1 (by have := LO.out; have := JJ.out; omega)).1.2, hgr⟩)
        clear hgo hrun hcl hgr
        go_wp2
        go_loopg [4] 4001 (fun kq2 v4 w' => ∃ (o' : List Prt), Aside0 (common_match.inn j r kq2 o' = common_match.inn j r 4001 o ∧ common_match.I B b A c p w0 out.length o' w' ∧ (prtAt o' j).run = some r ∧ (prtAt o' j).left < (kq2 : Int) ∧ w'.heap[gr]? = some (.cells (encRun r) 38 (0, 0))))
        case atStart => exact ⟨o, ⟨rfl, II.out, RUN0.out.1, by have := RUN0.out.2.1; omega, RUN0.out.2.2⟩⟩
        case round =>
          clear II RUN0 s1 x4 x5 yf4 LO
          obtain ⟨o', HI⟩ := hrel
          cases gk with
          | zero => have := HI.out.2.2.2.1; have := (HI.out.2.1.good.at JJ.out.1 (by have := HI.out.2.1.len; have := JJ.out; omega)).1; omega
          | succ f2 =>
          have hgo := HI.out.1
          rw [common_match.inn] at hgo
          have LO := Aside0.mk HI.out.2.1.len
          obtain ⟨Ao, co, h1, h2, h3, h4⟩ := HI.out.2.1.line.open
          obtain ⟨cp2, rfl⟩ := prt_row h3 (by have := LO.out; have := JJ.out; omega)
          obtain ⟨v, hv, _, _, _, _, _, x5, _⟩ := prt_at h3 j JJ.out.1 (by have := LO.out; have := JJ.out; omega)
          rw [LO.out] at h1
          have s1 : wr.cell? ⟨b, 1, none⟩ = some (.slice (some ⟨cp2, 0, none⟩) out.length co) := (blk_cell h1 1).trans rfl
          have GJ := Aside0.mk (HI.out.2.1.good.at JJ.out.1 (by have := LO.out; have := JJ.out; omega))
          have II := Aside0.mk HI.out.2.1
          have RR := Aside0.mk HI.out.2.2
          clear h1 h2 h3 h4 HI hv
          by_cases c6 : 0 < (prtAt o' j).left
          · have c6b : decide (0 < (prtAt o' j).left) = true := decide_eq_true c6
            rw [if_pos c6] at hgo
            have HG2 := Aside0.mk hgo
            have C6 := Aside0.mk c6
            clear hgo c6
            go_wp2_with fail
            refine (common_opener.calls B b A c p o' j r _ II.out.line II.out.good.ok JJ.out.1 (by have := LO.out; have := JJ.out; omega) (by have := LO.out; have := HL.out; omega) RR.out.1).mono ?_
            rintro e w2 ⟨rfl, hb⟩
            have SP := Aside0.mk (common_opener.go_spec o' r j.toNat)
            have L2 := Aside0.mk (II.out.line.below hb)
            have B2 := Aside0.mk (II.out.below.trans (hb.mono (by obtain ⟨_, h1, _⟩ := II.out.line.ex; exact Nat.le_of_lt (Nat.lt_of_le_of_lt II.out.line.base (blk_lt h1)))))
            have G2 := Aside0.mk (blk_below RR.out.2.2 hb)
            have GD := Aside0.mk (And.intro II.out.good RR.out.2.1)
            have RU := Aside0.mk RR.out.1
            clear hb s1 x5 II RR
            generalize common_opener.go o' r j.toNat = a at *
            by_cases c7 : a < 0
            · have c7b : decide (a < 0) = true := decide_eq_true c7
              have hgo := HG2.out
              rw [if_pos c7] at hgo
              have HG3 := Aside0.mk hgo
              obtain ⟨Ao, co2, h1, h2, h3, h4⟩ := L2.out.open
              obtain ⟨cp3, rfl⟩ := prt_row h3 (by have := LO.out; have := JJ.out; omega)
              have KK := Aside0.mk (show common_pair.K B b cp3 A c o'.length co2 p w0 w2 o' w2 from ⟨h1, h2, h3, h4, B2.out, fun _ _ h => h⟩)
              have s1 : w2.cell? ⟨b, 1, none⟩ = some (.slice (some ⟨cp3, 0, none⟩) o'.length co2) := (blk_cell h1 1).trans rfl
              have y3 : w2.cell? ⟨gr, 3, none⟩ = some (.bool r.f3) := (blk_cell G2.out 3).trans rfl
              have jl := eq_true (show j < (o'.length : Int) by have := LO.out; have := JJ.out; omega)
              clear hgo c7 h1 h2 h3 h4 HG2 L2 B2 SP
              go_wp2
              refine start_ (n := 13) (S := fun w' => w'.cell? ⟨b, 1, none⟩ = some (.slice (some ⟨cp3, 0, none⟩) o'.length co2) ∧ w'.cell? ⟨gr, 3, none⟩ = some (.bool r.f3)) (ds := [12]) #[Ff,Ff,Ff,Ff,Ff,Ff,Ff,Ff,Ff,Ff,Ff,Ff,Ff] (by kernel_rfl) rfl rfl ⟨s1, y3⟩ (fun hHeld => ?_)
              refine with_tabW common_match.tab8 common_match.bits8 (fun HT_ HW_ => ?_)
              have K2 := Aside0.mk (KK.out.weak (Below.drew (Below.refl _ w2)))
              clear KK s1 y3 G2
              generalize w2.drew = w4 at *
              refine pure_ (i := 0) (N := some 44) (v := ?_) (a' := ?_) #[Tt,Ff,Ff,Ff,Ff,Ff,Ff,Ff,Ff,Ff,Ff,Ff,Ff] rfl rfl (any_of HT_.out (by kernel_rfl)) (fun _ _ _ h => h) (Or.inl ⟨by rfl, ?_⟩) ?_ ?_;rotate_left;(intro w';go_simp;with_reducible rfl);rotate_left;(simp only [Act.put, List.setIfInBounds_toArray, List.set_cons_zero, List.set_cons_succ, i64_w, i32_w];rfl)
              refine pure_ (i := 1) (N := some 45) (v := ?_) (a' := ?_) #[Tt,Tt,Ff,Ff,Ff,Ff,Ff,Ff,Ff,Ff,Ff,Ff,Ff] rfl rfl (any_of HT_.out (by kernel_rfl)) (fun _ _ _ h => h) (Or.inl ⟨by rfl, ?_⟩) ?_ ?_;rotate_left;(intro w';go_simp;with_reducible rfl);rotate_left;(simp only [Act.put, List.setIfInBounds_toArray, List.set_cons_zero, List.set_cons_succ, i64_w, i32_w];rfl)
              refine pure_ (i := 2) (N := some 46) (v := ?_) (a' := ?_) #[Tt,Tt,Tt,Ff,Ff,Ff,Ff,Ff,Ff,Ff,Ff,Ff,Ff] rfl rfl (any_of HT_.out (by kernel_rfl)) (fun _ _ _ h => h) (Or.inl ⟨by rfl, ?_⟩) ?_ ?_;rotate_left;(intro w';go_simp;with_reducible rfl);rotate_left;(simp only [Act.put, List.setIfInBounds_toArray, List.set_cons_zero, List.set_cons_succ, i64_w, i32_w];rfl)
              refine take_ (i := 3) (N := some 47) (v := ?_) (a' := ?_) #[Tt,Tt,Tt,Tt,Ff,Ff,Ff,Ff,Ff,Ff,Ff,Ff,Ff] rfl rfl (take_ofW HT_.out HW_.out (by kernel_rfl)) (fun _ _ _ h => h) (Or.inl ⟨by rfl, ?_⟩) hHeld ?_ ?_;rotate_left;(rintro w' ⟨s0, s1⟩;go_simp;with_reducible rfl);rotate_left;(simp only [Act.put, List.setIfInBounds_toArray, List.set_cons_zero, List.set_cons_succ, i64_w, i32_w];rfl)
              refine pure_ (i := 4) (N := some 48) (v := ?_) (a' := ?_) #[Tt,Tt,Tt,Tt,Tt,Ff,Ff,Ff,Ff,Ff,Ff,Ff,Ff] rfl rfl (any_of HT_.out (by kernel_rfl)) (fun _ _ _ h => h) (Or.inl ⟨by rfl, ?_⟩) ?_ ?_;rotate_left;(intro w';go_simp;with_reducible rfl);rotate_left;(simp only [Act.put, List.setIfInBounds_toArray, List.set_cons_zero, List.set_cons_succ, i64_w, i32_w];rfl)
              refine pure_ (i := 5) (N := some 49) (v := ?_) (a' := ?_) #[Tt,Tt,Tt,Tt,Tt,Tt,Ff,Ff,Ff,Ff,Ff,Ff,Ff] rfl rfl (any_of HT_.out (by kernel_rfl)) (fun _ _ _ h => h) (Or.inl ⟨by rfl, ?_⟩) ?_ ?_;rotate_left;(intro w';go_simp;with_reducible rfl);rotate_left;(simp only [Act.put, List.setIfInBounds_toArray, List.set_cons_zero, List.set_cons_succ, i64_w, i32_w];rfl)
              refine pure_ (i := 6) (N := some 50) (v := ?_) (a' := ?_) #[Tt,Tt,Tt,Tt,Tt,Tt,Tt,Ff,Ff,Ff,Ff,Ff,Ff] rfl rfl (any_of HT_.out (by kernel_rfl)) (fun _ _ _ h => h) (Or.inl ⟨by rfl, ?_⟩) ?_ ?_;rotate_left;(intro w';go_simp;with_reducible rfl);rotate_left;(simp only [Act.put, List.setIfInBounds_toArray, List.set_cons_zero, List.set_cons_succ, i64_w, i32_w];rfl)
              refine pure_ (i := 7) (N := some 51) (v := ?_) (a' := ?_) #[Tt,Tt,Tt,Tt,Tt,Tt,Tt,Tt,Ff,Ff,Ff,Ff,Ff] rfl rfl (any_of HT_.out (by kernel_rfl)) (fun _ _ _ h => h) (Or.inl ⟨by rfl, ?_⟩) ?_ ?_;rotate_left;(intro w';go_simp;with_reducible rfl);rotate_left;(simp only [Act.put, List.setIfInBounds_toArray, List.set_cons_zero, List.set_cons_succ, i64_w, i32_w];rfl)
              refine take_ (i := 8) (N := some 52) (v := ?_) (a' := ?_) #[Tt,Tt,Tt,Tt,Tt,Tt,Tt,Tt,Tt,Ff,Ff,Ff,Ff] rfl rfl (take_ofW HT_.out HW_.out (by kernel_rfl)) (fun _ _ _ h => h) (Or.inl ⟨by rfl, ?_⟩) hHeld ?_ ?_;rotate_left;(rintro w' ⟨s0, s1⟩;go_simp;with_reducible rfl);rotate_left;(simp only [Act.put, List.setIfInBounds_toArray, List.set_cons_zero, List.set_cons_succ, i64_w, i32_w];rfl)
              refine pure_ (i := 9) (N := some 53) (v := ?_) (a' := ?_) #[Tt,Tt,Tt,Tt,Tt,Tt,Tt,Tt,Tt,Tt,Ff,Ff,Ff] rfl rfl (any_of HT_.out (by kernel_rfl)) (fun _ _ _ h => h) (Or.inl ⟨by rfl, ?_⟩) ?_ ?_;rotate_left;(intro w';go_simp;with_reducible rfl);rotate_left;(simp only [Act.put, List.setIfInBounds_toArray, List.set_cons_zero, List.set_cons_succ, i64_w, i32_w];rfl)
              refine pure_ (i := 10) (N := some 54) (v := ?_) (a' := ?_) #[Tt,Tt,Tt,Tt,Tt,Tt,Tt,Tt,Tt,Tt,Tt,Ff,Ff] rfl rfl (any_of HT_.out (by kernel_rfl)) (fun _ _ _ h => h) (Or.inl ⟨by rfl, ?_⟩) ?_ ?_;rotate_left;(intro w';go_simp;with_reducible rfl);rotate_left;(simp only [Act.put, List.setIfInBounds_toArray, List.set_cons_zero, List.set_cons_succ, i64_w, i32_w];rfl)
              refine pure_ (i := 11) (N := some 55) (v := ?_) (a' := ?_) #[Tt,Tt,Tt,Tt,Tt,Tt,Tt,Tt,Tt,Tt,Tt,Tt,Ff] rfl rfl (any_of HT_.out (by kernel_rfl)) (fun _ _ _ h => h) (Or.inl ⟨by rfl, ?_⟩) ?_ ?_;rotate_left;(intro w';go_simp;with_reducible rfl);rotate_left;(simp only [Act.put, List.setIfInBounds_toArray, List.set_cons_zero, List.set_cons_succ, i64_w, i32_w];rfl)
              obtain ⟨k4, f6⟩ := K2.out.put j JJ.out.1 (by have := LO.out; have := JJ.out; omega) 6 (by decide) (.bool (!r.f3)) rfl (prtPass (!r.f3) (prtAt o' j)) (fun _ => rfl) rfl
              have K4 := Aside0.mk k4
              obtain ⟨_, _, _, _, _, _, _, _, a6⟩ := prt_at K2.out.row j JJ.out.1 (by have := LO.out; have := JJ.out; omega)
              clear k4
              refine last_ (i := 12) (N := none) #[Tt,Tt,Tt,Tt,Tt,Tt,Tt,Tt,Tt,Tt,Tt,Tt,Tt] rfl rfl (one_of HT_.out (by kernel_rfl)) (by decide) (fun K hK => ?_)
              refine skip_ (w1 := ?_) (by rfl) rfl ?_ ?_
              rotate_left
              · go_simp
                rfl
              refine hK.out _ _ ?_
              clear hK K
              refine done_ (done_of HT_.out (by kernel_rfl)) ?_
              go_wp2
              go_roundg f
              case measure => omega
              case rel => exact ⟨j + 1, _, by rw [hwj], ⟨by have := JJ.out; omega, by have := JJ.out; omega, by rw [HG3.out]; exact HG.out, ⟨K4.out.line, K4.out.below, GD.out.1.set _ GJ.out, by rw [List.length_set]; exact LO.out⟩⟩⟩
            · have c7b : decide (a < 0) = false := decide_eq_false c7
              have hgo := HG2.out
              rw [if_neg c7] at hgo
              have HG3 := Aside0.mk hgo
              have S2 := Aside0.mk (SP.out.resolve_left (by omega))
              have A1 : Aside0 (1 ≤ (prtAt o' a).left) := ⟨by have := (GD.out.1.at S2.out.1 (by have := S2.out.2.1; have := LO.out; have := JJ.out; omega)).1; have := common_opener.ok_left S2.out.2.2; omega⟩
              have FA := Aside0.mk (common_pair.facts (i := a) (j := j) GD.out.1 S2.out.1 (by have := S2.out.2.1; have := JJ.out; omega) (by have := LO.out; have := JJ.out; omega) A1.out (by have := C6.out; omega))
              clear hgo c7 HG2 SP
              go_wp2_with fail
              refine (common_pair.calls B b A c p o' a j w0 _ L2.out B2.out S2.out.1 (by have := S2.out.2.1; have := JJ.out; omega) (by have := LO.out; have := JJ.out; omega) (by have := LO.out; have := HL.out; omega) (fun x hx => by have := (GD.out.1 x hx).1; omega)).mono ?_
              rintro e w3 ⟨rfl, g1, g2, g3⟩
              have Q1 := Aside0.mk (And.intro g1 (And.intro g2 (g3 _ _ G2.out)))
              clear g1 g2 g3
              go_wp2
              go_roundg f2
              case measure => omega
              case rel => exact ⟨_, ⟨HG3.out, ⟨Q1.out.1, Q1.out.2.1, FA.out.1, FA.out.2.1.trans LO.out⟩, (FA.out.2.2.2 j JJ.out.1).trans RU.out, by have := FA.out.2.2.1; have := GD.out.2; omega, Q1.out.2.2⟩⟩
          · have c6b : decide (0 < (prtAt o' j).left) = false := decide_eq_false c6
            rw [if_neg c6] at hgo
            have HG3 := Aside0.mk hgo
            clear hgo c6
            go_wp2
            go_roundg f
            case measure => omega
            case rel => exact ⟨j + 1, o', by rw [hwj], ⟨by have := JJ.out; omega, by have := JJ.out; omega, by rw [HG3.out]; exact HG.out, II.out⟩⟩

end Go.Proofs.YtfnafjohfmlniaaDoor.PCr
