-- Written for this claim by a program (the kit's print, with hand-made contracts for what it does not take).
import Derived.Test.YtfcfomconcoimaaDoorPFax0
import Derived.Test.YtfcfomconcoimaaDoorPFax5
import Derived.Test.YtfcfomconcoimaaDoorPFax6
namespace Go.Proofs.YtfcfomconcoimaaDoor.PFa
open Go.RowKit Go.Proofs.YtfcfomconcoimaaDoorW.PrintWords Go.Proofs.YtfcfomconcoimaaDoorW.PrintLast Go.Proofs.YtfcfomconcoimaaDoorW.PrintMore
attribute [local go_sem] max2_int min2_int max_two min_two max_three min_three max_four min_four   -- for this text's walks alone
set_option linter.unusedVariables false
set_option linter.unusedSimpArgs false

/-! ### find_look_fits: function 20 -/
/-! ### Does the text stand at a place -/
theorem find_fits.goesR {P : Program} {ops : Array Oper} {Q : Exit → Act → World → Prop} {oi : Oper} {N : Option Tmp} {a : Act} {w : World} {K : Act → World → Prop} {f : FuncId} {fn : Func} {ys : Array Operand} {ts : Array TypeId} {x : Operand} (hf : P.funcs[f]? = some fn) (hname : (fn.name == "runtime.NumGoroutine") = false) (hb : fn.body.isSome = true) (args : Array Value)
    (hw : Region.wanted oi (yielded ops a.tmps) = true) (hN : oi.dst = N) (hop : oi.op = .call { callee := .value x, args := ys, argTypes := ts }) (hx : a.eval x = .func (.func f) #[] #[]) (hargs : ys.map a.eval = args)
    (h : Calls P f args w fun e w' => ∃ v, e = .returned v ∧ K (a.put N v) w') : if Region.wanted oi (yielded ops a.tmps) = true then Oper.wp P oi a w K Q else K (a.put N undef) w := by
  refine call_ f args hw hN ?_ h
  have he := enters_ hf hname hb args w
  unfold execOp
  simp [hop, resolve, Deferred.ofValue, invoke, hx, hargs, he]
def find_fits.key (fold : Bool) (c : Int) : Int := if fold = true then (if 65 ≤ c ∧ c ≤ 90 then c + 32 else c) else c
def find_fits.letter (c : Int) : Bool := (find_letter.f c).getD false
theorem find_fits.letter_f (c : Int) : find_letter.f c = some (find_fits.letter c) := by
  have h : ∃ b, find_letter.f c = some b := by
    unfold find_letter.f
    repeat' split
    all_goals exact ⟨_, rfl⟩
  obtain ⟨b, hb⟩ := h
  unfold find_fits.letter
  rw [hb]
  rfl
theorem find_fits.key_calls (c : Int) (w : World) : Calls Tryd.prog 31 #[.int .i64 c] w fun e w' => e = .returned (.int .i64 (find_fits.key false c)) ∧ Below w.heap.size w w' := by
  go_enter Tryd.func31, Tryd.ntmps31
  go_wp2
  go_ret
  exact ⟨rfl, Below.refl _ _⟩
theorem find_fits.low_calls (c : Int) (w : World) : Calls Tryd.prog 33 #[.int .i64 c] w fun e w' => e = .returned (.int .i64 (find_fits.key true c)) ∧ Below w.heap.size w w' := by
  refine (find_folded.calls c (find_fits.key true c) w ?_).mono fun e w' h => ⟨h.1, h.2.below⟩
  unfold find_folded.f find_fits.key
  rw [if_pos rfl]
  by_cases h1 : c ≥ 65
  · by_cases h2 : c ≤ 90
    · rw [if_pos h1, if_pos h2, if_pos ⟨h1, h2⟩, show wrap64 (c + 32) = c + 32 from by unfold wrap64; omega]
    · rw [if_pos h1, if_neg h2, if_neg (fun h => h2 h.2)]
  · rw [if_neg h1, if_neg (fun h => h1 h.1)]
theorem find_fits.free_calls (A : Option Addr) (n c : Nat) (i : Int) (w : World) : Calls Tryd.prog 32 #[.slice A n c, .int .i64 i] w fun e w' => e = .returned (.bool true) ∧ Below w.heap.size w w' := by
  go_enter Tryd.func32, Tryd.ntmps32
  go_wp2
  go_ret
  exact ⟨rfl, Below.refl _ _⟩
/-- No letter stands there. -/
def find_fits.edge (whole : Bool) (p : List Int) (i : Int) : Bool := !whole || (decide (i < 0) || (decide ((p.length : Int) ≤ i) || !find_fits.letter (rd p i)))
theorem find_fits.edge_calls (A : Option Addr) (c : Nat) (p : List Int) (i : Int) (w : World) (hr : Kd.C (Kd.int .i64) w A p.length p) : Calls Tryd.prog 34 #[.slice A p.length c, .int .i64 i] w fun e w' => e = .returned (.bool (find_fits.edge true p i)) ∧ Below w.heap.size w w' := by
  have HR := Aside0.mk hr
  clear hr
  have HB := Aside0.mk (Below.refl w.heap.size w)
  by_cases h1 : i < 0
  · have h1b : decide (i < 0) = true := decide_eq_true h1
    have E := Aside0.mk (show find_fits.edge true p i = true from by unfold find_fits.edge; rw [h1b]; rfl)
    clear h1
    go_enter Tryd.func34, Tryd.ntmps34
    go_wp2
    go_ret
    exact ⟨by rw [E.out]; rfl, HB.out⟩
  have h1b : decide (i < 0) = false := decide_eq_false h1
  by_cases h2 : (p.length : Int) ≤ i
  · have h2b : decide ((p.length : Int) ≤ i) = true := decide_eq_true h2
    have E := Aside0.mk (show find_fits.edge true p i = true from by unfold find_fits.edge; rw [h1b, h2b]; rfl)
    clear h1 h2
    go_enter Tryd.func34, Tryd.ntmps34
    go_wp2
    go_ret
    exact ⟨by rw [E.out]; rfl, HB.out⟩
  have h2b : decide ((p.length : Int) ≤ i) = false := decide_eq_false h2
  obtain ⟨ad, eA, e0⟩ := Kd.at_int HR.out i (by omega) (by omega)
  subst eA
  have E := Aside0.mk (show find_fits.edge true p i = !find_fits.letter (rd p i) from by unfold find_fits.edge; rw [h1b, h2b]; rfl)
  have i0 := eq_true (show 0 ≤ i by omega)
  have i1 := eq_true (show i < (p.length : Int) by omega)
  clear h1 h2
  go_enter Tryd.func34, Tryd.ntmps34
  go_wp2_with fail
  refine (find_letter.calls (rd p i) (find_fits.letter (rd p i)) _ (find_fits.letter_f _)).mono ?_
  rintro e w' ⟨rfl, hd⟩
  have HB1 := Aside0.mk hd.below
  clear hd
  generalize find_fits.letter (rd p i) = b at *
  cases b with
  | false =>
    go_wp2
    go_ret
    exact ⟨by rw [E.out]; rfl, HB1.out⟩
  | true =>
    go_wp2
    go_ret
    exact ⟨by rw [E.out]; rfl, HB1.out⟩
def find_fits.all (text p : List Int) (fold : Bool) (i : Int) : Nat → Nat → Bool
  | 0, _ => true
  | f + 1, k => if find_fits.key fold (rd p (i + k)) = find_fits.key fold (rd text k) then find_fits.all text p fold i f (k + 1) else false
def find_fits.f (text p : List Int) (fold whole : Bool) (i : Int) : Bool := decide (i + (text.length : Int) ≤ (p.length : Int)) && (find_fits.edge whole p (i - 1) && (find_fits.edge whole p (i + (text.length : Int)) && find_fits.all text p fold i text.length 0))
def find_fits.T7 : Bool × List (List Nat × List Nat) := (true, [([], []), ([0], [0]), ([], []), ([], []), ([], []), ([3, 4], [3, 4]), ([2, 5], [2, 5]), ([6], [6]), ([1, 7], [1, 7]), ([], []), ([9], [9]), ([], []), ([10, 11, 8], [10, 11]), ([8, 12], [8, 12])])
def find_fits.B7 : List Nat := [0, 1, 0, 0, 0, 24, 60, 124, 255, 0, 512, 0, 4095, 8191]
theorem find_fits.tab7 : rtab .any (opsOf Tryd.f20 7) = find_fits.T7 := by kernel_rfl
theorem find_fits.bits7 : waitsOk find_fits.T7.2 find_fits.B7 = true := by kernel_rfl
set_option maxHeartbeats 16000000 in
set_option maxRecDepth 100000 in
theorem find_fits.calls (text p : List Int) (fold whole : Bool) (A B : Option Addr) (c d : Nat) (i : Int) (w : World) (ht : Kd.C (Kd.int .i64) w A text.length text) (hp : Kd.C (Kd.int .i64) w B p.length p) (hi : 0 ≤ i ∧ i ≤ (p.length : Int)) (hb : text.length ≤ 1000000 ∧ p.length ≤ 1000000) :
    Calls Tryd.prog 20 #[.agg #[.slice A text.length c, find_looked.key fold, find_looked.edge whole], .slice B p.length d, .int .i64 i] w fun e w' => e = .returned (.bool (find_fits.f text p fold whole i)) ∧ Below w.heap.size w w' := by
  have hu56 := Tryd.underlying56
  have HT := Aside0.mk ht
  have HP := Aside0.mk hp
  have HI := Aside0.mk (And.intro hi hb)
  clear ht hp hi hb
  cases whole with
  | true =>
    cases fold with
    | true =>
      unfold find_looked.key find_looked.edge
      rw [if_pos rfl, if_pos rfl]
      have z := blk_new w (.cells #[.slice A text.length c, .func (.func 33) #[] #[], .func (.func 34) #[] #[]] 56)
      have Z := Aside0.mk z
      have HB := Aside0.mk (below_alloc (Below.refl w.heap.size w) (.cells #[.slice A text.length c, .func (.func 33) #[] #[], .func (.func 34) #[] #[]] 56))
      have HT1 := Aside0.mk (Kd.C_alloc HT.out (.cells #[.slice A text.length c, .func (.func 33) #[] #[], .func (.func 34) #[] #[]] 56))
      have HP1 := Aside0.mk (Kd.C_alloc HP.out (.cells #[.slice A text.length c, .func (.func 33) #[] #[], .func (.func 34) #[] #[]] 56))
      clear z HT HP
      obtain ⟨en, hen⟩ : ∃ e, e = i + (text.length : Int) := ⟨_, rfl⟩
      have hw : wrap64 (i + (text.length : Int)) = en := by have := HI.out; rw [hen]; unfold wrap64; omega
      have hw2 : wrap64 (i - 1) = i - 1 := by have := HI.out; unfold wrap64; omega
      have HE := Aside0.mk hen
      clear hen
      go_enter Tryd.func20, Tryd.ntmps20
      go_upto_region 1 with (fail)
      generalize w.alloc (.cells #[.slice A text.length c, .func (.func 33) #[] #[], .func (.func 34) #[] #[]] 56) = W1 at *
      have c0 : W1.cell? ⟨w.heap.size, 0, none⟩ = some (.slice A text.length c) := (blk_cell Z.out 0).trans rfl
      have c2 : W1.cell? ⟨w.heap.size, 2, none⟩ = some (.func (.func 34) #[] #[]) := (blk_cell Z.out 2).trans rfl
      go_upto_region 2 with (fail)
      rw [hw]
      clear hw
      have HW2 := Aside0.mk hw2
      by_cases h1 : (p.length : Int) < en
      · have h1b : decide ((p.length : Int) < en) = true := decide_eq_true h1
        have E := Aside0.mk (show find_fits.f text p true true i = false from by unfold find_fits.f; rw [← HE.out, decide_eq_false (by omega)]; rfl)
        clear h1 hw2
        go_wp2
        go_ret
        exact ⟨by rw [E.out]; rfl, HB.out⟩
      have h1b : decide ((p.length : Int) < en) = false := decide_eq_false h1
      have H1 := Aside0.mk (show en ≤ (p.length : Int) by omega)
      clear h1
      go_wp2_with fail
      refine (find_fits.edge_calls B d p _ _ HP1.out).mono ?_
      rintro e W2 ⟨rfl, hb⟩
      have HB2 := Aside0.mk (below_step HB.out hb)
      have Z2 := Aside0.mk (blk_below Z.out hb)
      have HT2 := Aside0.mk (Kd.C_below HT1.out hb)
      have HP2 := Aside0.mk (Kd.C_below HP1.out hb)
      clear hb hw2 c0 c2 Z HT1 HP1 HB
      have c2 : W2.cell? ⟨w.heap.size, 2, none⟩ = some (.func (.func 34) #[] #[]) := (blk_cell Z2.out 2).trans rfl
      rw [HW2.out]
      obtain ⟨b1, hb1⟩ : ∃ b, b = find_fits.edge true p (i - 1) := ⟨_, rfl⟩
      rw [← hb1]
      cases b1 with
      | false =>
        have E := Aside0.mk (show find_fits.f text p true true i = false from by unfold find_fits.f; rw [← hb1, Bool.false_and, Bool.and_false])
        clear hb1
        go_wp2
        go_ret
        exact ⟨by rw [E.out]; rfl, HB2.out⟩
      | true =>
        have E1 := Aside0.mk hb1
        clear hb1
        go_wp2_with fail
        refine (find_fits.edge_calls B d p _ _ HP2.out).mono ?_
        rintro e W3 ⟨rfl, hb⟩
        have HB3 := Aside0.mk (below_step HB2.out hb)
        have Z3 := Aside0.mk (blk_below Z2.out hb)
        have HT3 := Aside0.mk (Kd.C_below HT2.out hb)
        have HP3 := Aside0.mk (Kd.C_below HP2.out hb)
        clear hb c2 Z2 HT2 HP2 HB2
        obtain ⟨b2, hb2⟩ : ∃ b, b = find_fits.edge true p en := ⟨_, rfl⟩
        rw [← hb2]
        cases b2 with
        | false =>
          have E := Aside0.mk (show find_fits.f text p true true i = false from by unfold find_fits.f; rw [← HE.out, ← hb2, Bool.false_and, Bool.and_false, Bool.and_false])
          clear hb2
          go_wp2
          go_ret
          exact ⟨by rw [E.out]; rfl, HB3.out⟩
        | true =>
          have c0 : W3.cell? ⟨w.heap.size, 0, none⟩ = some (.slice A text.length c) := (blk_cell Z3.out 0).trans rfl
          have E := Aside0.mk (show find_fits.f text p true true i = find_fits.all text p true i text.length 0 from by unfold find_fits.f; rw [← HE.out, ← hb2, ← E1.out, decide_eq_true H1.out]; rfl)
          have I0 := Aside0.mk (And.intro HB3.out (And.intro Z3.out (And.intro HT3.out HP3.out)))
          clear hb2 E1 HB3 Z3 HT3 HP3 HW2
          go_wp2
          go_loopg [8, 9, 39] (text.length + 1) (fun kq v8 v9 v39 wr => ∃ (k : Nat), v39 = .int .i64 (k : Int) ∧ Aside0 (Below w.heap.size w wr ∧ wr.heap[w.heap.size]? = some (Obj.cells #[.slice A text.length c, .func (.func 33) #[] #[], .func (.func 34) #[] #[]] 56 (0, 0)) ∧ Kd.C (Kd.int .i64) wr A text.length text ∧ Kd.C (Kd.int .i64) wr B p.length p) ∧ Aside0 (text.length + 1 = k + kq ∧ find_fits.f text p true true i = find_fits.all text p true i (kq - 1) k))
          case atStart => exact ⟨0, rfl, I0, ⟨by omega, E.out⟩⟩
          case round =>
            clear I0 E c0
            obtain ⟨k, rfl, HJ, HK⟩ := hrel
            by_cases c5 : k < text.length
            · have c5b : decide ((k : Int) < (text.length : Int)) = true := decide_eq_true (by omega)
              have c5c : decide (k < text.length) = true := decide_eq_true c5
              obtain ⟨f, rfl⟩ : ∃ f, gk = f + 2 := ⟨gk - 2, by have := HK.out.1; omega⟩
              have hk := HK.out.2
              rw [show f + 2 - 1 = f + 1 from rfl, find_fits.all] at hk
              obtain ⟨ad, eA, e0⟩ := Kd.at_int HJ.out.2.2.1 (k : Int) (by omega) (by omega)
              obtain ⟨bd, eB, d0⟩ := Kd.at_int HJ.out.2.2.2 (i + (k : Int)) (by have := HI.out; omega) (by have := H1.out; have := HE.out; omega)
              subst eA
              subst eB
              rw [Int.toNat_natCast] at e0
              have c1 : wr.cell? ⟨w.heap.size, 1, none⟩ = some (.func (.func 33) #[] #[]) := (blk_cell HJ.out.2.1 1).trans rfl
              have k0 := eq_true (show (0 : Int) ≤ (k : Int) by omega)
              have k1 := eq_true (show (k : Int) < (text.length : Int) by omega)
              obtain ⟨ik, hik⟩ : ∃ x, x = i + (k : Int) := ⟨_, rfl⟩
              have hw : wrap64 (i + (k : Int)) = ik := by have := HI.out; rw [hik]; unfold wrap64; omega
              have q0 := eq_true (show 0 ≤ ik by have := HI.out; omega)
              have q1 := eq_true (show ik < (p.length : Int) by have := H1.out; have := HE.out; omega)
              rw [← hik] at d0 hk
              have WI := Aside0.mk (show wrap64 ((k : Int) + 1) = ((k + 1 : Nat) : Int) from by have := HI.out; unfold wrap64; omega)
              obtain ⟨tc, htc⟩ : ∃ x, x = rd text (k : Int) := ⟨_, rfl⟩
              obtain ⟨pc, hpc⟩ : ∃ x, x = rd p ik := ⟨_, rfl⟩
              rw [← htc] at e0 hk
              rw [← hpc] at d0 hk
              have HKK := Aside0.mk hk
              have C5 := Aside0.mk c5
              clear htc hpc hk c5 hik
              go_upto_region 7 with (fail)
              refine start_ (n := 14) (S := fun w' => w'.cell? ⟨w.heap.size, 1, none⟩ = some (.func (.func 33) #[] #[]) ∧ w'.cell? (bd.add ik.toNat) = some (.int .i64 pc)) (ds := []) #[false, false, false, false, false, false, false, false, false, false, false, false, false, false] (by kernel_rfl) rfl rfl ⟨c1, d0⟩ (fun hHeld => ?_)
              refine with_tabW find_fits.tab7 find_fits.bits7 (fun HT_ HW_ => ?_)
              have J5 := Aside0.mk (And.intro (Below.drew HJ.out.1) (And.intro (blk_drew HJ.out.2.1) (And.intro (Kd.C_drew HJ.out.2.2.1) (Kd.C_drew HJ.out.2.2.2))))
              clear HJ c1 d0 e0
              generalize wr.drew = w5 at *
              refine pure_ (i := 0) (N := some 44) (v := ?_) (a' := ?_) #[true, false, false, false, false, false, false, false, false, false, false, false, false, false] rfl rfl (any_of HT_.out (by kernel_rfl)) (fun _ _ _ h => h) (Or.inl ⟨by rfl, ?_⟩) ?_ ?_
              rotate_left
              · intro w'
                go_simp
                with_reducible rfl
              rotate_left
              · simp only [Act.put, List.setIfInBounds_toArray, List.set_cons_zero, List.set_cons_succ, i64_w, i32_w]
                rfl
              refine take_ (i := 1) (N := some 45) (v := ?_) (a' := ?_) #[true, true, false, false, false, false, false, false, false, false, false, false, false, false] rfl rfl (take_ofW HT_.out HW_.out (by kernel_rfl)) (fun _ _ _ h => h) (Or.inl ⟨by rfl, ?_⟩) hHeld ?_ ?_
              rotate_left
              · rintro w' ⟨s0, s1⟩
                go_simp
                with_reducible rfl
              rotate_left
              · simp only [Act.put, List.setIfInBounds_toArray, List.set_cons_zero, List.set_cons_succ, i64_w, i32_w]
                rfl
              refine pure_ (i := 2) (N := some 46) (v := ?_) (a' := ?_) #[true, true, true, false, false, false, false, false, false, false, false, false, false, false] rfl rfl (any_of HT_.out (by kernel_rfl)) (fun _ _ _ h => h) (Or.inl ⟨by rfl, ?_⟩) ?_ ?_
              rotate_left
              · intro w'
                go_simp
                with_reducible rfl
              rotate_left
              · simp only [Act.put, List.setIfInBounds_toArray, List.set_cons_zero, List.set_cons_succ, i64_w, i32_w]
                rfl
              refine pure_ (i := 3) (N := some 47) (v := ?_) (a' := ?_) #[true, true, true, true, false, false, false, false, false, false, false, false, false, false] rfl rfl (any_of HT_.out (by kernel_rfl)) (fun _ _ _ h => h) (Or.inl ⟨by rfl, ?_⟩) ?_ ?_
              rotate_left
              · intro w'
                go_simp
                with_reducible rfl
              rotate_left
              · simp only [Act.put, List.setIfInBounds_toArray, List.set_cons_zero, List.set_cons_succ, i64_w, i32_w]
                rfl
              refine pure_ (i := 4) (N := some 48) (v := ?_) (a' := ?_) #[true, true, true, true, true, false, false, false, false, false, false, false, false, false] rfl rfl (any_of HT_.out (by kernel_rfl)) (fun _ _ _ h => h) (Or.inl ⟨by rfl, ?_⟩) ?_ ?_
              rotate_left
              · intro w'
                go_simp
                with_reducible rfl
              rotate_left
              · simp only [Act.put, List.setIfInBounds_toArray, List.set_cons_zero, List.set_cons_succ, i64_w, i32_w]
                rfl
              refine pure_ (i := 5) (N := some 49) (v := ?_) (a' := ?_) #[true, true, true, true, true, true, false, false, false, false, false, false, false, false] rfl rfl (any_of HT_.out (by kernel_rfl)) (fun _ _ _ h => h) (Or.inl ⟨by rfl, ?_⟩) ?_ ?_
              rotate_left
              · intro w'
                go_simp
                with_reducible rfl
              rotate_left
              · simp only [Act.put, List.setIfInBounds_toArray, List.set_cons_zero, List.set_cons_succ, i64_w, i32_w]
                rfl
              rw [hw]
              refine pure_ (i := 6) (N := some 50) (v := ?_) (a' := ?_) #[true, true, true, true, true, true, true, false, false, false, false, false, false, false] rfl rfl (any_of HT_.out (by kernel_rfl)) (fun _ _ _ h => h) (Or.inl ⟨by rfl, ?_⟩) ?_ ?_
              rotate_left
              · intro w'
                go_simp
                with_reducible rfl
              rotate_left
              · simp only [Act.put, List.setIfInBounds_toArray, List.set_cons_zero, List.set_cons_succ, i64_w, i32_w]
                rfl
              refine take_ (i := 7) (N := some 51) (v := ?_) (a' := ?_) #[true, true, true, true, true, true, true, true, false, false, false, false, false, false] rfl rfl (take_ofW HT_.out HW_.out (by kernel_rfl)) (fun _ _ _ h => h) (Or.inl ⟨by rfl, ?_⟩) hHeld ?_ ?_
              rotate_left
              · rintro w' ⟨s0, s1⟩
                go_simp
                with_reducible rfl
              rotate_left
              · simp only [Act.put, List.setIfInBounds_toArray, List.set_cons_zero, List.set_cons_succ, i64_w, i32_w]
                rfl
              refine pure_ (i := 9) (N := some 53) (v := ?_) (a' := ?_) #[true, true, true, true, true, true, true, true, false, true, false, false, false, false] rfl rfl (any_of HT_.out (by kernel_rfl)) (fun _ _ _ h => h) (Or.inl ⟨by rfl, ?_⟩) ?_ ?_
              rotate_left
              · intro w'
                go_simp
                with_reducible rfl
              rotate_left
              · simp only [Act.put, List.setIfInBounds_toArray, List.set_cons_zero, List.set_cons_succ, i64_w, i32_w]
                rfl
              refine take_ (i := 10) (N := some 54) (v := ?_) (a' := ?_) #[true, true, true, true, true, true, true, true, false, true, true, false, false, false] rfl rfl (take_ofW HT_.out HW_.out (by kernel_rfl)) (fun _ _ _ h => h) (Or.inl ⟨by rfl, ?_⟩) hHeld ?_ ?_
              rotate_left
              · rintro w' ⟨s0, s1⟩
                go_simp
                with_reducible rfl
              rotate_left
              · simp only [Act.put, List.setIfInBounds_toArray, List.set_cons_zero, List.set_cons_succ, i64_w, i32_w]
                rfl
              refine pure_ (i := 11) (N := some 55) (v := ?_) (a' := ?_) #[true, true, true, true, true, true, true, true, false, true, true, true, false, false] rfl rfl (any_of HT_.out (by kernel_rfl)) (fun _ _ _ h => h) (Or.inl ⟨by rfl, ?_⟩) ?_ ?_
              rotate_left
              · intro w'
                go_simp
                with_reducible rfl
              rotate_left
              · simp only [Act.put, List.setIfInBounds_toArray, List.set_cons_zero, List.set_cons_succ, i64_w, i32_w]
                rfl
              refine one_ (i := 8) (N := some 52) #[true, true, true, true, true, true, true, true, true, true, true, true, false, false] rfl rfl (one_of HT_.out (by kernel_rfl)) (by decide) (fun K hK => ?_)
              refine find_fits.goesR Tryd.func33 (by kernel_rfl) rfl #[.int .i64 pc] (by rfl) rfl rfl rfl (by simp only [List.map_toArray, List.map_cons, List.map_nil]; rfl) ?_
              refine (find_fits.low_calls pc _).mono ?_
              rintro e w6 ⟨rfl, hb⟩
              refine ⟨_, rfl, ?_⟩
              have J6 := Aside0.mk (And.intro (below_step J5.out.1 hb) (And.intro (blk_below J5.out.2.1 hb) (And.intro (Kd.C_below J5.out.2.2.1 hb) (Kd.C_below J5.out.2.2.2 hb))))
              have keep : ∀ (ad : Addr) (u : Value), w5.cell? ad = some u → w6.cell? ad = some u := fun ad u s => (hb.cell (World.block_lt_of_cell? w5 _ s)).trans s
              refine hK.out _ _ ⟨keep _ _ hHeld.1, keep _ _ hHeld.2⟩ (fun hHeld => ?_)
              clear hK K keep hb J5
              refine norm_ (a' := ?_) ?_ ?_
              rotate_left
              · show Act.put _ (some 52) _ = _
                simp only [Act.put, List.setIfInBounds_toArray, List.set_cons_zero, List.set_cons_succ, i64_w, i32_w]
                rfl
              refine one_ (i := 12) (N := some 56) #[true, true, true, true, true, true, true, true, true, true, true, true, true, false] rfl rfl (one_of HT_.out (by kernel_rfl)) (by decide) (fun K hK => ?_)
              refine find_fits.goesR Tryd.func33 (by kernel_rfl) rfl #[.int .i64 tc] (by rfl) rfl rfl rfl (by simp only [List.map_toArray, List.map_cons, List.map_nil]; rfl) ?_
              refine (find_fits.low_calls tc _).mono ?_
              rintro e w7 ⟨rfl, hb⟩
              refine ⟨_, rfl, ?_⟩
              have J7 := Aside0.mk (And.intro (below_step J6.out.1 hb) (And.intro (blk_below J6.out.2.1 hb) (And.intro (Kd.C_below J6.out.2.2.1 hb) (Kd.C_below J6.out.2.2.2 hb))))
              have keep : ∀ (ad : Addr) (u : Value), w6.cell? ad = some u → w7.cell? ad = some u := fun ad u s => (hb.cell (World.block_lt_of_cell? w6 _ s)).trans s
              refine hK.out _ _ ⟨keep _ _ hHeld.1, keep _ _ hHeld.2⟩ (fun hHeld => ?_)
              clear hK K keep hb J6
              refine norm_ (a' := ?_) ?_ ?_
              rotate_left
              · show Act.put _ (some 56) _ = _
                simp only [Act.put, List.setIfInBounds_toArray, List.set_cons_zero, List.set_cons_succ, i64_w, i32_w]
                rfl
              have hkk := HKK.out
              generalize find_fits.key true pc = kp at *
              generalize find_fits.key true tc = kt at *
              by_cases hq : kp = kt
              · have hqb : (kp != kt) = false := bne_eq_false_iff_eq.mpr hq
                rw [if_pos hq] at hkk
                have HQ := Aside0.mk hkk
                clear hkk hq HKK
                refine pure_ (i := 13) (N := some 57) (v := ?_) (a' := ?_) #[true, true, true, true, true, true, true, true, true, true, true, true, true, true] rfl rfl (any_of HT_.out (by kernel_rfl)) (fun _ _ _ h => h) (Or.inl ⟨by rfl, ?_⟩) ?_ ?_
                rotate_left
                · intro w'
                  go_simp
                  with_reducible rfl
                rotate_left
                · simp only [Act.put, List.setIfInBounds_toArray, List.set_cons_zero, List.set_cons_succ, i64_w, i32_w]
                  rfl
                refine done_ (done_of HT_.out (by kernel_rfl)) ?_
                go_wp2
                go_roundg (f + 1)
                case measure => omega
                case rel => exact ⟨k + 1, by rw [WI.out], J7, ⟨by have := HK.out.1; omega, HQ.out⟩⟩
              · have hqb : (kp != kt) = true := bne_iff_ne.mpr hq
                rw [if_neg hq] at hkk
                have HQ := Aside0.mk hkk
                clear hkk hq HKK
                refine pure_ (i := 13) (N := some 57) (v := ?_) (a' := ?_) #[true, true, true, true, true, true, true, true, true, true, true, true, true, true] rfl rfl (any_of HT_.out (by kernel_rfl)) (fun _ _ _ h => h) (Or.inl ⟨by rfl, ?_⟩) ?_ ?_
                rotate_left
                · intro w'
                  go_simp
                  with_reducible rfl
                rotate_left
                · simp only [Act.put, List.setIfInBounds_toArray, List.set_cons_zero, List.set_cons_succ, i64_w, i32_w]
                  rfl
                refine done_ (done_of HT_.out (by kernel_rfl)) ?_
                go_wp2
                go_ret
                exact ⟨by rw [HQ.out]; rfl, J7.out.1⟩
            · have c5b : decide ((k : Int) < (text.length : Int)) = false := decide_eq_false (by omega)
              have c5c : decide (k < text.length) = false := decide_eq_false c5
              have EE := Aside0.mk (show find_fits.f text p true true i = true from by have h1 := HK.out.1; have h2 := HK.out.2; rw [h2, show gk - 1 = 0 by omega]; rfl)
              clear c5
              go_wp2
              go_ret
              exact ⟨by rw [EE.out]; rfl, HJ.out.1⟩
    | false =>
      unfold find_looked.key find_looked.edge
      rw [if_neg (by decide), if_pos rfl]
      have z := blk_new w (.cells #[.slice A text.length c, .func (.func 31) #[] #[], .func (.func 34) #[] #[]] 56)
      have Z := Aside0.mk z
      have HB := Aside0.mk (below_alloc (Below.refl w.heap.size w) (.cells #[.slice A text.length c, .func (.func 31) #[] #[], .func (.func 34) #[] #[]] 56))
      have HT1 := Aside0.mk (Kd.C_alloc HT.out (.cells #[.slice A text.length c, .func (.func 31) #[] #[], .func (.func 34) #[] #[]] 56))
      have HP1 := Aside0.mk (Kd.C_alloc HP.out (.cells #[.slice A text.length c, .func (.func 31) #[] #[], .func (.func 34) #[] #[]] 56))
      clear z HT HP
      obtain ⟨en, hen⟩ : ∃ e, e = i + (text.length : Int) := ⟨_, rfl⟩
      have hw : wrap64 (i + (text.length : Int)) = en := by have := HI.out; rw [hen]; unfold wrap64; omega
      have hw2 : wrap64 (i - 1) = i - 1 := by have := HI.out; unfold wrap64; omega
      have HE := Aside0.mk hen
      clear hen
      go_enter Tryd.func20, Tryd.ntmps20
      go_upto_region 1 with (fail)
      generalize w.alloc (.cells #[.slice A text.length c, .func (.func 31) #[] #[], .func (.func 34) #[] #[]] 56) = W1 at *
      have c0 : W1.cell? ⟨w.heap.size, 0, none⟩ = some (.slice A text.length c) := (blk_cell Z.out 0).trans rfl
      have c2 : W1.cell? ⟨w.heap.size, 2, none⟩ = some (.func (.func 34) #[] #[]) := (blk_cell Z.out 2).trans rfl
      go_upto_region 2 with (fail)
      rw [hw]
      clear hw
      have HW2 := Aside0.mk hw2
      by_cases h1 : (p.length : Int) < en
      · have h1b : decide ((p.length : Int) < en) = true := decide_eq_true h1
        have E := Aside0.mk (show find_fits.f text p false true i = false from by unfold find_fits.f; rw [← HE.out, decide_eq_false (by omega)]; rfl)
        clear h1 hw2
        go_wp2
        go_ret
        exact ⟨by rw [E.out]; rfl, HB.out⟩
      have h1b : decide ((p.length : Int) < en) = false := decide_eq_false h1
      have H1 := Aside0.mk (show en ≤ (p.length : Int) by omega)
      clear h1
      go_wp2_with fail
      refine (find_fits.edge_calls B d p _ _ HP1.out).mono ?_
      rintro e W2 ⟨rfl, hb⟩
      have HB2 := Aside0.mk (below_step HB.out hb)
      have Z2 := Aside0.mk (blk_below Z.out hb)
      have HT2 := Aside0.mk (Kd.C_below HT1.out hb)
      have HP2 := Aside0.mk (Kd.C_below HP1.out hb)
      clear hb hw2 c0 c2 Z HT1 HP1 HB
      have c2 : W2.cell? ⟨w.heap.size, 2, none⟩ = some (.func (.func 34) #[] #[]) := (blk_cell Z2.out 2).trans rfl
      rw [HW2.out]
      obtain ⟨b1, hb1⟩ : ∃ b, b = find_fits.edge true p (i - 1) := ⟨_, rfl⟩
      rw [← hb1]
      cases b1 with
      | false =>
        have E := Aside0.mk (show find_fits.f text p false true i = false from by unfold find_fits.f; rw [← hb1, Bool.false_and, Bool.and_false])
        clear hb1
        go_wp2
        go_ret
        exact ⟨by rw [E.out]; rfl, HB2.out⟩
      | true =>
        have E1 := Aside0.mk hb1
        clear hb1
        go_wp2_with fail
        refine (find_fits.edge_calls B d p _ _ HP2.out).mono ?_
        rintro e W3 ⟨rfl, hb⟩
        have HB3 := Aside0.mk (below_step HB2.out hb)
        have Z3 := Aside0.mk (blk_below Z2.out hb)
        have HT3 := Aside0.mk (Kd.C_below HT2.out hb)
        have HP3 := Aside0.mk (Kd.C_below HP2.out hb)
        clear hb c2 Z2 HT2 HP2 HB2
        obtain ⟨b2, hb2⟩ : ∃ b, b = find_fits.edge true p en := ⟨_, rfl⟩
        rw [← hb2]
        cases b2 with
        | false =>
          have E := Aside0.mk (show find_fits.f text p false true i = false from by unfold find_fits.f; rw [← HE.out, ← hb2, Bool.false_and, Bool.and_false, Bool.and_false])
          clear hb2
          go_wp2
          go_ret
          exact ⟨by rw [E.out]; rfl, HB3.out⟩
        | true =>
          have c0 : W3.cell? ⟨w.heap.size, 0, none⟩ = some (.slice A text.length c) := (blk_cell Z3.out 0).trans rfl
          have E := Aside0.mk (show find_fits.f text p false true i = find_fits.all text p false i text.length 0 from by unfold find_fits.f; rw [← HE.out, ← hb2, ← E1.out, decide_eq_true H1.out]; rfl)
          have I0 := Aside0.mk (And.intro HB3.out (And.intro Z3.out (And.intro HT3.out HP3.out)))
          clear hb2 E1 HB3 Z3 HT3 HP3 HW2
          go_wp2
          go_loopg [8, 9, 39] (text.length + 1) (fun kq v8 v9 v39 wr => ∃ (k : Nat), v39 = .int .i64 (k : Int) ∧ Aside0 (Below w.heap.size w wr ∧ wr.heap[w.heap.size]? = some (Obj.cells #[.slice A text.length c, .func (.func 31) #[] #[], .func (.func 34) #[] #[]] 56 (0, 0)) ∧ Kd.C (Kd.int .i64) wr A text.length text ∧ Kd.C (Kd.int .i64) wr B p.length p) ∧ Aside0 (text.length + 1 = k + kq ∧ find_fits.f text p false true i = find_fits.all text p false i (kq - 1) k))
          case atStart => exact ⟨0, rfl, I0, ⟨by omega, E.out⟩⟩
          case round =>
            clear I0 E c0
            obtain ⟨k, rfl, HJ, HK⟩ := hrel
            by_cases c5 : k < text.length
            · have c5b : decide ((k : Int) < (text.length : Int)) = true := decide_eq_true (by omega)
              have c5c : decide (k < text.length) = true := decide_eq_true c5
              obtain ⟨f, rfl⟩ : ∃ f, gk = f + 2 := ⟨gk - 2, by have := HK.out.1; omega⟩
              have hk := HK.out.2
              rw [show f + 2 - 1 = f + 1 from rfl, find_fits.all] at hk
              obtain ⟨ad, eA, e0⟩ := Kd.at_int HJ.out.2.2.1 (k : Int) (by omega) (by omega)
              obtain ⟨bd, eB, d0⟩ := Kd.at_int HJ.out.2.2.2 (i + (k : Int)) (by have := HI.out; omega) (by have := H1.out; have := HE.out; omega)
              subst eA
              subst eB
              rw [Int.toNat_natCast] at e0
              have c1 : wr.cell? ⟨w.heap.size, 1, none⟩ = some (.func (.func 31) #[] #[]) := (blk_cell HJ.out.2.1 1).trans rfl
              have k0 := eq_true (show (0 : Int) ≤ (k : Int) by omega)
              have k1 := eq_true (show (k : Int) < (text.length : Int) by omega)
              obtain ⟨ik, hik⟩ : ∃ x, x = i + (k : Int) := ⟨_, rfl⟩
              have hw : wrap64 (i + (k : Int)) = ik := by have := HI.out; rw [hik]; unfold wrap64; omega
              have q0 := eq_true (show 0 ≤ ik by have := HI.out; omega)
              have q1 := eq_true (show ik < (p.length : Int) by have := H1.out; have := HE.out; omega)
              rw [← hik] at d0 hk
              have WI := Aside0.mk (show wrap64 ((k : Int) + 1) = ((k + 1 : Nat) : Int) from by have := HI.out; unfold wrap64; omega)
              obtain ⟨tc, htc⟩ : ∃ x, x = rd text (k : Int) := ⟨_, rfl⟩
              obtain ⟨pc, hpc⟩ : ∃ x, x = rd p ik := ⟨_, rfl⟩
              rw [← htc] at e0 hk
              rw [← hpc] at d0 hk
              have HKK := Aside0.mk hk
              have C5 := Aside0.mk c5
              clear htc hpc hk c5 hik
              go_upto_region 7 with (fail)
              refine start_ (n := 14) (S := fun w' => w'.cell? ⟨w.heap.size, 1, none⟩ = some (.func (.func 31) #[] #[]) ∧ w'.cell? (bd.add ik.toNat) = some (.int .i64 pc)) (ds := []) #[false, false, false, false, false, false, false, false, false, false, false, false, false, false] (by kernel_rfl) rfl rfl ⟨c1, d0⟩ (fun hHeld => ?_)
              refine with_tabW find_fits.tab7 find_fits.bits7 (fun HT_ HW_ => ?_)
              have J5 := Aside0.mk (And.intro (Below.drew HJ.out.1) (And.intro (blk_drew HJ.out.2.1) (And.intro (Kd.C_drew HJ.out.2.2.1) (Kd.C_drew HJ.out.2.2.2))))
              clear HJ c1 d0 e0
              generalize wr.drew = w5 at *
              refine pure_ (i := 0) (N := some 44) (v := ?_) (a' := ?_) #[true, false, false, false, false, false, false, false, false, false, false, false, false, false] rfl rfl (any_of HT_.out (by kernel_rfl)) (fun _ _ _ h => h) (Or.inl ⟨by rfl, ?_⟩) ?_ ?_
              rotate_left
              · intro w'
                go_simp
                with_reducible rfl
              rotate_left
              · simp only [Act.put, List.setIfInBounds_toArray, List.set_cons_zero, List.set_cons_succ, i64_w, i32_w]
                rfl
              refine take_ (i := 1) (N := some 45) (v := ?_) (a' := ?_) #[true, true, false, false, false, false, false, false, false, false, false, false, false, false] rfl rfl (take_ofW HT_.out HW_.out (by kernel_rfl)) (fun _ _ _ h => h) (Or.inl ⟨by rfl, ?_⟩) hHeld ?_ ?_
              rotate_left
              · rintro w' ⟨s0, s1⟩
                go_simp
                with_reducible rfl
              rotate_left
              · simp only [Act.put, List.setIfInBounds_toArray, List.set_cons_zero, List.set_cons_succ, i64_w, i32_w]
                rfl
              refine pure_ (i := 2) (N := some 46) (v := ?_) (a' := ?_) #[true, true, true, false, false, false, false, false, false, false, false, false, false, false] rfl rfl (any_of HT_.out (by kernel_rfl)) (fun _ _ _ h => h) (Or.inl ⟨by rfl, ?_⟩) ?_ ?_
              rotate_left
              · intro w'
                go_simp
                with_reducible rfl
              rotate_left
              · simp only [Act.put, List.setIfInBounds_toArray, List.set_cons_zero, List.set_cons_succ, i64_w, i32_w]
                rfl
              refine pure_ (i := 3) (N := some 47) (v := ?_) (a' := ?_) #[true, true, true, true, false, false, false, false, false, false, false, false, false, false] rfl rfl (any_of HT_.out (by kernel_rfl)) (fun _ _ _ h => h) (Or.inl ⟨by rfl, ?_⟩) ?_ ?_
              rotate_left
              · intro w'
                go_simp
                with_reducible rfl
              rotate_left
              · simp only [Act.put, List.setIfInBounds_toArray, List.set_cons_zero, List.set_cons_succ, i64_w, i32_w]
                rfl
              refine pure_ (i := 4) (N := some 48) (v := ?_) (a' := ?_) #[true, true, true, true, true, false, false, false, false, false, false, false, false, false] rfl rfl (any_of HT_.out (by kernel_rfl)) (fun _ _ _ h => h) (Or.inl ⟨by rfl, ?_⟩) ?_ ?_
              rotate_left
              · intro w'
                go_simp
                with_reducible rfl
              rotate_left
              · simp only [Act.put, List.setIfInBounds_toArray, List.set_cons_zero, List.set_cons_succ, i64_w, i32_w]
                rfl
              refine pure_ (i := 5) (N := some 49) (v := ?_) (a' := ?_) #[true, true, true, true, true, true, false, false, false, false, false, false, false, false] rfl rfl (any_of HT_.out (by kernel_rfl)) (fun _ _ _ h => h) (Or.inl ⟨by rfl, ?_⟩) ?_ ?_
              rotate_left
              · intro w'
                go_simp
                with_reducible rfl
              rotate_left
              · simp only [Act.put, List.setIfInBounds_toArray, List.set_cons_zero, List.set_cons_succ, i64_w, i32_w]
                rfl
              rw [hw]
              refine pure_ (i := 6) (N := some 50) (v := ?_) (a' := ?_) #[true, true, true, true, true, true, true, false, false, false, false, false, false, false] rfl rfl (any_of HT_.out (by kernel_rfl)) (fun _ _ _ h => h) (Or.inl ⟨by rfl, ?_⟩) ?_ ?_
              rotate_left
              · intro w'
                go_simp
                with_reducible rfl
              rotate_left
              · simp only [Act.put, List.setIfInBounds_toArray, List.set_cons_zero, List.set_cons_succ, i64_w, i32_w]
                rfl
              refine take_ (i := 7) (N := some 51) (v := ?_) (a' := ?_) #[true, true, true, true, true, true, true, true, false, false, false, false, false, false] rfl rfl (take_ofW HT_.out HW_.out (by kernel_rfl)) (fun _ _ _ h => h) (Or.inl ⟨by rfl, ?_⟩) hHeld ?_ ?_
              rotate_left
              · rintro w' ⟨s0, s1⟩
                go_simp
                with_reducible rfl
              rotate_left
              · simp only [Act.put, List.setIfInBounds_toArray, List.set_cons_zero, List.set_cons_succ, i64_w, i32_w]
                rfl
              refine pure_ (i := 9) (N := some 53) (v := ?_) (a' := ?_) #[true, true, true, true, true, true, true, true, false, true, false, false, false, false] rfl rfl (any_of HT_.out (by kernel_rfl)) (fun _ _ _ h => h) (Or.inl ⟨by rfl, ?_⟩) ?_ ?_
              rotate_left
              · intro w'
                go_simp
                with_reducible rfl
              rotate_left
              · simp only [Act.put, List.setIfInBounds_toArray, List.set_cons_zero, List.set_cons_succ, i64_w, i32_w]
                rfl
              refine take_ (i := 10) (N := some 54) (v := ?_) (a' := ?_) #[true, true, true, true, true, true, true, true, false, true, true, false, false, false] rfl rfl (take_ofW HT_.out HW_.out (by kernel_rfl)) (fun _ _ _ h => h) (Or.inl ⟨by rfl, ?_⟩) hHeld ?_ ?_
              rotate_left
              · rintro w' ⟨s0, s1⟩
                go_simp
                with_reducible rfl
              rotate_left
              · simp only [Act.put, List.setIfInBounds_toArray, List.set_cons_zero, List.set_cons_succ, i64_w, i32_w]
                rfl
              refine pure_ (i := 11) (N := some 55) (v := ?_) (a' := ?_) #[true, true, true, true, true, true, true, true, false, true, true, true, false, false] rfl rfl (any_of HT_.out (by kernel_rfl)) (fun _ _ _ h => h) (Or.inl ⟨by rfl, ?_⟩) ?_ ?_
              rotate_left
              · intro w'
                go_simp
                with_reducible rfl
              rotate_left
              · simp only [Act.put, List.setIfInBounds_toArray, List.set_cons_zero, List.set_cons_succ, i64_w, i32_w]
                rfl
              refine one_ (i := 8) (N := some 52) #[true, true, true, true, true, true, true, true, true, true, true, true, false, false] rfl rfl (one_of HT_.out (by kernel_rfl)) (by decide) (fun K hK => ?_)
              refine find_fits.goesR Tryd.func31 (by kernel_rfl) rfl #[.int .i64 pc] (by rfl) rfl rfl rfl (by simp only [List.map_toArray, List.map_cons, List.map_nil]; rfl) ?_
              refine (find_fits.key_calls pc _).mono ?_
              rintro e w6 ⟨rfl, hb⟩
              refine ⟨_, rfl, ?_⟩
              have J6 := Aside0.mk (And.intro (below_step J5.out.1 hb) (And.intro (blk_below J5.out.2.1 hb) (And.intro (Kd.C_below J5.out.2.2.1 hb) (Kd.C_below J5.out.2.2.2 hb))))
              have keep : ∀ (ad : Addr) (u : Value), w5.cell? ad = some u → w6.cell? ad = some u := fun ad u s => (hb.cell (World.block_lt_of_cell? w5 _ s)).trans s
              refine hK.out _ _ ⟨keep _ _ hHeld.1, keep _ _ hHeld.2⟩ (fun hHeld => ?_)
              clear hK K keep hb J5
              refine norm_ (a' := ?_) ?_ ?_
              rotate_left
              · show Act.put _ (some 52) _ = _
                simp only [Act.put, List.setIfInBounds_toArray, List.set_cons_zero, List.set_cons_succ, i64_w, i32_w]
                rfl
              refine one_ (i := 12) (N := some 56) #[true, true, true, true, true, true, true, true, true, true, true, true, true, false] rfl rfl (one_of HT_.out (by kernel_rfl)) (by decide) (fun K hK => ?_)
              refine find_fits.goesR Tryd.func31 (by kernel_rfl) rfl #[.int .i64 tc] (by rfl) rfl rfl rfl (by simp only [List.map_toArray, List.map_cons, List.map_nil]; rfl) ?_
              refine (find_fits.key_calls tc _).mono ?_
              rintro e w7 ⟨rfl, hb⟩
              refine ⟨_, rfl, ?_⟩
              have J7 := Aside0.mk (And.intro (below_step J6.out.1 hb) (And.intro (blk_below J6.out.2.1 hb) (And.intro (Kd.C_below J6.out.2.2.1 hb) (Kd.C_below J6.out.2.2.2 hb))))
              have keep : ∀ (ad : Addr) (u : Value), w6.cell? ad = some u → w7.cell? ad = some u := fun ad u s => (hb.cell (World.block_lt_of_cell? w6 _ s)).trans s
              refine hK.out _ _ ⟨keep _ _ hHeld.1, keep _ _ hHeld.2⟩ (fun hHeld => ?_)
              clear hK K keep hb J6
              refine norm_ (a' := ?_) ?_ ?_
              rotate_left
              · show Act.put _ (some 56) _ = _
                simp only [Act.put, List.setIfInBounds_toArray, List.set_cons_zero, List.set_cons_succ, i64_w, i32_w]
                rfl
              have hkk := HKK.out
              generalize find_fits.key false pc = kp at *
              generalize find_fits.key false tc = kt at *
              by_cases hq : kp = kt
              · have hqb : (kp != kt) = false := bne_eq_false_iff_eq.mpr hq
                rw [if_pos hq] at hkk
                have HQ := Aside0.mk hkk
                clear hkk hq HKK
                refine pure_ (i := 13) (N := some 57) (v := ?_) (a' := ?_) #[true, true, true, true, true, true, true, true, true, true, true, true, true, true] rfl rfl (any_of HT_.out (by kernel_rfl)) (fun _ _ _ h => h) (Or.inl ⟨by rfl, ?_⟩) ?_ ?_
                rotate_left
                · intro w'
                  go_simp
                  with_reducible rfl
                rotate_left
                · simp only [Act.put, List.setIfInBounds_toArray, List.set_cons_zero, List.set_cons_succ, i64_w, i32_w]
                  rfl
                refine done_ (done_of HT_.out (by kernel_rfl)) ?_
                go_wp2
                go_roundg (f + 1)
                case measure => omega
                case rel => exact ⟨k + 1, by rw [WI.out], J7, ⟨by have := HK.out.1; omega, HQ.out⟩⟩
              · have hqb : (kp != kt) = true := bne_iff_ne.mpr hq
                rw [if_neg hq] at hkk
                have HQ := Aside0.mk hkk
                clear hkk hq HKK
                refine pure_ (i := 13) (N := some 57) (v := ?_) (a' := ?_) #[true, true, true, true, true, true, true, true, true, true, true, true, true, true] rfl rfl (any_of HT_.out (by kernel_rfl)) (fun _ _ _ h => h) (Or.inl ⟨by rfl, ?_⟩) ?_ ?_
                rotate_left
                · intro w'
                  go_simp
                  with_reducible rfl
                rotate_left
                · simp only [Act.put, List.setIfInBounds_toArray, List.set_cons_zero, List.set_cons_succ, i64_w, i32_w]
                  rfl
                refine done_ (done_of HT_.out (by kernel_rfl)) ?_
                go_wp2
                go_ret
                exact ⟨by rw [HQ.out]; rfl, J7.out.1⟩
            · have c5b : decide ((k : Int) < (text.length : Int)) = false := decide_eq_false (by omega)
              have c5c : decide (k < text.length) = false := decide_eq_false c5
              have EE := Aside0.mk (show find_fits.f text p false true i = true from by have h1 := HK.out.1; have h2 := HK.out.2; rw [h2, show gk - 1 = 0 by omega]; rfl)
              clear c5
              go_wp2
              go_ret
              exact ⟨by rw [EE.out]; rfl, HJ.out.1⟩
  | false =>
    cases fold with
    | true =>
      unfold find_looked.key find_looked.edge
      rw [if_pos rfl, if_neg (by decide)]
      have z := blk_new w (.cells #[.slice A text.length c, .func (.func 33) #[] #[], .func (.func 32) #[] #[]] 56)
      have Z := Aside0.mk z
      have HB := Aside0.mk (below_alloc (Below.refl w.heap.size w) (.cells #[.slice A text.length c, .func (.func 33) #[] #[], .func (.func 32) #[] #[]] 56))
      have HT1 := Aside0.mk (Kd.C_alloc HT.out (.cells #[.slice A text.length c, .func (.func 33) #[] #[], .func (.func 32) #[] #[]] 56))
      have HP1 := Aside0.mk (Kd.C_alloc HP.out (.cells #[.slice A text.length c, .func (.func 33) #[] #[], .func (.func 32) #[] #[]] 56))
      clear z HT HP
      obtain ⟨en, hen⟩ : ∃ e, e = i + (text.length : Int) := ⟨_, rfl⟩
      have hw : wrap64 (i + (text.length : Int)) = en := by have := HI.out; rw [hen]; unfold wrap64; omega
      have hw2 : wrap64 (i - 1) = i - 1 := by have := HI.out; unfold wrap64; omega
      have HE := Aside0.mk hen
      clear hen
      go_enter Tryd.func20, Tryd.ntmps20
      go_upto_region 1 with (fail)
      generalize w.alloc (.cells #[.slice A text.length c, .func (.func 33) #[] #[], .func (.func 32) #[] #[]] 56) = W1 at *
      have c0 : W1.cell? ⟨w.heap.size, 0, none⟩ = some (.slice A text.length c) := (blk_cell Z.out 0).trans rfl
      have c2 : W1.cell? ⟨w.heap.size, 2, none⟩ = some (.func (.func 32) #[] #[]) := (blk_cell Z.out 2).trans rfl
      go_upto_region 2 with (fail)
      rw [hw]
      clear hw
      have HW2 := Aside0.mk hw2
      by_cases h1 : (p.length : Int) < en
      · have h1b : decide ((p.length : Int) < en) = true := decide_eq_true h1
        have E := Aside0.mk (show find_fits.f text p true false i = false from by unfold find_fits.f; rw [← HE.out, decide_eq_false (by omega)]; rfl)
        clear h1 hw2
        go_wp2
        go_ret
        exact ⟨by rw [E.out]; rfl, HB.out⟩
      have h1b : decide ((p.length : Int) < en) = false := decide_eq_false h1
      have H1 := Aside0.mk (show en ≤ (p.length : Int) by omega)
      clear h1
      go_wp2_with fail
      refine (find_fits.free_calls B p.length d _ _).mono ?_
      rintro e W2 ⟨rfl, hb⟩
      have HB2 := Aside0.mk (below_step HB.out hb)
      have Z2 := Aside0.mk (blk_below Z.out hb)
      have HT2 := Aside0.mk (Kd.C_below HT1.out hb)
      have HP2 := Aside0.mk (Kd.C_below HP1.out hb)
      clear hb hw2 c0 c2 Z HT1 HP1 HB
      have c2 : W2.cell? ⟨w.heap.size, 2, none⟩ = some (.func (.func 32) #[] #[]) := (blk_cell Z2.out 2).trans rfl
      have hb1 : true = find_fits.edge false p (i - 1) := rfl
      have E1 := Aside0.mk hb1
      clear hb1
      go_wp2_with fail
      refine (find_fits.free_calls B p.length d _ _).mono ?_
      rintro e W3 ⟨rfl, hb⟩
      have HB3 := Aside0.mk (below_step HB2.out hb)
      have Z3 := Aside0.mk (blk_below Z2.out hb)
      have HT3 := Aside0.mk (Kd.C_below HT2.out hb)
      have HP3 := Aside0.mk (Kd.C_below HP2.out hb)
      clear hb c2 Z2 HT2 HP2 HB2
      have hb2 : true = find_fits.edge false p en := rfl
      have c0 : W3.cell? ⟨w.heap.size, 0, none⟩ = some (.slice A text.length c) := (blk_cell Z3.out 0).trans rfl
      have E := Aside0.mk (show find_fits.f text p true false i = find_fits.all text p true i text.length 0 from by unfold find_fits.f; rw [← HE.out, ← hb2, ← E1.out, decide_eq_true H1.out]; rfl)
      have I0 := Aside0.mk (And.intro HB3.out (And.intro Z3.out (And.intro HT3.out HP3.out)))
      clear hb2 E1 HB3 Z3 HT3 HP3 HW2
      go_wp2
      go_loopg [8, 9, 39] (text.length + 1) (fun kq v8 v9 v39 wr => ∃ (k : Nat), v39 = .int .i64 (k : Int) ∧ Aside0 (Below w.heap.size w wr ∧ wr.heap[w.heap.size]? = some (Obj.cells #[.slice A text.length c, .func (.func 33) #[] #[], .func (.func 32) #[] #[]] 56 (0, 0)) ∧ Kd.C (Kd.int .i64) wr A text.length text ∧ Kd.C (Kd.int .i64) wr B p.length p) ∧ Aside0 (text.length + 1 = k + kq ∧ find_fits.f text p true false i = find_fits.all text p true i (kq - 1) k))
      case atStart => exact ⟨0, rfl, I0, ⟨by omega, E.out⟩⟩
      case round =>
        clear I0 E c0
        obtain ⟨k, rfl, HJ, HK⟩ := hrel
        by_cases c5 : k < text.length
        · have c5b : decide ((k : Int) < (text.length : Int)) = true := decide_eq_true (by omega)
          have c5c : decide (k < text.length) = true := decide_eq_true c5
          obtain ⟨f, rfl⟩ : ∃ f, gk = f + 2 := ⟨gk - 2, by have := HK.out.1; omega⟩
          have hk := HK.out.2
          rw [show f + 2 - 1 = f + 1 from rfl, find_fits.all] at hk
          obtain ⟨ad, eA, e0⟩ := Kd.at_int HJ.out.2.2.1 (k : Int) (by omega) (by omega)
          obtain ⟨bd, eB, d0⟩ := Kd.at_int HJ.out.2.2.2 (i + (k : Int)) (by have := HI.out; omega) (by have := H1.out; have := HE.out; omega)
          subst eA
          subst eB
          rw [Int.toNat_natCast] at e0
          have c1 : wr.cell? ⟨w.heap.size, 1, none⟩ = some (.func (.func 33) #[] #[]) := (blk_cell HJ.out.2.1 1).trans rfl
          have k0 := eq_true (show (0 : Int) ≤ (k : Int) by omega)
          have k1 := eq_true (show (k : Int) < (text.length : Int) by omega)
          obtain ⟨ik, hik⟩ : ∃ x, x = i + (k : Int) := ⟨_, rfl⟩
          have hw : wrap64 (i + (k : Int)) = ik := by have := HI.out; rw [hik]; unfold wrap64; omega
          have q0 := eq_true (show 0 ≤ ik by have := HI.out; omega)
          have q1 := eq_true (show ik < (p.length : Int) by have := H1.out; have := HE.out; omega)
          rw [← hik] at d0 hk
          have WI := Aside0.mk (show wrap64 ((k : Int) + 1) = ((k + 1 : Nat) : Int) from by have := HI.out; unfold wrap64; omega)
          obtain ⟨tc, htc⟩ : ∃ x, x = rd text (k : Int) := ⟨_, rfl⟩
          obtain ⟨pc, hpc⟩ : ∃ x, x = rd p ik := ⟨_, rfl⟩
          rw [← htc] at e0 hk
          rw [← hpc] at d0 hk
          have HKK := Aside0.mk hk
          have C5 := Aside0.mk c5
          clear htc hpc hk c5 hik
          go_upto_region 7 with (fail)
          refine start_ (n := 14) (S := fun w' => w'.cell? ⟨w.heap.size, 1, none⟩ = some (.func (.func 33) #[] #[]) ∧ w'.cell? (bd.add ik.toNat) = some (.int .i64 pc)) (ds := []) #[false, false, false, false, false, false, false, false, false, false, false, false, false, false] (by kernel_rfl) rfl rfl ⟨c1, d0⟩ (fun hHeld => ?_)
          refine with_tabW find_fits.tab7 find_fits.bits7 (fun HT_ HW_ => ?_)
          have J5 := Aside0.mk (And.intro (Below.drew HJ.out.1) (And.intro (blk_drew HJ.out.2.1) (And.intro (Kd.C_drew HJ.out.2.2.1) (Kd.C_drew HJ.out.2.2.2))))
          clear HJ c1 d0 e0
          generalize wr.drew = w5 at *
          refine pure_ (i := 0) (N := some 44) (v := ?_) (a' := ?_) #[true, false, false, false, false, false, false, false, false, false, false, false, false, false] rfl rfl (any_of HT_.out (by kernel_rfl)) (fun _ _ _ h => h) (Or.inl ⟨by rfl, ?_⟩) ?_ ?_
          rotate_left
          · intro w'
            go_simp
            with_reducible rfl
          rotate_left
          · simp only [Act.put, List.setIfInBounds_toArray, List.set_cons_zero, List.set_cons_succ, i64_w, i32_w]
            rfl
          refine take_ (i := 1) (N := some 45) (v := ?_) (a' := ?_) #[true, true, false, false, false, false, false, false, false, false, false, false, false, false] rfl rfl (take_ofW HT_.out HW_.out (by kernel_rfl)) (fun _ _ _ h => h) (Or.inl ⟨by rfl, ?_⟩) hHeld ?_ ?_
          rotate_left
          · rintro w' ⟨s0, s1⟩
            go_simp
            with_reducible rfl
          rotate_left
          · simp only [Act.put, List.setIfInBounds_toArray, List.set_cons_zero, List.set_cons_succ, i64_w, i32_w]
            rfl
          refine pure_ (i := 2) (N := some 46) (v := ?_) (a' := ?_) #[true, true, true, false, false, false, false, false, false, false, false, false, false, false] rfl rfl (any_of HT_.out (by kernel_rfl)) (fun _ _ _ h => h) (Or.inl ⟨by rfl, ?_⟩) ?_ ?_
          rotate_left
          · intro w'
            go_simp
            with_reducible rfl
          rotate_left
          · simp only [Act.put, List.setIfInBounds_toArray, List.set_cons_zero, List.set_cons_succ, i64_w, i32_w]
            rfl
          refine pure_ (i := 3) (N := some 47) (v := ?_) (a' := ?_) #[true, true, true, true, false, false, false, false, false, false, false, false, false, false] rfl rfl (any_of HT_.out (by kernel_rfl)) (fun _ _ _ h => h) (Or.inl ⟨by rfl, ?_⟩) ?_ ?_
          rotate_left
          · intro w'
            go_simp
            with_reducible rfl
          rotate_left
          · simp only [Act.put, List.setIfInBounds_toArray, List.set_cons_zero, List.set_cons_succ, i64_w, i32_w]
            rfl
          refine pure_ (i := 4) (N := some 48) (v := ?_) (a' := ?_) #[true, true, true, true, true, false, false, false, false, false, false, false, false, false] rfl rfl (any_of HT_.out (by kernel_rfl)) (fun _ _ _ h => h) (Or.inl ⟨by rfl, ?_⟩) ?_ ?_
          rotate_left
          · intro w'
            go_simp
            with_reducible rfl
          rotate_left
          · simp only [Act.put, List.setIfInBounds_toArray, List.set_cons_zero, List.set_cons_succ, i64_w, i32_w]
            rfl
          refine pure_ (i := 5) (N := some 49) (v := ?_) (a' := ?_) #[true, true, true, true, true, true, false, false, false, false, false, false, false, false] rfl rfl (any_of HT_.out (by kernel_rfl)) (fun _ _ _ h => h) (Or.inl ⟨by rfl, ?_⟩) ?_ ?_
          rotate_left
          · intro w'
            go_simp
            with_reducible rfl
          rotate_left
          · simp only [Act.put, List.setIfInBounds_toArray, List.set_cons_zero, List.set_cons_succ, i64_w, i32_w]
            rfl
          rw [hw]
          refine pure_ (i := 6) (N := some 50) (v := ?_) (a' := ?_) #[true, true, true, true, true, true, true, false, false, false, false, false, false, false] rfl rfl (any_of HT_.out (by kernel_rfl)) (fun _ _ _ h => h) (Or.inl ⟨by rfl, ?_⟩) ?_ ?_
          rotate_left
          · intro w'
            go_simp
            with_reducible rfl
          rotate_left
          · simp only [Act.put, List.setIfInBounds_toArray, List.set_cons_zero, List.set_cons_succ, i64_w, i32_w]
            rfl
          refine take_ (i := 7) (N := some 51) (v := ?_) (a' := ?_) #[true, true, true, true, true, true, true, true, false, false, false, false, false, false] rfl rfl (take_ofW HT_.out HW_.out (by kernel_rfl)) (fun _ _ _ h => h) (Or.inl ⟨by rfl, ?_⟩) hHeld ?_ ?_
          rotate_left
          · rintro w' ⟨s0, s1⟩
            go_simp
            with_reducible rfl
          rotate_left
          · simp only [Act.put, List.setIfInBounds_toArray, List.set_cons_zero, List.set_cons_succ, i64_w, i32_w]
            rfl
          refine pure_ (i := 9) (N := some 53) (v := ?_) (a' := ?_) #[true, true, true, true, true, true, true, true, false, true, false, false, false, false] rfl rfl (any_of HT_.out (by kernel_rfl)) (fun _ _ _ h => h) (Or.inl ⟨by rfl, ?_⟩) ?_ ?_
          rotate_left
          · intro w'
            go_simp
            with_reducible rfl
          rotate_left
          · simp only [Act.put, List.setIfInBounds_toArray, List.set_cons_zero, List.set_cons_succ, i64_w, i32_w]
            rfl
          refine take_ (i := 10) (N := some 54) (v := ?_) (a' := ?_) #[true, true, true, true, true, true, true, true, false, true, true, false, false, false] rfl rfl (take_ofW HT_.out HW_.out (by kernel_rfl)) (fun _ _ _ h => h) (Or.inl ⟨by rfl, ?_⟩) hHeld ?_ ?_
          rotate_left
          · rintro w' ⟨s0, s1⟩
            go_simp
            with_reducible rfl
          rotate_left
          · simp only [Act.put, List.setIfInBounds_toArray, List.set_cons_zero, List.set_cons_succ, i64_w, i32_w]
            rfl
          refine pure_ (i := 11) (N := some 55) (v := ?_) (a' := ?_) #[true, true, true, true, true, true, true, true, false, true, true, true, false, false] rfl rfl (any_of HT_.out (by kernel_rfl)) (fun _ _ _ h => h) (Or.inl ⟨by rfl, ?_⟩) ?_ ?_
          rotate_left
          · intro w'
            go_simp
            with_reducible rfl
          rotate_left
          · simp only [Act.put, List.setIfInBounds_toArray, List.set_cons_zero, List.set_cons_succ, i64_w, i32_w]
            rfl
          refine one_ (i := 8) (N := some 52) #[true, true, true, true, true, true, true, true, true, true, true, true, false, false] rfl rfl (one_of HT_.out (by kernel_rfl)) (by decide) (fun K hK => ?_)
          refine find_fits.goesR Tryd.func33 (by kernel_rfl) rfl #[.int .i64 pc] (by rfl) rfl rfl rfl (by simp only [List.map_toArray, List.map_cons, List.map_nil]; rfl) ?_
          refine (find_fits.low_calls pc _).mono ?_
          rintro e w6 ⟨rfl, hb⟩
          refine ⟨_, rfl, ?_⟩
          have J6 := Aside0.mk (And.intro (below_step J5.out.1 hb) (And.intro (blk_below J5.out.2.1 hb) (And.intro (Kd.C_below J5.out.2.2.1 hb) (Kd.C_below J5.out.2.2.2 hb))))
          have keep : ∀ (ad : Addr) (u : Value), w5.cell? ad = some u → w6.cell? ad = some u := fun ad u s => (hb.cell (World.block_lt_of_cell? w5 _ s)).trans s
          refine hK.out _ _ ⟨keep _ _ hHeld.1, keep _ _ hHeld.2⟩ (fun hHeld => ?_)
          clear hK K keep hb J5
          refine norm_ (a' := ?_) ?_ ?_
          rotate_left
          · show Act.put _ (some 52) _ = _
            simp only [Act.put, List.setIfInBounds_toArray, List.set_cons_zero, List.set_cons_succ, i64_w, i32_w]
            rfl
          refine one_ (i := 12) (N := some 56) #[true, true, true, true, true, true, true, true, true, true, true, true, true, false] rfl rfl (one_of HT_.out (by kernel_rfl)) (by decide) (fun K hK => ?_)
          refine find_fits.goesR Tryd.func33 (by kernel_rfl) rfl #[.int .i64 tc] (by rfl) rfl rfl rfl (by simp only [List.map_toArray, List.map_cons, List.map_nil]; rfl) ?_
          refine (find_fits.low_calls tc _).mono ?_
          rintro e w7 ⟨rfl, hb⟩
          refine ⟨_, rfl, ?_⟩
          have J7 := Aside0.mk (And.intro (below_step J6.out.1 hb) (And.intro (blk_below J6.out.2.1 hb) (And.intro (Kd.C_below J6.out.2.2.1 hb) (Kd.C_below J6.out.2.2.2 hb))))
          have keep : ∀ (ad : Addr) (u : Value), w6.cell? ad = some u → w7.cell? ad = some u := fun ad u s => (hb.cell (World.block_lt_of_cell? w6 _ s)).trans s
          refine hK.out _ _ ⟨keep _ _ hHeld.1, keep _ _ hHeld.2⟩ (fun hHeld => ?_)
          clear hK K keep hb J6
          refine norm_ (a' := ?_) ?_ ?_
          rotate_left
          · show Act.put _ (some 56) _ = _
            simp only [Act.put, List.setIfInBounds_toArray, List.set_cons_zero, List.set_cons_succ, i64_w, i32_w]
            rfl
          have hkk := HKK.out
          generalize find_fits.key true pc = kp at *
          generalize find_fits.key true tc = kt at *
          by_cases hq : kp = kt
          · have hqb : (kp != kt) = false := bne_eq_false_iff_eq.mpr hq
            rw [if_pos hq] at hkk
            have HQ := Aside0.mk hkk
            clear hkk hq HKK
            refine pure_ (i := 13) (N := some 57) (v := ?_) (a' := ?_) #[true, true, true, true, true, true, true, true, true, true, true, true, true, true] rfl rfl (any_of HT_.out (by kernel_rfl)) (fun _ _ _ h => h) (Or.inl ⟨by rfl, ?_⟩) ?_ ?_
            rotate_left
            · intro w'
              go_simp
              with_reducible rfl
            rotate_left
            · simp only [Act.put, List.setIfInBounds_toArray, List.set_cons_zero, List.set_cons_succ, i64_w, i32_w]
              rfl
            refine done_ (done_of HT_.out (by kernel_rfl)) ?_
            go_wp2
            go_roundg (f + 1)
            case measure => omega
            case rel => exact ⟨k + 1, by rw [WI.out], J7, ⟨by have := HK.out.1; omega, HQ.out⟩⟩
          · have hqb : (kp != kt) = true := bne_iff_ne.mpr hq
            rw [if_neg hq] at hkk
            have HQ := Aside0.mk hkk
            clear hkk hq HKK
            refine pure_ (i := 13) (N := some 57) (v := ?_) (a' := ?_) #[true, true, true, true, true, true, true, true, true, true, true, true, true, true] rfl rfl (any_of HT_.out (by kernel_rfl)) (fun _ _ _ h => h) (Or.inl ⟨by rfl, ?_⟩) ?_ ?_
            rotate_left
            · intro w'
              go_simp
              with_reducible rfl
            rotate_left
            · simp only [Act.put, List.setIfInBounds_toArray, List.set_cons_zero, List.set_cons_succ, i64_w, i32_w]
              rfl
            refine done_ (done_of HT_.out (by kernel_rfl)) ?_
            go_wp2
            go_ret
            exact ⟨by rw [HQ.out]; rfl, J7.out.1⟩
        · have c5b : decide ((k : Int) < (text.length : Int)) = false := decide_eq_false (by omega)
          have c5c : decide (k < text.length) = false := decide_eq_false c5
          have EE := Aside0.mk (show find_fits.f text p true false i = true from by have h1 := HK.out.1; have h2 := HK.out.2; rw [h2, show gk - 1 = 0 by omega]; rfl)
          clear c5
          go_wp2
          go_ret
          exact ⟨by rw [EE.out]; rfl, HJ.out.1⟩
    | false =>
      unfold find_looked.key find_looked.edge
      rw [if_neg (by decide), if_neg (by decide)]
      have z := blk_new w (.cells #[.slice A text.length c, .func (.func 31) #[] #[], .func (.func 32) #[] #[]] 56)
      have Z := Aside0.mk z
      have HB := Aside0.mk (below_alloc (Below.refl w.heap.size w) (.cells #[.slice A text.length c, .func (.func 31) #[] #[], .func (.func 32) #[] #[]] 56))
      have HT1 := Aside0.mk (Kd.C_alloc HT.out (.cells #[.slice A text.length c, .func (.func 31) #[] #[], .func (.func 32) #[] #[]] 56))
      have HP1 := Aside0.mk (Kd.C_alloc HP.out (.cells #[.slice A text.length c, .func (.func 31) #[] #[], .func (.func 32) #[] #[]] 56))
      clear z HT HP
      obtain ⟨en, hen⟩ : ∃ e, e = i + (text.length : Int) := ⟨_, rfl⟩
      have hw : wrap64 (i + (text.length : Int)) = en := by have := HI.out; rw [hen]; unfold wrap64; omega
      have hw2 : wrap64 (i - 1) = i - 1 := by have := HI.out; unfold wrap64; omega
      have HE := Aside0.mk hen
      clear hen
      go_enter Tryd.func20, Tryd.ntmps20
      go_upto_region 1 with (fail)
      generalize w.alloc (.cells #[.slice A text.length c, .func (.func 31) #[] #[], .func (.func 32) #[] #[]] 56) = W1 at *
      have c0 : W1.cell? ⟨w.heap.size, 0, none⟩ = some (.slice A text.length c) := (blk_cell Z.out 0).trans rfl
      have c2 : W1.cell? ⟨w.heap.size, 2, none⟩ = some (.func (.func 32) #[] #[]) := (blk_cell Z.out 2).trans rfl
      go_upto_region 2 with (fail)
      rw [hw]
      clear hw
      have HW2 := Aside0.mk hw2
      by_cases h1 : (p.length : Int) < en
      · have h1b : decide ((p.length : Int) < en) = true := decide_eq_true h1
        have E := Aside0.mk (show find_fits.f text p false false i = false from by unfold find_fits.f; rw [← HE.out, decide_eq_false (by omega)]; rfl)
        clear h1 hw2
        go_wp2
        go_ret
        exact ⟨by rw [E.out]; rfl, HB.out⟩
      have h1b : decide ((p.length : Int) < en) = false := decide_eq_false h1
      have H1 := Aside0.mk (show en ≤ (p.length : Int) by omega)
      clear h1
      go_wp2_with fail
      refine (find_fits.free_calls B p.length d _ _).mono ?_
      rintro e W2 ⟨rfl, hb⟩
      have HB2 := Aside0.mk (below_step HB.out hb)
      have Z2 := Aside0.mk (blk_below Z.out hb)
      have HT2 := Aside0.mk (Kd.C_below HT1.out hb)
      have HP2 := Aside0.mk (Kd.C_below HP1.out hb)
      clear hb hw2 c0 c2 Z HT1 HP1 HB
      have c2 : W2.cell? ⟨w.heap.size, 2, none⟩ = some (.func (.func 32) #[] #[]) := (blk_cell Z2.out 2).trans rfl
      have hb1 : true = find_fits.edge false p (i - 1) := rfl
      have E1 := Aside0.mk hb1
      clear hb1
      go_wp2_with fail
      refine (find_fits.free_calls B p.length d _ _).mono ?_
      rintro e W3 ⟨rfl, hb⟩
      have HB3 := Aside0.mk (below_step HB2.out hb)
      have Z3 := Aside0.mk (blk_below Z2.out hb)
      have HT3 := Aside0.mk (Kd.C_below HT2.out hb)
      have HP3 := Aside0.mk (Kd.C_below HP2.out hb)
      clear hb c2 Z2 HT2 HP2 HB2
      have hb2 : true = find_fits.edge false p en := rfl
      have c0 : W3.cell? ⟨w.heap.size, 0, none⟩ = some (.slice A text.length c) := (blk_cell Z3.out 0).trans rfl
      have E := Aside0.mk (show find_fits.f text p false false i = find_fits.all text p false i text.length 0 from by unfold find_fits.f; rw [← HE.out, ← hb2, ← E1.out, decide_eq_true H1.out]; rfl)
      have I0 := Aside0.mk (And.intro HB3.out (And.intro Z3.out (And.intro HT3.out HP3.out)))
      clear hb2 E1 HB3 Z3 HT3 HP3 HW2
      go_wp2
      go_loopg [8, 9, 39] (text.length + 1) (fun kq v8 v9 v39 wr => ∃ (k : Nat), v39 = .int .i64 (k : Int) ∧ Aside0 (Below w.heap.size w wr ∧ wr.heap[w.heap.size]? = some (Obj.cells #[.slice A text.length c, .func (.func 31) #[] #[], .func (.func 32) #[] #[]] 56 (0, 0)) ∧ Kd.C (Kd.int .i64) wr A text.length text ∧ Kd.C (Kd.int .i64) wr B p.length p) ∧ Aside0 (text.length + 1 = k + kq ∧ find_fits.f text p false false i = find_fits.all text p false i (kq - 1) k))
      case atStart => exact ⟨0, rfl, I0, ⟨by omega, E.out⟩⟩
      case round =>
        clear I0 E c0
        obtain ⟨k, rfl, HJ, HK⟩ := hrel
        by_cases c5 : k < text.length
        · have c5b : decide ((k : Int) < (text.length : Int)) = true := decide_eq_true (by omega)
          have c5c : decide (k < text.length) = true := decide_eq_true c5
          obtain ⟨f, rfl⟩ : ∃ f, gk = f + 2 := ⟨gk - 2, by have := HK.out.1; omega⟩
          have hk := HK.out.2
          rw [show f + 2 - 1 = f + 1 from rfl, find_fits.all] at hk
          obtain ⟨ad, eA, e0⟩ := Kd.at_int HJ.out.2.2.1 (k : Int) (by omega) (by omega)
          obtain ⟨bd, eB, d0⟩ := Kd.at_int HJ.out.2.2.2 (i + (k : Int)) (by have := HI.out; omega) (by have := H1.out; have := HE.out; omega)
          subst eA
          subst eB
          rw [Int.toNat_natCast] at e0
          have c1 : wr.cell? ⟨w.heap.size, 1, none⟩ = some (.func (.func 31) #[] #[]) := (blk_cell HJ.out.2.1 1).trans rfl
          have k0 := eq_true (show (0 : Int) ≤ (k : Int) by omega)
          have k1 := eq_true (show (k : Int) < (text.length : Int) by omega)
          obtain ⟨ik, hik⟩ : ∃ x, x = i + (k : Int) := ⟨_, rfl⟩
          have hw : wrap64 (i + (k : Int)) = ik := by have := HI.out; rw [hik]; unfold wrap64; omega
          have q0 := eq_true (show 0 ≤ ik by have := HI.out; omega)
          have q1 := eq_true (show ik < (p.length : Int) by have := H1.out; have := HE.out; omega)
          rw [← hik] at d0 hk
          have WI := Aside0.mk (show wrap64 ((k : Int) + 1) = ((k + 1 : Nat) : Int) from by have := HI.out; unfold wrap64; omega)
          obtain ⟨tc, htc⟩ : ∃ x, x = rd text (k : Int) := ⟨_, rfl⟩
          obtain ⟨pc, hpc⟩ : ∃ x, x = rd p ik := ⟨_, rfl⟩
          rw [← htc] at e0 hk
          rw [← hpc] at d0 hk
          have HKK := Aside0.mk hk
          have C5 := Aside0.mk c5
          clear htc hpc hk c5 hik
          go_upto_region 7 with (fail)
          refine start_ (n := 14) (S := fun w' => w'.cell? ⟨w.heap.size, 1, none⟩ = some (.func (.func 31) #[] #[]) ∧ w'.cell? (bd.add ik.toNat) = some (.int .i64 pc)) (ds := []) #[false, false, false, false, false, false, false, false, false, false, false, false, false, false] (by kernel_rfl) rfl rfl ⟨c1, d0⟩ (fun hHeld => ?_)
          refine with_tabW find_fits.tab7 find_fits.bits7 (fun HT_ HW_ => ?_)
          have J5 := Aside0.mk (And.intro (Below.drew HJ.out.1) (And.intro (blk_drew HJ.out.2.1) (And.intro (Kd.C_drew HJ.out.2.2.1) (Kd.C_drew HJ.out.2.2.2))))
          clear HJ c1 d0 e0
          generalize wr.drew = w5 at *
          refine pure_ (i := 0) (N := some 44) (v := ?_) (a' := ?_) #[true, false, false, false, false, false, false, false, false, false, false, false, false, false] rfl rfl (any_of HT_.out (by kernel_rfl)) (fun _ _ _ h => h) (Or.inl ⟨by rfl, ?_⟩) ?_ ?_
          rotate_left
          · intro w'
            go_simp
            with_reducible rfl
          rotate_left
          · simp only [Act.put, List.setIfInBounds_toArray, List.set_cons_zero, List.set_cons_succ, i64_w, i32_w]
            rfl
          refine take_ (i := 1) (N := some 45) (v := ?_) (a' := ?_) #[true, true, false, false, false, false, false, false, false, false, false, false, false, false] rfl rfl (take_ofW HT_.out HW_.out (by kernel_rfl)) (fun _ _ _ h => h) (Or.inl ⟨by rfl, ?_⟩) hHeld ?_ ?_
          rotate_left
          · rintro w' ⟨s0, s1⟩
            go_simp
            with_reducible rfl
          rotate_left
          · simp only [Act.put, List.setIfInBounds_toArray, List.set_cons_zero, List.set_cons_succ, i64_w, i32_w]
            rfl
          refine pure_ (i := 2) (N := some 46) (v := ?_) (a' := ?_) #[true, true, true, false, false, false, false, false, false, false, false, false, false, false] rfl rfl (any_of HT_.out (by kernel_rfl)) (fun _ _ _ h => h) (Or.inl ⟨by rfl, ?_⟩) ?_ ?_
          rotate_left
          · intro w'
            go_simp
            with_reducible rfl
          rotate_left
          · simp only [Act.put, List.setIfInBounds_toArray, List.set_cons_zero, List.set_cons_succ, i64_w, i32_w]
            rfl
          refine pure_ (i := 3) (N := some 47) (v := ?_) (a' := ?_) #[true, true, true, true, false, false, false, false, false, false, false, false, false, false] rfl rfl (any_of HT_.out (by kernel_rfl)) (fun _ _ _ h => h) (Or.inl ⟨by rfl, ?_⟩) ?_ ?_
          rotate_left
          · intro w'
            go_simp
            with_reducible rfl
          rotate_left
          · simp only [Act.put, List.setIfInBounds_toArray, List.set_cons_zero, List.set_cons_succ, i64_w, i32_w]
            rfl
          refine pure_ (i := 4) (N := some 48) (v := ?_) (a' := ?_) #[true, true, true, true, true, false, false, false, false, false, false, false, false, false] rfl rfl (any_of HT_.out (by kernel_rfl)) (fun _ _ _ h => h) (Or.inl ⟨by rfl, ?_⟩) ?_ ?_
          rotate_left
          · intro w'
            go_simp
            with_reducible rfl
          rotate_left
          · simp only [Act.put, List.setIfInBounds_toArray, List.set_cons_zero, List.set_cons_succ, i64_w, i32_w]
            rfl
          refine pure_ (i := 5) (N := some 49) (v := ?_) (a' := ?_) #[true, true, true, true, true, true, false, false, false, false, false, false, false, false] rfl rfl (any_of HT_.out (by kernel_rfl)) (fun _ _ _ h => h) (Or.inl ⟨by rfl, ?_⟩) ?_ ?_
          rotate_left
          · intro w'
            go_simp
            with_reducible rfl
          rotate_left
          · simp only [Act.put, List.setIfInBounds_toArray, List.set_cons_zero, List.set_cons_succ, i64_w, i32_w]
            rfl
          rw [hw]
          refine pure_ (i := 6) (N := some 50) (v := ?_) (a' := ?_) #[true, true, true, true, true, true, true, false, false, false, false, false, false, false] rfl rfl (any_of HT_.out (by kernel_rfl)) (fun _ _ _ h => h) (Or.inl ⟨by rfl, ?_⟩) ?_ ?_
          rotate_left
          · intro w'
            go_simp
            with_reducible rfl
          rotate_left
          · simp only [Act.put, List.setIfInBounds_toArray, List.set_cons_zero, List.set_cons_succ, i64_w, i32_w]
            rfl
          refine take_ (i := 7) (N := some 51) (v := ?_) (a' := ?_) #[true, true, true, true, true, true, true, true, false, false, false, false, false, false] rfl rfl (take_ofW HT_.out HW_.out (by kernel_rfl)) (fun _ _ _ h => h) (Or.inl ⟨by rfl, ?_⟩) hHeld ?_ ?_
          rotate_left
          · rintro w' ⟨s0, s1⟩
            go_simp
            with_reducible rfl
          rotate_left
          · simp only [Act.put, List.setIfInBounds_toArray, List.set_cons_zero, List.set_cons_succ, i64_w, i32_w]
            rfl
          refine pure_ (i := 9) (N := some 53) (v := ?_) (a' := ?_) #[true, true, true, true, true, true, true, true, false, true, false, false, false, false] rfl rfl (any_of HT_.out (by kernel_rfl)) (fun _ _ _ h => h) (Or.inl ⟨by rfl, ?_⟩) ?_ ?_
          rotate_left
          · intro w'
            go_simp
            with_reducible rfl
          rotate_left
          · simp only [Act.put, List.setIfInBounds_toArray, List.set_cons_zero, List.set_cons_succ, i64_w, i32_w]
            rfl
          refine take_ (i := 10) (N := some 54) (v := ?_) (a' := ?_) #[true, true, true, true, true, true, true, true, false, true, true, false, false, false] rfl rfl (take_ofW HT_.out HW_.out (by kernel_rfl)) (fun _ _ _ h => h) (Or.inl ⟨by rfl, ?_⟩) hHeld ?_ ?_
          rotate_left
          · rintro w' ⟨s0, s1⟩
            go_simp
            with_reducible rfl
          rotate_left
          · simp only [Act.put, List.setIfInBounds_toArray, List.set_cons_zero, List.set_cons_succ, i64_w, i32_w]
            rfl
          refine pure_ (i := 11) (N := some 55) (v := ?_) (a' := ?_) #[true, true, true, true, true, true, true, true, false, true, true, true, false, false] rfl rfl (any_of HT_.out (by kernel_rfl)) (fun _ _ _ h => h) (Or.inl ⟨by rfl, ?_⟩) ?_ ?_
          rotate_left
          · intro w'
            go_simp
            with_reducible rfl
          rotate_left
          · simp only [Act.put, List.setIfInBounds_toArray, List.set_cons_zero, List.set_cons_succ, i64_w, i32_w]
            rfl
          refine one_ (i := 8) (N := some 52) #[true, true, true, true, true, true, true, true, true, true, true, true, false, false] rfl rfl (one_of HT_.out (by kernel_rfl)) (by decide) (fun K hK => ?_)
          refine find_fits.goesR Tryd.func31 (by kernel_rfl) rfl #[.int .i64 pc] (by rfl) rfl rfl rfl (by simp only [List.map_toArray, List.map_cons, List.map_nil]; rfl) ?_
          refine (find_fits.key_calls pc _).mono ?_
          rintro e w6 ⟨rfl, hb⟩
          refine ⟨_, rfl, ?_⟩
          have J6 := Aside0.mk (And.intro (below_step J5.out.1 hb) (And.intro (blk_below J5.out.2.1 hb) (And.intro (Kd.C_below J5.out.2.2.1 hb) (Kd.C_below J5.out.2.2.2 hb))))
          have keep : ∀ (ad : Addr) (u : Value), w5.cell? ad = some u → w6.cell? ad = some u := fun ad u s => (hb.cell (World.block_lt_of_cell? w5 _ s)).trans s
          refine hK.out _ _ ⟨keep _ _ hHeld.1, keep _ _ hHeld.2⟩ (fun hHeld => ?_)
          clear hK K keep hb J5
          refine norm_ (a' := ?_) ?_ ?_
          rotate_left
          · show Act.put _ (some 52) _ = _
            simp only [Act.put, List.setIfInBounds_toArray, List.set_cons_zero, List.set_cons_succ, i64_w, i32_w]
            rfl
          refine one_ (i := 12) (N := some 56) #[true, true, true, true, true, true, true, true, true, true, true, true, true, false] rfl rfl (one_of HT_.out (by kernel_rfl)) (by decide) (fun K hK => ?_)
          refine find_fits.goesR Tryd.func31 (by kernel_rfl) rfl #[.int .i64 tc] (by rfl) rfl rfl rfl (by simp only [List.map_toArray, List.map_cons, List.map_nil]; rfl) ?_
          refine (find_fits.key_calls tc _).mono ?_
          rintro e w7 ⟨rfl, hb⟩
          refine ⟨_, rfl, ?_⟩
          have J7 := Aside0.mk (And.intro (below_step J6.out.1 hb) (And.intro (blk_below J6.out.2.1 hb) (And.intro (Kd.C_below J6.out.2.2.1 hb) (Kd.C_below J6.out.2.2.2 hb))))
          have keep : ∀ (ad : Addr) (u : Value), w6.cell? ad = some u → w7.cell? ad = some u := fun ad u s => (hb.cell (World.block_lt_of_cell? w6 _ s)).trans s
          refine hK.out _ _ ⟨keep _ _ hHeld.1, keep _ _ hHeld.2⟩ (fun hHeld => ?_)
          clear hK K keep hb J6
          refine norm_ (a' := ?_) ?_ ?_
          rotate_left
          · show Act.put _ (some 56) _ = _
            simp only [Act.put, List.setIfInBounds_toArray, List.set_cons_zero, List.set_cons_succ, i64_w, i32_w]
            rfl
          have hkk := HKK.out
          generalize find_fits.key false pc = kp at *
          generalize find_fits.key false tc = kt at *
          by_cases hq : kp = kt
          · have hqb : (kp != kt) = false := bne_eq_false_iff_eq.mpr hq
            rw [if_pos hq] at hkk
            have HQ := Aside0.mk hkk
            clear hkk hq HKK
            refine pure_ (i := 13) (N := some 57) (v := ?_) (a' := ?_) #[true, true, true, true, true, true, true, true, true, true, true, true, true, true] rfl rfl (any_of HT_.out (by kernel_rfl)) (fun _ _ _ h => h) (Or.inl ⟨by rfl, ?_⟩) ?_ ?_
            rotate_left
            · intro w'
              go_simp
              with_reducible rfl
            rotate_left
            · simp only [Act.put, List.setIfInBounds_toArray, List.set_cons_zero, List.set_cons_succ, i64_w, i32_w]
              rfl
            refine done_ (done_of HT_.out (by kernel_rfl)) ?_
            go_wp2
            go_roundg (f + 1)
            case measure => omega
            case rel => exact ⟨k + 1, by rw [WI.out], J7, ⟨by have := HK.out.1; omega, HQ.out⟩⟩
          · have hqb : (kp != kt) = true := bne_iff_ne.mpr hq
            rw [if_neg hq] at hkk
            have HQ := Aside0.mk hkk
            clear hkk hq HKK
            refine pure_ (i := 13) (N := some 57) (v := ?_) (a' := ?_) #[true, true, true, true, true, true, true, true, true, true, true, true, true, true] rfl rfl (any_of HT_.out (by kernel_rfl)) (fun _ _ _ h => h) (Or.inl ⟨by rfl, ?_⟩) ?_ ?_
            rotate_left
            · intro w'
              go_simp
              with_reducible rfl
            rotate_left
            · simp only [Act.put, List.setIfInBounds_toArray, List.set_cons_zero, List.set_cons_succ, i64_w, i32_w]
              rfl
            refine done_ (done_of HT_.out (by kernel_rfl)) ?_
            go_wp2
            go_ret
            exact ⟨by rw [HQ.out]; rfl, J7.out.1⟩
        · have c5b : decide ((k : Int) < (text.length : Int)) = false := decide_eq_false (by omega)
          have c5c : decide (k < text.length) = false := decide_eq_false c5
          have EE := Aside0.mk (show find_fits.f text p false false i = true from by have h1 := HK.out.1; have h2 := HK.out.2; rw [h2, show gk - 1 = 0 by omega]; rfl)
          clear c5
          go_wp2
          go_ret
          exact ⟨by rw [EE.out]; rfl, HJ.out.1⟩

end Go.Proofs.YtfcfomconcoimaaDoor.PFa
