-- Written for this claim by a program (the kit's print, with hand-made contracts for what it does not take).
import Derived.Test.YtlngjgcodknpiaaPSmx0
import Derived.Test.YtlngjgcodknpiaaPSmx3
namespace Go.Proofs.Ytlngjgcodknpiaa.PSm
open Go.RowKit Go.Proofs.YtlngjgcodknpiaaW.PrintWords Go.Proofs.YtlngjgcodknpiaaW.PrintLast Go.Proofs.YtlngjgcodknpiaaW.PrintMore
attribute [local go_sem] max2_int min2_int max_two min_two max_three min_three max_four min_four   -- for this text's walks alone
set_option linter.unusedVariables false
set_option linter.unusedSimpArgs false

/-- copy(out[at:], x), out a row of the call's own of elements of whatever size. -/
theorem step_tokens.copy {P : Program} {w : World} {ops : Array Oper} {rest : List Oper} {o : Oper} {a : Act} {Q : Exit → Act → World → Prop} (hgd : o.guard = none) (d s : Operand) (dT sT : TypeId)
  (ho : o.op = .call { callee := .builtin .copy, args := #[d, s], argTypes := #[dT, sT] }) (elem : TypeId) (size : Nat) (hu : P.underlying dT = some (.slice elem)) (hsz : (P.info? elem).map (·.size) = some size) (hs0 : 0 < size)
  (dp sp : Option Addr) (dLen dCap sLen sCap : Nat) (hd : a.eval d = .slice dp dLen dCap) (hs : a.eval s = .slice sp sLen sCap)
  (g off : Nat) (cur : List Value) (t : TypeId) (hg : w.heap[g]? = some (.cells cur.toArray t (0, 0))) (cs : List Value) (hm : sLen ≤ dLen) (hcs : cs.length = sLen * size)
  (hpos : 0 < sLen → dp = some ⟨g, off, none⟩ ∧ ∃ ad, sp = some ad ∧ ∀ j v, cs[j]? = some v → w.cell? (ad.add j) = some v)
  (hfit : off + cs.length ≤ cur.length) (h1 : ∀ v ∈ cs, v.oneCell' = true) (B : Nat) (w0 : World) (hb : Below B w0 w) (hBg : B ≤ g)
  (h : ∀ w', w'.heap[g]? = some (.cells (cur.take off ++ (cs ++ cur.drop (off + cs.length))).toArray t (0, 0)) → Below B w0 w' → wpList P ops Q rest (a.put o.dst (.int .i64 (sLen : Int))) w') :
  wpList P ops Q (o :: rest) a w := by
 refine wpList_plain hgd fun K hK => ?_
 cases hq : P.info? elem with
|none => rw [hq] at hsz; cases hsz
|some i =>
  have hi : i.size = size := by rw [hq] at hsz; simpa using hsz
  by_cases h0 : sLen = 0
  ·subst h0
   have hc0 : cs = [] := List.eq_nil_of_length_eq_zero (by simpa using hcs)
   subst hc0
   have hrun : (Builtin.copy_ #[dT, sT] o.type #[.slice dp dLen dCap, .slice sp 0 sCap]).run P w = .ok (.int .i64 ((0 : Nat) : Int)) w := by
    have hl : ∀ ad : Addr, (loadCells ad 0).run P w = .ok #[] w := fun ad => by
     have := run_loadCells_list (P := P) w ad [] (fun j v hj => by simp at hj)
     simpa using this
    cases dp <;> cases sp <;> simp [Builtin.copy_, run_underlying hu, Builtin.lenOf, Builtin.firstCells, sizeOf, typeInfo, hq, hl, storeCells, goInt]
   unfold Oper.wp
   simp [execOp, ho, resolve, invoke, builtin, hd, hs, hrun, Result.andThen]
   exact hK _ _ (h w (by simpa using hg) hb)
  ·obtain ⟨rfl, ad, rfl, hsrc⟩ := hpos (by omega)
   have hst := run_storeCells_at P g off t cs 0 cur.toArray w hg (by simpa using hfit) h1
   have hfc := run_firstCells_some (P := P) w size sLen ad sLen sCap cs hcs hsrc
   have hmin : Nat.min sLen dLen = sLen := Nat.min_eq_left hm
   have hrun : (Builtin.copy_ #[dT, sT] o.type #[.slice (some ⟨g, off, none⟩) dLen dCap, .slice (some ad) sLen sCap]).run P w = .ok (.int .i64 (sLen : Int)) (w.setRow g (cur.toArray.toList.take (off + 0) ++ cs ++ cur.toArray.toList.drop (off + 0 + cs.length)).toArray) := by
    simp only [Nat.add_zero] at hst ⊢
    simp [Builtin.copy_, run_underlying hu, Builtin.lenOf, sizeOf, typeInfo, hq, hi, hmin, hfc, hst, goInt]
   unfold Oper.wp
   simp [execOp, ho, resolve, invoke, builtin, hd, hs, hrun, Result.andThen]
   refine hK _ _ (h _ ?_ (below_setRow hb hBg _))
   simpa using setRow_heap w g _ _ t _ hg
def step_tokens.f (l0 : List (List S57)) : Option (List S57) := if l0.flatten.length < 4398046511104 then some l0.flatten else none
theorem step_tokens.mono : ∀ a0, LeO (step_tokens.f a0) (step_tokens.f a0) := fun _ => LeO.refl _
theorem step_tokens.get (xs : List (List S57)) (i : Nat) (h : i < xs.length) : rd_L2 xs (i : Int) = xs[i] := by simp [rd_L2, List.getD_eq_getElem?_getD, List.getElem?_eq_getElem h]
/-- How many elements the first i lists have. -/
def step_tokens.S (xs : List (List S57)) (i : Nat) : Nat := (xs.take i).flatten.length
theorem step_tokens.sum_succ (xs : List (List S57)) (i : Nat) (h : i < xs.length) : (xs.take (i + 1)).flatten = (xs.take i).flatten ++ rd_L2 xs (i : Int) := by
 rw [List.take_succ_eq_append_getElem h, List.flatten_append, step_tokens.get xs i h]
 simp
theorem step_tokens.sum_le (xs : List (List S57)) (i : Nat) : (xs.take i).flatten.length ≤ xs.flatten.length := by
 conv => rhs; rw [← List.take_append_drop i xs, List.flatten_append, List.length_append]
 omega
theorem step_tokens.w64 {n : Int} (h : -9223372036854775808 ≤ n ∧ n ≤ 9223372036854775807) : wrap64 n = n := by unfold wrap64; omega
def step_tokens.P57 (x : S57) (cs : List Value) : Prop := cs = [.int .i64 x.f0, .int .i64 x.f1, .int .i64 x.f2, .int .i64 x.f3]
/-- The first i lists lie in the row. -/
def step_tokens.Laid (w : World) (g cap : Nat) (l0 : List (List S57)) (i : Nat) : Prop := ∃ cells : List Value, w.heap[g]? = some (.cells cells.toArray 57 (0, 0)) ∧ cells.length = cap * 4 ∧ Reps step_tokens.P57 4 (l0.take i).flatten (cells.take (step_tokens.S l0 i * 4))
theorem step_tokens.row {w : World} {A : Option Addr} {xs : List S57} (h : k57.C w A xs.length xs) : ∃ cs : List Value, cs.length = xs.length * 4 ∧ Reps step_tokens.P57 4 xs cs ∧ (0 < xs.length → ∃ ad, A = some ad ∧ ∀ j v, cs[j]? = some v → w.cell? (ad.add j) = some v) := by
 rcases Nat.eq_zero_or_pos xs.length with h0|h0
 ·obtain rfl : xs = [] := List.eq_nil_of_length_eq_zero h0
  exact ⟨[], rfl, Reps.none _ _, fun h => by simp at h⟩
 ·obtain ⟨ad, rfl, _⟩ := h.2.2 h0
  obtain ⟨inner, hr, hc⟩ := ReadsRow.inner_ h
  have hr' : Reps step_tokens.P57 4 xs inner := Reps.imp_ hr (fun p c hp => k57_open hp)
  exact ⟨inner, hr'.1, hr', fun _ => ⟨ad, rfl, hc⟩⟩
theorem step_tokens.S_zero (xs : List (List S57)) : step_tokens.S xs 0 = 0 := by simp [step_tokens.S]
theorem step_tokens.S_all (xs : List (List S57)) : step_tokens.S xs xs.length = xs.flatten.length := by unfold step_tokens.S; rw [List.take_length]
theorem step_tokens.laid_next {w' : World} {g cap : Nat} {l0 : List (List S57)} {i : Nat} (hlt : i < l0.length) {cells cs : List Value} (hcl : cells.length = cap * 4) (hdone : Reps step_tokens.P57 4 (l0.take i).flatten (cells.take (step_tokens.S l0 i * 4))) (hrep : Reps step_tokens.P57 4 (rd_L2 l0 (i : Int)) cs)
  (hfit : step_tokens.S l0 (i + 1) ≤ cap) (hg : w'.heap[g]? = some (.cells (cells.take (step_tokens.S l0 i * 4) ++ (cs ++ cells.drop (step_tokens.S l0 i * 4 + cs.length))).toArray 57 (0, 0))) : step_tokens.Laid w' g cap l0 (i + 1) := by
 have h1 := step_tokens.sum_succ l0 i hlt
 have h6 : step_tokens.S l0 (i + 1) = step_tokens.S l0 i + (rd_L2 l0 (i : Int)).length := by unfold step_tokens.S; rw [h1, List.length_append]
 have hcs := hrep.1
 have hlt2 : (cells.take (step_tokens.S l0 i * 4)).length = step_tokens.S l0 i * 4 := by rw [List.length_take]; omega
 refine ⟨_, hg, ?_, ?_⟩
 ·rw [List.length_append, List.length_append, List.length_drop, hlt2]; omega
 ·have e : (cells.take (step_tokens.S l0 i * 4) ++ (cs ++ cells.drop (step_tokens.S l0 i * 4 + cs.length))).take (step_tokens.S l0 (i + 1) * 4) = cells.take (step_tokens.S l0 i * 4) ++ cs := by
   rw [← List.append_assoc, List.take_append_of_le_length (by rw [List.length_append, hlt2]; omega)]
   exact List.take_of_length_le (by rw [List.length_append, hlt2]; omega)
  rw [e, h1]
  exact Kd.reps_append hdone hrep
theorem step_tokens.made {w : World} {base g cap N : Nat} {cells : List Value} {F : List S57} (hg : w.heap[g]? = some (.cells cells.toArray 57 (0, 0))) (hcl : cells.length = cap * 4) (hdone : Reps step_tokens.P57 4 F (cells.take (N * 4))) (hlen : F.length = N) (hn : N ≤ cap) (hm : cap ≤ maxLen) (hb : base ≤ g) :
  Kd.R k57 57 w base (fun _ => True) (.slice (some ⟨g, 0, none⟩) N cap) F := by
 subst hlen
 refine ⟨fun _ _ => trivial, cells.take (F.length * 4), ⟨?_, .inr ⟨g, cap, cells.toArray, rfl, hb, hg, hn, hm, ?_, rfl⟩⟩, Reps.imp_ hdone (fun p c hp => by rw [show c = _ from hp]; exact k57_mkM _ _ _ _)⟩
 ·show (cells.take (F.length * 4)).length = F.length * 4
  rw [List.length_take]; omega
 ·show cells.toArray.size = cap * 4
  simpa using hcl
set_option maxRecDepth 100000 in
set_option maxHeartbeats 8000000 in
theorem step_tokens.calls (A0 : Option Addr) (c0 : Nat) (l0 : List (List S57)) (r : List S57) (w : World) (hr0 : Kd.C (Kd.slice 57 k57) w A0 l0.length l0) (hc0 : l0.length ≤ c0) (h : step_tokens.f l0 = some r) :
  Calls Try.prog 32 #[.slice A0 l0.length c0] w fun e w' => ∃ v0_ : Value, e = .returned v0_ ∧ Kd.R k57 57 w' w.heap.size (fun _ => True) v0_ r ∧ Below w.heap.size w w' := by
 unfold step_tokens.f at h
 by_cases hsm : l0.flatten.length < 4398046511104
 case neg => rw [if_neg hsm] at h; cases h
 rw [if_pos hsm] at h
 obtain rfl := Option.some.inj h
 clear h hc0
 have HR0 := aM hr0
 have HL := aM hr0.2.1
 obtain ⟨N, hN⟩ : ∃ N, N = l0.flatten.length := ⟨_, rfl⟩
 obtain ⟨F, hF⟩ : ∃ F, F = l0.flatten := ⟨_, rfl⟩
 rw [← hN] at hsm
 rw [← hF]
 have SM := aM hsm
 have HN := aM hN
 have HF := aM hF
 clear hr0 hsm hN hF
 go_enter Try.func32, Try.ntmps32
 go_wp2
 go_loopw [3, 12] (fun v3 v12 wr => ∃ i : Nat, v12 = .int .i64 (i : Int) ∧ v3 = .int .i64 (step_tokens.S l0 i : Int) ∧ Aside0 (i ≤ l0.length) ∧ Aside0 (Below w.heap.size w wr)) (fun _ v12 _ => l0.length - (intOf v12).toNat)
 case atStart => exact ⟨0, rfl, by simp [step_tokens.S], ⟨Nat.zero_le _⟩, ⟨Below.refl _ _⟩⟩
 case round =>
  obtain ⟨i, rfl, rfl, HI, HB⟩ := hrel
  by_cases hlt : i < l0.length
  ·have hc : ((i : Nat) : Int) < (l0.length : Int) := by omega
   have hc2 : (0 : Int) ≤ ((i : Nat) : Int) := by omega
   obtain ⟨ad, A1, c1, e_, hx, hl, hk⟩ := at_L2 HR0.out ((i : Nat) : Int) hc2 hc
   cases e_
   rw [Int.toNat_natCast] at hx
   replace hx := (HB.out.cell (World.block_lt_of_cell? w _ hx)).trans hx
   have LT := aM hlt
   clear hl hk hlt
   go_wp2
   go_roundw
   case rel =>
    have h1 := step_tokens.sum_succ l0 i LT.out
    have h2 := step_tokens.sum_le l0 (i + 1)
    rw [← HN.out] at h2
    have h3 := SM.out
    have h4 := HL.out
    have h5 := LT.out
    have h6 : step_tokens.S l0 (i + 1) = step_tokens.S l0 i + (rd_L2 l0 (i : Int)).length := by unfold step_tokens.S; rw [h1, List.length_append]
    have h7 : step_tokens.S l0 (i + 1) ≤ N := h2
    refine ⟨i + 1, ?_, ?_, ⟨by omega⟩, HB⟩
    ·rw [step_tokens.w64 (by omega)]; rfl
    ·rw [h6, step_tokens.w64 (by omega)]; rfl
   case measure =>
    have h4 := HL.out
    have h5 := LT.out
    rw [step_tokens.w64 (by omega)]
    simp [intOf]
    omega
  ·obtain rfl : i = l0.length := by have := HI.out; omega
   clear HI hlt
   rw [show step_tokens.S l0 l0.length = N from (step_tokens.S_all l0).trans HN.out.symm]
   go_wp2_with (at_make; refine Kd.R_make k57 (w0 := w) w.heap.size 57 rfl rfl 22 (.tmp 21) (.tmp 21) rfl ((N : Nat) : Int) rfl rfl Try.underlying22 (.agg #[(.int .i64 0), (.int .i64 0), (.int .i64 0), (.int .i64 0)]) 32 info57 rfl (by decide) (by omega) (⟨0, 0, 0, 0⟩ : S57) (ok := fun _ => True) (okp := fun _ => False) (k57_mkM _ _ _ _) (fun _ h => h.elim) trivial (by omega) (by have := SM.out; omega) HB.out HB.out.size ?_; intro v1 w1 hR hb1 hg1 hat; obtain ⟨h0_, inner, hown, hr⟩ := hR; obtain ⟨b_, hb_, hle_⟩ := hat; obtain ⟨g, cap, cur, rfl, hbg, hh, hnc, hcm, hcs, htk⟩ := hown.2.resolve_left (fun h => by rw [h.1] at hb_; simp [Value.ownBlock] at hb_); rw [List.length_replicate, Int.toNat_natCast] at hnc htk; have HB1 := aM hb1; have HH := aM hh; have HBG := aM hbg; have HNC := aM hnc; have HCM := aM hcm; have HCS := aM (show cur.size = cap * 4 from hcs); clear h0_ hown hr hb_ hle_ hb1 hg1 hh hbg hnc hcm hcs htk)
   go_loopw [7, 25] (fun v7 v25 wr => ∃ i : Nat, v25 = .int .i64 (i : Int) ∧ v7 = .int .i64 (step_tokens.S l0 i : Int) ∧ Aside0 (i ≤ l0.length) ∧ Aside0 (Below w.heap.size w wr) ∧ Aside0 (step_tokens.Laid wr g cap l0 i)) (fun _ v25 _ => l0.length - (intOf v25).toNat)
   case atStart => exact ⟨0, rfl, by rw [step_tokens.S_zero]; rfl, ⟨Nat.zero_le _⟩, HB1, ⟨⟨cur.toList, by simpa using HH.out, by simpa using HCS.out, by rw [step_tokens.S_zero, Nat.zero_mul]; exact Reps.none _ _⟩⟩⟩
   case round =>
    clear HB1 HH HB
    obtain ⟨i, rfl, rfl, HI, HB, HLD⟩ := hrel
    by_cases hlt : i < l0.length
    ·have hc : ((i : Nat) : Int) < (l0.length : Int) := by omega
     have hc2 : (0 : Int) ≤ ((i : Nat) : Int) := by omega
     obtain ⟨ad, A1, c1, e_, hx, hl, hk⟩ := at_L2 HR0.out ((i : Nat) : Int) hc2 hc
     cases e_
     rw [Int.toNat_natCast] at hx
     replace hx := (HB.out.cell (World.block_lt_of_cell? w _ hx)).trans hx
     obtain ⟨cs, hcs, hrep, hsrc⟩ := step_tokens.row (Kd.C_below hk HB.out)
     obtain ⟨cells, hg, hcl, hdone⟩ := HLD.out
     have h1 := step_tokens.sum_succ l0 i hlt
     have h2 := step_tokens.sum_le l0 (i + 1)
     rw [← HN.out] at h2
     have h6 : step_tokens.S l0 (i + 1) = step_tokens.S l0 i + (rd_L2 l0 (i : Int)).length := by unfold step_tokens.S; rw [h1, List.length_append]
     have h7 : step_tokens.S l0 (i + 1) ≤ N := h2
     have h8 := SM.out
     have h9 := HNC.out
     generalize hsi : step_tokens.S l0 i = si at *
     generalize hm : (rd_L2 l0 (i : Int)).length = m at *
     have hb1 : (0 : Int) ≤ (si : Int) := by omega
     have hb2 : (si : Int) ≤ (N : Int) := by omega
     have hb3 : (si : Int) ≤ (cap : Int) := by omega
     have hb4 : si ≤ N := by omega
     have hb5 : si ≤ cap := by omega
     have hb6 : N ≤ cap := h9
     have LT := aM hlt
     have G := aM (And.intro hcs (And.intro hrep (And.intro hsrc (And.intro hg (And.intro hcl (And.intro hdone (And.intro h6 (And.intro h7 h8))))))))
     clear hl hk hlt hcs hrep hsrc hg hcl hdone h1 h2 h6 h7 h8 h9 HLD
     rcases Nat.eq_or_lt_of_le hb5 with hsc|hsc
     ·subst hsc
      go_wp2_with ((with_reducible refine gate_builtin (b := .copy) (xs := #[.tmp 32, .tmp 33]) rfl ?_); obtain ⟨q1, q2, q3, q4, q5, q6, q7, q8, q9⟩ := G.out; refine step_tokens.copy rfl (.tmp 32) (.tmp 33) 22 22 rfl 57 4 Try.underlying22 (by kernel_rfl) (by omega) _ _ _ _ _ _ rfl rfl g (si * 4) cells 57 q4 cs (by first|omega|(simp; omega)) q1 ?cpos (by omega) ?cone w.heap.size w HB.out HBG.out ?_; (case cpos => intro hp; exact ⟨by first|rfl|(exfalso; omega)|(simp; omega), q3 hp⟩); (case cone => intro v hv; exact Kd.reps_one q2 (by omega) (fun p c hp u hu => by rw [hp] at hu; simp at hu; rcases hu with rfl|rfl|rfl|rfl <;> rfl) v hv); intro w3 hg3 hb3_; have HG3 := aM hg3; have HB3 := aM hb3_; clear hg3 hb3_ q1 q2 q3 q4 q5 q6 q7 q8 q9)
      go_roundw
      case rel =>
       obtain ⟨q1, q2, q3, q4, q5, q6, q7, q8, q9⟩ := G.out
       have h4 := HL.out
       have h5 := LT.out
       refine ⟨i + 1, ?_, ?_, ⟨by omega⟩, HB3, ⟨step_tokens.laid_next h5 q5 (by rw [hsi]; exact q6) q2 (by omega) (by rw [hsi]; exact HG3.out)⟩⟩
       ·rw [step_tokens.w64 (by omega)]; rfl
       ·rw [q7, step_tokens.w64 (by omega)]; rfl
      case measure =>
       have h4 := HL.out
       have h5 := LT.out
       rw [step_tokens.w64 (by omega)]
       simp [intOf]
       omega
     ·have hsc1 : ¬ (cap = si) := by omega
      have hsc2 : ¬ (si = cap) := by omega
      go_wp2_with ((with_reducible refine gate_builtin (b := .copy) (xs := #[.tmp 32, .tmp 33]) rfl ?_); obtain ⟨q1, q2, q3, q4, q5, q6, q7, q8, q9⟩ := G.out; refine step_tokens.copy rfl (.tmp 32) (.tmp 33) 22 22 rfl 57 4 Try.underlying22 (by kernel_rfl) (by omega) _ _ _ _ _ _ rfl rfl g (si * 4) cells 57 q4 cs (by first|omega|(simp; omega)) q1 ?cpos (by omega) ?cone w.heap.size w HB.out HBG.out ?_; (case cpos => intro hp; exact ⟨by first|rfl|(exfalso; omega)|(simp; omega), q3 hp⟩); (case cone => intro v hv; exact Kd.reps_one q2 (by omega) (fun p c hp u hu => by rw [hp] at hu; simp at hu; rcases hu with rfl|rfl|rfl|rfl <;> rfl) v hv); intro w3 hg3 hb3_; have HG3 := aM hg3; have HB3 := aM hb3_; clear hg3 hb3_ q1 q2 q3 q4 q5 q6 q7 q8 q9)
      go_roundw
      case rel =>
       obtain ⟨q1, q2, q3, q4, q5, q6, q7, q8, q9⟩ := G.out
       have h4 := HL.out
       have h5 := LT.out
       refine ⟨i + 1, ?_, ?_, ⟨by omega⟩, HB3, ⟨step_tokens.laid_next h5 q5 (by rw [hsi]; exact q6) q2 (by omega) (by rw [hsi]; exact HG3.out)⟩⟩
       ·rw [step_tokens.w64 (by omega)]; rfl
       ·rw [q7, step_tokens.w64 (by omega)]; rfl
      case measure =>
       have h4 := HL.out
       have h5 := LT.out
       rw [step_tokens.w64 (by omega)]
       simp [intOf]
       omega
    ·obtain rfl : i = l0.length := by have := HI.out; omega
     clear HI hlt
     go_wp2
     go_ret
     obtain ⟨cells, hg, hcl, hdone⟩ := HLD.out
     rw [List.take_length] at hdone
     have h1 : step_tokens.S l0 l0.length = N := (step_tokens.S_all l0).trans HN.out.symm
     rw [h1] at hdone
     have hlen : F.length = N := by rw [HF.out, HN.out]
     rw [← HF.out] at hdone
     have hfin := step_tokens.made (base := w.heap.size) hg hcl hdone hlen HNC.out HCM.out HBG.out
     exact ⟨_, rfl, hfin, HB.out⟩

def mark_Add.f (k : Nat) (a0 : Int) (a1 : Int) : Option (Int × Int) := (mark_may.f k a0 a1).bind fun t121 => (if t121 = 0 then (if a0 = 4 then (some (4, 0)) else (if a1 = 4 then (some (4, 0)) else (some (Go.bits .or .i64 a0 a1, 0)))) else (some (0, t121)))
theorem mark_Add.mono : ∀ a0 a1 k, LeO (mark_Add.f k a0 a1) (mark_Add.f (k + 1) a0 a1) := by
 intro a0 a1 k
 unfold mark_Add.f
 repeat' first
  |(with_reducible exact mark_may.mono _ _ _)
  |(with_reducible exact LeO.refl _)
  |(with_reducible exact LeO.none _)
  |(with_reducible refine LeO.ite ?_ ?_)
  |(with_reducible refine LeO.bind ?_ (fun _ => ?_))
  |exact mark_may.mono _ _ _
  |exact LeO.none _
  |refine LeO.ite ?_ ?_
  |refine LeO.bind ?_ (fun _ => ?_)
set_option maxHeartbeats 8000000 in
set_option maxRecDepth 100000 in
theorem mark_Add.calls (k : Nat) (a0 : Int) (a1 : Int) (r1 : Int) (r2 : Int) (w : World) (h : mark_Add.f k a0 a1 = some (r1, r2)) :
  Calls Try.prog 43 #[.int .i64 a0, .int .i64 a1] w fun e w' => e = .returned (.tuple #[.int .i64 r1, .int .i64 r2]) ∧ Drawn0 w w' := by
 have H : ((mark_may.f k a0 a1).bind fun t121 => (if t121 = 0 then (if a0 = 4 then (some (4, 0)) else (if a1 = 4 then (some (4, 0)) else (some (Go.bits .or .i64 a0 a1, 0)))) else (some (0, t121)))) = some (r1, r2) := h
 clear h
 replace H := Option.bind_eq_some_iff.mp H
 obtain ⟨t121, A30, H⟩ := H
 replace H : (if t121 = 0 then (if a0 = 4 then (some (4, 0)) else (if a1 = 4 then (some (4, 0)) else (some (Go.bits .or .i64 a0 a1, 0)))) else (some (0, t121))) = some (r1, r2) := H
 have A3 := aM A30
 clear A30
 by_cases c4 : t121 = 0
 ·rw [if_pos c4] at H
  have c4b0 : (t121 == 0) = true := beq_iff_eq.mpr c4
  have c4b1 : (t121 != 0) = false := bne_eq_false_iff_eq.mpr c4
  clear c4
  by_cases c5 : a0 = 4
  ·rw [if_pos c5] at H
   have c5b0 : (a0 == 4) = true := beq_iff_eq.mpr c5
   have c5b1 : (a0 != 4) = false := bne_eq_false_iff_eq.mpr c5
   clear c5
   simp only [Option.some.injEq, Prod.mk.injEq] at H
   obtain ⟨rfl, rfl⟩ := H
   go_enter Try.func43, Try.ntmps43
   go_wp2_with (first|((with_reducible refine gate_callee (f := 52) rfl ?_); refine goesL_ (some 9) rfl rfl Try.func52 (by kernel_rfl) rfl #[.int .i64 a0, .int .i64 a1] rfl (by (try simp only [List.map_toArray, List.map_cons, List.map_nil]); first|done|rfl|(simp only [List.length_drop, List.length_take]; rfl)) ?_; (with_reducible refine (mark_may.calls k a0 a1 t121 _ A3.out).mono ?_); rintro e w' ⟨rfl, ⟨nd, rfl⟩⟩; refine ⟨_, rfl, ?_⟩))
   go_ret2
   exact ⟨by first|rfl|(simp; done)|(simp [*]; done), by repeat (first|exact Drawn0.refl _|apply Drawn0.step)⟩
  ·rw [if_neg c5] at H
   have c5b0 : (a0 == 4) = false := beq_eq_false_iff_ne.mpr c5
   have c5b1 : (a0 != 4) = true := bne_iff_ne.mpr c5
   by_cases c6 : a1 = 4
   ·rw [if_pos c6] at H
    have c6b0 : (a1 == 4) = true := beq_iff_eq.mpr c6
    have c6b1 : (a1 != 4) = false := bne_eq_false_iff_eq.mpr c6
    clear c6
    simp only [Option.some.injEq, Prod.mk.injEq] at H
    obtain ⟨rfl, rfl⟩ := H
    go_enter Try.func43, Try.ntmps43
    go_wp2_with (first|((with_reducible refine gate_callee (f := 52) rfl ?_); refine goesL_ (some 9) rfl rfl Try.func52 (by kernel_rfl) rfl #[.int .i64 a0, .int .i64 a1] rfl (by (try simp only [List.map_toArray, List.map_cons, List.map_nil]); first|done|rfl|(simp only [List.length_drop, List.length_take]; rfl)) ?_; (with_reducible refine (mark_may.calls k a0 a1 t121 _ A3.out).mono ?_); rintro e w' ⟨rfl, ⟨nd, rfl⟩⟩; refine ⟨_, rfl, ?_⟩))
    go_ret2
    exact ⟨by first|rfl|(simp; done)|(simp [*]; done), by repeat (first|exact Drawn0.refl _|apply Drawn0.step)⟩
   ·rw [if_neg c6] at H
    have c6b0 : (a1 == 4) = false := beq_eq_false_iff_ne.mpr c6
    have c6b1 : (a1 != 4) = true := bne_iff_ne.mpr c6
    simp only [Option.some.injEq, Prod.mk.injEq] at H
    obtain ⟨rfl, rfl⟩ := H
    go_enter Try.func43, Try.ntmps43
    go_wp2_with (first|((with_reducible refine gate_callee (f := 52) rfl ?_); refine goesL_ (some 9) rfl rfl Try.func52 (by kernel_rfl) rfl #[.int .i64 a0, .int .i64 a1] rfl (by (try simp only [List.map_toArray, List.map_cons, List.map_nil]); first|done|rfl|(simp only [List.length_drop, List.length_take]; rfl)) ?_; (with_reducible refine (mark_may.calls k a0 a1 t121 _ A3.out).mono ?_); rintro e w' ⟨rfl, ⟨nd, rfl⟩⟩; refine ⟨_, rfl, ?_⟩))
    go_ret2
    exact ⟨by first|rfl|(simp; done)|(simp [*]; done), by repeat (first|exact Drawn0.refl _|apply Drawn0.step)⟩
 ·rw [if_neg c4] at H
  have c4b0 : (t121 == 0) = false := beq_eq_false_iff_ne.mpr c4
  have c4b1 : (t121 != 0) = true := bne_iff_ne.mpr c4
  simp only [Option.some.injEq, Prod.mk.injEq] at H
  obtain ⟨rfl, rfl⟩ := H
  go_enter Try.func43, Try.ntmps43
  go_wp2_with (first|((with_reducible refine gate_callee (f := 52) rfl ?_); refine goesL_ (some 9) rfl rfl Try.func52 (by kernel_rfl) rfl #[.int .i64 a0, .int .i64 a1] rfl (by (try simp only [List.map_toArray, List.map_cons, List.map_nil]); first|done|rfl|(simp only [List.length_drop, List.length_take]; rfl)) ?_; (with_reducible refine (mark_may.calls k a0 a1 t121 _ A3.out).mono ?_); rintro e w' ⟨rfl, ⟨nd, rfl⟩⟩; refine ⟨_, rfl, ?_⟩))
  go_ret2
  exact ⟨by first|rfl|(simp; done)|(simp [*]; done), by repeat (first|exact Drawn0.refl _|apply Drawn0.step)⟩

def mark_Take.f (k : Nat) (a0 : Int) (a1 : Int) : Option (Int × Int) := (mark_may.f k a0 a1).bind fun t122 => (if t122 = 0 then (some (Go.bits .andNot .i64 a0 a1, 0)) else (some (0, t122)))
theorem mark_Take.mono : ∀ a0 a1 k, LeO (mark_Take.f k a0 a1) (mark_Take.f (k + 1) a0 a1) := by
 intro a0 a1 k
 unfold mark_Take.f
 repeat' first
  |(with_reducible exact mark_may.mono _ _ _)
  |(with_reducible exact LeO.refl _)
  |(with_reducible exact LeO.none _)
  |(with_reducible refine LeO.ite ?_ ?_)
  |(with_reducible refine LeO.bind ?_ (fun _ => ?_))
  |exact mark_may.mono _ _ _
  |exact LeO.none _
  |refine LeO.ite ?_ ?_
  |refine LeO.bind ?_ (fun _ => ?_)
set_option maxHeartbeats 8000000 in
set_option maxRecDepth 100000 in
theorem mark_Take.calls (k : Nat) (a0 : Int) (a1 : Int) (r1 : Int) (r2 : Int) (w : World) (h : mark_Take.f k a0 a1 = some (r1, r2)) :
  Calls Try.prog 44 #[.int .i64 a0, .int .i64 a1] w fun e w' => e = .returned (.tuple #[.int .i64 r1, .int .i64 r2]) ∧ Drawn0 w w' := by
 have H : ((mark_may.f k a0 a1).bind fun t122 => (if t122 = 0 then (some (Go.bits .andNot .i64 a0 a1, 0)) else (some (0, t122)))) = some (r1, r2) := h
 clear h
 replace H := Option.bind_eq_some_iff.mp H
 obtain ⟨t122, A30, H⟩ := H
 replace H : (if t122 = 0 then (some (Go.bits .andNot .i64 a0 a1, 0)) else (some (0, t122))) = some (r1, r2) := H
 have A3 := aM A30
 clear A30
 by_cases c4 : t122 = 0
 ·rw [if_pos c4] at H
  have c4b0 : (t122 == 0) = true := beq_iff_eq.mpr c4
  have c4b1 : (t122 != 0) = false := bne_eq_false_iff_eq.mpr c4
  clear c4
  simp only [Option.some.injEq, Prod.mk.injEq] at H
  obtain ⟨rfl, rfl⟩ := H
  go_enter Try.func44, Try.ntmps44
  go_wp2_with (first|((with_reducible refine gate_callee (f := 52) rfl ?_); refine goesL_ (some 9) rfl rfl Try.func52 (by kernel_rfl) rfl #[.int .i64 a0, .int .i64 a1] rfl (by (try simp only [List.map_toArray, List.map_cons, List.map_nil]); first|done|rfl|(simp only [List.length_drop, List.length_take]; rfl)) ?_; (with_reducible refine (mark_may.calls k a0 a1 t122 _ A3.out).mono ?_); rintro e w' ⟨rfl, ⟨nd, rfl⟩⟩; refine ⟨_, rfl, ?_⟩))
  go_ret2
  exact ⟨by first|rfl|(simp; done)|(simp [*]; done), by repeat (first|exact Drawn0.refl _|apply Drawn0.step)⟩
 ·rw [if_neg c4] at H
  have c4b0 : (t122 == 0) = false := beq_eq_false_iff_ne.mpr c4
  have c4b1 : (t122 != 0) = true := bne_iff_ne.mpr c4
  simp only [Option.some.injEq, Prod.mk.injEq] at H
  obtain ⟨rfl, rfl⟩ := H
  go_enter Try.func44, Try.ntmps44
  go_wp2_with (first|((with_reducible refine gate_callee (f := 52) rfl ?_); refine goesL_ (some 9) rfl rfl Try.func52 (by kernel_rfl) rfl #[.int .i64 a0, .int .i64 a1] rfl (by (try simp only [List.map_toArray, List.map_cons, List.map_nil]); first|done|rfl|(simp only [List.length_drop, List.length_take]; rfl)) ?_; (with_reducible refine (mark_may.calls k a0 a1 t122 _ A3.out).mono ?_); rintro e w' ⟨rfl, ⟨nd, rfl⟩⟩; refine ⟨_, rfl, ?_⟩))
  go_ret2
  exact ⟨by first|rfl|(simp; done)|(simp [*]; done), by repeat (first|exact Drawn0.refl _|apply Drawn0.step)⟩

end Go.Proofs.Ytlngjgcodknpiaa.PSm
