-- Printed for this claim by a changed copy of the kit's print (the session's own; own contracts in place of some functions).
import Derived.Test.YtpmpcaahbhdiiaaQFnLedgerx0
namespace Go.Proofs.Ytpmpcaahbhdiiaa.QFnLedger
open Go.RowKit Go.Proofs.YtpmpcaahbhdiiaaW.PrintWords Go.Proofs.YtpmpcaahbhdiiaaW.PrintLast Go.Proofs.YtpmpcaahbhdiiaaW.PrintMore
attribute [local go_sem] max2_int min2_int max_two min_two max_three min_three max_four min_four   -- for this text's walks alone
set_option linter.unusedVariables false
set_option linter.unusedSimpArgs false

/-! ### impl_TotalsOf: function 6 -/
--import Derived.Test.YtpmpcaahbhdiiaaLedgerCalls
--import Derived.Maps.RangeWalk
--import Derived.WalkSpells
def impl_TotalsOf.tv (A : Int → Option Int) (left : Lit → Bool) (j : Nat) : Int := if left (.int .i64 (j : Int)) = true then 0 else (A (j : Int)).getD 0
def impl_TotalsOf.ts (A : Int → Option Int) (left : Lit → Bool) : Nat → Int
 | 0 => 0
 | n + 1 => impl_TotalsOf.ts A left n + impl_TotalsOf.tv A left n
theorem impl_TotalsOf.ts_step (A : Int → Option Int) (left : Lit → Bool) (x c : Int) (h0 : 0 ≤ x) (hl : left (.int .i64 x) = true) (hc : (A x).getD 0 = c) : ∀ n, impl_TotalsOf.ts A (fun z => left z && !z.sameKey (.int .i64 x)) n = impl_TotalsOf.ts A left n + (if x.toNat < n then c else 0)
 | 0 => by simp [impl_TotalsOf.ts]
 | n + 1 => by
  rw [impl_TotalsOf.ts, impl_TotalsOf.ts, impl_TotalsOf.ts_step A left x c h0 hl hc n]
  by_cases e : (n : Int) = x
  ·have e1 : impl_TotalsOf.tv A (fun z => left z && !z.sameKey (.int .i64 x)) n = c := by
    unfold impl_TotalsOf.tv
    rw [e]
    simp only [WideAt.sameKey_self (a := .int .i64 x) trivial, Bool.not_true, Bool.and_false, Bool.false_eq_true, if_false, hc]
   have e2 : impl_TotalsOf.tv A left n = 0 := by
    unfold impl_TotalsOf.tv
    rw [e, if_pos hl]
   rw [e1, e2, if_neg (by omega), if_pos (by omega)]
   all_goals omega
  ·have hk : (Lit.int .i64 (n : Int)).sameKey (.int .i64 x) = false := Maps.sameKey_ne (fun h => e (by injection h))
   have e1 : impl_TotalsOf.tv A (fun z => left z && !z.sameKey (.int .i64 x)) n = impl_TotalsOf.tv A left n := by
    unfold impl_TotalsOf.tv
    simp only [hk, Bool.not_false, Bool.and_true]
   rw [e1]
   by_cases g : x.toNat < n
   ·rw [if_pos g, if_pos (by omega)]; omega
   ·rw [if_neg g, if_neg (by omega)]; omega
theorem impl_TotalsOf.ts_start (A : Int → Option Int) (left : Lit → Bool) (h : ∀ k, left (.int .i64 k) = (A k).isSome) : ∀ n, impl_TotalsOf.ts A left n = 0
 | 0 => rfl
 | n + 1 => by
  rw [impl_TotalsOf.ts, impl_TotalsOf.ts_start A left h n]
  unfold impl_TotalsOf.tv
  rw [h]
  cases A (n : Int) <;> rfl
theorem impl_TotalsOf.ts_end (A : Int → Option Int) (left : Lit → Bool) (h : ∀ kl, left kl = false) (n : Nat) : impl_TotalsOf.ts A left n = impl_TotalsOf.ts A (fun _ => false) n := by
 rw [show left = fun _ => false from funext h]
def impl_TotalsOf.Sup (A : Int → Option Int) : Prop := ∀ j, (A j).isSome = true → 1 ≤ j ∧ j ≤ 200
theorem impl_TotalsOf.sup_upd {A : Int → Option Int} (h : impl_TotalsOf.Sup A) {m : Int} (v : Option Int) (hm : 1 ≤ m ∧ m ≤ 200) : impl_TotalsOf.Sup (Ledger.upd A m v) := by
 intro j hj
 by_cases e : j = m
 ·rw [e]; exact hm
 ·rw [Ledger.upd_other _ _ e] at hj; exact h j hj
theorem impl_TotalsOf.addf_sup {s s' : Ledger.Bk} {e : List Int} (h : impl_TotalsOf.Sup s.A) (ha : Ledger.addf s e = some (some s')) : impl_TotalsOf.Sup s'.A := by
 unfold Ledger.addf at ha
 by_cases c1 : e.length = 3
 case neg => rw [if_neg c1] at ha; cases ha
 rw [if_pos c1] at ha
 by_cases c2 : 1 ≤ rd e 1 ∧ rd e 1 ≤ 99
 case neg => rw [if_neg c2] at ha; cases ha
 rw [if_pos c2] at ha
 have hm : 1 ≤ rd e 1 ∧ rd e 1 ≤ 200 := by omega
 by_cases c3 : rd e 0 ≠ 5 ∧ ¬ (1 ≤ rd e 2 ∧ rd e 2 ≤ 1000)
 case pos => rw [if_pos c3] at ha; cases ha
 rw [if_neg c3] at ha
 by_cases c4 : rd e 2 < 1
 case pos => rw [if_pos c4] at ha; cases ha
 rw [if_neg c4] at ha
 by_cases c5 : (s.A (rd e 1)).isSome = (rd e 0 == 1)
 case pos => rw [if_pos c5] at ha; cases ha
 rw [if_neg c5] at ha
 by_cases e1 : rd e 0 = 1
 ·rw [if_pos e1] at ha
  by_cases c8 : s.U (rd e 1) = true
  ·rw [if_pos c8] at ha; cases ha
  ·rw [if_neg c8] at ha; cases ha; exact impl_TotalsOf.sup_upd h _ hm
 rw [if_neg e1] at ha
 by_cases e2 : rd e 0 = 2
 ·rw [if_pos e2] at ha
  by_cases c8 : rd e 2 ≥ (s.A (rd e 1)).getD 0
  ·rw [if_pos c8] at ha; cases ha
  ·rw [if_neg c8] at ha; cases ha; exact impl_TotalsOf.sup_upd h _ hm
 rw [if_neg e2] at ha
 by_cases e3 : rd e 0 = 3
 ·rw [if_pos e3] at ha
  by_cases c8 : rd e 2 ≥ (s.A (rd e 1)).getD 0
  ·rw [if_pos c8] at ha; cases ha
  ·rw [if_neg c8, Option.bind_eq_some_iff] at ha
   obtain ⟨n, hn, ha⟩ := ha
   have hn' := Ledger.nxtf_ok _ _ _ _ hn
   by_cases c9 : s.A n = none
   ·rw [if_pos c9] at ha; cases ha; exact impl_TotalsOf.sup_upd (impl_TotalsOf.sup_upd h _ hm) _ ⟨by omega, by omega⟩
   ·rw [if_neg c9] at ha; cases ha
 rw [if_neg e3] at ha
 by_cases e4 : rd e 0 = 4
 ·rw [if_pos e4] at ha
  by_cases c8 : (s.A (rd e 2)).isSome = false
  ·rw [if_pos c8] at ha; cases ha
  ·rw [if_neg c8] at ha
   by_cases c9 : rd e 2 = rd e 1
   ·rw [if_pos c9] at ha; cases ha
   ·rw [if_neg c9] at ha; cases ha
    refine impl_TotalsOf.sup_upd (impl_TotalsOf.sup_upd h _ (h _ ?_)) _ hm
    cases hh : (s.A (rd e 2)).isSome
    ·exact absurd hh c8
    ·rfl
 rw [if_neg e4] at ha
 by_cases e5 : rd e 0 = 5
 ·rw [if_pos e5] at ha
  by_cases c8 : rd e 2 ≠ (s.A (rd e 1)).getD 0
  ·rw [if_pos c8] at ha; cases ha
  ·rw [if_neg c8] at ha; cases ha; exact impl_TotalsOf.sup_upd h _ hm
 rw [if_neg e5] at ha
 cases ha
theorem impl_TotalsOf.perfl_sup (l0 : List (List Int)) : ∀ (k : Nat) (i : Int) (s s' : Ledger.Bk) (z : Int), impl_TotalsOf.Sup s.A → Ledger.perfl l0 k i s = some (some s', z) → impl_TotalsOf.Sup s'.A
 | 0, _, _, _, _, _, h => by simp [Ledger.perfl] at h
 | k + 1, i, s, s', z, hs, h => by
  rw [Ledger.perfl] at h
  split at h
  ·split at h
   ·cases h
   ·rw [Option.bind_eq_some_iff] at h
    obtain ⟨o, ho, h⟩ := h
    cases o with
    | none => cases h
    | some s1 => exact impl_TotalsOf.perfl_sup l0 k (i + 1) s1 s' z (impl_TotalsOf.addf_sup hs ho) h
  ·cases h; exact hs
theorem impl_TotalsOf.w_add (t c : Int) : wrap64 (wrap64 t + c) = wrap64 (t + c) := by unfold wrap64; omega
theorem impl_TotalsOf.lit4 (W : World) (base : Nat) (hb : base ≤ W.heap.size) (a b c d : Int) : Kd.R (Kd.int .i64) 3 (W.alloc (.cells #[.int .i64 a, .int .i64 b, .int .i64 c, .int .i64 d] 3)) base (fun _ => True) (.slice (some ⟨W.heap.size, 0, none⟩) 4 4) [a, b, c, d] := by
 refine ⟨fun _ _ => trivial, _, World.ownsRow_lit (base := base) (e := 3) (size := 1) W #[.int .i64 a, .int .i64 b, .int .i64 c, .int .i64 d] 4 hb (by simp [maxLen]) rfl, ?_⟩
 exact Kd.reps_scalar (enc := Value.int .i64) [a, b, c, d]
def impl_TotalsOf.f (k : Nat) (l0 : List (List Int)) : Option (List Int) := (Ledger.perfl l0 k 0 Ledger.bk0).bind fun t => if t.2 ≥ 0 then some [] else match t.1 with
 | none => none
 | some s => some [s.b1, s.b2, s.b3, wrap64 (impl_TotalsOf.ts s.A (fun _ => false) 201)]
theorem impl_TotalsOf.mono : ∀ a0 k, LeO (impl_TotalsOf.f k a0) (impl_TotalsOf.f (k + 1) a0) := by
 intro a0 k
 unfold impl_TotalsOf.f
 exact LeO.bind (Ledger.perfl_mono _ _ _ _) (fun _ => LeO.refl _)
set_option maxHeartbeats 8000000 in
set_option maxRecDepth 100000 in
theorem impl_TotalsOf.calls (k : Nat) (A0 : Option Addr) (c0 : Nat) (l0 : List (List Int)) (r : List Int) (w : World) (hr0 : Kd.C (Kd.slice 3 (Kd.int .i64)) w A0 l0.length l0) (hc0 : l0.length ≤ c0) (h : impl_TotalsOf.f k l0 = some r) :
  Calls Try.prog 6 #[.slice A0 l0.length c0] w fun e w' => ∃ v0_ : Value, e = .returned (v0_) ∧ Kd.R (Kd.int .i64) 3 w' w.heap.size (fun _ => True) v0_ r ∧ Below w.heap.size w w' := by
 unfold impl_TotalsOf.f at h
 rw [Option.bind_eq_some_iff] at h
 obtain ⟨⟨t1, t2⟩, A1, h⟩ := h
 have HA := zm1 A1
 have HR0 := zm1 hr0
 have HC0 := zm1 hc0
 clear A1 hr0 hc0
 by_cases c : t2 ≥ 0
 ·rw [if_pos c] at h
  obtain rfl := Option.some.inj h
  have cb : decide (0 ≤ t2) = true := decide_eq_true c
  clear c h
  go_enter Try.func6, Try.ntmps6
  go_wp2_with (first | (go_at_call 15; (with_reducible refine (Ledger.perform_calls k A0 c0 l0 (t1, t2) w HR0.out HC0.out HA.out).mono ?_); rintro e w2 ⟨p, rfl, hm⟩; have HM := zm1 hm; clear hm))
  go_ret
  exact ⟨_, rfl, Kd.R_nil _ _ _ _ _, by repeat (first | (with_reducible first | exact HM.out.1 | apply zc1 | apply zc2 | apply zc3) | exact HM.out.1)⟩
 ·rw [if_neg c] at h
  cases t1 with
  | none => cases h
  | some s =>
   have h : some [s.b1, s.b2, s.b3, wrap64 (impl_TotalsOf.ts s.A (fun _ => false) 201)] = some r := h
   have HRr := zm1 (Option.some.inj h).symm
   have SUP := zm1 (impl_TotalsOf.perfl_sup l0 k 0 Ledger.bk0 s t2 (fun j hj => by cases hj) HA.out)
   have cb : decide (0 ≤ t2) = false := decide_eq_false c
   clear c h
   go_enter Try.func6, Try.ntmps6
   go_wp2_with (first | (go_at_call 15; (with_reducible refine (Ledger.perform_calls k A0 c0 l0 (some s, t2) w HR0.out HC0.out HA.out).mono ?_); rintro e w2 ⟨p, rfl, hm⟩; obtain ⟨ba, bu, n, _, hbd⟩ := hm.2 s rfl; have hz0 := hbd.z0; obtain ⟨D, hown, hD⟩ := hbd.a; have HB := zm1 hbd; have HD := zm1 hD; have HOW := zm1 hown; clear hm hbd hD hown) | (at_range; refine wpList_range_own _ rfl _ 41 rfl 3 3 Ledger.K3 Try.underlying41 _ ba n _ rfl HOW.out ?_; intro w3 hrg0 hg0 hs0; have HRG := zm1 hrg0; have HG := zm1 hg0; clear hrg0 hg0 hs0))
   go_frame
   go_loopg [5] (Maps.size D) (fun kq v5 wr => ∃ (left : Lit → Bool), v5 = .int .i64 (wrap64 (impl_TotalsOf.ts s.A left 201)) ∧ Aside0 (∀ kl, left kl = true → Maps.has D kl = true) ∧ Aside0 (wr.ranges Try.prog 3 (plainElem Try.prog 3) ba w2.heap.size n D left kq) ∧ Aside0 (wr.heap[p]? = some (.cells #[.map (some ba), .map (some bu), .int .i64 s.b1, .int .i64 s.b2, .int .i64 s.b3] 44 (0, 0))) ∧ Aside0 (Below w.heap.size w wr))
   case atStart => exact ⟨Maps.has D, by rw [impl_TotalsOf.ts_start s.A (Maps.has D) (fun k => (HD.out k).1)]; simp [wrap64], ⟨fun _ h => h⟩, HRG, ⟨blk_grown HB.out.bk HG.out (by simp)⟩, ⟨HB.out.below.grown HG.out HB.out.below.size (fun k hk => by cases hk)⟩⟩
   case round =>
    clear HRG HG hz0
    obtain ⟨left, rfl, HL, HRG, HBK, HBL⟩ := hrel
    go_wp2_with (first | (at_next; refine wpList_next_ranges_ii _ rfl _ rfl 3 3 .i64 .i64 Ledger.K3 Try.underlying3 Try.underlying3 ba w2.heap.size n _ _ _ rfl HRG.out ?_ ?_))
    ·intro _ hl0
     have EN := zm1 (impl_TotalsOf.ts_end s.A left hl0 201)
     clear hl0
     go_wp2_with fail
     have hq2 : wr.cell? ⟨p, 2, none⟩ = some (.int .i64 s.b1) := (blk_cell HBK.out 2).trans rfl
     have hq3 : wr.cell? ⟨p, 3, none⟩ = some (.int .i64 s.b2) := (blk_cell HBK.out 3).trans rfl
     have hq4 : wr.cell? ⟨p, 4, none⟩ = some (.int .i64 s.b3) := (blk_cell HBK.out 4).trans rfl
     go_region_held3 (fun w' => w'.cell? ⟨p, 2, none⟩ = some (.int .i64 s.b1) ∧ w'.cell? ⟨p, 3, none⟩ = some (.int .i64 s.b2) ∧ w'.cell? ⟨p, 4, none⟩ = some (.int .i64 s.b3)) (go_keep) (fail)
     all_goals (go_wp2; go_ret; exact ⟨_, rfl, by rw [HRr.out, ← EN.out]; (with_reducible repeat (first | apply Kd.R_drewN | apply Kd.R_drew)); exact impl_TotalsOf.lit4 _ _ HBL.out.size _ _ _ _, by repeat (first | exact HBL.out | apply zc1 | apply zc2 | apply zc3)⟩)
    ·intro x c w1 cnt1 hwx hwc hlx hat hrg1 hlt hg1 hs1 hen
     have HR1 := zm1 hrg1
     have HG1 := zm1 hg1
     have HLT := zm1 hlt
     have HLX := zm1 hlx
     have HAT := zm1 hat
     clear hrg1 hg1 hs1 hlt hlx hat
     go_wp2
     go_roundg cnt1
     case measure => exact HLT.out
     case rel =>
      have hsome : (s.A x).isSome = true := by rw [← (HD.out x).1]; exact HL.out _ HLX.out
      have hx := SUP.out x hsome
      have hc : (s.A x).getD 0 = c := by
       have h1 := HAT.out (.lit (.int .i64 0))
       rw [(HD.out x).2] at h1
       injection h1 with h1
       injection h1
      have es := impl_TotalsOf.ts_step s.A left x c (by omega) HLX.out hc 201
      rw [if_pos (by omega)] at es
      exact ⟨_, congrArg (Value.int .i64) (by rw [es]; first | exact impl_TotalsOf.w_add _ _ | (rw [i64_w]; exact impl_TotalsOf.w_add _ _)), ⟨fun kl h => HL.out kl (by have h : (left kl && !kl.sameKey (.int .i64 x)) = true := h; rw [Bool.and_eq_true] at h; exact h.1)⟩, HR1, ⟨blk_grown HBK.out HG1.out (by have := blk_lt HB.out.bk; intro e; injection e with e; omega)⟩, ⟨HBL.out.grown HG1.out HBL.out.size (fun k hk => by injection hk with hk; have := HB.out.below.size; omega)⟩⟩

/-! ### impl_LedgerOk: function 7 -/
--import Derived.Test.YtpmpcaahbhdiiaaLedgerCalls
def impl_LedgerOk.f (k : Nat) (l0 : List (List Int)) : Option (Bool) := (Ledger.perfl l0 k 0 Ledger.bk0).bind fun t => some (decide (t.2 < 0))
theorem impl_LedgerOk.mono : ∀ a0 k, LeO (impl_LedgerOk.f k a0) (impl_LedgerOk.f (k + 1) a0) := by
 intro a0 k
 unfold impl_LedgerOk.f
 exact LeO.bind (Ledger.perfl_mono _ _ _ _) (fun _ => LeO.refl _)
set_option maxHeartbeats 8000000 in
set_option maxRecDepth 100000 in
theorem impl_LedgerOk.calls (k : Nat) (A0 : Option Addr) (c0 : Nat) (l0 : List (List Int)) (r : Bool) (w : World) (hr0 : Kd.C (Kd.slice 3 (Kd.int .i64)) w A0 l0.length l0) (hc0 : l0.length ≤ c0) (h : impl_LedgerOk.f k l0 = some r) :
  Calls Try.prog 7 #[.slice A0 l0.length c0] w fun e w' => e = .returned (.bool r) ∧ Below w.heap.size w w' := by
 unfold impl_LedgerOk.f at h
 rw [Option.bind_eq_some_iff] at h
 obtain ⟨t, A1, h⟩ := h
 obtain rfl := Option.some.inj h
 have HA := zm1 A1
 have HR0 := zm1 hr0
 have HC0 := zm1 hc0
 clear A1 h hr0 hc0
 go_enter Try.func7, Try.ntmps7
 go_wp2_with (first | (go_at_call 15; (with_reducible refine (Ledger.perform_calls k A0 c0 l0 t w HR0.out HC0.out HA.out).mono ?_); rintro e w2 ⟨p, rfl, hm⟩; have HM := zm1 hm; clear hm))
 go_ret
 exact ⟨by first | rfl | (simp; done) | (simp [*]; done), by repeat (first | (with_reducible first | exact HM.out.1 | apply zc1 | apply zc2 | apply zc3) | exact HM.out.1)⟩

/-! ### impl_FirstWrong: function 8 -/
--import Derived.Test.YtpmpcaahbhdiiaaLedgerCalls
def impl_FirstWrong.f (k : Nat) (l0 : List (List Int)) : Option (Int) := (Ledger.perfl l0 k 0 Ledger.bk0).bind fun t => some t.2
theorem impl_FirstWrong.mono : ∀ a0 k, LeO (impl_FirstWrong.f k a0) (impl_FirstWrong.f (k + 1) a0) := by
 intro a0 k
 unfold impl_FirstWrong.f
 exact LeO.bind (Ledger.perfl_mono _ _ _ _) (fun _ => LeO.refl _)
set_option maxHeartbeats 8000000 in
set_option maxRecDepth 100000 in
theorem impl_FirstWrong.calls (k : Nat) (A0 : Option Addr) (c0 : Nat) (l0 : List (List Int)) (r : Int) (w : World) (hr0 : Kd.C (Kd.slice 3 (Kd.int .i64)) w A0 l0.length l0) (hc0 : l0.length ≤ c0) (h : impl_FirstWrong.f k l0 = some r) :
  Calls Try.prog 8 #[.slice A0 l0.length c0] w fun e w' => e = .returned (.int .i64 r) ∧ Below w.heap.size w w' := by
 unfold impl_FirstWrong.f at h
 rw [Option.bind_eq_some_iff] at h
 obtain ⟨t, A1, h⟩ := h
 obtain rfl := Option.some.inj h
 have HA := zm1 A1
 have HR0 := zm1 hr0
 have HC0 := zm1 hc0
 clear A1 h hr0 hc0
 go_enter Try.func8, Try.ntmps8
 go_wp2_with (first | (go_at_call 15; (with_reducible refine (Ledger.perform_calls k A0 c0 l0 t w HR0.out HC0.out HA.out).mono ?_); rintro e w2 ⟨p, rfl, hm⟩; have HM := zm1 hm; clear hm))
 go_ret
 exact ⟨by first | rfl | (simp; done) | (simp [*]; done), by repeat (first | (with_reducible first | exact HM.out.1 | apply zc1 | apply zc2 | apply zc3) | exact HM.out.1)⟩

/-! ### impl_AreaOfSheet: function 9 -/
--import Derived.Test.YtpmpcaahbhdiiaaLedgerCalls
def impl_AreaOfSheet.f (k : Nat) (l0 : List (List Int)) (a1 : Int) : Option (Int) := (Ledger.perfl l0 k 0 Ledger.bk0).bind fun t => if t.2 ≥ 0 then some 0 else match t.1 with
 | none => none
 | some s => if -9223372036854775808 ≤ a1 ∧ a1 ≤ 9223372036854775807 then some ((s.A a1).getD 0) else none
theorem impl_AreaOfSheet.mono : ∀ a0 a1 k, LeO (impl_AreaOfSheet.f k a0 a1) (impl_AreaOfSheet.f (k + 1) a0 a1) := by
 intro a0 a1 k
 unfold impl_AreaOfSheet.f
 exact LeO.bind (Ledger.perfl_mono _ _ _ _) (fun _ => LeO.refl _)
set_option maxHeartbeats 8000000 in
set_option maxRecDepth 100000 in
theorem impl_AreaOfSheet.calls (k : Nat) (A0 : Option Addr) (c0 : Nat) (l0 : List (List Int)) (a1 : Int) (r : Int) (w : World) (hr0 : Kd.C (Kd.slice 3 (Kd.int .i64)) w A0 l0.length l0) (hc0 : l0.length ≤ c0) (h : impl_AreaOfSheet.f k l0 a1 = some r) :
  Calls Try.prog 9 #[.slice A0 l0.length c0, .int .i64 a1] w fun e w' => e = .returned (.int .i64 r) ∧ Below w.heap.size w w' := by
 unfold impl_AreaOfSheet.f at h
 rw [Option.bind_eq_some_iff] at h
 obtain ⟨⟨t1, t2⟩, A1, h⟩ := h
 have HA := zm1 A1
 have HR0 := zm1 hr0
 have HC0 := zm1 hc0
 clear A1 hr0 hc0
 by_cases c : t2 ≥ 0
 ·rw [if_pos c] at h
  obtain rfl := Option.some.inj h
  have cb : decide (0 ≤ t2) = true := decide_eq_true c
  clear c h
  go_enter Try.func9, Try.ntmps9
  go_wp2_with (first | (go_at_call 15; (with_reducible refine (Ledger.perform_calls k A0 c0 l0 (t1, t2) w HR0.out HC0.out HA.out).mono ?_); rintro e w2 ⟨p, rfl, hm⟩; have HM := zm1 hm; clear hm))
  go_ret
  exact ⟨by first | rfl | (simp; done) | (simp [*]; done), by repeat (first | (with_reducible first | exact HM.out.1 | apply zc1 | apply zc2 | apply zc3) | exact HM.out.1)⟩
 ·rw [if_neg c] at h
  cases t1 with
  | none => cases h
  | some s =>
   have h : (if -9223372036854775808 ≤ a1 ∧ a1 ≤ 9223372036854775807 then some ((s.A a1).getD 0) else none) = some r := h
   by_cases d : -9223372036854775808 ≤ a1 ∧ a1 ≤ 9223372036854775807
   ·rw [if_pos d] at h
    obtain rfl := Option.some.inj h
    have cb : decide (0 ≤ t2) = false := decide_eq_false c
    have ok : Ledger.okI a1 := by simp [Ledger.okI, Lit.wf, IntKind.min, IntKind.max, IntKind.bits, IntKind.signed]; omega
    have D := zm1 ok
    clear c h d ok
    go_enter Try.func9, Try.ntmps9
    go_wp2_with (first | (go_at_call 15; (with_reducible refine (Ledger.perform_calls k A0 c0 l0 (some s, t2) w HR0.out HC0.out HA.out).mono ?_); rintro e w2 ⟨p, rfl, hm⟩; obtain ⟨ba, bu, n, _, hbd⟩ := hm.2 s rfl; have hz0 := hbd.z0; have HB := zm1 hbd; clear hm hbd) | ((with_reducible refine gate_dst (N := 19) rfl ?_); refine Ledger.op_look rfl (N := 19) rfl rfl rfl rfl ((HB.out.same (by simp [Ledger.drawnN_heap, World.drew]) (by repeat (first | (with_reducible first | exact HB.out.below | apply zc1 | apply zc2 | apply zc3 | exact Below.drew HB.out.below) | exact HB.out.below))).a.look D.out) ?_))
    go_ret
    exact ⟨by first | rfl | (simp; done) | (simp [*]; done), by repeat (first | (with_reducible first | exact HB.out.below | apply zc1 | apply zc2 | apply zc3) | exact HB.out.below)⟩
   ·rw [if_neg d] at h
    cases h

/-! ### impl_NextNumber: function 10 -/
--import Derived.Test.YtpmpcaahbhdiiaaLedgerCalls
def impl_NextNumber.f (k : Nat) (l0 : List (List Int)) : Option (Int) := (Ledger.perfl l0 k 0 Ledger.bk0).bind fun t => if t.2 ≥ 0 then some 0 else match t.1 with
 | none => none
 | some s => Ledger.nxtf s.U 200 1
theorem impl_NextNumber.mono : ∀ a0 k, LeO (impl_NextNumber.f k a0) (impl_NextNumber.f (k + 1) a0) := by
 intro a0 k
 unfold impl_NextNumber.f
 exact LeO.bind (Ledger.perfl_mono _ _ _ _) (fun _ => LeO.refl _)
set_option maxHeartbeats 8000000 in
set_option maxRecDepth 100000 in
theorem impl_NextNumber.calls (k : Nat) (A0 : Option Addr) (c0 : Nat) (l0 : List (List Int)) (r : Int) (w : World) (hr0 : Kd.C (Kd.slice 3 (Kd.int .i64)) w A0 l0.length l0) (hc0 : l0.length ≤ c0) (h : impl_NextNumber.f k l0 = some r) :
  Calls Try.prog 10 #[.slice A0 l0.length c0] w fun e w' => e = .returned (.int .i64 r) ∧ Below w.heap.size w w' := by
 unfold impl_NextNumber.f at h
 rw [Option.bind_eq_some_iff] at h
 obtain ⟨⟨t1, t2⟩, A1, h⟩ := h
 have HA := zm1 A1
 have HR0 := zm1 hr0
 have HC0 := zm1 hc0
 clear A1 hr0 hc0
 by_cases c : t2 ≥ 0
 ·rw [if_pos c] at h
  obtain rfl := Option.some.inj h
  have cb : decide (0 ≤ t2) = true := decide_eq_true c
  clear c h
  go_enter Try.func10, Try.ntmps10
  go_wp2_with (first | (go_at_call 15; (with_reducible refine (Ledger.perform_calls k A0 c0 l0 (t1, t2) w HR0.out HC0.out HA.out).mono ?_); rintro e w2 ⟨p, rfl, hm⟩; have HM := zm1 hm; clear hm))
  go_ret
  exact ⟨by first | rfl | (simp; done) | (simp [*]; done), by repeat (first | (with_reducible first | exact HM.out.1 | apply zc1 | apply zc2 | apply zc3) | exact HM.out.1)⟩
 ·rw [if_neg c] at h
  cases t1 with
  | none => cases h
  | some s =>
   have h : Ledger.nxtf s.U 200 1 = some r := h
   have NX := zm1 (Ledger.nxtf_ok _ _ _ _ h)
   have cb : decide (0 ≤ t2) = false := decide_eq_false c
   clear c h
   go_enter Try.func10, Try.ntmps10
   go_wp2_with (first | (go_at_call 15; (with_reducible refine (Ledger.perform_calls k A0 c0 l0 (some s, t2) w HR0.out HC0.out HA.out).mono ?_); rintro e w2 ⟨p, rfl, hm⟩; obtain ⟨ba, bu, n, _, hbd⟩ := hm.2 s rfl; have hz0 := hbd.z0; have HB := zm1 hbd; clear hm hbd) | (go_at_call 17; (with_reducible refine (Ledger.next_calls s.U r p bu _ _ _ _ _ _ HB.out.bk HB.out.u NX.out.1 (by have := NX.out.2.1; omega) NX.out.2.2.1 NX.out.2.2.2).mono ?_); rintro ev w2 ⟨rfl, ⟨m2, rfl⟩⟩))
   go_ret
   exact ⟨by first | rfl | (simp; done) | (simp [*]; done), by repeat (first | (with_reducible first | exact HB.out.below | apply zc1 | apply zc2 | apply zc3) | exact HB.out.below)⟩

/-! ### impl_LastEntryOf: function 11 -/
def impl_LastEntryOf.l0 : Nat → Int → Int → List (List Int) → Int → Int → Option (Int)
 | 0, _, _, _, _, _ => none
 | k + 1, x1, x5, x12, x13, x14 => if x14 < x13 then (if 0 ≤ x14 then (if x14 < (x12.length : Int) then (if 1 < ((rd_L2 x12 x14).length : Int) then (if (rd (rd_L2 x12 x14) 1) = x1 then (impl_LastEntryOf.l0 k x1 x14 x12 x13 (wrap64 (x14 + 1))) else (impl_LastEntryOf.l0 k x1 x5 x12 x13 (wrap64 (x14 + 1)))) else (none)) else (none)) else (none)) else (some x5)
def impl_LastEntryOf.f (k : Nat) (l0 : List (List Int)) (a1 : Int) : Option (Int) := (impl_LedgerOk.f k l0).bind fun t255 => (if t255 = true then (impl_LastEntryOf.l0 k a1 (-1) l0 (l0.length : Int) 0) else (some (-1)))
theorem impl_LastEntryOf.mono_l : ∀ k, (∀ y0 y1 y2 y3 y4, LeO (impl_LastEntryOf.l0 k y0 y1 y2 y3 y4) (impl_LastEntryOf.l0 (k + 1) y0 y1 y2 y3 y4))
 | 0 => fun _ _ _ _ _ r h => by simp [impl_LastEntryOf.l0] at h
 | k + 1 => by
  have ih0 := impl_LastEntryOf.mono_l k
  ·intro y0 y1 y2 y3 y4
   unfold impl_LastEntryOf.l0
   repeat' first
   | (with_reducible exact ih0 _ _ _ _ _)
   | (with_reducible exact impl_LedgerOk.mono _ _)
   | (with_reducible exact LeO.refl _)
   | (with_reducible exact LeO.none _)
   | (with_reducible refine LeO.ite ?_ ?_)
   | (with_reducible refine LeO.bind ?_ (fun _ => ?_))
   | exact ih0 _ _ _ _ _
   | exact impl_LedgerOk.mono _ _
   | exact LeO.none _
   | refine LeO.ite ?_ ?_
   | refine LeO.bind ?_ (fun _ => ?_)
theorem impl_LastEntryOf.mono : ∀ a0 a1 k, LeO (impl_LastEntryOf.f k a0 a1) (impl_LastEntryOf.f (k + 1) a0 a1) := by
 intro a0 a1 k
 have ih0 := impl_LastEntryOf.mono_l k
 unfold impl_LastEntryOf.f
 repeat' first
   | (with_reducible exact ih0 _ _ _ _ _)
   | (with_reducible exact impl_LedgerOk.mono _ _)
   | (with_reducible exact LeO.refl _)
   | (with_reducible exact LeO.none _)
   | (with_reducible refine LeO.ite ?_ ?_)
   | (with_reducible refine LeO.bind ?_ (fun _ => ?_))
   | exact ih0 _ _ _ _ _
   | exact impl_LedgerOk.mono _ _
   | exact LeO.none _
   | refine LeO.ite ?_ ?_
   | refine LeO.bind ?_ (fun _ => ?_)
set_option maxHeartbeats 8000000 in
set_option maxRecDepth 100000 in
theorem impl_LastEntryOf.calls (k : Nat) (A0 : Option Addr) (c0 : Nat) (l0 : List (List Int)) (a1 : Int) (r : Int) (w : World) (hr0 : Kd.C (Kd.slice 3 (Kd.int .i64)) w A0 l0.length l0) (hc0 : l0.length ≤ c0) (h : impl_LastEntryOf.f k l0 a1 = some r) :
  Calls Try.prog 11 #[.slice A0 l0.length c0, .int .i64 a1] w fun e w' => e = .returned (.int .i64 r) ∧ Below w.heap.size w w' := by
 have HR0 := zm1 hr0
 have HC0 := zm1 hc0
 clear hr0 hc0
 have HB := zm1 (Below.refl w.heap.size w)
 have H : ((impl_LedgerOk.f k l0).bind fun t255 => (if t255 = true then (impl_LastEntryOf.l0 k a1 (-1) l0 (l0.length : Int) 0) else (some (-1)))) = some r := h
 clear h
 replace H := Option.bind_eq_some_iff.mp H
 obtain ⟨t255, A30, H⟩ := H
 replace H : (if t255 = true then (impl_LastEntryOf.l0 k a1 (-1) l0 (l0.length : Int) 0) else (some (-1))) = some r := H
 have A3 := zm1 A30
 clear A30
 by_cases c4 : t255 = true
 ·subst c4
  have H1 : (impl_LastEntryOf.l0 k a1 (-1) l0 (l0.length : Int) 0) = some r := by rw [if_pos rfl] at H; exact H
  clear H
  have H := H1
  clear H1
  have H' := zm1 H
  clear H
  go_enter Try.func11, Try.ntmps11
  go_wp2_with (first | ((with_reducible refine gate_callee (f := 7) rfl ?_); refine goesL_ (some 9) rfl rfl Try.func7 (by kernel_rfl) rfl #[.slice A0 l0.length c0] rfl (by (try simp only [List.map_toArray, List.map_cons, List.map_nil]); first | done | rfl | (simp only [List.length_drop, List.length_take]; rfl)) ?_; (with_reducible refine (impl_LedgerOk.calls k _ _ l0 true _ ?side1 ?side2 A3.out).mono ?_); (case side1 => repeat (first | exact HR0.out | (with_reducible refine Kd.C_alloc ?_ _) | (with_reducible refine Kd.C_drewN ?_ _) | (with_reducible refine Kd.C_drew ?_))); (case side2 => exact HC0.out); rintro e w5 ⟨rfl, hb⟩; refine ⟨_, rfl, ?_⟩; have n0_ := zm1 (zc6 (by repeat (first | (with_reducible first | exact HB.out | apply zc1 | apply zc2 | apply zc3) | exact HB.out)) hb); clear HB; have HB := n0_; clear n0_; (try clear hb); (try clear hb2); (try clear hk); (try clear hi)))
  go_loopg [5, 14] k (fun kq v5 v14 w' => ∃ (x5_1 : Int) (x14_1 : Int), v5 = .int .i64 x5_1 ∧ v14 = .int .i64 x14_1 ∧ Aside0 (impl_LastEntryOf.l0 kq a1 x5_1 l0 (l0.length : Int) x14_1 = some r) ∧ Aside0 (kq ≤ k) ∧ Aside0 (Below w.heap.size w w'))
  case atStart => exact ⟨((-1)), (0), (by first | rfl | (simp; done) | (simp [*]; done)), (by first | rfl | (simp; done) | (simp [*]; done)), H', ⟨Nat.le_refl _⟩, ⟨by repeat (first | (with_reducible first | exact HB.out | apply zc1 | apply zc2 | apply zc3) | exact HB.out)⟩⟩
  case round =>
   clear H'
   try clear c1
   try clear p2
   try clear c4
   obtain ⟨x5_1, x14_1, rfl, rfl, HA, HK1, HB⟩ := hrel
   cases gk with
   | zero => exact absurd HA.out (by simp [impl_LastEntryOf.l0])
   | succ k1 =>
    have H := HA.out
    clear HA
    simp only [impl_LastEntryOf.l0] at H
    by_cases c6 : x14_1 < (l0.length : Int)
    ·rw [if_pos c6] at H
     have c6b0 : decide (x14_1 < (l0.length : Int)) = true := decide_eq_true c6
     clear c6
     by_cases c7 : 0 ≤ x14_1
     ·rw [if_pos c7] at H
      have c7b0 : decide (0 ≤ x14_1) = true := decide_eq_true c7
      clear c7
      by_cases c8 : x14_1 < (l0.length : Int)
      ·rw [if_pos c8] at H
       have c8b0 : decide (x14_1 < (l0.length : Int)) = true := decide_eq_true c8
       clear c8
       by_cases c9 : 1 < ((rd_L2 l0 x14_1).length : Int)
       ·rw [if_pos c9] at H
        have c9b0 : decide (1 < ((rd_L2 l0 x14_1).length : Int)) = true := decide_eq_true c9
        have c9b1 : decide (1 < (rd_L2 l0 x14_1).length) = true := decide_eq_true (by omega)
        clear c9
        by_cases c10 : (rd (rd_L2 l0 x14_1) 1) = a1
        ·rw [if_pos c10] at H
         have c10b0 : ((rd (rd_L2 l0 x14_1) 1) == a1) = true := beq_iff_eq.mpr c10
         have c10b1 : ((rd (rd_L2 l0 x14_1) 1) != a1) = false := bne_eq_false_iff_eq.mpr c10
         clear c10
         have H' := zm1 H
         clear H
         have p256 : 0 ≤ (x14_1 : Int) := of_decide_eq_true (by assumption)
         have q256 : x14_1 < (l0.length : Int) := of_decide_eq_true (by assumption)
         obtain ⟨ad256, A256_0, c256_0, e256, hx256_0, hl256_0, hi256_0⟩ := at_L2 HR0.out x14_1 p256 q256
         cases e256
         (try replace hx256_0 := (HB.out.cell (zl hx256_0)).trans hx256_0)
         have HR256_0 := zm1 hi256_0
         have HC256_0 := zm1 hl256_0
         clear hi256_0 hl256_0
         replace p256 := eq_true p256
         replace q256 := eq_true q256
         have p257 : 0 ≤ (1 : Int) := (by omega)
         have q257 : 1 < ((rd_L2 l0 x14_1).length : Int) := of_decide_eq_true (by assumption)
         obtain ⟨ad257, e257, hx257_0⟩ := Kd.at_int HR256_0.out 1 p257 q257
         cases e257
         (try simp only [show (1 : Int).toNat = 1 from rfl, Nat.reduceMul, Nat.reduceEqDiff, Go.Addr.add, ↓reduceIte] at hx257_0)
         have qi257 : (1 < (rd_L2 l0 x14_1).length) = True := eq_true (by omega)
         (try rw [show ((1 : Int)).toNat = 1 from rfl] at hx257_0)
         (try replace hx257_0 := (HB.out.cell (zl hx257_0)).trans hx257_0)
         replace p257 := eq_true p257
         replace q257 := eq_true q257
         go_wp2
         go_roundg k1
         case measure => have := HK1.out; omega
         case rel => exact ⟨(x14_1), (wrap64 (x14_1 + 1)), (by first | rfl | (simp; done) | (simp [*]; done)), (by first | rfl | (simp; done) | (simp [*]; done)), H', ⟨by have := HK1.out; omega⟩, ⟨by repeat (first | (with_reducible first | exact HB.out | apply zc1 | apply zc2 | apply zc3) | exact HB.out)⟩⟩
        ·rw [if_neg c10] at H
         have c10b0 : ((rd (rd_L2 l0 x14_1) 1) == a1) = false := beq_eq_false_iff_ne.mpr c10
         have c10b1 : ((rd (rd_L2 l0 x14_1) 1) != a1) = true := bne_iff_ne.mpr c10
         have H' := zm1 H
         clear H
         have p256 : 0 ≤ (x14_1 : Int) := of_decide_eq_true (by assumption)
         have q256 : x14_1 < (l0.length : Int) := of_decide_eq_true (by assumption)
         obtain ⟨ad256, A256_0, c256_0, e256, hx256_0, hl256_0, hi256_0⟩ := at_L2 HR0.out x14_1 p256 q256
         cases e256
         (try replace hx256_0 := (HB.out.cell (zl hx256_0)).trans hx256_0)
         have HR256_0 := zm1 hi256_0
         have HC256_0 := zm1 hl256_0
         clear hi256_0 hl256_0
         replace p256 := eq_true p256
         replace q256 := eq_true q256
         have p257 : 0 ≤ (1 : Int) := (by omega)
         have q257 : 1 < ((rd_L2 l0 x14_1).length : Int) := of_decide_eq_true (by assumption)
         obtain ⟨ad257, e257, hx257_0⟩ := Kd.at_int HR256_0.out 1 p257 q257
         cases e257
         (try simp only [show (1 : Int).toNat = 1 from rfl, Nat.reduceMul, Nat.reduceEqDiff, Go.Addr.add, ↓reduceIte] at hx257_0)
         have qi257 : (1 < (rd_L2 l0 x14_1).length) = True := eq_true (by omega)
         (try rw [show ((1 : Int)).toNat = 1 from rfl] at hx257_0)
         (try replace hx257_0 := (HB.out.cell (zl hx257_0)).trans hx257_0)
         replace p257 := eq_true p257
         replace q257 := eq_true q257
         go_wp2
         go_roundg k1
         case measure => have := HK1.out; omega
         case rel => exact ⟨(x5_1), (wrap64 (x14_1 + 1)), (by first | rfl | (simp; done) | (simp [*]; done)), (by first | rfl | (simp; done) | (simp [*]; done)), H', ⟨by have := HK1.out; omega⟩, ⟨by repeat (first | (with_reducible first | exact HB.out | apply zc1 | apply zc2 | apply zc3) | exact HB.out)⟩⟩
       ·rw [if_neg c9] at H
        exact absurd H (by simp)
      ·rw [if_neg c8] at H
       exact absurd H (by simp)
     ·rw [if_neg c7] at H
      exact absurd H (by simp)
    ·rw [if_neg c6] at H
     have c6b0 : decide (x14_1 < (l0.length : Int)) = false := decide_eq_false c6
     clear c6
     obtain rfl := Option.some.inj H
     go_wp2
     go_ret
     exact ⟨by first | rfl | (simp [errW_none, errW_some] <;> rfl) | (simp [*, errW_none, errW_some] <;> rfl), by repeat (first | (with_reducible first | exact HB.out | apply zc1 | apply zc2 | apply zc3) | exact HB.out)⟩
 ·replace c4 := Bool.eq_false_iff.mpr c4
  subst c4
  have H1 : (some (-1)) = some r := by rw [if_neg (show ¬ (false = true) by decide)] at H; exact H
  clear H
  have H := H1
  clear H1
  obtain rfl := Option.some.inj H
  go_enter Try.func11, Try.ntmps11
  go_wp2_with (first | ((with_reducible refine gate_callee (f := 7) rfl ?_); refine goesL_ (some 9) rfl rfl Try.func7 (by kernel_rfl) rfl #[.slice A0 l0.length c0] rfl (by (try simp only [List.map_toArray, List.map_cons, List.map_nil]); first | done | rfl | (simp only [List.length_drop, List.length_take]; rfl)) ?_; (with_reducible refine (impl_LedgerOk.calls k _ _ l0 false _ ?side1 ?side2 A3.out).mono ?_); (case side1 => repeat (first | exact HR0.out | (with_reducible refine Kd.C_alloc ?_ _) | (with_reducible refine Kd.C_drewN ?_ _) | (with_reducible refine Kd.C_drew ?_))); (case side2 => exact HC0.out); rintro e w11 ⟨rfl, hb⟩; refine ⟨_, rfl, ?_⟩; have n0_ := zm1 (zc6 (by repeat (first | (with_reducible first | exact HB.out | apply zc1 | apply zc2 | apply zc3) | exact HB.out)) hb); clear HB; have HB := n0_; clear n0_; (try clear hb); (try clear hb2); (try clear hk); (try clear hi)))
  go_ret
  exact ⟨by first | rfl | (simp [errW_none, errW_some] <;> rfl) | (simp [*, errW_none, errW_some] <;> rfl), by repeat (first | (with_reducible first | exact HB.out | apply zc1 | apply zc2 | apply zc3) | exact HB.out)⟩

/-! ### impl_copyLists: function 18 -/
def impl_copyLists.l0 : Nat → List (List Int) → List (List Int) → Int → Int → Option ((List (List Int)))
 | 0, _, _, _, _ => none
 | k + 1, x3, x7, x8, x9 => if x9 < x8 then (if 0 ≤ x9 then (if x9 < (x7.length : Int) then ((some (([] : List Int) : List Int)).bind fun y262 => (if y262.length + (rd_L2 x7 x9).length < 17592186044416 then (if x3.length < 5864062014805 then (impl_copyLists.l0 k (x3 ++ [(y262 ++ (rd_L2 x7 x9))]) x7 x8 (wrap64 (x9 + 1))) else (none)) else (none))) else (none)) else (none)) else (some x3)
def impl_copyLists.f (k : Nat) (l0 : List (List Int)) : Option ((List (List Int))) := impl_copyLists.l0 k (([] : List (List Int))) l0 (l0.length : Int) 0
theorem impl_copyLists.mono_l : ∀ k, (∀ y0 y1 y2 y3, LeO (impl_copyLists.l0 k y0 y1 y2 y3) (impl_copyLists.l0 (k + 1) y0 y1 y2 y3))
 | 0 => fun _ _ _ _ r h => by simp [impl_copyLists.l0] at h
 | k + 1 => by
  have ih0 := impl_copyLists.mono_l k
  ·intro y0 y1 y2 y3
   unfold impl_copyLists.l0
   repeat' first
   | (with_reducible exact ih0 _ _ _ _)
   | (with_reducible exact LeO.refl _)
   | (with_reducible exact LeO.none _)
   | (with_reducible refine LeO.ite ?_ ?_)
   | (with_reducible refine LeO.bind ?_ (fun _ => ?_))
   | exact ih0 _ _ _ _
   | exact LeO.none _
   | refine LeO.ite ?_ ?_
   | refine LeO.bind ?_ (fun _ => ?_)
theorem impl_copyLists.mono : ∀ a0 k, LeO (impl_copyLists.f k a0) (impl_copyLists.f (k + 1) a0) := by
 intro a0 k
 have ih0 := impl_copyLists.mono_l k
 unfold impl_copyLists.f
 repeat' first
   | (with_reducible exact ih0 _ _ _ _)
   | (with_reducible exact LeO.refl _)
   | (with_reducible exact LeO.none _)
   | (with_reducible refine LeO.ite ?_ ?_)
   | (with_reducible refine LeO.bind ?_ (fun _ => ?_))
   | exact ih0 _ _ _ _
   | exact LeO.none _
   | refine LeO.ite ?_ ?_
   | refine LeO.bind ?_ (fun _ => ?_)
set_option maxHeartbeats 8000000 in
set_option maxRecDepth 100000 in
theorem impl_copyLists.calls (k : Nat) (A0 : Option Addr) (c0 : Nat) (l0 : List (List Int)) (r : List (List Int)) (w : World) (hr0 : Kd.C (Kd.slice 3 (Kd.int .i64)) w A0 l0.length l0) (hc0 : l0.length ≤ c0) (h : impl_copyLists.f k l0 = some r) :
  Calls Try.prog 18 #[.slice A0 l0.length c0] w fun e w' => ∃ v0_ : Value, e = .returned (v0_) ∧ Kd.S (Kd.slice 3 (Kd.int .i64)) 27 w' w.heap.size (fun _ => True) v0_ r ∧ Below w.heap.size w w' := by
 have HR0 := zm1 hr0
 have HC0 := zm1 hc0
 clear hr0 hc0
 have HB := zm1 (Below.refl w.heap.size w)
 have H : (impl_copyLists.l0 k (([] : List (List Int))) l0 (l0.length : Int) 0) = some r := h
 clear h
 obtain ⟨y258, hy258⟩ : ∃ y_ : List (List Int), y_ = (([] : List (List Int))) := ⟨_, rfl⟩
 replace H : (impl_copyLists.l0 k y258 l0 (l0.length : Int) 0) = some r := by first | (rw [hy258]; with_reducible exact H) | (have H2_ := (Option.bind_some _ _).symm.trans H; rw [hy258]; with_reducible exact H2_) | (have H2_ := (Option.bind_some _ _).symm.trans H; with_reducible exact H2_) | with_reducible exact H | (rw [hy258]; exact H) | exact H
 have Ny258 := zm1 hy258
 clear hy258
 have H' := zm1 H
 clear H
 go_enter Try.func18, Try.ntmps18
 go_wp2_with (first | ((with_reducible refine gate_dst (N := 6) rfl ?_); refine Kd.S_lit (Kd.slice 3 (Kd.int .i64)) _ 27 ?hg (N := 6) ?hd (xs := ([] : List (List Int))) (inner := []) (ok := fun _ => True) (okp := fun _ => True) ?hr ?hp (fun _ hk => hk) trivial (Below.refl _ _) (Nat.le_refl _) (by simp) ?_; (case hd => rfl); (case hg => rfl); (case hr => first | (go_simp; done) | (go_simp; rfl)); (case hp => exact (Reps.none _ _)); intro v259 w2 ho3 hb hg_ hnew_; clear hg_ hnew_; (first | rw [← Ny258.out] at ho3 | (simp only [Int.reduceToNat] at ho3; rw [← Ny258.out] at ho3)); have n0_ := zm1 (Kd.S_lower ho3 (zc5 (by repeat (first | (with_reducible first | exact HB.out | apply zc1 | apply zc2 | apply zc3) | exact HB.out)))); have n1_ := zm1 (zc6 (by repeat (first | (with_reducible first | exact HB.out | apply zc1 | apply zc2 | apply zc3) | exact HB.out)) hb); clear HB; have HO260 := n0_; have HB := n1_; clear n0_ n1_; clear hb ho3))
 go_loopg [3, 9] k (fun kq v3 v9 w' => ∃ (x3_1 : List (List Int)) (x9_1 : Int), v9 = .int .i64 x9_1 ∧ Aside0 (impl_copyLists.l0 kq x3_1 l0 (l0.length : Int) x9_1 = some r) ∧ Aside0 (kq ≤ k) ∧ Aside0 (Kd.S (Kd.slice 3 (Kd.int .i64)) 27 w' w.heap.size (fun _ => True) v3 x3_1) ∧ Aside0 (Below w.heap.size w w'))
 case atStart => exact ⟨(y258), (0), (by first | rfl | (simp; done) | (simp [*]; done)), H', ⟨Nat.le_refl _⟩, ⟨by (with_reducible repeat (first | apply Kd.S_alloc | apply Kd.S_drewN | apply Kd.S_drew)); exact HO260.out⟩, ⟨by repeat (first | (with_reducible first | exact HB.out | apply zc1 | apply zc2 | apply zc3) | exact HB.out)⟩⟩
 case round =>
  clear H'
  try clear c1
  try clear p2
  obtain ⟨x3_1, x9_1, rfl, HA, HK1, HO_3, HB⟩ := hrel
  cases gk with
  | zero => exact absurd HA.out (by simp [impl_copyLists.l0])
  | succ k1 =>
   have H := HA.out
   clear HA
   simp only [impl_copyLists.l0] at H
   by_cases c4 : x9_1 < (l0.length : Int)
   ·rw [if_pos c4] at H
    have c4b0 : decide (x9_1 < (l0.length : Int)) = true := decide_eq_true c4
    clear c4
    by_cases c5 : 0 ≤ x9_1
    ·rw [if_pos c5] at H
     have c5b0 : decide (0 ≤ x9_1) = true := decide_eq_true c5
     clear c5
     by_cases c6 : x9_1 < (l0.length : Int)
     ·rw [if_pos c6] at H
      have c6b0 : decide (x9_1 < (l0.length : Int)) = true := decide_eq_true c6
      clear c6
      obtain ⟨y262, hy262⟩ : ∃ y_ : List Int, y_ = (([] : List Int)) := ⟨_, rfl⟩
      replace H : (if y262.length + (rd_L2 l0 x9_1).length < 17592186044416 then (if x3_1.length < 5864062014805 then (impl_copyLists.l0 k1 (x3_1 ++ [(y262 ++ (rd_L2 l0 x9_1))]) l0 (l0.length : Int) (wrap64 (x9_1 + 1))) else (none)) else (none)) = some r := by first | (rw [hy262]; with_reducible exact H) | (have H2_ := (Option.bind_some _ _).symm.trans H; rw [hy262]; with_reducible exact H2_) | (have H2_ := (Option.bind_some _ _).symm.trans H; with_reducible exact H2_) | with_reducible exact H | (rw [hy262]; exact H) | exact H
      have Ny262 := zm1 hy262
      clear hy262
      by_cases c7 : y262.length + (rd_L2 l0 x9_1).length < 17592186044416
      ·rw [if_pos c7] at H
       have LMc7 := zm1 c7
       clear c7
       obtain ⟨y265, hy265⟩ : ∃ y_ : List Int, y_ = (y262 ++ (rd_L2 l0 x9_1)) := ⟨_, rfl⟩
       replace H : (if x3_1.length < 5864062014805 then (impl_copyLists.l0 k1 (x3_1 ++ [y265]) l0 (l0.length : Int) (wrap64 (x9_1 + 1))) else (none)) = some r := by first | (rw [hy265]; with_reducible exact H) | (have H2_ := (Option.bind_some _ _).symm.trans H; rw [hy265]; with_reducible exact H2_) | (have H2_ := (Option.bind_some _ _).symm.trans H; with_reducible exact H2_) | with_reducible exact H | (rw [hy265]; exact H) | exact H
       have Ny265 := zm1 hy265
       clear hy265
       by_cases c8 : x3_1.length < 5864062014805
       ·rw [if_pos c8] at H
        have LMc8 := zm1 c8
        clear c8
        obtain ⟨y268, hy268⟩ : ∃ y_ : List (List Int), y_ = (x3_1 ++ [y265]) := ⟨_, rfl⟩
        replace H : (impl_copyLists.l0 k1 y268 l0 (l0.length : Int) (wrap64 (x9_1 + 1))) = some r := by first | (rw [hy268]; with_reducible exact H) | (have H2_ := (Option.bind_some _ _).symm.trans H; rw [hy268]; with_reducible exact H2_) | (have H2_ := (Option.bind_some _ _).symm.trans H; with_reducible exact H2_) | with_reducible exact H | (rw [hy268]; exact H) | exact H
        have Ny268 := zm1 hy268
        clear hy268
        have H' := zm1 H
        clear H
        have p261 : 0 ≤ (x9_1 : Int) := of_decide_eq_true (by assumption)
        have q261 : x9_1 < (l0.length : Int) := of_decide_eq_true (by assumption)
        obtain ⟨ad261, A261_0, c261_0, e261, hx261_0, hl261_0, hi261_0⟩ := at_L2 HR0.out x9_1 p261 q261
        cases e261
        (try replace hx261_0 := (HB.out.cell (zl hx261_0)).trans hx261_0)
        have HR261_0 := zm1 hi261_0
        have HC261_0 := zm1 hl261_0
        clear hi261_0 hl261_0
        replace p261 := eq_true p261
        replace q261 := eq_true q261
        go_wp2_with (first | ((with_reducible refine gate_dst (N := 14) rfl ?_); refine Kd.R_lit (Kd.int .i64) _ 3 ?hg (N := 14) ?hd (xs := ([] : List Int)) (inner := []) (ok := fun _ => True) (okp := fun _ => True) ?hr ?hp (fun _ hk => hk) trivial (Below.refl _ _) (Nat.le_refl _) (by simp) ?_; (case hd => rfl); (case hg => rfl); (case hr => first | (go_simp; done) | (go_simp; rfl)); (case hp => exact (Reps.none _ _)); intro v263 w9 ho10 hb hg_ hnew_; clear hg_ hnew_; (first | rw [← Ny262.out] at ho10 | (simp only [Int.reduceToNat] at ho10; rw [← Ny262.out] at ho10)); have n0_ := zm1 (Kd.S_elder' (by (with_reducible repeat (first | apply Kd.S_alloc | apply Kd.S_drewN | apply Kd.S_drew)); exact HO_3.out) (Kd.R_base ho10) hb); have n1_ := zm1 (Kd.R_lower ho10 (zc5 (by repeat (first | (with_reducible first | exact HB.out | apply zc1 | apply zc2 | apply zc3) | exact HB.out)))); have n2_ := zm1 (zc6 (by repeat (first | (with_reducible first | exact HB.out | apply zc1 | apply zc2 | apply zc3) | exact HB.out)) hb); clear HO_3; clear HB; have HO_3 := n0_; have HO264 := n1_; have HB := n2_; clear n0_ n1_ n2_; clear hb ho10) | ((with_reducible refine gate_builtin (b := .append) (xs := #[.tmp 14, .tmp 15]) rfl ?_); at_builtin; refine Kd.R_append_rows (Kd.int .i64) (w0 := w) w.heap.size rfl (.tmp 14) (.tmp 15) 27 3 (.int .i64 0) 8 rfl Try.underlying27 info3 rfl (by decide) (by omega) v263 y262 (rd_L2 l0 x9_1) _ _ _ (fun _ => True) (fun _ => False) rfl rfl ?aO ?aR (fun _ _ h => h) (fun _ h => h.elim) ?aF ?aB ?aS ?aL ?_; (case aR => repeat (first | exact (Kd.C_below HR261_0.out HB.out) | (with_reducible refine Kd.C_alloc ?_ _) | (with_reducible refine Kd.C_drewN ?_ _) | (with_reducible refine Kd.C_drew ?_))); (case aB => exact (by repeat (first | (with_reducible first | exact HB.out | apply zc1 | apply zc2 | apply zc3) | exact HB.out))); (case aF => exact (fun _ _ => trivial)); (case aO => exact (by (with_reducible repeat (first | apply zr1 | apply zr2 | apply zr3)); exact HO264.out)); (case aS => exact (zc5 (by repeat (first | (with_reducible first | exact HB.out | apply zc1 | apply zc2 | apply zc3) | exact HB.out)))); (case aL => have := LMc7.out; omega); intro v266 w11 ho hb hg hat; rw [← Ny265.out] at ho; have n0_ := zm1 (Kd.S_after (ok := (fun _ => True)) (by (with_reducible repeat (first | apply Kd.S_alloc | apply Kd.S_drewN | apply Kd.S_drew)); exact HO_3.out) hg hat); have n1_ := zm1 (hb); have n2_ := zm1 (ho); clear HO_3; clear HB; clear HO264; have HO_3 := n0_; have HB := n1_; have HO267 := n2_; clear n0_ n1_ n2_; clear ho hb hg hat; obtain ⟨Ao13, co13, eo13⟩ := Kd.R_slice HO267.out; subst eo13) | ((with_reducible refine gate_builtin (b := .append) (xs := #[.tmp 13, .tmp 17]) rfl ?_); at_builtin; refine Kd.S_append (Kd.slice 3 (Kd.int .i64)) (w0 := w) w.heap.size rfl (.tmp 13) (.tmp 17) 23 27 (.slice none 0 0) 24 rfl Try.underlying23 info27 rfl (by decide) (by omega) u3 x3_1 y265 [.slice Ao13 y265.length co13] (fun _ => True) (fun k_ => some k_ = (.slice Ao13 y265.length co13 : Value).ownBlock) rfl rfl ?aP (fun k_ hk_ => ((Kd.R_mono (ok' := fun k_ => ((fun _ => True)) k_ ∧ some k_ ≠ (u3 : Value).ownBlock) (Kd.R_apart' (HO267.out) (Kd.S_typed HO_3.out) (by decide)) (fun k_ hk => ⟨trivial, hk.2⟩))).1 k_ hk_.symm) ?aF ?aO ?aB ?aS ?aL ?_; (case aP => exact Kd.M_row (Kd.R_mono (Kd.R_tight rfl (Kd.R_mono (ok' := fun k_ => ((fun _ => True)) k_ ∧ some k_ ≠ (u3 : Value).ownBlock) (Kd.R_apart' (HO267.out) (Kd.S_typed HO_3.out) (by decide)) (fun k_ hk => ⟨trivial, hk.2⟩))) (fun _ h_ => h_))); (case aB => exact (by repeat (first | (with_reducible first | exact HB.out | apply zc1 | apply zc2 | apply zc3) | exact HB.out))); (case aF => exact (fun _ _ => trivial)); (case aO => exact (by (with_reducible repeat (first | apply Kd.S_alloc | apply Kd.S_drewN | apply Kd.S_drew)); exact Kd.S_mono HO_3.out (fun k_ hk => ⟨trivial, fun e_ => hk.2 e_⟩))); (case aS => exact (zc5 (by repeat (first | (with_reducible first | exact HB.out | apply zc1 | apply zc2 | apply zc3) | exact HB.out)))); (case aL => have := LMc8.out; omega); intro v269 w12 ho hb hg hat; rw [← Ny268.out] at ho; have n0_ := zm1 (hb); have n1_ := zm1 (ho); clear HB; clear HO_3; clear HO267; have HB := n0_; have HO270 := n1_; clear n0_ n1_; clear ho hb hg hat))
        go_roundg k1
        case measure => have := HK1.out; omega
        case rel => exact ⟨(y268), (wrap64 (x9_1 + 1)), (by first | rfl | (simp; done) | (simp [*]; done)), H', ⟨by have := HK1.out; omega⟩, ⟨by (with_reducible repeat (first | apply Kd.S_alloc | apply Kd.S_drewN | apply Kd.S_drew)); exact HO270.out⟩, ⟨by repeat (first | (with_reducible first | exact HB.out | apply zc1 | apply zc2 | apply zc3) | exact HB.out)⟩⟩
       ·rw [if_neg c8] at H
        exact absurd H (by simp)
      ·rw [if_neg c7] at H
       exact absurd H (by simp)
     ·rw [if_neg c6] at H
      exact absurd H (by simp)
    ·rw [if_neg c5] at H
     exact absurd H (by simp)
   ·rw [if_neg c4] at H
    have c4b0 : decide (x9_1 < (l0.length : Int)) = false := decide_eq_false c4
    clear c4
    obtain rfl := Option.some.inj H
    go_wp2
    go_ret
    exact ⟨_, by first | rfl | (simp [errW_none, errW_some] <;> rfl) | (simp [*, errW_none, errW_some] <;> rfl), by (with_reducible repeat (first | apply Kd.S_alloc | apply Kd.S_drewN | apply Kd.S_drew)); exact HO_3.out, by repeat (first | (with_reducible first | exact HB.out | apply zc1 | apply zc2 | apply zc3) | exact HB.out)⟩

/-! ### impl_AddEntry: function 12 -/
def impl_AddEntry.f (k : Nat) (l0 : List (List Int)) (l1 : List Int) : Option ((List (List Int)) × Bool) := (impl_copyLists.f k l0).bind fun t271 => ((some (([] : List Int) : List Int)).bind fun y274 => (if y274.length + l1.length < 17592186044416 then (if t271.length < 5864062014805 then ((some (t271 ++ [(y274 ++ l1)] : List (List Int))).bind fun y280 => ((impl_LedgerOk.f k y280).bind fun t283 => (if t283 = true then (some (y280, true)) else (some (([] : List (List Int)), false))))) else (none)) else (none)))
theorem impl_AddEntry.mono : ∀ a0 a1 k, LeO (impl_AddEntry.f k a0 a1) (impl_AddEntry.f (k + 1) a0 a1) := by
 intro a0 a1 k
 unfold impl_AddEntry.f
 repeat' first
   | (with_reducible exact impl_LedgerOk.mono _ _)
   | (with_reducible exact impl_copyLists.mono _ _)
   | (with_reducible exact LeO.refl _)
   | (with_reducible exact LeO.none _)
   | (with_reducible refine LeO.ite ?_ ?_)
   | (with_reducible refine LeO.bind ?_ (fun _ => ?_))
   | exact impl_LedgerOk.mono _ _
   | exact impl_copyLists.mono _ _
   | exact LeO.none _
   | refine LeO.ite ?_ ?_
   | refine LeO.bind ?_ (fun _ => ?_)
set_option maxHeartbeats 8000000 in
set_option maxRecDepth 100000 in
theorem impl_AddEntry.calls (k : Nat) (A0 : Option Addr) (c0 : Nat) (l0 : List (List Int)) (A1 : Option Addr) (c1 : Nat) (l1 : List Int) (r1 : List (List Int)) (r2 : Bool) (w : World) (hr0 : Kd.C (Kd.slice 3 (Kd.int .i64)) w A0 l0.length l0) (hc0 : l0.length ≤ c0) (hr1 : Kd.C (Kd.int .i64) w A1 l1.length l1) (hc1 : l1.length ≤ c1) (h : impl_AddEntry.f k l0 l1 = some (r1, r2)) :
  Calls Try.prog 12 #[.slice A0 l0.length c0, .slice A1 l1.length c1] w fun e w' => ∃ v0_ : Value, e = .returned (.tuple #[v0_, .bool r2]) ∧ Kd.S (Kd.slice 3 (Kd.int .i64)) 27 w' w.heap.size (fun _ => True) v0_ r1 ∧ Below w.heap.size w w' := by
 have HR0 := zm1 hr0
 have HC0 := zm1 hc0
 clear hr0 hc0
 have HR1 := zm1 hr1
 have HC1 := zm1 hc1
 clear hr1 hc1
 have HB := zm1 (Below.refl w.heap.size w)
 have H : ((impl_copyLists.f k l0).bind fun t271 => ((some (([] : List Int) : List Int)).bind fun y274 => (if y274.length + l1.length < 17592186044416 then (if t271.length < 5864062014805 then ((some (t271 ++ [(y274 ++ l1)] : List (List Int))).bind fun y280 => ((impl_LedgerOk.f k y280).bind fun t283 => (if t283 = true then (some (y280, true)) else (some (([] : List (List Int)), false))))) else (none)) else (none)))) = some (r1, r2) := h
 clear h
 replace H := Option.bind_eq_some_iff.mp H
 obtain ⟨t271, A30, H⟩ := H
 replace H : ((some (([] : List Int) : List Int)).bind fun y274 => (if y274.length + l1.length < 17592186044416 then (if t271.length < 5864062014805 then ((some (t271 ++ [(y274 ++ l1)] : List (List Int))).bind fun y280 => ((impl_LedgerOk.f k y280).bind fun t283 => (if t283 = true then (some (y280, true)) else (some (([] : List (List Int)), false))))) else (none)) else (none))) = some (r1, r2) := H
 have A3 := zm1 A30
 clear A30
 obtain ⟨y274, hy274⟩ : ∃ y_ : List Int, y_ = (([] : List Int)) := ⟨_, rfl⟩
 replace H : (if y274.length + l1.length < 17592186044416 then (if t271.length < 5864062014805 then ((some (t271 ++ [(y274 ++ l1)] : List (List Int))).bind fun y280 => ((impl_LedgerOk.f k y280).bind fun t283 => (if t283 = true then (some (y280, true)) else (some (([] : List (List Int)), false))))) else (none)) else (none)) = some (r1, r2) := by first | (rw [hy274]; with_reducible exact H) | (have H2_ := (Option.bind_some _ _).symm.trans H; rw [hy274]; with_reducible exact H2_) | (have H2_ := (Option.bind_some _ _).symm.trans H; with_reducible exact H2_) | with_reducible exact H | (rw [hy274]; exact H) | exact H
 have Ny274 := zm1 hy274
 clear hy274
 by_cases c4 : y274.length + l1.length < 17592186044416
 ·rw [if_pos c4] at H
  have LMc4 := zm1 c4
  clear c4
  obtain ⟨y277, hy277⟩ : ∃ y_ : List Int, y_ = (y274 ++ l1) := ⟨_, rfl⟩
  replace H : (if t271.length < 5864062014805 then ((some (t271 ++ [y277] : List (List Int))).bind fun y280 => ((impl_LedgerOk.f k y280).bind fun t283 => (if t283 = true then (some (y280, true)) else (some (([] : List (List Int)), false))))) else (none)) = some (r1, r2) := by first | (rw [hy277]; with_reducible exact H) | (have H2_ := (Option.bind_some _ _).symm.trans H; rw [hy277]; with_reducible exact H2_) | (have H2_ := (Option.bind_some _ _).symm.trans H; with_reducible exact H2_) | with_reducible exact H | (rw [hy277]; exact H) | exact H
  have Ny277 := zm1 hy277
  clear hy277
  by_cases c5 : t271.length < 5864062014805
  ·rw [if_pos c5] at H
   have LMc5 := zm1 c5
   clear c5
   obtain ⟨y280, hy280⟩ : ∃ y_ : List (List Int), y_ = (t271 ++ [y277]) := ⟨_, rfl⟩
   replace H : ((impl_LedgerOk.f k y280).bind fun t283 => (if t283 = true then (some (y280, true)) else (some (([] : List (List Int)), false)))) = some (r1, r2) := by first | (rw [hy280]; with_reducible exact H) | (have H2_ := (Option.bind_some _ _).symm.trans H; rw [hy280]; with_reducible exact H2_) | (have H2_ := (Option.bind_some _ _).symm.trans H; with_reducible exact H2_) | with_reducible exact H | (rw [hy280]; exact H) | exact H
   have Ny280 := zm1 hy280
   clear hy280
   replace H := Option.bind_eq_some_iff.mp H
   obtain ⟨t283, A60, H⟩ := H
   replace H : (if t283 = true then (some (y280, true)) else (some (([] : List (List Int)), false))) = some (r1, r2) := H
   have A6 := zm1 A60
   clear A60
   by_cases c7 : t283 = true
   ·subst c7
    have H1 : (some (y280, true)) = some (r1, r2) := by rw [if_pos rfl] at H; exact H
    clear H
    have H := H1
    clear H1
    simp only [Option.some.injEq, Prod.mk.injEq] at H
    obtain ⟨rfl, rfl⟩ := H
    go_enter Try.func12, Try.ntmps12
    go_wp2_with (first | ((with_reducible refine gate_callee (f := 18) rfl ?_); refine goesL_ (some 8) rfl rfl Try.func18 (by kernel_rfl) rfl #[.slice A0 l0.length c0] rfl (by (try simp only [List.map_toArray, List.map_cons, List.map_nil]); first | done | rfl | (simp only [List.length_drop, List.length_take]; rfl)) ?_; (with_reducible refine (impl_copyLists.calls k _ _ l0 t271 _ ?side1 ?side2 A3.out).mono ?_); (case side1 => repeat (first | exact HR0.out | (with_reducible refine Kd.C_alloc ?_ _) | (with_reducible refine Kd.C_drewN ?_ _) | (with_reducible refine Kd.C_drew ?_))); (case side2 => exact HC0.out); rintro e w8 ⟨v272, rfl, ho0, hb⟩; refine ⟨_, rfl, ?_⟩; have n0_ := zm1 (Kd.S_lower ho0 (zc5 (by repeat (first | (with_reducible first | exact HB.out | apply zc1 | apply zc2 | apply zc3) | exact HB.out)))); have n1_ := zm1 (zc6 (by repeat (first | (with_reducible first | exact HB.out | apply zc1 | apply zc2 | apply zc3) | exact HB.out)) hb); clear HB; have HO273 := n0_; have HB := n1_; clear n0_ n1_; (try clear hb); (try clear hb2); (try clear hk); (try clear hi); (try clear ho0)) | ((with_reducible refine gate_dst (N := 9) rfl ?_); refine Kd.R_lit (Kd.int .i64) _ 3 ?hg (N := 9) ?hd (xs := ([] : List Int)) (inner := []) (ok := fun _ => True) (okp := fun _ => True) ?hr ?hp (fun _ hk => hk) trivial (Below.refl _ _) (Nat.le_refl _) (by simp) ?_; (case hd => rfl); (case hg => rfl); (case hr => first | (go_simp; done) | (go_simp; rfl)); (case hp => exact (Reps.none _ _)); intro v275 w9 ho10 hb hg_ hnew_; clear hg_ hnew_; (first | rw [← Ny274.out] at ho10 | (simp only [Int.reduceToNat] at ho10; rw [← Ny274.out] at ho10)); have n0_ := zm1 (Kd.S_elder' (by (with_reducible repeat (first | apply Kd.S_alloc | apply Kd.S_drewN | apply Kd.S_drew)); exact HO273.out) (Kd.R_base ho10) hb); have n1_ := zm1 (Kd.R_lower ho10 (zc5 (by repeat (first | (with_reducible first | exact HB.out | apply zc1 | apply zc2 | apply zc3) | exact HB.out)))); have n2_ := zm1 (zc6 (by repeat (first | (with_reducible first | exact HB.out | apply zc1 | apply zc2 | apply zc3) | exact HB.out)) hb); clear HO273; clear HB; have HO273 := n0_; have HO276 := n1_; have HB := n2_; clear n0_ n1_ n2_; clear hb ho10) | ((with_reducible refine gate_builtin (b := .append) (xs := #[.tmp 9, .tmp 10]) rfl ?_); at_builtin; refine Kd.R_append_rows (Kd.int .i64) (w0 := w) w.heap.size rfl (.tmp 9) (.tmp 10) 27 3 (.int .i64 0) 8 rfl Try.underlying27 info3 rfl (by decide) (by omega) v275 y274 l1 _ _ _ (fun _ => True) (fun _ => False) rfl rfl ?aO ?aR (fun _ _ h => h) (fun _ h => h.elim) ?aF ?aB ?aS ?aL ?_; (case aR => repeat (first | exact (Kd.C_below HR1.out HB.out) | (with_reducible refine Kd.C_alloc ?_ _) | (with_reducible refine Kd.C_drewN ?_ _) | (with_reducible refine Kd.C_drew ?_))); (case aB => exact (by repeat (first | (with_reducible first | exact HB.out | apply zc1 | apply zc2 | apply zc3) | exact HB.out))); (case aF => exact (fun _ _ => trivial)); (case aO => exact (by (with_reducible repeat (first | apply zr1 | apply zr2 | apply zr3)); exact HO276.out)); (case aS => exact (zc5 (by repeat (first | (with_reducible first | exact HB.out | apply zc1 | apply zc2 | apply zc3) | exact HB.out)))); (case aL => have := LMc4.out; omega); intro v278 w11 ho hb hg hat; rw [← Ny277.out] at ho; have n0_ := zm1 (Kd.S_after (ok := (fun _ => True)) (by (with_reducible repeat (first | apply Kd.S_alloc | apply Kd.S_drewN | apply Kd.S_drew)); exact HO273.out) hg hat); have n1_ := zm1 (hb); have n2_ := zm1 (ho); clear HO273; clear HB; clear HO276; have HO273 := n0_; have HB := n1_; have HO279 := n2_; clear n0_ n1_ n2_; clear ho hb hg hat; obtain ⟨Ao13, co13, eo13⟩ := Kd.R_slice HO279.out; subst eo13) | ((with_reducible refine gate_builtin (b := .append) (xs := #[.tmp 8, .tmp 12]) rfl ?_); at_builtin; refine Kd.S_append (Kd.slice 3 (Kd.int .i64)) (w0 := w) w.heap.size rfl (.tmp 8) (.tmp 12) 23 27 (.slice none 0 0) 24 rfl Try.underlying23 info27 rfl (by decide) (by omega) v272 t271 y277 [.slice Ao13 y277.length co13] (fun _ => True) (fun k_ => some k_ = (.slice Ao13 y277.length co13 : Value).ownBlock) rfl rfl ?aP (fun k_ hk_ => ((Kd.R_mono (ok' := fun k_ => ((fun _ => True)) k_ ∧ some k_ ≠ (v272 : Value).ownBlock) (Kd.R_apart' (HO279.out) (Kd.S_typed HO273.out) (by decide)) (fun k_ hk => ⟨trivial, hk.2⟩))).1 k_ hk_.symm) ?aF ?aO ?aB ?aS ?aL ?_; (case aP => exact Kd.M_row (Kd.R_mono (Kd.R_tight rfl (Kd.R_mono (ok' := fun k_ => ((fun _ => True)) k_ ∧ some k_ ≠ (v272 : Value).ownBlock) (Kd.R_apart' (HO279.out) (Kd.S_typed HO273.out) (by decide)) (fun k_ hk => ⟨trivial, hk.2⟩))) (fun _ h_ => h_))); (case aB => exact (by repeat (first | (with_reducible first | exact HB.out | apply zc1 | apply zc2 | apply zc3) | exact HB.out))); (case aF => exact (fun _ _ => trivial)); (case aO => exact (by (with_reducible repeat (first | apply Kd.S_alloc | apply Kd.S_drewN | apply Kd.S_drew)); exact Kd.S_mono HO273.out (fun k_ hk => ⟨trivial, fun e_ => hk.2 e_⟩))); (case aS => exact (zc5 (by repeat (first | (with_reducible first | exact HB.out | apply zc1 | apply zc2 | apply zc3) | exact HB.out)))); (case aL => have := LMc5.out; omega); intro v281 w12 ho hb hg hat; rw [← Ny280.out] at ho; have n0_ := zm1 (hb); have n1_ := zm1 (ho); clear HB; clear HO273; clear HO279; have HB := n0_; have HO282 := n1_; clear n0_ n1_; clear ho hb hg hat; obtain ⟨Ao14, co14, eo14⟩ := Kd.S_slice HO282.out; subst eo14) | ((with_reducible refine gate_callee (f := 7) rfl ?_); refine goesL_ (some 15) rfl rfl Try.func7 (by kernel_rfl) rfl #[.slice Ao14 y280.length co14] rfl (by (try simp only [List.map_toArray, List.map_cons, List.map_nil]); first | done | rfl | (simp only [List.length_drop, List.length_take]; rfl)) ?_; (with_reducible refine (impl_LedgerOk.calls k _ _ y280 true _ ?side1 ?side2 A6.out).mono ?_); (case side1 => repeat (first | exact (Kd.S_reads' HO282.out).2.2 | (with_reducible refine Kd.C_alloc ?_ _) | (with_reducible refine Kd.C_drewN ?_ _) | (with_reducible refine Kd.C_drew ?_))); (case side2 => exact (Kd.S_reads' HO282.out).2.1); rintro e w15 ⟨rfl, hb⟩; refine ⟨_, rfl, ?_⟩; have n0_ := zm1 (Kd.S_below (by (with_reducible repeat (first | apply Kd.S_alloc | apply Kd.S_drewN | apply Kd.S_drew)); exact HO282.out) hb); have n1_ := zm1 (zc6 (by repeat (first | (with_reducible first | exact HB.out | apply zc1 | apply zc2 | apply zc3) | exact HB.out)) hb); clear HO282; clear HB; have HO282 := n0_; have HB := n1_; clear n0_ n1_; (try clear hb); (try clear hb2); (try clear hk); (try clear hi)))
    go_ret2
    exact ⟨_, by first | rfl | (simp [errW_none, errW_some] <;> rfl) | (simp [*, errW_none, errW_some] <;> rfl), by (with_reducible repeat (first | apply Kd.S_alloc | apply Kd.S_drewN | apply Kd.S_drew)); exact HO282.out, by repeat (first | (with_reducible first | exact HB.out | apply zc1 | apply zc2 | apply zc3) | exact HB.out)⟩
   ·replace c7 := Bool.eq_false_iff.mpr c7
    subst c7
    have H1 : (some (([] : List (List Int)), false)) = some (r1, r2) := by rw [if_neg (show ¬ (false = true) by decide)] at H; exact H
    clear H
    have H := H1
    clear H1
    simp only [Option.some.injEq, Prod.mk.injEq] at H
    obtain ⟨rfl, rfl⟩ := H
    go_enter Try.func12, Try.ntmps12
    go_wp2_with (first | ((with_reducible refine gate_callee (f := 18) rfl ?_); refine goesL_ (some 8) rfl rfl Try.func18 (by kernel_rfl) rfl #[.slice A0 l0.length c0] rfl (by (try simp only [List.map_toArray, List.map_cons, List.map_nil]); first | done | rfl | (simp only [List.length_drop, List.length_take]; rfl)) ?_; (with_reducible refine (impl_copyLists.calls k _ _ l0 t271 _ ?side1 ?side2 A3.out).mono ?_); (case side1 => repeat (first | exact HR0.out | (with_reducible refine Kd.C_alloc ?_ _) | (with_reducible refine Kd.C_drewN ?_ _) | (with_reducible refine Kd.C_drew ?_))); (case side2 => exact HC0.out); rintro e w16 ⟨v272, rfl, ho0, hb⟩; refine ⟨_, rfl, ?_⟩; have n0_ := zm1 (Kd.S_lower ho0 (zc5 (by repeat (first | (with_reducible first | exact HB.out | apply zc1 | apply zc2 | apply zc3) | exact HB.out)))); have n1_ := zm1 (zc6 (by repeat (first | (with_reducible first | exact HB.out | apply zc1 | apply zc2 | apply zc3) | exact HB.out)) hb); clear HB; have HO273 := n0_; have HB := n1_; clear n0_ n1_; (try clear hb); (try clear hb2); (try clear hk); (try clear hi); (try clear ho0)) | ((with_reducible refine gate_dst (N := 9) rfl ?_); refine Kd.R_lit (Kd.int .i64) _ 3 ?hg (N := 9) ?hd (xs := ([] : List Int)) (inner := []) (ok := fun _ => True) (okp := fun _ => True) ?hr ?hp (fun _ hk => hk) trivial (Below.refl _ _) (Nat.le_refl _) (by simp) ?_; (case hd => rfl); (case hg => rfl); (case hr => first | (go_simp; done) | (go_simp; rfl)); (case hp => exact (Reps.none _ _)); intro v275 w17 ho18 hb hg_ hnew_; clear hg_ hnew_; (first | rw [← Ny274.out] at ho18 | (simp only [Int.reduceToNat] at ho18; rw [← Ny274.out] at ho18)); have n0_ := zm1 (Kd.S_elder' (by (with_reducible repeat (first | apply Kd.S_alloc | apply Kd.S_drewN | apply Kd.S_drew)); exact HO273.out) (Kd.R_base ho18) hb); have n1_ := zm1 (Kd.R_lower ho18 (zc5 (by repeat (first | (with_reducible first | exact HB.out | apply zc1 | apply zc2 | apply zc3) | exact HB.out)))); have n2_ := zm1 (zc6 (by repeat (first | (with_reducible first | exact HB.out | apply zc1 | apply zc2 | apply zc3) | exact HB.out)) hb); clear HO273; clear HB; have HO273 := n0_; have HO276 := n1_; have HB := n2_; clear n0_ n1_ n2_; clear hb ho18) | ((with_reducible refine gate_builtin (b := .append) (xs := #[.tmp 9, .tmp 10]) rfl ?_); at_builtin; refine Kd.R_append_rows (Kd.int .i64) (w0 := w) w.heap.size rfl (.tmp 9) (.tmp 10) 27 3 (.int .i64 0) 8 rfl Try.underlying27 info3 rfl (by decide) (by omega) v275 y274 l1 _ _ _ (fun _ => True) (fun _ => False) rfl rfl ?aO ?aR (fun _ _ h => h) (fun _ h => h.elim) ?aF ?aB ?aS ?aL ?_; (case aR => repeat (first | exact (Kd.C_below HR1.out HB.out) | (with_reducible refine Kd.C_alloc ?_ _) | (with_reducible refine Kd.C_drewN ?_ _) | (with_reducible refine Kd.C_drew ?_))); (case aB => exact (by repeat (first | (with_reducible first | exact HB.out | apply zc1 | apply zc2 | apply zc3) | exact HB.out))); (case aF => exact (fun _ _ => trivial)); (case aO => exact (by (with_reducible repeat (first | apply zr1 | apply zr2 | apply zr3)); exact HO276.out)); (case aS => exact (zc5 (by repeat (first | (with_reducible first | exact HB.out | apply zc1 | apply zc2 | apply zc3) | exact HB.out)))); (case aL => have := LMc4.out; omega); intro v278 w19 ho hb hg hat; rw [← Ny277.out] at ho; have n0_ := zm1 (Kd.S_after (ok := (fun _ => True)) (by (with_reducible repeat (first | apply Kd.S_alloc | apply Kd.S_drewN | apply Kd.S_drew)); exact HO273.out) hg hat); have n1_ := zm1 (hb); have n2_ := zm1 (ho); clear HO273; clear HB; clear HO276; have HO273 := n0_; have HB := n1_; have HO279 := n2_; clear n0_ n1_ n2_; clear ho hb hg hat; obtain ⟨Ao21, co21, eo21⟩ := Kd.R_slice HO279.out; subst eo21) | ((with_reducible refine gate_builtin (b := .append) (xs := #[.tmp 8, .tmp 12]) rfl ?_); at_builtin; refine Kd.S_append (Kd.slice 3 (Kd.int .i64)) (w0 := w) w.heap.size rfl (.tmp 8) (.tmp 12) 23 27 (.slice none 0 0) 24 rfl Try.underlying23 info27 rfl (by decide) (by omega) v272 t271 y277 [.slice Ao21 y277.length co21] (fun _ => True) (fun k_ => some k_ = (.slice Ao21 y277.length co21 : Value).ownBlock) rfl rfl ?aP (fun k_ hk_ => ((Kd.R_mono (ok' := fun k_ => ((fun _ => True)) k_ ∧ some k_ ≠ (v272 : Value).ownBlock) (Kd.R_apart' (HO279.out) (Kd.S_typed HO273.out) (by decide)) (fun k_ hk => ⟨trivial, hk.2⟩))).1 k_ hk_.symm) ?aF ?aO ?aB ?aS ?aL ?_; (case aP => exact Kd.M_row (Kd.R_mono (Kd.R_tight rfl (Kd.R_mono (ok' := fun k_ => ((fun _ => True)) k_ ∧ some k_ ≠ (v272 : Value).ownBlock) (Kd.R_apart' (HO279.out) (Kd.S_typed HO273.out) (by decide)) (fun k_ hk => ⟨trivial, hk.2⟩))) (fun _ h_ => h_))); (case aB => exact (by repeat (first | (with_reducible first | exact HB.out | apply zc1 | apply zc2 | apply zc3) | exact HB.out))); (case aF => exact (fun _ _ => trivial)); (case aO => exact (by (with_reducible repeat (first | apply Kd.S_alloc | apply Kd.S_drewN | apply Kd.S_drew)); exact Kd.S_mono HO273.out (fun k_ hk => ⟨trivial, fun e_ => hk.2 e_⟩))); (case aS => exact (zc5 (by repeat (first | (with_reducible first | exact HB.out | apply zc1 | apply zc2 | apply zc3) | exact HB.out)))); (case aL => have := LMc5.out; omega); intro v281 w20 ho hb hg hat; rw [← Ny280.out] at ho; have n0_ := zm1 (hb); have n1_ := zm1 (ho); clear HB; clear HO273; clear HO279; have HB := n0_; have HO282 := n1_; clear n0_ n1_; clear ho hb hg hat; obtain ⟨Ao22, co22, eo22⟩ := Kd.S_slice HO282.out; subst eo22) | ((with_reducible refine gate_callee (f := 7) rfl ?_); refine goesL_ (some 15) rfl rfl Try.func7 (by kernel_rfl) rfl #[.slice Ao22 y280.length co22] rfl (by (try simp only [List.map_toArray, List.map_cons, List.map_nil]); first | done | rfl | (simp only [List.length_drop, List.length_take]; rfl)) ?_; (with_reducible refine (impl_LedgerOk.calls k _ _ y280 false _ ?side1 ?side2 A6.out).mono ?_); (case side1 => repeat (first | exact (Kd.S_reads' HO282.out).2.2 | (with_reducible refine Kd.C_alloc ?_ _) | (with_reducible refine Kd.C_drewN ?_ _) | (with_reducible refine Kd.C_drew ?_))); (case side2 => exact (Kd.S_reads' HO282.out).2.1); rintro e w23 ⟨rfl, hb⟩; refine ⟨_, rfl, ?_⟩; have n0_ := zm1 (Kd.S_below (by (with_reducible repeat (first | apply Kd.S_alloc | apply Kd.S_drewN | apply Kd.S_drew)); exact HO282.out) hb); have n1_ := zm1 (zc6 (by repeat (first | (with_reducible first | exact HB.out | apply zc1 | apply zc2 | apply zc3) | exact HB.out)) hb); clear HO282; clear HB; have HO282 := n0_; have HB := n1_; clear n0_ n1_; (try clear hb); (try clear hb2); (try clear hk); (try clear hi)))
    go_ret2
    exact ⟨_, by first | rfl | (simp [errW_none, errW_some] <;> rfl) | (simp [*, errW_none, errW_some] <;> rfl), by first | exact Kd.S_nil _ _ _ _ _ | exact Kd.N_nil _ _ _ _ _ | exact Kd.V_nil _ _ _ _ _ | exact Kd.Q_nil _ _ _ _ _ | exact Kd.R_nil _ _ _ _ _, by repeat (first | (with_reducible first | exact HB.out | apply zc1 | apply zc2 | apply zc3) | exact HB.out)⟩
  ·rw [if_neg c5] at H
   exact absurd H (by simp)
 ·rw [if_neg c4] at H
  exact absurd H (by simp)

end Go.Proofs.Ytpmpcaahbhdiiaa.QFnLedger
