-- Printed for this claim by a changed copy of the kit's print (the session's own; own contracts in place of some functions).
import Derived.Test.YtelhjgkjnlcomaaDoorQFnExactMeasureLinex0
import Derived.Test.YtelhjgkjnlcomaaDoorQFnExactMeasureLinex6
namespace Go.Proofs.YtelhjgkjnlcomaaDoor.QFnExactMeasureLine
open Go.RowKit Go.Proofs.YtelhjgkjnlcomaaDoorW.PrintWords Go.Proofs.YtelhjgkjnlcomaaDoorW.PrintLast Go.Proofs.YtelhjgkjnlcomaaDoorW.PrintMore
attribute [local go_sem] max2_int min2_int max_two min_two max_three min_three max_four min_four   -- for this text's walks alone
set_option linter.unusedVariables false
set_option linter.unusedSimpArgs false

/-! ### spec_l07All: function 42 -/
--import Derived.WalkSpells
--import Derived.Deep.QuietTactic
--import Derived.Deep.CutBlock
--import Derived.BigQuiet
--import Derived.Deep.RegionHeld3
def spec_l07All.ltR (m a : List Int) : Bool := decide (rd a 1 < rd m 1) || (decide (rd a 1 = rd m 1) && decide (rd a 0 < rd m 0))
def spec_l07All.cnt (l : List (List Int)) (m : List Int) : Nat := (l.takeWhile (spec_l07All.ltR m)).length
def spec_l07All.hit (l : List (List Int)) (m : List Int) : Bool := decide (spec_l07All.cnt l m < l.length) && (decide (rd (l.getD (spec_l07All.cnt l m) []) 0 = rd m 0) && decide (rd (l.getD (spec_l07All.cnt l m) []) 1 = rd m 1))
def spec_l07All.num (l : List (List Int)) (m : List Int) : Int := if spec_l07All.hit l m = true then wrap64 (rd m 2 + rd (l.getD (spec_l07All.cnt l m) []) 2) else rd m 2
def spec_l07All.skip (l : List (List Int)) (m : List Int) : Nat := if spec_l07All.hit l m = true then spec_l07All.cnt l m + 1 else spec_l07All.cnt l m
def spec_l07All.put (l : List (List Int)) (m : List Int) : List (List Int) := if spec_l07All.num l m = 0 then l.take (spec_l07All.cnt l m) ++ l.drop (spec_l07All.skip l m) else (l.take (spec_l07All.cnt l m) ++ [[rd m 0, rd m 1, spec_l07All.num l m]]) ++ l.drop (spec_l07All.skip l m)
theorem spec_l07All.cnt_le (l : List (List Int)) (m : List Int) : spec_l07All.cnt l m ≤ l.length := List.IsPrefix.length_le (List.takeWhile_prefix _)
theorem spec_l07All.put_len (l : List (List Int)) (m : List Int) : (spec_l07All.put l m).length ≤ l.length + 1 := by
 have h := spec_l07All.cnt_le l m
 have h2 : spec_l07All.cnt l m ≤ spec_l07All.skip l m := by unfold spec_l07All.skip; split <;> omega
 unfold spec_l07All.put
 split <;> simp only [List.length_append, List.length_take, List.length_drop, List.length_singleton] <;> omega
theorem spec_l07All.put_row {l : List (List Int)} {m : List Int} (h : ∀ s ∈ l, s.length = 3) : ∀ s ∈ spec_l07All.put l m, s.length = 3 := by
 intro s hs
 unfold spec_l07All.put at hs
 split at hs
 ·rcases List.mem_append.1 hs with hs | hs
  ·exact h s (List.mem_of_mem_take hs)
  ·exact h s (List.mem_of_mem_drop hs)
 ·rcases List.mem_append.1 hs with hs | hs
  ·rcases List.mem_append.1 hs with hs | hs
   ·exact h s (List.mem_of_mem_take hs)
   ·rw [List.mem_singleton] at hs; rw [hs]; rfl
  ·exact h s (List.mem_of_mem_drop hs)
theorem spec_l07All.bef {m a : List Int} (hm : m.length = 3) (ha : a.length = 3) : spec_l07Before.f a m = some (spec_l07All.ltR m a) := by
 unfold spec_l07Before.f spec_l07All.ltR
 rw [hm, ha]
 by_cases c1 : rd a 1 < rd m 1
 ·simp [c1]
 ·by_cases c2 : rd a 1 = rd m 1
  ·simp [c2]
  ·simp [c1, c2]
theorem spec_l07All.rowAt {w : World} {A : Option Addr} {n : Nat} {xs : List (List Int)} (h : Kd.C (Kd.slice 3 (Kd.int .i64)) w A n xs) (i : Int) (h0 : 0 ≤ i) (h1 : i < n) : ∃ ad A0 c0, A = some ad ∧ w.cell? (ad.add i.toNat) = some (.slice A0 (xs.getD i.toNat []).length c0) ∧ (xs.getD i.toNat []).length ≤ c0 ∧ (Kd.int .i64).C w A0 (xs.getD i.toNat []).length (xs.getD i.toNat []) := by
 obtain ⟨ad, c, e, _, hK, hc0⟩ := Kd.C_get h ([] : List Int) i h0 h1
 have hc : ∀ j u, c[j]? = some u → w.cell? (ad.add (i.toNat * 1 + j)) = some u := hc0
 obtain ⟨A0, c0, rfl, l0, g0⟩ := hK
 exact ⟨ad, A0, c0, e, by have hq := hc 0 _ rfl; rwa [Nat.mul_one, Nat.add_zero] at hq, l0, g0⟩
theorem spec_l07All.three {w : World} {A : Option Addr} {r : List Int} (h : (Kd.int .i64).C w A r.length r) (h3 : r.length = 3) : ∃ a, A = some a ∧ w.cell? a = some (.int .i64 (rd r 0)) ∧ w.cell? ⟨a.block, a.off + 1, none⟩ = some (.int .i64 (rd r 1)) ∧ w.cell? ⟨a.block, a.off + 2, none⟩ = some (.int .i64 (rd r 2)) := by
 obtain ⟨a, e, h0⟩ := Kd.at_int h 0 (by omega) (by omega)
 obtain ⟨a', e', h1⟩ := Kd.at_int h 1 (by omega) (by omega)
 obtain ⟨a'', e'', h2⟩ := Kd.at_int h 2 (by omega) (by omega)
 rw [e] at e' e''
 obtain rfl : a = a' := by injection e'
 obtain rfl : a = a'' := by injection e''
 refine ⟨a, e, ?_, ?_, ?_⟩
 ·rw [show ((0 : Int)).toNat = 0 from rfl, Addr.add_zero'] at h0; exact h0
 ·simp only [show (1 : Int).toNat = 1 from rfl, Go.Addr.add] at h1; exact h1
 ·simp only [show (2 : Int).toNat = 2 from rfl, Go.Addr.add] at h2; exact h2
theorem spec_l07All.tw_stop {l : List (List Int)} {m : List Int} {p : Nat} (h : p + ((l.drop p).takeWhile (spec_l07All.ltR m)).length = spec_l07All.cnt l m) (hp : p < l.length) (hb : spec_l07All.ltR m (l.getD p []) = false) : p = spec_l07All.cnt l m := by
 rw [List.drop_eq_getElem_cons hp, List.takeWhile_cons, if_neg] at h
 ·exact h
 ·rw [show l[p] = l.getD p [] by rw [List.getD_eq_getElem?_getD, List.getElem?_eq_getElem hp]; rfl, hb]; decide
theorem spec_l07All.tw_step {l : List (List Int)} {m : List Int} {p : Nat} (h : p + ((l.drop p).takeWhile (spec_l07All.ltR m)).length = spec_l07All.cnt l m) (hp : p < l.length) (hb : spec_l07All.ltR m (l.getD p []) = true) : (p + 1) + ((l.drop (p + 1)).takeWhile (spec_l07All.ltR m)).length = spec_l07All.cnt l m := by
 rw [List.drop_eq_getElem_cons hp, List.takeWhile_cons, if_pos, List.length_cons] at h
 ·omega
 ·rw [show l[p] = l.getD p [] by rw [List.getD_eq_getElem?_getD, List.getElem?_eq_getElem hp]; rfl, hb]
def spec_l07All.T12 : Bool × List (List Nat × List Nat) := (true, [([], []), ([], []), ([1], [1]), ([2], [2]), ([], []), ([4], [4]), ([5], [5]), ([], []), ([3, 6, 7], [3, 6, 7]), ([8], [8]), ([0, 9], [0, 9]), ([10, 10, 0, 1, 2, 3, 4, 5, 6, 7, 8, 9, 10], [0, 10])])
def spec_l07All.B12 : List Nat := [0, 0, 2, 6, 0, 16, 48, 0, 254, 510, 1023, 2047]
theorem spec_l07All.tab12 : rtab .any (opsOf Tryd.f70 12) = spec_l07All.T12 := by kernel_rfl
theorem spec_l07All.bits12 : waitsOk spec_l07All.T12.2 spec_l07All.B12 = true := by kernel_rfl
set_option maxHeartbeats 16000000 in
set_option maxRecDepth 100000 in
theorem spec_l07All.puts (P0_ : Nat → Prop) (A0 : Option Addr) (c0 : Nat) (l0 : List (List Int)) (A1 : Option Addr) (c1 : Nat) (m : List Int) (w : World) (hs0 : Kd.V (Kd.slice 3 (Kd.int .i64)) 22 w w.heap.size (fun k_ => P0_ k_) (.slice A0 l0.length c0) l0) (hr1 : Kd.C (Kd.int .i64) w A1 m.length m) (hc1 : m.length ≤ c1) (hm : m.length = 3) (hl : ∀ s ∈ l0, s.length = 3) (hn : l0.length ≤ 300) :
  Calls Tryd.prog 70 #[.slice A0 l0.length c0, .slice A1 m.length c1] w fun e w' => ∃ v0_ : Value, e = .returned (v0_) ∧ Kd.N (Kd.slice 3 (Kd.int .i64)) 22 w' w.heap.size (fun k_ => (P0_ k_ ∨ w.heap.size ≤ k_)) v0_ (spec_l07All.put l0 m) ∧ Below w.heap.size w w' := by
 have HO0 := zm1 (show Kd.V (Kd.slice 3 (Kd.int .i64)) 22 w w.heap.size (fun k_ => (P0_ k_ ∨ w.heap.size ≤ k_)) (.slice A0 l0.length c0) l0 from Kd.V_mono hs0 (fun k_ hk => .inl hk))
 have HR1 := zm1 hr1
 have HC1 := zm1 hc1
 have HM := zm1 hm
 have HL := zm1 hl
 have HN := zm1 hn
 have HB := zm1 (Below.refl w.heap.size w)
 clear hr1 hc1 hm hl hn hs0
 go_enter Tryd.func70, Tryd.ntmps70
 go_upto_block 0 with (fail)
 go_cut [5] (fun v5 wc => ∃ p : Nat, v5 = .int .i64 (p : Int) ∧ Aside0 (p = spec_l07All.cnt l0 m) ∧ Aside0 (Kd.V (Kd.slice 3 (Kd.int .i64)) 22 wc w.heap.size (fun k_ => (P0_ k_ ∨ w.heap.size ≤ k_)) (.slice A0 l0.length c0) l0) ∧ Aside0 (Below w.heap.size w wc))
 case first =>
  go_wp2
  go_loopg [5] l0.length (fun kq v5 w' => ∃ p : Nat, v5 = .int .i64 (p : Int) ∧ Aside0 (p + kq = l0.length) ∧ Aside0 (p + ((l0.drop p).takeWhile (spec_l07All.ltR m)).length = spec_l07All.cnt l0 m) ∧ Aside0 (Kd.V (Kd.slice 3 (Kd.int .i64)) 22 w' w.heap.size (fun k_ => (P0_ k_ ∨ w.heap.size ≤ k_)) (.slice A0 l0.length c0) l0) ∧ Aside0 (Below w.heap.size w w'))
  case atStart => exact ⟨0, rfl, ⟨Nat.zero_add _⟩, ⟨Nat.zero_add _⟩, ⟨by (with_reducible repeat (first | apply Kd.V_alloc | apply Kd.V_drewN | apply Kd.V_drew)); exact HO0.out⟩, ⟨by repeat (first | (with_reducible first | exact HB.out | apply zc1 | apply zc2 | apply zc3) | exact HB.out)⟩⟩
  case round =>
   clear HO0 HB
   obtain ⟨p, rfl, HJ, HT, HO_0, HB⟩ := hrel
   by_cases c : p < l0.length
   ·have cb : decide ((p : Int) < (l0.length : Int)) = true := decide_eq_true (by omega)
    obtain ⟨ad, Ar, cr, e, hx, hlr, hir⟩ := spec_l07All.rowAt (Kd.V_reads' HO_0.out).2.2 (p : Int) (by omega) (by omega)
    cases e
    replace hx : wr.cell? (ad.add p) = some (.slice Ar (l0.getD p []).length cr) := hx
    replace hlr : (l0.getD p []).length ≤ cr := hlr
    replace hir : (Kd.int .i64).C wr Ar (l0.getD p []).length (l0.getD p []) := hir
    obtain ⟨r5, h5⟩ : ∃ r5, r5 = l0.getD p [] := ⟨_, rfl⟩
    have hr3 : r5.length = 3 := HL.out r5 (by rw [h5, List.getD_eq_getElem?_getD, List.getElem?_eq_getElem c]; exact List.getElem_mem c)
    rw [← h5] at hx hlr hir
    have A6 := zm1 (spec_l07All.bef HM.out hr3)
    have HIR := zm1 hir
    have HLR := zm1 hlr
    obtain ⟨d, hd⟩ : ∃ d, gk = d + 1 := ⟨gk - 1, by have := HJ.out; omega⟩
    subst hd
    have p0 : ((0 : Int) ≤ (p : Int)) = True := eq_true (by omega)
    have p1 : ((p : Int) < (l0.length : Int)) = True := eq_true (by omega)
    have p2 : (p < l0.length) = True := eq_true c
    have hw : IntKind.i64.wrap ((p : Int) + 1) = (p : Int) + 1 := by rw [i64_w]; unfold wrap64; have := HN.out; omega
    cases hb : spec_l07All.ltR m r5 with
    | true =>
     have HT2 := zm1 (spec_l07All.tw_step HT.out c (by rw [← h5]; exact hb))
     rw [hb] at A6
     have HJ2 := zm1 (show (p + 1) + d = l0.length by have := HJ.out; omega)
     clear hir hlr hb h5 hr3 HJ HT c
     go_wp2_with (first | (go_at_call 97; (with_reducible refine (spec_l07Before.calls _ _ r5 _ _ m true _ ?side1 ?side2 ?side3 ?side4 A6.out).mono ?_); (case side1 => repeat (first | exact HIR.out | (with_reducible refine Kd.C_alloc ?_ _) | (with_reducible refine Kd.C_drewN ?_ _) | (with_reducible refine Kd.C_drew ?_))); (case side2 => exact HLR.out); (case side3 => repeat (first | exact (Kd.C_below HR1.out HB.out) | (with_reducible refine Kd.C_alloc ?_ _) | (with_reducible refine Kd.C_drewN ?_ _) | (with_reducible refine Kd.C_drew ?_))); (case side4 => exact HC1.out); rintro e w' ⟨rfl, ⟨nd, rfl⟩⟩))
     go_roundg d
     case measure => omega
     case rel => exact ⟨p + 1, (by first | rfl | (simp; done) | (simp [*]; done)), HJ2, HT2, ⟨by (with_reducible repeat (first | apply Kd.V_alloc | apply Kd.V_drewN | apply Kd.V_drew)); exact HO_0.out⟩, ⟨by repeat (first | (with_reducible first | exact HB.out | apply zc1 | apply zc2 | apply zc3) | exact HB.out)⟩⟩
    | false =>
     have HT2 := zm1 (spec_l07All.tw_stop HT.out c (by rw [← h5]; exact hb))
     rw [hb] at A6
     clear hir hlr hb h5 hr3 HJ HT c
     go_wp2_with (first | (go_at_call 97; (with_reducible refine (spec_l07Before.calls _ _ r5 _ _ m false _ ?side1 ?side2 ?side3 ?side4 A6.out).mono ?_); (case side1 => repeat (first | exact HIR.out | (with_reducible refine Kd.C_alloc ?_ _) | (with_reducible refine Kd.C_drewN ?_ _) | (with_reducible refine Kd.C_drew ?_))); (case side2 => exact HLR.out); (case side3 => repeat (first | exact (Kd.C_below HR1.out HB.out) | (with_reducible refine Kd.C_alloc ?_ _) | (with_reducible refine Kd.C_drewN ?_ _) | (with_reducible refine Kd.C_drew ?_))); (case side4 => exact HC1.out); rintro e w' ⟨rfl, ⟨nd, rfl⟩⟩))
     go_meet
     case rel => exact ⟨p, rfl, HT2, ⟨by (with_reducible repeat (first | apply Kd.V_alloc | apply Kd.V_drewN | apply Kd.V_drew)); exact HO_0.out⟩, ⟨by repeat (first | (with_reducible first | exact HB.out | apply zc1 | apply zc2 | apply zc3) | exact HB.out)⟩⟩
   ·have cb : decide ((p : Int) < (l0.length : Int)) = false := decide_eq_false (by omega)
    have cb2 : decide (p < l0.length) = false := decide_eq_false (by omega)
    have cb3 : (p < l0.length) = False := eq_false (by omega)
    have HT2 := zm1 (show p = spec_l07All.cnt l0 m by
     have h := HT.out
     rw [List.drop_eq_nil_of_le (by omega)] at h
     exact h)
    clear HT HJ c
    go_wp2
    go_meet
    case rel => exact ⟨p, rfl, HT2, ⟨by (with_reducible repeat (first | apply Kd.V_alloc | apply Kd.V_drewN | apply Kd.V_drew)); exact HO_0.out⟩, ⟨by repeat (first | (with_reducible first | exact HB.out | apply zc1 | apply zc2 | apply zc3) | exact HB.out)⟩⟩
 case rest =>
  clear HO0 HB
  obtain ⟨p, rfl, HP, HO_0, HB⟩ := hcut
  have HPL := zm1 (show p ≤ l0.length by have h := HP.out; have := spec_l07All.cnt_le l0 m; omega)
  obtain ⟨y195, hy195⟩ : ∃ y_ : List (List Int), y_ = (([] : List (List Int))) := ⟨_, rfl⟩
  have Ny195 := zm1 hy195
  clear hy195
  obtain ⟨x5, hx5⟩ : ∃ x5 : Int, x5 = (p : Int) := ⟨_, rfl⟩
  have HX5 := zm1 hx5
  have c9b0 : (0 ≤ x5) = True := eq_true (by omega)
  have c9b1 : decide (0 ≤ x5) = true := decide_eq_true (by omega)
  have c9b2 : decide (x5 ≤ (l0.length : Int)) = true := decide_eq_true (by have := HPL.out; omega)
  have c9b3 : (x5 ≤ (l0.length : Int)) = True := eq_true (by have := HPL.out; omega)
  rw [← hx5]
  obtain ⟨Y2, hY2⟩ : ∃ y_ : List (List Int), y_ = (l0.take x5.toNat) := ⟨_, rfl⟩
  have NyY2 := zm1 hY2
  obtain ⟨Y6, hY6⟩ : ∃ y_ : List (List Int), y_ = (y195 ++ Y2) := ⟨_, rfl⟩
  have NyY6 := zm1 hY6
  obtain ⟨YR, hYR⟩ : ∃ y_ : List (List Int), y_ = (l0.drop x5.toNat) := ⟨_, rfl⟩
  have NyYR := zm1 hYR
  have LMc10 := zm1 (show y195.length + Y2.length < 5864062014805 by rw [Ny195.out, hY2, List.length_take, List.length_nil]; have := HN.out; omega)
  obtain ⟨am, em, hm0, hm1, hm2⟩ := spec_l07All.three HR1.out HM.out
  subst em
  have hmc : m.length = 3 := HM.out
  have qm2 : (2 < m.length) = True := eq_true (by omega)
  have qm2b : decide (2 < m.length) = true := decide_eq_true (by omega)
  have qm2c : decide (2 < (m.length : Int)) = true := decide_eq_true (by omega)
  have qm2d : (2 < (m.length : Int)) = True := eq_true (by omega)
  clear hY2 hY6 hYR hx5 hmc
  go_upto_region 8 with (first | ((with_reducible refine gate_dst (N := 23) rfl ?_); refine Kd.N_lit (Kd.slice 3 (Kd.int .i64)) _ 22 ?hg (N' := 23) ?hd (xs := ([] : List (List Int))) (inner := []) (ok := (fun k_ => (P0_ k_ ∨ w.heap.size ≤ k_))) (okp := (fun k_ => (P0_ k_ ∨ w.heap.size ≤ k_))) ?hr ?hp (fun _ hk => hk) ((show ∀ k_, wc.heap.size ≤ k_ → (fun k_ => (P0_ k_ ∨ w.heap.size ≤ k_)) k_ from fun k_ hk => (.inr (Nat.le_trans (zc5 (by repeat (first | (with_reducible first | exact HB.out | apply zc1 | apply zc2 | apply zc3) | exact HB.out))) hk))) _ (Nat.le_refl _)) (Below.refl _ _) (Nat.le_refl _) (by simp) ?_; (case hd => rfl); (case hg => rfl); (case hr => first | (go_simp; done) | (go_simp; rfl)); (case hp => exact (Reps.none _ _)); intro v196 w15 ho16 hb hg_ hnew_; clear hg_ hnew_; (first | rw [← Ny195.out] at ho16 | (simp only [Int.reduceToNat] at ho16; rw [← Ny195.out] at ho16)); have n0_ := zm1 (Kd.V_elder' (by (with_reducible repeat (first | apply Kd.V_alloc | apply Kd.V_drewN | apply Kd.V_drew)); exact HO_0.out) (Kd.N_base ho16) hb); have n1_ := zm1 (Kd.N_lower ho16 (zc5 (by repeat (first | (with_reducible first | exact HB.out | apply zc1 | apply zc2 | apply zc3) | exact HB.out)))); have n2_ := zm1 (zc6 (by repeat (first | (with_reducible first | exact HB.out | apply zc1 | apply zc2 | apply zc3) | exact HB.out)) hb); clear HO_0; clear HB; have HO_0 := n0_; have HO197 := n1_; have HB := n2_; clear n0_ n1_ n2_; clear hb ho16; have q17 : (x5 : Int) ≤ ((l0.length : Int) : Int) := of_decide_eq_true c9b2; obtain ⟨i017, hi017, _, hsz17, _⟩ := info_parts info22; have hroom17 : l0.length ≤ c0 := (Kd.V_reads' HO_0.out).2.1; have hC17 : Kd.F (Kd.slice 3 (Kd.int .i64)) _ _ A0 l0.length l0 := (Kd.V_at (base := w.heap.size) HO_0.out).2.2; have hcut17 := cut_to (P := Tryd.prog) 27 22 .i64 Tryd.underlying27 hi017 A0 l0.length c0 x5 (of_decide_eq_true c9b1) q17 hroom17; have hr17 := Kd.F_take (m := (x5 : Int).toNat) hC17 (by omega); have hy17 : Y2.length = (x5 : Int).toNat := (by rw [NyY2.out, List.length_take]; omega); rw [← NyY2.out] at hr17; rw [← hy17] at hcut17; have HO202 := zm1 (show Kd.V (Kd.slice 3 (Kd.int .i64)) 22 _ w.heap.size _ (.slice A0 Y2.length c0) Y2 from Kd.V_mk (by omega) hr17); have HC202 := zm1 (show Y2.length ≤ c0 from by omega); clear hr17 hC17 hroom17 hi017 hsz17; have KY17 := zm1 hy17; clear hy17; replace q17 := eq_true q17) | ((with_reducible refine gate_builtin (b := .append) (xs := #[.tmp 24, .tmp 27]) rfl ?_); at_builtin; refine Kd.N_append_rows (Kd.slice 3 (Kd.int .i64)) (w0 := w) w.heap.size rfl (.tmp 24) (.tmp 27) 27 22 (.slice none 0 0) 24 rfl Tryd.underlying27 info22 rfl (by decide) (by omega) v196 y195 Y2 _ _ _ (fun k_ => (P0_ k_ ∨ w.heap.size ≤ k_)) (fun k_ => ((fun k_ => (P0_ k_ ∨ w.heap.size ≤ k_))) k_ ∧ some k_ ≠ (v196 : Value).ownBlock) rfl rfl ?aO ?aR (fun _ hk => hk) ?aF ?aB ?aS ?aL ?_; (case aR => exact (by skip; exact Kd.V_F (Kd.V_mono (ok' := (fun k_ => ((fun k_ => (P0_ k_ ∨ w.heap.size ≤ k_))) k_ ∧ some k_ ≠ (v196 : Value).ownBlock)) (HO202.out) (fun k_ hk => ⟨hk.1, hk.2⟩)))); (case aB => exact (by repeat (first | (with_reducible first | exact HB.out | apply zc1 | apply zc2 | apply zc3) | exact HB.out))); (case aF => exact (fun k_ hk => (.inr (Nat.le_trans (zc5 (by repeat (first | (with_reducible first | exact HB.out | apply zc1 | apply zc2 | apply zc3) | exact HB.out))) hk)))); (case aO => exact (by (with_reducible repeat (first | apply Kd.N_alloc | apply Kd.N_drewN | apply Kd.N_drew)); exact HO197.out)); (case aS => exact (zc5 (by repeat (first | (with_reducible first | exact HB.out | apply zc1 | apply zc2 | apply zc3) | exact HB.out)))); (case aL => have := LMc10.out; omega); intro v6 w18 ho hb hg hat; rw [← NyY6.out] at ho; have n0_ := zm1 (Kd.V_afterv (ok := (fun k_ => (P0_ k_ ∨ w.heap.size ≤ k_))) (by (with_reducible repeat (first | apply Kd.V_alloc | apply Kd.V_drewN | apply Kd.V_drew)); exact HO_0.out) hg hat); have n1_ := zm1 (Kd.V_afterv (ok := (fun k_ => (P0_ k_ ∨ w.heap.size ≤ k_))) (by (with_reducible repeat (first | apply Kd.V_alloc | apply Kd.V_drewN | apply Kd.V_drew)); exact HO202.out) hg hat); have n2_ := zm1 (hb); have n3_ := zm1 (ho); clear HO_0; clear HO202; clear HB; clear HO197; have HO_0 := n0_; have HO202 := n1_; have HB := n2_; have HO205 := n3_; clear n0_ n1_ n2_ n3_; clear ho hb hg hat; replace hm0 := (HB.out.cell (zl hm0)).trans hm0; replace hm1 := (HB.out.cell (zl hm1)).trans hm1; replace hm2 := (HB.out.cell (zl hm2)).trans hm2; have q19 : (x5 : Int) ≤ ((l0.length : Int) : Int) := of_decide_eq_true c9b2; obtain ⟨i019, hi019, _, hsz19, _⟩ := info_parts info22; have hroom19 : l0.length ≤ c0 := (Kd.V_reads' HO_0.out).2.1; have hC19 : Kd.F (Kd.slice 3 (Kd.int .i64)) _ _ A0 l0.length l0 := (Kd.V_at (base := w.heap.size) HO_0.out).2.2; have q019 : (0 : Int) ≤ (x5 : Int) := of_decide_eq_true c9b1; have hcut19 := cut_from (P := Tryd.prog) 27 22 .i64 Tryd.underlying27 hi019 1 hsz19 A0 l0.length c0 x5 q019 q19; have hr19 := Kd.F_cut (m := (x5 : Int).toNat) (c := c0) hC19 (by omega) hroom19; obtain ⟨A19, hA19⟩ : ∃ A1, A1 = (if c0 = (x5 : Int).toNat then A0 else (A0 : Option Addr).map (·.add ((x5 : Int).toNat * 1))) := ⟨_, rfl⟩; obtain ⟨c19, hc19⟩ : ∃ c1, c1 = c0 - (x5 : Int).toNat := ⟨_, rfl⟩; have hy19 : YR.length = l0.length - (x5 : Int).toNat := (by rw [NyYR.out, List.length_drop] <;> omega); rw [show (l0).drop (x5 : Int).toNat = YR from NyYR.out.symm] at hr19; replace hr19 : Kd.F (Kd.slice 3 (Kd.int .i64)) _ _ A19 YR.length YR := (by rw [hA19]; exact hr19); rw [← hy19, ← hA19, ← hc19] at hcut19; have HO211 := zm1 (show Kd.V (Kd.slice 3 (Kd.int .i64)) 22 _ w.heap.size _ (.slice A19 YR.length c19) YR from Kd.V_mk (by rw [hy19, hc19]; exact Nat.sub_le_sub_right hroom19 _) hr19); have HC211 := zm1 (show YR.length ≤ c19 from by rw [hy19, hc19]; exact Nat.sub_le_sub_right hroom19 _); clear hr19 hC19 hroom19 hi019 hsz19 hc19; have KY19 := zm1 hy19; have KA19 := zm1 hA19; clear hy19 hA19; replace q19 := eq_true q19))
  clear c9b0 c9b1 c9b2 c9b3 LMc10 hcut17 hcut19
  (try simp only [Act.put, zs1, zs2, zs3])
  have E6 := zm1 (show Y6 = l0.take (spec_l07All.cnt l0 m) by rw [NyY6.out, Ny195.out, NyY2.out, HX5.out, ← HP.out]; rfl)
  have ER := zm1 (show YR = l0.drop (spec_l07All.cnt l0 m) by rw [NyYR.out, HX5.out, ← HP.out]; rfl)
  clear Ny195 NyY2 NyY6 NyYR HO202 HC202 KY17
  rw [HX5.out]
  go_cut [62] (fun v62 wc => v62 = .bool (spec_l07All.hit l0 m) ∧ Aside0 (Kd.V (Kd.slice 3 (Kd.int .i64)) 22 wc w.heap.size (fun k_ => (P0_ k_ ∨ w.heap.size ≤ k_) ∧ some k_ ≠ (v6 : Value).ownBlock) (.slice A0 l0.length c0) l0) ∧ Aside0 (Kd.N (Kd.slice 3 (Kd.int .i64)) 22 wc w.heap.size (fun k_ => (P0_ k_ ∨ w.heap.size ≤ k_)) v6 Y6) ∧ Aside0 (Kd.V (Kd.slice 3 (Kd.int .i64)) 22 wc w.heap.size (fun k_ => (P0_ k_ ∨ w.heap.size ≤ k_) ∧ some k_ ≠ (v6 : Value).ownBlock) (.slice A19 YR.length c19) YR) ∧ Aside0 (Below w.heap.size w wc))
  case first =>
   by_cases c : p < l0.length
   ·obtain ⟨ad, Ar, cr, e, hx, hlr, hir⟩ := spec_l07All.rowAt (Kd.V_reads' HO_0.out).2.2 (p : Int) (by omega) (by omega)
    subst e
    replace hx : w18.cell? (ad.add p) = some (.slice Ar (l0.getD p []).length cr) := hx
    replace hir : (Kd.int .i64).C w18 Ar (l0.getD p []).length (l0.getD p []) := hir
    obtain ⟨r5, h5⟩ : ∃ r5, r5 = l0.getD p [] := ⟨_, rfl⟩
    have hr3 : r5.length = 3 := HL.out r5 (by rw [h5, List.getD_eq_getElem?_getD, List.getElem?_eq_getElem c]; exact List.getElem_mem c)
    rw [← h5] at hx hir
    obtain ⟨ar, er, hr0, hr1, hr2⟩ := spec_l07All.three hir hr3
    subst er
    have HHD := zm1 (show spec_l07All.hit l0 m = (decide (rd r5 0 = rd m 0) && decide (rd r5 1 = rd m 1)) by
     unfold spec_l07All.hit
     rw [← HP.out, ← h5, decide_eq_true c]
     rfl)
    have c20 : decide ((p : Int) < (l0.length : Int)) = true := decide_eq_true (by omega)
    have c21 : decide (p < l0.length) = true := decide_eq_true (by omega)
    have p0 : ((0 : Int) ≤ (p : Int)) = True := eq_true (by omega)
    have p1 : ((p : Int) < (l0.length : Int)) = True := eq_true (by omega)
    have p2 : (p < l0.length) = True := eq_true c
    rw [hr3] at hx
    have hmc : m.length = 3 := HM.out
    have u0 : (0 < m.length) = True := eq_true (by omega)
    have u1 : (1 < m.length) = True := eq_true (by omega)
    have u2 : ((0 : Int) < (m.length : Int)) = True := eq_true (by omega)
    have u3 : ((1 : Int) < (m.length : Int)) = True := eq_true (by omega)
    clear hmc hr3 h5 hlr hir qm2b qm2c qm2d
    by_cases d0 : rd r5 0 = rd m 0
    ·have b0 : (rd r5 0 == rd m 0) = true := beq_iff_eq.mpr d0
     by_cases d1 : rd r5 1 = rd m 1
     ·have b1 : (rd r5 1 == rd m 1) = true := beq_iff_eq.mpr d1
      have HH := zm1 (show spec_l07All.hit l0 m = true by rw [HHD.out, decide_eq_true d0, decide_eq_true d1]; rfl)
      clear HHD d0 d1 c
      try simp only [List.append_eq, List.cons_append, List.nil_append]
      go_quiet (fail)
      all_goals
       go_wp2
       go_meet
       case rel => exact ⟨(by rw [HH.out]), ⟨by (with_reducible repeat (first | apply Kd.V_alloc | apply Kd.V_drewN | apply Kd.V_drew)); exact HO_0.out⟩, ⟨by (with_reducible repeat (first | apply Kd.N_alloc | apply Kd.N_drewN | apply Kd.N_drew)); exact HO205.out⟩, ⟨by (with_reducible repeat (first | apply Kd.V_alloc | apply Kd.V_drewN | apply Kd.V_drew)); exact HO211.out⟩, ⟨by repeat (first | (with_reducible first | exact HB.out | apply zc1 | apply zc2 | apply zc3) | exact HB.out)⟩⟩
     ·have b1 : (rd r5 1 == rd m 1) = false := beq_eq_false_iff_ne.mpr d1
      have HH := zm1 (show spec_l07All.hit l0 m = false by rw [HHD.out, decide_eq_false d1, Bool.and_false])
      clear HHD c d0 d1
      try simp only [List.append_eq, List.cons_append, List.nil_append]
      go_quiet (fail)
      all_goals
       go_wp2
       go_meet
       case rel => exact ⟨(by rw [HH.out]), ⟨by (with_reducible repeat (first | apply Kd.V_alloc | apply Kd.V_drewN | apply Kd.V_drew)); exact HO_0.out⟩, ⟨by (with_reducible repeat (first | apply Kd.N_alloc | apply Kd.N_drewN | apply Kd.N_drew)); exact HO205.out⟩, ⟨by (with_reducible repeat (first | apply Kd.V_alloc | apply Kd.V_drewN | apply Kd.V_drew)); exact HO211.out⟩, ⟨by repeat (first | (with_reducible first | exact HB.out | apply zc1 | apply zc2 | apply zc3) | exact HB.out)⟩⟩
    ·have b0 : (rd r5 0 == rd m 0) = false := beq_eq_false_iff_ne.mpr d0
     have HH := zm1 (show spec_l07All.hit l0 m = false by rw [HHD.out, decide_eq_false d0, Bool.false_and])
     clear HHD c d0
     try simp only [List.append_eq, List.cons_append, List.nil_append]
     go_quiet (fail)
     all_goals
      go_wp2
      go_meet
      case rel => exact ⟨(by rw [HH.out]), ⟨by (with_reducible repeat (first | apply Kd.V_alloc | apply Kd.V_drewN | apply Kd.V_drew)); exact HO_0.out⟩, ⟨by (with_reducible repeat (first | apply Kd.N_alloc | apply Kd.N_drewN | apply Kd.N_drew)); exact HO205.out⟩, ⟨by (with_reducible repeat (first | apply Kd.V_alloc | apply Kd.V_drewN | apply Kd.V_drew)); exact HO211.out⟩, ⟨by repeat (first | (with_reducible first | exact HB.out | apply zc1 | apply zc2 | apply zc3) | exact HB.out)⟩⟩
   ·have HH := zm1 (show spec_l07All.hit l0 m = false by
     unfold spec_l07All.hit
     rw [← HP.out, decide_eq_false c]
     rfl)
    have c20 : decide ((p : Int) < (l0.length : Int)) = false := decide_eq_false (by omega)
    have c21 : decide (p < l0.length) = false := decide_eq_false (by omega)
    have p2 : (p < l0.length) = False := eq_false c
    clear c
    try simp only [List.append_eq, List.cons_append, List.nil_append]
    go_quiet (fail)
    all_goals
     go_wp2
     go_meet
     case rel => exact ⟨(by rw [HH.out]), ⟨by (with_reducible repeat (first | apply Kd.V_alloc | apply Kd.V_drewN | apply Kd.V_drew)); exact HO_0.out⟩, ⟨by (with_reducible repeat (first | apply Kd.N_alloc | apply Kd.N_drewN | apply Kd.N_drew)); exact HO205.out⟩, ⟨by (with_reducible repeat (first | apply Kd.V_alloc | apply Kd.V_drewN | apply Kd.V_drew)); exact HO211.out⟩, ⟨by repeat (first | (with_reducible first | exact HB.out | apply zc1 | apply zc2 | apply zc3) | exact HB.out)⟩⟩
  case rest =>
   clear HO_0 HO205 HO211 HB hm0 hm1 hm2
   obtain ⟨rfl, HO_0, HO205, HO211, HB⟩ := hcut
   obtain ⟨wd, hwd⟩ : ∃ wd, wd = wc := ⟨_, rfl⟩
   subst hwd
   go_upto_if 62 with (fail)
   go_cut [7, 8] (fun v7 v8 wc => ∃ (A8 : Option Addr) (c8 : Nat) (Y8 : List (List Int)), v7 = .int .i64 (spec_l07All.num l0 m) ∧ v8 = .slice A8 Y8.length c8 ∧ Aside0 (Y8 = l0.drop (spec_l07All.skip l0 m)) ∧ Aside0 (Kd.V (Kd.slice 3 (Kd.int .i64)) 22 wc w.heap.size (fun k_ => (P0_ k_ ∨ w.heap.size ≤ k_) ∧ some k_ ≠ (v6 : Value).ownBlock) (.slice A0 l0.length c0) l0) ∧ Aside0 (Kd.N (Kd.slice 3 (Kd.int .i64)) 22 wc w.heap.size (fun k_ => (P0_ k_ ∨ w.heap.size ≤ k_)) v6 Y6) ∧ Aside0 (Kd.V (Kd.slice 3 (Kd.int .i64)) 22 wc w.heap.size (fun k_ => (P0_ k_ ∨ w.heap.size ≤ k_) ∧ some k_ ≠ (v6 : Value).ownBlock) (.slice A8 Y8.length c8) Y8) ∧ Aside0 (Below w.heap.size w wc))
   case first =>
    cases hhit : spec_l07All.hit l0 m with
    | true =>
     have c : p < l0.length := by
      unfold spec_l07All.hit at hhit
      simp only [Bool.and_eq_true, decide_eq_true_eq] at hhit
      have h := HP.out
      omega
     obtain ⟨ad, Ar, cr, e, hx, hlr, hir⟩ := spec_l07All.rowAt (Kd.V_reads' HO_0.out).2.2 (p : Int) (by omega) (by omega)
     subst e
     replace hx : wd.cell? (ad.add p) = some (.slice Ar (l0.getD p []).length cr) := hx
     replace hir : (Kd.int .i64).C wd Ar (l0.getD p []).length (l0.getD p []) := hir
     obtain ⟨r5, h5⟩ : ∃ r5, r5 = l0.getD p [] := ⟨_, rfl⟩
     have hr3 : r5.length = 3 := HL.out r5 (by rw [h5, List.getD_eq_getElem?_getD, List.getElem?_eq_getElem c]; exact List.getElem_mem c)
     rw [← h5] at hx hir
     obtain ⟨ar, er, hr0, hr1, hr2⟩ := spec_l07All.three hir hr3
     subst er
     rw [hr3] at hx
     have HNUM := zm1 (show spec_l07All.num l0 m = wrap64 (rd m 2 + rd r5 2) by unfold spec_l07All.num; rw [hhit, if_pos rfl, h5, HP.out])
     have HSK := zm1 (show spec_l07All.skip l0 m = p + 1 by unfold spec_l07All.skip; rw [hhit, if_pos rfl, HP.out])
     have p0 : ((0 : Int) ≤ (p : Int)) = True := eq_true (by omega)
     have p1 : ((p : Int) < (l0.length : Int)) = True := eq_true (by omega)
     have p2 : (p < l0.length) = True := eq_true c
     clear hr3 h5 hlr hir c hhit
     obtain ⟨ji, hji⟩ : ∃ ji : Int, ji = (p : Int) + 1 := ⟨_, rfl⟩
     have hjw : IntKind.i64.wrap ((p : Int) + 1) = ji := by rw [i64_w]; unfold wrap64; have := HN.out; have := HPL.out; omega
     obtain ⟨Y8, hY8⟩ : ∃ y_ : List (List Int), y_ = l0.drop ji.toNat := ⟨_, rfl⟩
     have NyY8 := zm1 hY8
     have q38 : ji ≤ ((l0.length : Int) : Int) := by have := of_eq_true p2; omega
     obtain ⟨i038, hi038, _, hsz38, _⟩ := info_parts info22
     have hroom38 : l0.length ≤ c0 := (Kd.V_reads' HO_0.out).2.1
     have hC38 : Kd.F (Kd.slice 3 (Kd.int .i64)) _ _ (some ad) l0.length l0 := (Kd.V_at (base := w.heap.size) HO_0.out).2.2
     have q038 : (0 : Int) ≤ ji := by omega
     have hcut38 := cut_from (P := Tryd.prog) 27 22 .i64 Tryd.underlying27 hi038 1 hsz38 (some ad) l0.length c0 ji q038 q38
     have hr38 := Kd.F_cut (m := ji.toNat) (c := c0) hC38 (by omega) hroom38
     obtain ⟨A38, hA38⟩ : ∃ A1, A1 = (if c0 = ji.toNat then (some ad) else ((some ad) : Option Addr).map (·.add (ji.toNat * 1))) := ⟨_, rfl⟩
     obtain ⟨c38, hc38⟩ : ∃ c1, c1 = c0 - ji.toNat := ⟨_, rfl⟩
     have hy38 : Y8.length = l0.length - ji.toNat := (by rw [NyY8.out, List.length_drop] <;> omega)
     rw [show (l0).drop ji.toNat = Y8 from NyY8.out.symm] at hr38
     replace hr38 : Kd.F (Kd.slice 3 (Kd.int .i64)) _ _ A38 Y8.length Y8 := (by rw [hA38]; exact hr38)
     rw [← hy38, ← hA38, ← hc38] at hcut38
     have HO224 := zm1 (show Kd.V (Kd.slice 3 (Kd.int .i64)) 22 _ w.heap.size _ (.slice A38 Y8.length c38) Y8 from Kd.V_mk (by rw [hy38, hc38]; exact Nat.sub_le_sub_right hroom38 _) hr38)
     have E8 := zm1 (show Y8 = l0.drop (spec_l07All.skip l0 m) by rw [NyY8.out, HSK.out, show ji.toNat = p + 1 by omega])
     clear hr38 hC38 hroom38 hi038 hsz38 hc38 hy38 hA38 hY8 NyY8 hji HSK
     replace q38 := eq_true q38
     replace q038 := eq_true q038
     go_wp2
     go_meet
     case rel => exact ⟨A38, c38, Y8, (by rw [HNUM.out]), rfl, E8, ⟨by (with_reducible repeat (first | apply Kd.V_alloc | apply Kd.V_drewN | apply Kd.V_drew)); exact HO_0.out⟩, ⟨by (with_reducible repeat (first | apply Kd.N_alloc | apply Kd.N_drewN | apply Kd.N_drew)); exact HO205.out⟩, ⟨by (with_reducible repeat (first | apply Kd.V_alloc | apply Kd.V_drewN | apply Kd.V_drew)); exact HO224.out⟩, ⟨by repeat (first | (with_reducible first | exact HB.out | apply zc1 | apply zc2 | apply zc3) | exact HB.out)⟩⟩
    | false =>
     have HNUM := zm1 (show spec_l07All.num l0 m = rd m 2 by unfold spec_l07All.num; rw [hhit]; rfl)
     have HSK := zm1 (show spec_l07All.skip l0 m = spec_l07All.cnt l0 m by unfold spec_l07All.skip; rw [hhit]; rfl)
     clear hhit
     go_wp2
     go_meet
     case rel => exact ⟨A19, c19, YR, (by rw [HNUM.out]), rfl, ⟨by rw [ER.out, HSK.out]⟩, ⟨by (with_reducible repeat (first | apply Kd.V_alloc | apply Kd.V_drewN | apply Kd.V_drew)); exact HO_0.out⟩, ⟨by (with_reducible repeat (first | apply Kd.N_alloc | apply Kd.N_drewN | apply Kd.N_drew)); exact HO205.out⟩, ⟨by (with_reducible repeat (first | apply Kd.V_alloc | apply Kd.V_drewN | apply Kd.V_drew)); exact HO211.out⟩, ⟨by repeat (first | (with_reducible first | exact HB.out | apply zc1 | apply zc2 | apply zc3) | exact HB.out)⟩⟩
   case rest =>
    clear HO_0 HO205 HO211 HB
    obtain ⟨A8, c8, Y8, rfl, rfl, E8, HO_0, HO_6, HO_8, HB⟩ := hcut
    obtain ⟨n, hnn⟩ : ∃ n, n = spec_l07All.num l0 m := ⟨_, rfl⟩
    rw [← hnn]
    have HNN := zm1 hnn
    have L6 := zm1 (show Y6.length ≤ 300 by rw [E6.out, List.length_take]; have := HN.out; omega)
    have L8 := zm1 (show Y8.length ≤ 300 by rw [E8.out, List.length_drop]; have := HN.out; omega)
    clear hnn
    by_cases c51 : n = 0
    ·have c51b0 : (n == 0) = true := beq_iff_eq.mpr c51
     have c51b1 : (n != 0) = false := bne_eq_false_iff_eq.mpr c51
     have LMc52 := zm1 (show Y6.length + Y8.length < 5864062014805 by have := L6.out; have := L8.out; omega)
     have HRES := zm1 (show Y6 ++ Y8 = spec_l07All.put l0 m by unfold spec_l07All.put; rw [← HNN.out, if_pos c51, E6.out, E8.out])
     clear c51
     go_wp2_with (first | ((with_reducible refine gate_builtin (b := .append) (xs := #[.tmp 88, .tmp 89]) rfl ?_); at_builtin; refine Kd.N_append_rows (Kd.slice 3 (Kd.int .i64)) (w0 := w) w.heap.size rfl (.tmp 88) (.tmp 89) 27 22 (.slice none 0 0) 24 rfl Tryd.underlying27 info22 rfl (by decide) (by omega) v6 Y6 Y8 _ _ _ (fun k_ => (P0_ k_ ∨ w.heap.size ≤ k_)) (fun k_ => ((fun k_ => (P0_ k_ ∨ w.heap.size ≤ k_))) k_ ∧ some k_ ≠ (v6 : Value).ownBlock) rfl rfl ?aO ?aR (fun _ hk => hk) ?aF ?aB ?aS ?aL ?_; (case aR => exact (by skip; exact Kd.V_F (Kd.V_mono (ok' := (fun k_ => ((fun k_ => (P0_ k_ ∨ w.heap.size ≤ k_))) k_ ∧ some k_ ≠ (v6 : Value).ownBlock)) (HO_8.out) (fun k_ hk => ⟨hk.1, hk.2⟩)))); (case aB => exact (by repeat (first | (with_reducible first | exact HB.out | apply zc1 | apply zc2 | apply zc3) | exact HB.out))); (case aF => exact (fun k_ hk => (.inr (Nat.le_trans (zc5 (by repeat (first | (with_reducible first | exact HB.out | apply zc1 | apply zc2 | apply zc3) | exact HB.out))) hk)))); (case aO => exact (by (with_reducible repeat (first | apply Kd.N_alloc | apply Kd.N_drewN | apply Kd.N_drew)); exact HO_6.out)); (case aS => exact (zc5 (by repeat (first | (with_reducible first | exact HB.out | apply zc1 | apply zc2 | apply zc3) | exact HB.out)))); (case aL => have := LMc52.out; omega); intro v251 w63 ho hb hg hat; have n2_ := zm1 (hb); have n3_ := zm1 (ho); clear HB; have HB := n2_; have HO252 := n3_; clear n2_ n3_; clear ho hb hg hat))
     go_ret
     exact ⟨_, by first | rfl | (simp [errW_none, errW_some] <;> rfl) | (simp [*, errW_none, errW_some] <;> rfl), by rw [← HRES.out]; (with_reducible repeat (first | apply Kd.N_alloc | apply Kd.N_drewN | apply Kd.N_drew)); exact HO252.out, by repeat (first | (with_reducible first | exact HB.out | apply zc1 | apply zc2 | apply zc3) | exact HB.out)⟩
    ·have c51b0 : (n == 0) = false := beq_eq_false_iff_ne.mpr c51
     have c51b1 : (n != 0) = true := bne_iff_ne.mpr c51
     obtain ⟨YM, hYM⟩ : ∃ y_ : List Int, y_ = (([rd m 0, rd m 1, n] : List Int)) := ⟨_, rfl⟩
     have NyM := zm1 hYM
     obtain ⟨Y7, hY7⟩ : ∃ y_ : List (List Int), y_ = (Y6 ++ [YM]) := ⟨_, rfl⟩
     have Ny7 := zm1 hY7
     have LMc6 := zm1 (show Y6.length < 5864062014805 by have := L6.out; omega)
     have LMc57 := zm1 (show Y7.length + Y8.length < 5864062014805 by have := L6.out; have := L8.out; rw [hY7, List.length_append, List.length_singleton]; omega)
     have HRES := zm1 (show Y7 ++ Y8 = spec_l07All.put l0 m by unfold spec_l07All.put; rw [← HNN.out, if_neg c51, hY7, hYM, E6.out, E8.out])
     have hmc : m.length = 3 := HM.out
     have u0 : decide ((0 : Int) < (m.length : Int)) = true := decide_eq_true (by omega)
     have u1 : decide ((1 : Int) < (m.length : Int)) = true := decide_eq_true (by omega)
     have u2 : decide (0 < m.length) = true := decide_eq_true (by omega)
     have u3 : decide (1 < m.length) = true := decide_eq_true (by omega)
     clear c51 hYM hY7 hmc
     try go_wp2
     have n0_ := zm1 (Kd.V_drew HO_0.out)
     have n1_ := zm1 (Kd.N_drew HO_6.out)
     have n2_ := zm1 (Kd.V_drew HO_8.out)
     have n3_ := zm1 (below_drew1 HB.out)
     clear HO_0
     clear HO_6
     clear HO_8
     clear HB
     have HO_0 := n0_
     have HO_6 := n1_
     have HO_8 := n2_
     have HB := n3_
     clear n0_ n1_ n2_ n3_
     have p242 : 0 ≤ (0 : Int) := (by omega)
     have q242 : 0 < (m.length : Int) := of_decide_eq_true (by assumption)
     obtain ⟨ad242, e242, hx242_0⟩ := Kd.at_int HR1.out 0 p242 q242
     have hw242_0 := hx242_0
     (try rw [show ((0 : Int)).toNat = 0 from rfl] at hw242_0)
     (try rw [show 0 * 1 = 0 from rfl] at hw242_0)
     (try rw [Addr.add_zero'] at hw242_0)
     obtain rfl : am = ad242 := (by injection e242)
     have qi242 : (0 < m.length) = True := eq_true (by omega)
     (try rw [show ((0 : Int)).toNat = 0 from rfl] at hx242_0)
     (try rw [Addr.add_zero'] at hx242_0)
     (try replace hx242_0 := (HB.out.cell (zl hx242_0)).trans hx242_0)
     replace p242 := eq_true p242
     replace q242 := eq_true q242
     have p243 : 0 ≤ (1 : Int) := (by omega)
     have q243 : 1 < (m.length : Int) := of_decide_eq_true (by assumption)
     obtain ⟨ad243, e243, hx243_0⟩ := Kd.at_int HR1.out 1 p243 q243
     have hw243_0 := hx243_0
     (try rw [show ((1 : Int)).toNat = 1 from rfl] at hw243_0)
     (try rw [show 1 * 1 = 1 from rfl] at hw243_0)
     (try simp only [Nat.reduceMul, Nat.reduceEqDiff, Go.Addr.add, ↓reduceIte] at hw243_0)
     obtain rfl : am = ad243 := (by injection e243)
     (try simp only [show (1 : Int).toNat = 1 from rfl, Nat.reduceMul, Nat.reduceEqDiff, Go.Addr.add, ↓reduceIte] at hx243_0)
     have qi243 : (1 < m.length) = True := eq_true (by omega)
     (try rw [show ((1 : Int)).toNat = 1 from rfl] at hx243_0)
     (try replace hx243_0 := (HB.out.cell (zl hx243_0)).trans hx243_0)
     replace p243 := eq_true p243
     replace q243 := eq_true q243
     refine start_ (n := 12) (S := fun w' => w'.cell? am = some (.int .i64 (rd m 0)) ∧ w'.cell? ⟨am.block, am.off + 1, none⟩ = some (.int .i64 (rd m 1))) (ds := []) #[false, false, false, false, false, false, false, false, false, false, false, false] (by kernel_rfl) rfl rfl ⟨((HB.out.cell (zl hw242_0)).trans hw242_0), ((HB.out.cell (zl hw243_0)).trans hw243_0)⟩ (fun hHeld => ?_); refine with_tabW spec_l07All.tab12 spec_l07All.bits12 (fun HT_ HW_ => ?_)
     generalize wc.drew = w58 at HO_0 HO_6 HO_8 HB hx242_0 hx243_0 hHeld ⊢
     refine pure_ (i := 0) (N := some 77) (v := ?_) (a' := ?_) #[true, false, false, false, false, false, false, false, false, false, false, false] rfl rfl (any_of HT_.out (by kernel_rfl)) (fun _ _ _ h => h) (Or.inl ⟨by rfl, ?_⟩) ?_ ?_
     rotate_left
     ·intro w'
      go_simp
      with_reducible rfl
     rotate_left
     ·simp only [Act.put, zs1, zs2, zs3, i64_w, i32_w]
      rfl
     refine pure_ (i := 1) (N := some 78) (v := ?_) (a' := ?_) #[true, true, false, false, false, false, false, false, false, false, false, false] rfl rfl (any_of HT_.out (by kernel_rfl)) (fun _ _ _ h => h) (Or.inl ⟨by rfl, ?_⟩) ?_ ?_
     rotate_left
     ·intro w'
      go_simp
      with_reducible rfl
     rotate_left
     ·simp only [Act.put, zs1, zs2, zs3, i64_w, i32_w]
      rfl
     refine pure_ (i := 2) (N := some 79) (v := ?_) (a' := ?_) #[true, true, true, false, false, false, false, false, false, false, false, false] rfl rfl (any_of HT_.out (by kernel_rfl)) (fun _ _ _ h => h) (Or.inl ⟨by rfl, ?_⟩) ?_ ?_
     rotate_left
     ·intro w'
      go_simp
      with_reducible rfl
     rotate_left
     ·simp only [Act.put, zs1, zs2, zs3, i64_w, i32_w]
      rfl
     refine pure_ (i := 4) (N := some 81) (v := ?_) (a' := ?_) #[true, true, true, false, true, false, false, false, false, false, false, false] rfl rfl (any_of HT_.out (by kernel_rfl)) (fun _ _ _ h => h) (Or.inl ⟨by rfl, ?_⟩) ?_ ?_
     rotate_left
     ·intro w'
      go_simp
      with_reducible rfl
     rotate_left
     ·simp only [Act.put, zs1, zs2, zs3, i64_w, i32_w]
      rfl
     refine pure_ (i := 5) (N := some 82) (v := ?_) (a' := ?_) #[true, true, true, false, true, true, false, false, false, false, false, false] rfl rfl (any_of HT_.out (by kernel_rfl)) (fun _ _ _ h => h) (Or.inl ⟨by rfl, ?_⟩) ?_ ?_
     rotate_left
     ·intro w'
      go_simp
      with_reducible rfl
     rotate_left
     ·simp only [Act.put, zs1, zs2, zs3, i64_w, i32_w]
      rfl
     refine pure_ (i := 7) (N := some 84) (v := ?_) (a' := ?_) #[true, true, true, false, true, true, false, true, false, false, false, false] rfl rfl (any_of HT_.out (by kernel_rfl)) (fun _ _ _ h => h) (Or.inl ⟨by rfl, ?_⟩) ?_ ?_
     rotate_left
     ·intro w'
      go_simp
      with_reducible rfl
     rotate_left
     ·simp only [Act.put, zs1, zs2, zs3, i64_w, i32_w]
      rfl
     refine take_ (i := 3) (N := some 80) (v := ?_) (a' := ?_) #[true, true, true, true, true, true, false, true, false, false, false, false] rfl rfl (take_ofW HT_.out HW_.out (by kernel_rfl)) (fun _ _ _ h => h) (Or.inl ⟨by rfl, ?_⟩) hHeld ?_ ?_
     rotate_left
     ·rintro w' ⟨s0, s1⟩
      go_simp
      with_reducible rfl
     rotate_left
     ·simp only [Act.put, zs1, zs2, zs3, i64_w, i32_w]
      rfl
     refine take_ (i := 6) (N := some 83) (v := ?_) (a' := ?_) #[true, true, true, true, true, true, true, true, false, false, false, false] rfl rfl (take_ofW HT_.out HW_.out (by kernel_rfl)) (fun _ _ _ h => h) (Or.inl ⟨by rfl, ?_⟩) hHeld ?_ ?_
     rotate_left
     ·rintro w' ⟨s0, s1⟩
      go_simp
      with_reducible rfl
     rotate_left
     ·simp only [Act.put, zs1, zs2, zs3, i64_w, i32_w]
      rfl
     refine one_ (i := 8) (N := some 85) #[true, true, true, true, true, true, true, true, true, false, false, false] rfl rfl (one_of HT_.out (by kernel_rfl)) (by decide) (fun K hK => ?_)
     refine Kd.R_lit_step (Kd.int .i64) _ 3 ?hg (N := 85) ?hd (xs := ([rd m 0, rd m 1, n] : List Int)) (inner := [.int .i64 (rd m 0), .int .i64 (rd m 1), .int .i64 n]) (ok := fun _ => True) (okp := fun _ => True) ?hr ?hp (fun _ hk => hk) trivial (Below.refl _ _) (Nat.le_refl _) (by simp) ?_; (case hd => rfl); (case hg => rfl); (case hr => first | (go_simp; done) | (go_simp; rfl)); (case hp => exact (Reps.one (show Kd.M (Kd.int .i64) _ _ _ (rd m 0) [.int .i64 (rd m 0)] from rfl) (Reps.one (show Kd.M (Kd.int .i64) _ _ _ (rd m 1) [.int .i64 (rd m 1)] from rfl) (Reps.one (show Kd.M (Kd.int .i64) _ _ _ n [.int .i64 n] from rfl) (Reps.none _ _)))))
     intro v245 w59 ho60 hb hg_ hnew_
     clear hg_ hnew_
     (first | rw [← NyM.out] at ho60 | (simp only [Int.reduceToNat] at ho60; rw [← NyM.out] at ho60))
     have n0_ := zm1 (Kd.V_elder' (by (with_reducible repeat (first | apply Kd.V_alloc | apply Kd.V_drewN | apply Kd.V_drew)); exact HO_0.out) (Kd.R_base ho60) hb)
     have n1_ := zm1 (Kd.N_elder' (by (with_reducible repeat (first | apply Kd.N_alloc | apply Kd.N_drewN | apply Kd.N_drew)); exact HO_6.out) (Kd.R_base ho60) hb)
     have n2_ := zm1 (Kd.V_elder' (by (with_reducible repeat (first | apply Kd.V_alloc | apply Kd.V_drewN | apply Kd.V_drew)); exact HO_8.out) (Kd.R_base ho60) hb)
     have n3_ := zm1 (Kd.R_lower (Kd.R_newM (M := fun k_ => (w.heap.size ≤ k_)) ho60 (zc5 (by repeat (first | (with_reducible first | exact HB.out | apply zc1 | apply zc2 | apply zc3) | exact HB.out))) (fun k_ h_ => h_)) (zc5 (by repeat (first | (with_reducible first | exact HB.out | apply zc1 | apply zc2 | apply zc3) | exact HB.out))))
     have n4_ := zm1 (zc6 (by repeat (first | (with_reducible first | exact HB.out | apply zc1 | apply zc2 | apply zc3) | exact HB.out)) hb)
     clear HO_0
     clear HO_6
     clear HO_8
     clear HB
     have HO_0 := n0_
     have HO_6 := n1_
     have HO_8 := n2_
     have HO246 := n3_
     have HB := n4_
     clear n0_ n1_ n2_ n3_ n4_
     clear hb ho60
     obtain ⟨Ao62, co62, eo62⟩ := Kd.R_slice HO246.out
     (first | subst eo62 | (injection eo62 with f1_ f2_ f3_; have f4_ := f1_.symm; have f5_ := f3_.symm; clear f1_ f2_ f3_; subst f4_; subst f5_))
     refine hK.out _ _ ⟨((HB.out.cell (zl hw242_0)).trans hw242_0), ((HB.out.cell (zl hw243_0)).trans hw243_0)⟩ (fun hHeld => ?_)
     clear hK K
     refine norm_ (a' := ?_) ?_ ?_
     rotate_left
     ·show Act.put _ (some 85) _ = _
      simp only [Act.put, zs1, zs2, zs3, i64_w, i32_w]
      rfl
     refine one_ (i := 9) (N := some 86) #[true, true, true, true, true, true, true, true, true, true, false, false] rfl rfl (one_of HT_.out (by kernel_rfl)) (by decide) (fun K hK => ?_)
     refine value_ (w1 := ?_) (v := ?_) (by rfl) rfl ?_ ?_
     rotate_left 2
     ·go_simp
      constructor
      ·rfl
      ·rfl
     refine hK.out _ _ ⟨(World.cell?_alloc_lt _ _ _ (zl (((HB.out.cell (zl hw242_0)).trans hw242_0)))).trans (((HB.out.cell (zl hw242_0)).trans hw242_0)), (World.cell?_alloc_lt _ _ _ (zl (((HB.out.cell (zl hw243_0)).trans hw243_0)))).trans (((HB.out.cell (zl hw243_0)).trans hw243_0))⟩ (fun hHeld => ?_)
     clear hK K
     refine norm_ (a' := ?_) ?_ ?_
     rotate_left
     ·show Act.put _ (some 86) _ = _
      simp only [Act.put, zs1, zs2, zs3, i64_w, i32_w]
      rfl
     refine one_ (i := 10) (N := some 87) #[true, true, true, true, true, true, true, true, true, true, true, false] rfl rfl (one_of HT_.out (by kernel_rfl)) (by decide) (fun K hK => ?_)
     refine Kd.N_append_step (Kd.slice 3 (Kd.int .i64)) (w0 := w) w.heap.size (by rfl) (.tmp 77) (.tmp 86) 27 22 (.slice none 0 0) 24 rfl Tryd.underlying27 info22 rfl (by decide) (by omega) v6 Y6 YM [.slice Ao62 YM.length co62] (fun k_ => (P0_ k_ ∨ w.heap.size ≤ k_)) (fun k_ => ((fun k_ => (P0_ k_ ∨ w.heap.size ≤ k_))) k_ ∧ some k_ ≠ (v6 : Value).ownBlock) rfl rfl ?aP (fun _ hk => hk) ?aF ?aO ?aB ?aS ?aL ?_
     (case aP => exact (Kd.FK_slice_mk (Kd.R_reads' (Kd.R_mono (ok' := (fun k_ => ((fun k_ => (P0_ k_ ∨ w.heap.size ≤ k_))) k_ ∧ some k_ ≠ (v6 : Value).ownBlock)) (Kd.R_apart' (HO246.out) (Kd.N_typed HO_6.out) (by decide)) (fun k_ hk => ⟨(.inr (hk.1.1)), hk.2⟩))).2.1 (Kd.R_F (Kd.R_mono (ok' := (fun k_ => ((fun k_ => (P0_ k_ ∨ w.heap.size ≤ k_))) k_ ∧ some k_ ≠ (v6 : Value).ownBlock)) (Kd.R_apart' (HO246.out) (Kd.N_typed HO_6.out) (by decide)) (fun k_ hk => ⟨(.inr (hk.1.1)), hk.2⟩)))))
     (case aB => exact (by repeat (first | (with_reducible first | exact HB.out | apply zc1 | apply zc2 | apply zc3) | exact HB.out)))
     (case aF => exact (fun k_ hk => (.inr (Nat.le_trans (zc5 (by repeat (first | (with_reducible first | exact HB.out | apply zc1 | apply zc2 | apply zc3) | exact HB.out))) hk))))
     (case aO => exact (by (with_reducible repeat (first | apply Kd.N_alloc | apply Kd.N_drewN | apply Kd.N_drew)); exact Kd.N_mono HO_6.out (fun _ hk => hk.1)))
     (case aS => exact (zc5 (by repeat (first | (with_reducible first | exact HB.out | apply zc1 | apply zc2 | apply zc3) | exact HB.out))))
     (case aL => have := LMc6.out; omega)
     intro v248 w61 ho hb hg hat
     rw [← Ny7.out] at ho
     have n0_ := zm1 (Kd.V_afterv (ok := (fun k_ => (P0_ k_ ∨ w.heap.size ≤ k_) ∧ some k_ ≠ (.slice Ao62 YM.length co62 : Value).ownBlock)) (by (with_reducible repeat (first | apply Kd.V_alloc | apply Kd.V_drewN | apply Kd.V_drew)); exact Kd.V_mono HO_0.out (fun _ hk => ⟨⟨hk.1.1, hk.2⟩, hk.1.2⟩)) hg hat)
     have n1_ := zm1 (Kd.V_afterv (ok := (fun k_ => (P0_ k_ ∨ w.heap.size ≤ k_) ∧ some k_ ≠ (.slice Ao62 YM.length co62 : Value).ownBlock)) (by (with_reducible repeat (first | apply Kd.V_alloc | apply Kd.V_drewN | apply Kd.V_drew)); exact Kd.V_mono HO_8.out (fun _ hk => ⟨⟨hk.1.1, hk.2⟩, hk.1.2⟩)) hg hat)
     have n2_ := zm1 (hb)
     have n3_ := zm1 (ho)
     clear HO_0
     clear HO_8
     clear HB
     clear HO_6
     clear HO246
     have HO_0 := n0_
     have HO_8 := n1_
     have HB := n2_
     have HO249 := n3_
     clear n0_ n1_ n2_ n3_
     clear ho hb hg hat
     refine hK.out _ _ ⟨((HB.out.cell (zl hw242_0)).trans hw242_0), ((HB.out.cell (zl hw243_0)).trans hw243_0)⟩ (fun hHeld => ?_)
     clear hK K
     refine norm_ (a' := ?_) ?_ ?_
     rotate_left
     ·show Act.put _ (some 87) _ = _
      simp only [Act.put, zs1, zs2, zs3, i64_w, i32_w]
      rfl
     refine pure_ (i := 11) (N := some 6) (v := ?_) (a' := ?_) #[true, true, true, true, true, true, true, true, true, true, true, true] rfl rfl (any_of HT_.out (by kernel_rfl)) (fun _ _ _ h => h) (Or.inl ⟨by rfl, ?_⟩) ?_ ?_
     rotate_left
     ·intro w'
      go_simp
      with_reducible rfl
     rotate_left
     ·simp only [Act.put, zs1, zs2, zs3, i64_w, i32_w]
      rfl
     refine done_ (done_of HT_.out (by kernel_rfl)) ?_
     go_wp2_with (first | ((with_reducible refine gate_builtin (b := .append) (xs := #[.tmp 88, .tmp 89]) rfl ?_); at_builtin; refine Kd.N_append_rows (Kd.slice 3 (Kd.int .i64)) (w0 := w) w.heap.size rfl (.tmp 88) (.tmp 89) 27 22 (.slice none 0 0) 24 rfl Tryd.underlying27 info22 rfl (by decide) (by omega) v248 Y7 Y8 _ _ _ (fun k_ => (P0_ k_ ∨ w.heap.size ≤ k_)) (fun k_ => ((fun k_ => (P0_ k_ ∨ w.heap.size ≤ k_))) k_ ∧ some k_ ≠ (v248 : Value).ownBlock) rfl rfl ?aO ?aR (fun _ hk => hk) ?aF ?aB ?aS ?aL ?_; (case aR => exact (by skip; exact Kd.V_F (Kd.V_mono (ok' := (fun k_ => ((fun k_ => (P0_ k_ ∨ w.heap.size ≤ k_))) k_ ∧ some k_ ≠ (v248 : Value).ownBlock)) (HO_8.out) (fun k_ hk => ⟨hk.1.1, hk.2⟩)))); (case aB => exact (by repeat (first | (with_reducible first | exact HB.out | apply zc1 | apply zc2 | apply zc3) | exact HB.out))); (case aF => exact (fun k_ hk => (.inr (Nat.le_trans (zc5 (by repeat (first | (with_reducible first | exact HB.out | apply zc1 | apply zc2 | apply zc3) | exact HB.out))) hk)))); (case aO => exact (by (with_reducible repeat (first | apply Kd.N_alloc | apply Kd.N_drewN | apply Kd.N_drew)); exact HO249.out)); (case aS => exact (zc5 (by repeat (first | (with_reducible first | exact HB.out | apply zc1 | apply zc2 | apply zc3) | exact HB.out)))); (case aL => have := LMc57.out; omega); intro v251 w63 ho hb hg hat; have n2_ := zm1 (hb); have n3_ := zm1 (ho); clear HB; have HB := n2_; have HO252 := n3_; clear n2_ n3_; clear ho hb hg hat))
     go_ret
     exact ⟨_, by first | rfl | (simp [errW_none, errW_some] <;> rfl) | (simp [*, errW_none, errW_some] <;> rfl), by rw [← HRES.out]; (with_reducible repeat (first | apply Kd.N_alloc | apply Kd.N_drewN | apply Kd.N_drew)); exact HO252.out, by repeat (first | (with_reducible first | exact HB.out | apply zc1 | apply zc2 | apply zc3) | exact HB.out)⟩
theorem spec_l07All.two {w : World} {A : Option Addr} {r : List Int} (h : (Kd.int .i64).C w A r.length r) (h2 : r.length = 2) : ∃ a, A = some a ∧ w.cell? a = some (.int .i64 (rd r 0)) ∧ w.cell? ⟨a.block, a.off + 1, none⟩ = some (.int .i64 (rd r 1)) := by
 obtain ⟨a, e, h0⟩ := Kd.at_int h 0 (by omega) (by omega)
 obtain ⟨a', e', h1⟩ := Kd.at_int h 1 (by omega) (by omega)
 rw [e] at e'
 obtain rfl : a = a' := by injection e'
 refine ⟨a, e, ?_, ?_⟩
 ·rw [show ((0 : Int)).toNat = 0 from rfl, Addr.add_zero'] at h0; exact h0
 ·simp only [show (1 : Int).toNat = 1 from rfl, Go.Addr.add] at h1; exact h1
theorem spec_l07All.keep2 {W w' : World} {p0 p1 : Addr} {v0 v1 : Value} (h0 : W.cell? p0 = some v0) (h1 : W.cell? p1 = some v1) (hb : Below W.heap.size W w') : w'.cell? p0 = some v0 ∧ w'.cell? p1 = some v1 :=
 ⟨(hb.cell (zl h0)).trans h0, (hb.cell (zl h1)).trans h1⟩
def spec_l07All.off (s d : List Int) (g : Int) : Bool := decide (¬ rd s 0 = wrap64 (rd d 0 * g)) || decide (¬ rd s 1 = wrap64 (rd d 1 * g))
def spec_l07All.sgn (s d : List Int) (g : Int) : Int := if spec_l07All.off s d g = true then wrap64 (-g) else g
def spec_l07All.step (k : Nat) (o : List (List Int)) (s : List Int) : Option (List (List Int)) := if s.length = 2 then (spec_l07Direction.f k (rd s 0) (rd s 1)).bind fun d => (spec_l02Gcd.f k (rd s 0) (rd s 1)).bind fun g => if d.length = 2 then some (spec_l07All.put o [rd d 0, rd d 1, spec_l07All.sgn s d g]) else none else none
def spec_l07All.go (k : Nat) : List (List Int) → List (List Int) → Option (List (List Int))
 | o, [] => some o
 | o, s :: l => (spec_l07All.step k o s).bind fun o' => spec_l07All.go k o' l
def spec_l07All.main (k : Nat) (q : List S53) : Option (List (List Int)) := (spec_l04Sides.f k q).bind fun l => if l.length ≤ 200 then spec_l07All.go k [] l else none
def spec_l07All.f (k : Nat) (p : List S53) : Option (List (List Int)) := (spec_l03Twice.f k p).bind fun t => if t < 0 then (spec_l03Turn.f k p).bind fun q => spec_l07All.main k q else spec_l07All.main k p
theorem spec_l07All.go_mono (k : Nat) : ∀ (l o : List (List Int)), LeO (spec_l07All.go k o l) (spec_l07All.go (k + 1) o l)
 | [], o => LeO.refl _
 | s :: l, o => by
  unfold spec_l07All.go spec_l07All.step
  exact LeO.bind (LeO.ite (LeO.bind (spec_l07Direction.mono _ _ _) (fun d => LeO.bind (spec_l02Gcd.mono _ _ _) (fun g => LeO.refl _))) (LeO.refl _)) (fun o' => spec_l07All.go_mono k l o')
theorem spec_l07All.mono : ∀ a0 k, LeO (spec_l07All.f k a0) (spec_l07All.f (k + 1) a0) := by
 intro a0 k
 have hm : ∀ q, LeO (spec_l07All.main k q) (spec_l07All.main (k + 1) q) := fun q => by
  unfold spec_l07All.main
  exact LeO.bind (spec_l04Sides.mono _ _) (fun l => LeO.ite (spec_l07All.go_mono k l _) (LeO.refl _))
 unfold spec_l07All.f
 exact LeO.bind (spec_l03Twice.mono _ _) (fun t => LeO.ite (LeO.bind (spec_l03Turn.mono _ _) (fun q => hm q)) (hm _))
set_option maxHeartbeats 4000000 in
set_option maxRecDepth 100000 in
theorem spec_l07All.left (k : Nat) (A0 : Option Addr) (c0 : Nat) (l0 : List (S53)) (r : List (List Int)) (t : Int) (w : World) (hr0 : Kd.C k53 w A0 l0.length l0) (hc0 : l0.length ≤ c0) (ht : spec_l03Twice.f k l0 = some t) (h : (if t < 0 then (spec_l03Turn.f k l0).bind fun q => spec_l07All.main k q else spec_l07All.main k l0) = some r) :
  Calls Tryd.prog 67 #[.slice A0 l0.length c0] w fun e w' => ∃ (A : Option Addr) (c : Nat) (q : List S53), e = .returned (.slice A q.length c) ∧ q.length ≤ c ∧ Kd.C k53 w' A q.length q ∧ spec_l07All.main k q = some r ∧ Below w.heap.size w w' := by
 have HR0 := zm1 hr0
 have HC0 := zm1 hc0
 have HT := zm1 ht
 have HB := zm1 (Below.refl w.heap.size w)
 clear hr0 hc0 ht
 by_cases c : t < 0
 ·rw [if_pos c, Option.bind_eq_some_iff] at h
  obtain ⟨q, hq, h⟩ := h
  have HQ := zm1 hq
  have HM := zm1 h
  have cb : decide (t < 0) = true := decide_eq_true c
  clear h hq c
  go_enter Tryd.func67, Tryd.ntmps67
  go_wp2_with (first | (go_at_call 95; (with_reducible refine (spec_l03Twice.calls k _ _ l0 t _ HR0.out HC0.out HT.out).mono ?_); rintro e w1 ⟨rfl, hb⟩; have HB1 := zm1 hb; clear hb) | (go_at_call 96; (with_reducible refine (spec_l03Turn.calls k _ _ l0 q _ (Kd.C_below HR0.out HB1.out) HC0.out HQ.out).mono ?_); rintro e w2 ⟨v, rfl, ho, hb⟩; obtain ⟨A2, c2, e2⟩ := Kd.R_slice ho; subst e2; have HO := zm1 ho; have HB2 := zm1 (below_step HB1.out hb); clear ho hb))
  go_ret
  exact ⟨A2, c2, q, rfl, (Kd.R_reads' HO.out).2.1, (Kd.R_reads' HO.out).2.2, HM.out, HB2.out⟩
 ·rw [if_neg c] at h
  have HM := zm1 h
  have cb : decide (t < 0) = false := decide_eq_false c
  clear h c
  go_enter Tryd.func67, Tryd.ntmps67
  go_wp2_with (first | (go_at_call 95; (with_reducible refine (spec_l03Twice.calls k _ _ l0 t _ HR0.out HC0.out HT.out).mono ?_); rintro e w1 ⟨rfl, hb⟩; have HB1 := zm1 hb; clear hb))
  go_ret
  exact ⟨A0, c0, l0, rfl, HC0.out, (by repeat (first | exact Kd.C_below HR0.out HB1.out | (with_reducible refine Kd.C_alloc ?_ _) | (with_reducible refine Kd.C_drewN ?_ _) | (with_reducible refine Kd.C_drew ?_))), HM.out, (by repeat (first | (with_reducible first | exact HB1.out | apply zc1 | apply zc2 | apply zc3) | exact HB1.out))⟩
def spec_l07All.T9 : Bool × List (List Nat × List Nat) := (true, [([], []), ([], []), ([1], [1]), ([2], [2]), ([], []), ([4], [4]), ([5], [5]), ([], []), ([3, 6, 7], [3, 6, 7]), ([0, 8], [0, 8]), ([9, 9, 0, 1, 2, 3, 4, 5, 6, 7, 8, 9], [0, 9])])
def spec_l07All.B9 : List Nat := [0, 0, 2, 6, 0, 16, 48, 0, 254, 511, 1023]
theorem spec_l07All.tab9 : rtab .any (opsOf Tryd.f42 9) = spec_l07All.T9 := by kernel_rfl
theorem spec_l07All.bits9 : waitsOk spec_l07All.T9.2 spec_l07All.B9 = true := by kernel_rfl
set_option maxHeartbeats 16000000 in
set_option maxRecDepth 100000 in
theorem spec_l07All.calls (k : Nat) (A0 : Option Addr) (c0 : Nat) (l0 : List (S53)) (r : List (List Int)) (w : World) (hr0 : Kd.C k53 w A0 l0.length l0) (hc0 : l0.length ≤ c0) (h : spec_l07All.f k l0 = some r) :
  Calls Tryd.prog 42 #[.slice A0 l0.length c0] w fun e w' => ∃ v0_ : Value, e = .returned v0_ ∧ Kd.N (Kd.slice 3 (Kd.int .i64)) 22 w' w.heap.size (fun k_ => (w.heap.size ≤ k_)) v0_ r ∧ Below w.heap.size w w' := by
 have HR0 := zm1 hr0
 have HC0 := zm1 hc0
 unfold spec_l07All.f at h
 rw [Option.bind_eq_some_iff] at h
 obtain ⟨t, ht, h⟩ := h
 have HT := zm1 ht
 have HH := zm1 h
 have HB := zm1 (Below.refl w.heap.size w)
 obtain ⟨y122, hy122⟩ : ∃ y_ : List (List Int), y_ = (([] : List (List Int))) := ⟨_, rfl⟩
 have Ny122 := zm1 hy122
 clear hr0 hc0 ht h hy122
 go_enter Tryd.func42, Tryd.ntmps42
 go_upto_block 0 with (first | ((with_reducible refine gate_dst (N := 8) rfl ?_); refine Kd.N_lit (Kd.slice 3 (Kd.int .i64)) _ 22 ?hg (N' := 8) ?hd (xs := ([] : List (List Int))) (inner := []) (ok := (fun k_ => (w.heap.size ≤ k_))) (okp := (fun k_ => (w.heap.size ≤ k_))) ?hr ?hp (fun _ hk => hk) ((show ∀ k_, w.heap.size ≤ k_ → (fun k_ => (w.heap.size ≤ k_)) k_ from fun k_ hk => hk) _ (Nat.le_refl _)) (Below.refl _ _) (Nat.le_refl _) (by simp) ?_; (case hd => rfl); (case hg => rfl); (case hr => first | (go_simp; done) | (go_simp; rfl)); (case hp => exact (Reps.none _ _)); intro v123 w4 ho5 hb hg_ hnew_; clear hg_ hnew_; (first | rw [← Ny122.out] at ho5 | (simp only [Int.reduceToNat] at ho5; rw [← Ny122.out] at ho5)); have HO3 := zm1 ho5; have HB4 := zm1 hb; clear ho5 hb) | (go_at_call 67; (with_reducible refine (spec_l07All.left k _ _ l0 r t _ (Kd.C_below HR0.out HB4.out) HC0.out HT.out HH.out).mono ?_); rintro e w5 ⟨Aq, cq, q, rfl, hcq, hq, hmain, hb⟩; have HQ := zm1 hq; have HCQ := zm1 hcq; unfold spec_l07All.main at hmain; rw [Option.bind_eq_some_iff] at hmain; obtain ⟨l, hsd, hmain⟩ := hmain; have HSD := zm1 hsd; have HMA := zm1 hmain; have nHO := zm1 (Kd.N_below HO3.out hb); have nHB := zm1 (below_step HB4.out hb); clear HO3 HB4; have HO3 := nHO; have HB4 := nHB; clear nHO nHB hb hq hcq hsd hmain) | (go_at_call 66; (with_reducible refine (spec_l04Sides.calls k _ _ q l _ HQ.out HCQ.out HSD.out).mono ?_); rintro e w6 ⟨v, rfl, ho, hb⟩; obtain ⟨As, cs, es⟩ := Kd.S_slice ho; subst es; have HS := zm1 (Kd.S_reads' ho).2.2; have nHO := zm1 (Kd.N_below HO3.out hb); have nHB := zm1 (below_step HB4.out hb); clear HO3 HB4; have HO3 := nHO; have HB4 := nHB; clear nHO nHB hb ho))
 have hma := HMA.out
 by_cases c200 : l.length ≤ 200
 case neg => rw [if_neg c200] at hma; cases hma
 rw [if_pos c200] at hma
 rw [← Ny122.out] at hma
 have HGO := zm1 (show spec_l07All.go k y122 (l.drop 0) = some r from hma)
 have L2 := zm1 c200
 have HY0 := zm1 (show (∀ s ∈ y122, s.length = 3) ∧ y122.length ≤ 0 by rw [Ny122.out]; exact ⟨fun s hs => (by cases hs), Nat.le_refl _⟩)
 clear hma c200 HMA HSD HQ HCQ HT HH HR0 HC0 HB Ny122
 go_wp2
 go_loopg [3, 13] l.length (fun kq v3 v13 w' => ∃ (x3 : List (List Int)) (j : Nat), v13 = .int .i64 (j : Int) ∧ Aside0 (spec_l07All.go k x3 (l.drop j) = some r) ∧ Aside0 (j + kq = l.length) ∧ Aside0 ((∀ s ∈ x3, s.length = 3) ∧ x3.length ≤ j) ∧ Aside0 (Kd.N (Kd.slice 3 (Kd.int .i64)) 22 w' w.heap.size (fun k_ => (w.heap.size ≤ k_)) v3 x3) ∧ Aside0 (Kd.C (Kd.slice 3 (Kd.int .i64)) w' As l.length l) ∧ Aside0 (Below w.heap.size w w'))
 case atStart => exact ⟨y122, 0, rfl, HGO, ⟨Nat.zero_add _⟩, HY0, ⟨by (with_reducible repeat (first | apply Kd.N_alloc | apply Kd.N_drewN | apply Kd.N_drew)); exact HO3.out⟩, ⟨by repeat (first | exact HS.out | (with_reducible refine Kd.C_alloc ?_ _) | (with_reducible refine Kd.C_drewN ?_ _) | (with_reducible refine Kd.C_drew ?_))⟩, ⟨by repeat (first | (with_reducible first | exact HB4.out | apply zc1 | apply zc2 | apply zc3) | exact HB4.out)⟩⟩
 case round =>
  clear HGO HY0 HO3 HS HB4
  obtain ⟨x3, j, rfl, HGO, HJ, HX, HO3, HS, HB⟩ := hrel
  by_cases c : j < l.length
  ·obtain ⟨dd, hd⟩ : ∃ dd, gk = dd + 1 := ⟨gk - 1, by have := HJ.out; omega⟩
   subst hd
   obtain ⟨ad, Ar, cr, e, hx, hlr, hir⟩ := spec_l07All.rowAt HS.out (j : Int) (by omega) (by omega)
   cases e
   replace hx : wr.cell? (ad.add j) = some (.slice Ar (l.getD j []).length cr) := hx
   replace hir : (Kd.int .i64).C wr Ar (l.getD j []).length (l.getD j []) := hir
   have hgo := HGO.out
   rw [List.drop_eq_getElem_cons c] at hgo
   rw [show l[j] = l.getD j [] by rw [List.getD_eq_getElem?_getD, List.getElem?_eq_getElem c]; rfl] at hgo
   generalize l.getD j [] = s at hx hir hgo hlr
   unfold spec_l07All.go at hgo
   rw [Option.bind_eq_some_iff] at hgo
   obtain ⟨o2, hst, hgo⟩ := hgo
   unfold spec_l07All.step at hst
   by_cases hs2 : s.length = 2
   case neg => rw [if_neg hs2] at hst; cases hst
   rw [if_pos hs2, Option.bind_eq_some_iff] at hst
   obtain ⟨d, hdir, hst⟩ := hst
   rw [Option.bind_eq_some_iff] at hst
   obtain ⟨g, hgcd, hst⟩ := hst
   by_cases hd2 : d.length = 2
   case neg => rw [if_neg hd2] at hst; cases hst
   rw [if_pos hd2] at hst
   have HO2 := zm1 (Option.some.inj hst)
   obtain ⟨asd, es, hy0, hy1⟩ := spec_l07All.two hir hs2
   subst es
   rw [hs2] at hx
   have HGO2 := zm1 hgo
   have HDIR := zm1 hdir
   have HGCD := zm1 hgcd
   have HD2 := zm1 hd2
   have cb : decide ((j : Int) < (l.length : Int)) = true := decide_eq_true (by omega)
   have cb2 : decide (j < l.length) = true := decide_eq_true (by omega)
   have p0 : ((0 : Int) ≤ (j : Int)) = True := eq_true (by omega)
   have p1 : ((j : Int) < (l.length : Int)) = True := eq_true (by omega)
   have p2 : (j < l.length) = True := eq_true c
   have CJ := zm1 c
   clear hgo hst hdir hgcd hd2 hs2 hlr hir HGO c
   go_upto_region 5 with (fail)
   go_cut [6] (fun v6 wx => ∃ (Ad : Option Addr) (cd : Nat), v6 = .slice Ad d.length cd ∧ Aside0 (Kd.C (Kd.int .i64) wx Ad d.length d) ∧ Aside0 (Below wr.heap.size wr wx))
   case first =>
    have HX5 := zm1 (Below.refl wr.heap.size wr)
    go_region_held3 (fun w' => w'.cell? asd = some (.int .i64 (rd s 0)) ∧ w'.cell? ⟨asd.block, asd.off + 1, none⟩ = some (.int .i64 (rd s 1))) ((refine spec_l07All.keep2 hy0 hy1 ?_; repeat (first | exact HX5.out | assumption | apply pw_below_drewN | apply below_drew1 | apply below_alloc))) (first | (go_at_call 68; (with_reducible refine (spec_l07Direction.calls k _ _ d _ HDIR.out).mono ?_); rintro e w8 ⟨v, rfl, ho, hb⟩; obtain ⟨Ad, cd, ed⟩ := Kd.R_slice ho; subst ed; have HD := zm1 (Kd.R_reads' ho).2.2; have nHX := zm1 (zc6 (by repeat (first | (with_reducible first | exact HX5.out | apply zc1 | apply zc2 | apply zc3) | exact HX5.out)) hb); clear HX5 hb ho; have HX5 := nHX; clear nHX))
    all_goals
     go_wp2
     go_meet
     case rel => exact ⟨Ad, cd, rfl, ⟨by repeat (first | exact HD.out | (with_reducible refine Kd.C_alloc ?_ _) | (with_reducible refine Kd.C_drewN ?_ _) | (with_reducible refine Kd.C_drew ?_))⟩, ⟨by repeat (first | (with_reducible first | exact HX5.out | apply zc1 | apply zc2 | apply zc3) | exact HX5.out)⟩⟩
   case rest =>
    obtain ⟨Ad, cd, rfl, HD, HX5⟩ := hcut
    obtain ⟨w1, hw_⟩ : ∃ w_, w_ = wc := ⟨_, rfl⟩
    subst hw_
    replace hy0 := (HX5.out.cell (zl hy0)).trans hy0
    replace hy1 := (HX5.out.cell (zl hy1)).trans hy1
    have nO := zm1 (Kd.N_below HO3.out HX5.out)
    have nS := zm1 (Kd.C_below HS.out HX5.out)
    have nB := zm1 (below_step HB.out HX5.out)
    clear HO3 HS HB HX5
    have HO3 := nO
    have HS := nS
    have HB := nB
    clear nO nS nB
    clear hx
    go_upto_region 6 with (fail)
    go_cut [7] (fun v7 wx => v7 = .int .i64 g ∧ Aside0 (Below w1.heap.size w1 wx))
    case first =>
     have HX5 := zm1 (Below.refl w1.heap.size w1)
     go_region_held3 (fun w' => w'.cell? asd = some (.int .i64 (rd s 0)) ∧ w'.cell? ⟨asd.block, asd.off + 1, none⟩ = some (.int .i64 (rd s 1))) ((refine spec_l07All.keep2 hy0 hy1 ?_; repeat (first | exact HX5.out | assumption | apply pw_below_drewN | apply below_drew1 | apply below_alloc))) (first | (go_at_call 69; (with_reducible refine (spec_l02Gcd.calls k _ _ g _ HGCD.out).mono ?_); rintro e w8 ⟨rfl, hb⟩; have nHX := zm1 (zc6 (by repeat (first | (with_reducible first | exact HX5.out | apply zc1 | apply zc2 | apply zc3) | exact HX5.out)) hb); clear HX5 hb; have HX5 := nHX; clear nHX))
     all_goals
      go_wp2
      go_meet
      case rel => exact ⟨rfl, ⟨by repeat (first | (with_reducible first | exact HX5.out | apply zc1 | apply zc2 | apply zc3) | exact HX5.out)⟩⟩
    case rest =>
     obtain ⟨rfl, HX5⟩ := hcut
     obtain ⟨w2, hw_⟩ : ∃ w_, w_ = wc := ⟨_, rfl⟩
     subst hw_
     replace hy0 := (HX5.out.cell (zl hy0)).trans hy0
     replace hy1 := (HX5.out.cell (zl hy1)).trans hy1
     have nO := zm1 (Kd.N_below HO3.out HX5.out)
     have nS := zm1 (Kd.C_below HS.out HX5.out)
     have nB := zm1 (below_step HB.out HX5.out)
     have nD := zm1 (Kd.C_below HD.out HX5.out)
     clear HD
     have HD := nD
     clear nD
     clear HO3 HS HB HX5
     have HO3 := nO
     have HS := nS
     have HB := nB
     clear nO nS nB
     obtain ⟨add, ed, hd0, hd1⟩ := spec_l07All.two HD.out HD2.out
     subst ed
     rw [HD2.out]
     clear HD
     obtain ⟨z0, hz0⟩ : ∃ z0 : Int, z0 = wrap64 (rd d 0 * g) := ⟨_, rfl⟩
     obtain ⟨z1, hz1⟩ : ∃ z1 : Int, z1 = wrap64 (rd d 1 * g) := ⟨_, rfl⟩
     have hz0w : IntKind.i64.wrap (rd d 0 * g) = z0 := by rw [i64_w]; exact hz0.symm
     have hz1w : IntKind.i64.wrap (rd d 1 * g) = z1 := by rw [i64_w]; exact hz1.symm
     have HOF := zm1 (show spec_l07All.off s d g = (decide (¬ rd s 0 = z0) || decide (¬ rd s 1 = z1)) by unfold spec_l07All.off; rw [← hz0, ← hz1])
     clear hz0 hz1
     go_upto_region 7 with (fail)
     go_cut [50] (fun v50 wx => v50 = .bool (spec_l07All.off s d g) ∧ Aside0 (Below w2.heap.size w2 wx))
     case first =>
      by_cases d0 : rd s 0 = z0
      ·have b0 : (rd s 0 == z0) = true := beq_iff_eq.mpr d0
       have b0' : (rd s 0 != z0) = false := bne_eq_false_iff_eq.mpr d0
       by_cases d1 : rd s 1 = z1
       ·have b1 : (rd s 1 == z1) = true := beq_iff_eq.mpr d1
        have b1' : (rd s 1 != z1) = false := bne_eq_false_iff_eq.mpr d1
        have HH := zm1 (show spec_l07All.off s d g = false by rw [HOF.out, decide_eq_false (not_not_intro d0), decide_eq_false (not_not_intro d1)]; rfl)
        clear d0 d1 HOF
        try simp only [List.append_eq, List.cons_append, List.nil_append]
        go_quiet (fail)
        all_goals
         go_wp2
         go_meet
         case rel => exact ⟨(by rw [HH.out]), ⟨by repeat (first | (with_reducible first | exact Below.refl _ _ | apply zc1 | apply zc2 | apply zc3) | exact Below.refl _ _)⟩⟩
       ·have b1 : (rd s 1 == z1) = false := beq_eq_false_iff_ne.mpr d1
        have b1' : (rd s 1 != z1) = true := bne_iff_ne.mpr d1
        have HH := zm1 (show spec_l07All.off s d g = true by rw [HOF.out, decide_eq_true d1, Bool.or_true])
        clear d0 d1 HOF
        try simp only [List.append_eq, List.cons_append, List.nil_append]
        go_quiet (fail)
        all_goals
         go_wp2
         go_meet
         case rel => exact ⟨(by rw [HH.out]), ⟨by repeat (first | (with_reducible first | exact Below.refl _ _ | apply zc1 | apply zc2 | apply zc3) | exact Below.refl _ _)⟩⟩
      ·have b0 : (rd s 0 == z0) = false := beq_eq_false_iff_ne.mpr d0
       have b0' : (rd s 0 != z0) = true := bne_iff_ne.mpr d0
       have HH := zm1 (show spec_l07All.off s d g = true by rw [HOF.out, decide_eq_true d0, Bool.true_or])
       clear d0 HOF
       try simp only [List.append_eq, List.cons_append, List.nil_append]
       go_quiet (fail)
       all_goals
        go_wp2
        go_meet
        case rel => exact ⟨(by rw [HH.out]), ⟨by repeat (first | (with_reducible first | exact Below.refl _ _ | apply zc1 | apply zc2 | apply zc3) | exact Below.refl _ _)⟩⟩
     case rest =>
      obtain ⟨rfl, HX5⟩ := hcut
      clear hz0w hz1w HOF hy0 hy1
      obtain ⟨w3, hw_⟩ : ∃ w_, w_ = wc := ⟨_, rfl⟩
      subst hw_
      replace hd0 := (HX5.out.cell (zl hd0)).trans hd0
      replace hd1 := (HX5.out.cell (zl hd1)).trans hd1
      have nO := zm1 (Kd.N_below HO3.out HX5.out)
      have nS := zm1 (Kd.C_below HS.out HX5.out)
      have nB := zm1 (below_step HB.out HX5.out)
      clear HO3 HS HB HX5
      have HO3 := nO
      have HS := nS
      have HB := nB
      clear nO nS nB
      go_upto_if 50 with (fail)
      go_cut [7] (fun v7 wx => v7 = .int .i64 (spec_l07All.sgn s d g) ∧ Aside0 (Below w3.heap.size w3 wx))
      case first =>
       cases ho : spec_l07All.off s d g with
       | true =>
        have HH := zm1 (show spec_l07All.sgn s d g = wrap64 (-g) by unfold spec_l07All.sgn; rw [ho, if_pos rfl])
        clear ho
        go_wp2
        go_meet
        case rel => exact ⟨(by rw [HH.out]; first | done | rfl | (rw [i64_w])), ⟨by repeat (first | (with_reducible first | exact Below.refl _ _ | apply zc1 | apply zc2 | apply zc3) | exact Below.refl _ _)⟩⟩
       | false =>
        have HH := zm1 (show spec_l07All.sgn s d g = g by unfold spec_l07All.sgn; rw [ho]; rfl)
        clear ho
        go_wp2
        go_meet
        case rel => exact ⟨(by rw [HH.out]), ⟨by repeat (first | (with_reducible first | exact Below.refl _ _ | apply zc1 | apply zc2 | apply zc3) | exact Below.refl _ _)⟩⟩
      case rest =>
       obtain ⟨rfl, HX5⟩ := hcut
       obtain ⟨w4, hw_⟩ : ∃ w_, w_ = wc := ⟨_, rfl⟩
       subst hw_
       replace hd0 := (HX5.out.cell (zl hd0)).trans hd0
       replace hd1 := (HX5.out.cell (zl hd1)).trans hd1
       have nO := zm1 (Kd.N_below HO3.out HX5.out)
       have nS := zm1 (Kd.C_below HS.out HX5.out)
       have nB := zm1 (below_step HB.out HX5.out)
       clear HO3 HS HB HX5
       have HO3 := nO
       have HS := nS
       have HB := nB
       clear nO nS nB
       obtain ⟨n, hnn⟩ : ∃ n, n = spec_l07All.sgn s d g := ⟨_, rfl⟩
       rw [← hnn]
       have HN := zm1 hnn
       clear hnn
       try go_wp2
       try simp only [List.append_eq, List.cons_append, List.nil_append]
       have nO := zm1 (Kd.N_drew HO3.out)
       have nS := zm1 (Kd.C_drew HS.out)
       have nB := zm1 (below_drew1 HB.out)
       have ne0 : w4.drew.cell? add = some (Value.int IntKind.i64 (rd d 0)) := hd0
       have ne1 : w4.drew.cell? ⟨add.block, add.off + 1, none⟩ = some (Value.int IntKind.i64 (rd d 1)) := hd1
       clear HO3 HS HB hd0 hd1
       have HO3 := nO
       have HS := nS
       have HB := nB
       clear nO nS nB
       obtain ⟨ym, hym⟩ : ∃ y_ : List Int, y_ = (([rd d 0, rd d 1, n] : List Int)) := ⟨_, rfl⟩
       have Nym := zm1 hym
       clear hym
       refine start_ (n := 11) (S := fun w' => w'.cell? add = some (.int .i64 (rd d 0)) ∧ w'.cell? ⟨add.block, add.off + 1, none⟩ = some (.int .i64 (rd d 1))) (ds := []) #[false,false,false,false,false,false,false,false,false,false,false] (by kernel_rfl) rfl rfl ⟨ne0, ne1⟩ (fun hHeld => ?_)
       refine with_tabW spec_l07All.tab9 spec_l07All.bits9 (fun HT_ HW_ => ?_)
       generalize w4.drew = w5 at HO3 HS HB ne0 ne1 hHeld ⊢
       clear ne0 ne1
       refine pure_ (i := 0) (N := some 53) (v := ?_) (a' := ?_) #[true,false,false,false,false,false,false,false,false,false,false] rfl rfl (any_of HT_.out (by kernel_rfl)) (fun _ _ _ h => h) (Or.inl ⟨by rfl, ?_⟩) ?_ ?_
       rotate_left
       ·intro w'
        go_simp
        with_reducible rfl
       rotate_left
       ·simp only [Act.put, zs1, zs2, zs3, i64_w, i32_w]
        rfl
       refine pure_ (i := 1) (N := some 54) (v := ?_) (a' := ?_) #[true,true,false,false,false,false,false,false,false,false,false] rfl rfl (any_of HT_.out (by kernel_rfl)) (fun _ _ _ h => h) (Or.inl ⟨by rfl, ?_⟩) ?_ ?_
       rotate_left
       ·intro w'
        go_simp
        with_reducible rfl
       rotate_left
       ·simp only [Act.put, zs1, zs2, zs3, i64_w, i32_w]
        rfl
       refine pure_ (i := 2) (N := some 55) (v := ?_) (a' := ?_) #[true,true,true,false,false,false,false,false,false,false,false] rfl rfl (any_of HT_.out (by kernel_rfl)) (fun _ _ _ h => h) (Or.inl ⟨by rfl, ?_⟩) ?_ ?_
       rotate_left
       ·intro w'
        go_simp
        with_reducible rfl
       rotate_left
       ·simp only [Act.put, zs1, zs2, zs3, i64_w, i32_w]
        rfl
       refine pure_ (i := 4) (N := some 57) (v := ?_) (a' := ?_) #[true,true,true,false,true,false,false,false,false,false,false] rfl rfl (any_of HT_.out (by kernel_rfl)) (fun _ _ _ h => h) (Or.inl ⟨by rfl, ?_⟩) ?_ ?_
       rotate_left
       ·intro w'
        go_simp
        with_reducible rfl
       rotate_left
       ·simp only [Act.put, zs1, zs2, zs3, i64_w, i32_w]
        rfl
       refine pure_ (i := 5) (N := some 58) (v := ?_) (a' := ?_) #[true,true,true,false,true,true,false,false,false,false,false] rfl rfl (any_of HT_.out (by kernel_rfl)) (fun _ _ _ h => h) (Or.inl ⟨by rfl, ?_⟩) ?_ ?_
       rotate_left
       ·intro w'
        go_simp
        with_reducible rfl
       rotate_left
       ·simp only [Act.put, zs1, zs2, zs3, i64_w, i32_w]
        rfl
       refine pure_ (i := 7) (N := some 60) (v := ?_) (a' := ?_) #[true,true,true,false,true,true,false,true,false,false,false] rfl rfl (any_of HT_.out (by kernel_rfl)) (fun _ _ _ h => h) (Or.inl ⟨by rfl, ?_⟩) ?_ ?_
       rotate_left
       ·intro w'
        go_simp
        with_reducible rfl
       rotate_left
       ·simp only [Act.put, zs1, zs2, zs3, i64_w, i32_w]
        rfl
       refine take_ (i := 3) (N := some 56) (v := ?_) (a' := ?_) #[true,true,true,true,true,true,false,true,false,false,false] rfl rfl (take_ofW HT_.out HW_.out (by kernel_rfl)) (fun _ _ _ h => h) (Or.inl ⟨by rfl, ?_⟩) hHeld ?_ ?_
       rotate_left
       ·rintro w' ⟨s0, s1⟩
        go_simp
        with_reducible rfl
       rotate_left
       ·simp only [Act.put, zs1, zs2, zs3, i64_w, i32_w]
        rfl
       refine take_ (i := 6) (N := some 59) (v := ?_) (a' := ?_) #[true,true,true,true,true,true,true,true,false,false,false] rfl rfl (take_ofW HT_.out HW_.out (by kernel_rfl)) (fun _ _ _ h => h) (Or.inl ⟨by rfl, ?_⟩) hHeld ?_ ?_
       rotate_left
       ·rintro w' ⟨s0, s1⟩
        go_simp
        with_reducible rfl
       rotate_left
       ·simp only [Act.put, zs1, zs2, zs3, i64_w, i32_w]
        rfl
       refine one_ (i := 8) (N := some 61) #[true,true,true,true,true,true,true,true,true,false,false] rfl rfl (one_of HT_.out (by kernel_rfl)) (by decide) (fun K hK => ?_)
       refine Kd.R_lit_step (Kd.int .i64) _ 3 ?hg (N := 61) ?hd (xs := ([rd d 0, rd d 1, n] : List Int)) (inner := [.int .i64 (rd d 0), .int .i64 (rd d 1), .int .i64 n]) (ok := fun _ => True) (okp := fun _ => True) ?hr ?hp (fun _ hk => hk) trivial (Below.refl _ _) (Nat.le_refl _) (by simp) ?_; (case hd => rfl); (case hg => rfl); (case hr => first | (go_simp; done) | (go_simp; rfl)); (case hp => exact (Reps.one (show Kd.M (Kd.int .i64) _ _ _ (rd d 0) [.int .i64 (rd d 0)] from rfl) (Reps.one (show Kd.M (Kd.int .i64) _ _ _ (rd d 1) [.int .i64 (rd d 1)] from rfl) (Reps.one (show Kd.M (Kd.int .i64) _ _ _ n [.int .i64 n] from rfl) (Reps.none _ _)))))
       intro vm w6 hom hb hg_ hnew_
       clear hg_ hnew_
       (first | rw [← Nym.out] at hom | (simp only [Int.reduceToNat] at hom; rw [← Nym.out] at hom))
       have HS0_ := (hb.cell (zl (hHeld.1))).trans (hHeld.1)
       have HS1_ := (hb.cell (zl (hHeld.2))).trans (hHeld.2)
       have nO := zm1 (Kd.N_below HO3.out hb)
       have nS := zm1 (Kd.C_below HS.out hb)
       have nB := zm1 (below_step HB.out hb)
       clear HO3 HS HB
       have HO3 := nO
       have HS := nS
       have HB := nB
       clear nO nS nB hb
       obtain ⟨Am, cm, em⟩ := Kd.R_slice hom
       subst em
       have HOM := zm1 hom
       clear hom
       refine hK.out _ _ ⟨HS0_, HS1_⟩ (fun hHeld => ?_)
       clear hK K
       refine norm_ (a' := ?_) ?_ ?_
       rotate_left
       ·show Act.put _ (some 61) _ = _
        simp only [Act.put, zs1, zs2, zs3, i64_w, i32_w]
        rfl
       obtain ⟨Ao, co, eo⟩ := Kd.N_slice HO3.out
       subst eo
       refine one_ (i := 9) (N := some 62) #[true,true,true,true,true,true,true,true,true,true,false] rfl rfl (one_of HT_.out (by kernel_rfl)) (by decide) (fun K hK => ?_)
       refine goes_ Tryd.func70 (by kernel_rfl) rfl #[.slice Ao x3.length co, .slice Am ym.length cm] (by rfl) rfl rfl (by (try simp only [List.map_toArray, List.map_cons, List.map_nil]); first | done | rfl | (simp only [List.length_drop, List.length_take]; rfl)) ?_
       with_reducible refine (spec_l07All.puts (fun k_ => w.heap.size ≤ k_) Ao co x3 Am cm ym _ ?side1 ?side2 ?side3 ?side4 ?side5 ?side6).mono ?_
       (case side1 => exact Kd.N_V (HO3.out))
       (case side2 => exact (Kd.R_reads' HOM.out).2.2)
       (case side3 => exact (Kd.R_reads' HOM.out).2.1)
       (case side4 => rw [Nym.out]; rfl)
       (case side5 => exact HX.out.1)
       (case side6 => have h1 := HX.out.2; have h2 := L2.out; have h3 := CJ.out; omega)
       rintro e w7 ⟨v9, rfl, ho0, hb⟩
       have HS0_ := (hb.cell (zl (hHeld.1))).trans (hHeld.1)
       have HS1_ := (hb.cell (zl (hHeld.2))).trans (hHeld.2)
       refine ⟨_, rfl, ?_⟩
       have HWS := zm1 (below_size HB.out)
       have nO := zm1 (Kd.N_lower (Kd.N_mono (ok' := fun k_ => w.heap.size ≤ k_) ho0 (fun k_ hk_ => Or.elim hk_ (fun h_ => h_) (fun h_ => Nat.le_trans HWS.out h_))) HWS.out)
       have nS := zm1 (Kd.C_below HS.out hb)
       have nB := zm1 (below_step HB.out hb)
       clear HO3 HS HB HWS HOM ho0 hb
       have HO3 := nO
       have HS := nS
       have HB := nB
       clear nO nS nB
       refine hK.out _ _ ⟨HS0_, HS1_⟩ (fun hHeld => ?_)
       clear hK K
       refine norm_ (a' := ?_) ?_ ?_
       rotate_left
       ·show Act.put _ (some 62) _ = _
        simp only [Act.put, zs1, zs2, zs3, i64_w, i32_w]
        rfl
       refine pure_ (i := 10) (N := some 3) (v := ?_) (a' := ?_) #[true,true,true,true,true,true,true,true,true,true,true] rfl rfl (any_of HT_.out (by kernel_rfl)) (fun _ _ _ h => h) (Or.inl ⟨by rfl, ?_⟩) ?_ ?_
       rotate_left
       ·intro w'
        go_simp
        with_reducible rfl
       rotate_left
       ·simp only [Act.put, zs1, zs2, zs3, i64_w, i32_w]
        rfl
       refine done_ (done_of HT_.out (by kernel_rfl)) ?_
       have hw : IntKind.i64.wrap ((j : Int) + 1) = (j : Int) + 1 := by rw [i64_w]; unfold wrap64; have := L2.out; have := CJ.out; omega
       have hpo : spec_l07All.put x3 ym = o2 := by rw [Nym.out, HN.out]; exact HO2.out
       have HP3 := zm1 (show (∀ s ∈ o2, s.length = 3) ∧ o2.length ≤ j + 1 from by
        rw [← hpo]
        refine ⟨spec_l07All.put_row HX.out.1, ?_⟩
        have h1 := spec_l07All.put_len x3 ym
        have h2 := HX.out.2
        omega)
       rw [hpo] at HO3
       clear hpo
       try go_wp2
       go_roundg dd
       case measure => omega
       case rel => exact ⟨o2, j + 1, by first | rfl | (simp; done), HGO2, ⟨by have := HJ.out; omega⟩, HP3, ⟨by (with_reducible repeat (first | apply Kd.N_alloc | apply Kd.N_drewN | apply Kd.N_drew)); exact HO3.out⟩, ⟨by repeat (first | exact HS.out | (with_reducible refine Kd.C_alloc ?_ _) | (with_reducible refine Kd.C_drewN ?_ _) | (with_reducible refine Kd.C_drew ?_))⟩, ⟨by repeat (first | (with_reducible first | exact HB.out | apply zc1 | apply zc2 | apply zc3) | exact HB.out)⟩⟩
  ·have hgk : gk = 0 := by have := HJ.out; omega
   subst hgk
   have hgo := HGO.out
   rw [List.drop_eq_nil_of_le (by omega)] at hgo
   unfold spec_l07All.go at hgo
   obtain rfl := Option.some.inj hgo
   have cb : decide ((j : Int) < (l.length : Int)) = false := decide_eq_false (by omega)
   have cb2 : decide (j < l.length) = false := decide_eq_false (by omega)
   have cb3 : (j < l.length) = False := eq_false c
   clear hgo c HGO
   go_wp2
   go_ret
   exact ⟨_, rfl, by (with_reducible repeat (first | apply Kd.N_alloc | apply Kd.N_drewN | apply Kd.N_drew)); exact HO3.out, by repeat (first | (with_reducible first | exact HB.out | apply zc1 | apply zc2 | apply zc3) | exact HB.out)⟩

end Go.Proofs.YtelhjgkjnlcomaaDoor.QFnExactMeasureLine
