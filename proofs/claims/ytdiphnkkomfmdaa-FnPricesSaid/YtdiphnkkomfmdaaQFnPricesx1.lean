-- Printed for this claim by a changed copy of the kit's print (the session's own; own contracts in place of some functions).
import Derived.Test.YtdiphnkkomfmdaaQFnPricesx0
namespace Go.Proofs.Ytdiphnkkomfmdaa.QFnPrices
open Go.RowKit Go.Proofs.YtdiphnkkomfmdaaW.PrintWords Go.Proofs.YtdiphnkkomfmdaaW.PrintLast Go.Proofs.YtdiphnkkomfmdaaW.PrintMore
attribute [local go_sem] max2_int min2_int max_two min_two max_three min_three max_four min_four   -- for this text's walks alone
set_option linter.unusedVariables false
set_option linter.unusedSimpArgs false

-- NOT PRINTED: function 122 (slices_IndexFunc_int)

-- NOT PRINTED: function 106 (slices_ContainsFunc_int)

/-! ### impl_areWithin: function 74 -/
--import Derived.WalkSpells
--import Derived.Deep.QuietTactic
--import Derived.BigQuiet
def impl_areWithin.ok (lo hi x : Int) : Bool := decide (lo ≤ x) && decide (x ≤ hi)
def impl_areWithin.f (l0 : List Int) (a1 a2 : Int) : Option Bool := some (l0.all (impl_areWithin.ok a1 a2))
theorem impl_areWithin.within (a0 : Int) (a1 : Int) (a2 : Int) (t : Bool) (w : World) (ht : impl_areWithin.ok a1 a2 a0 = t) :
    Calls Try.prog 76 #[.int .i64 a0, .int .i64 a1, .int .i64 a2] w fun e w' => e = .returned (.bool t) ∧ Drawn0 w w' := by
  subst ht
  unfold impl_areWithin.ok
  by_cases c4 : a1 ≤ a0
  · have c4b0 : decide (a1 ≤ a0) = true := decide_eq_true c4
    rw [c4b0, Bool.true_and]
    clear c4
    go_enter Try.func76, Try.ntmps76
    go_wp2
    go_ret
    exact ⟨by first | rfl | (simp; done) | (simp [*]; done), by repeat (first | exact Drawn0.refl _ | apply Drawn0.step)⟩
  · have c4b0 : decide (a1 ≤ a0) = false := decide_eq_false c4
    rw [c4b0, Bool.false_and]
    clear c4
    go_enter Try.func76, Try.ntmps76
    go_wp2
    go_ret
    exact ⟨by first | rfl | (simp; done) | (simp [*]; done), by repeat (first | exact Drawn0.refl _ | apply Drawn0.step)⟩
theorem impl_areWithin.cellN {w : World} {p : Addr} {v : Value} (h : w.cell? p = some v) (m : Nat) : (w.drewN m).cell? p = some v := by simpa using h
set_option maxHeartbeats 4000000 in
theorem impl_areWithin.pred (n lo hi : Int) (b1 b2 : Nat) (t : Bool) (w : World) (h1 : w.cell? ⟨b1, 0, none⟩ = some (.int .i64 lo)) (h2 : w.cell? ⟨b2, 0, none⟩ = some (.int .i64 hi)) (ht : impl_areWithin.ok lo hi n = t) :
    Calls Try.prog 107 #[.int .i64 n, .pointer (some ⟨b1, 0, none⟩), .pointer (some ⟨b2, 0, none⟩)] w fun e w' => e = .returned (.bool (!t)) ∧ ∃ m, w' = w.drewN m := by
  have HW := Aside0.mk ht
  clear ht
  go_enter Try.func107, Try.ntmps107
  go_wp2_with (first | (go_at_call 76; (with_reducible refine (impl_areWithin.within n lo hi t _ HW.out).mono ?_); rintro e w1 ⟨rfl, ⟨m1, rfl⟩⟩))
  go_ret
  exact ⟨rfl, by first | exact ⟨_, rfl⟩ | simp⟩
def impl_areWithin.IxPost (l : List Int) (lo hi : Int) (w : World) (e : Ending) (w' : World) : Prop := ∃ i : Int, e = .returned (.int .i64 i) ∧ (if l.all (impl_areWithin.ok lo hi) = true then i = -1 else 0 ≤ i) ∧ Drawn0 w w'
theorem impl_areWithin.all_of {l : List Int} {lo hi : Int} (h : ∀ j : Nat, j < l.length → impl_areWithin.ok lo hi (l.getD j 0) = true) : l.all (impl_areWithin.ok lo hi) = true := by
  rw [List.all_eq_true]
  intro x hx
  obtain ⟨j, hj, rfl⟩ := List.getElem_of_mem hx
  have := h j hj
  rwa [List.getD_eq_getElem?_getD, List.getElem?_eq_getElem hj] at this
theorem impl_areWithin.all_not {l : List Int} {lo hi : Int} {j : Nat} (hj : j < l.length) (h : impl_areWithin.ok lo hi (l.getD j 0) = false) : ¬ l.all (impl_areWithin.ok lo hi) = true := by
  rw [List.all_eq_true]
  intro h2
  rw [List.getD_eq_getElem?_getD, List.getElem?_eq_getElem hj] at h
  have h3 := h2 _ (List.getElem_mem hj)
  rw [Option.getD_some] at h
  rw [h] at h3
  cases h3
set_option maxHeartbeats 4000000 in
theorem impl_areWithin.index (A0 : Option Addr) (c0 : Nat) (l : List Int) (lo hi : Int) (b1 b2 : Nat) (w : World) (hr : Kd.C (Kd.int .i64) w A0 l.length l) (h1 : w.cell? ⟨b1, 0, none⟩ = some (.int .i64 lo)) (h2 : w.cell? ⟨b2, 0, none⟩ = some (.int .i64 hi)) :
    Calls Try.prog 122 #[.slice A0 l.length c0, .func (.func 107) #[] #[.pointer (some ⟨b1, 0, none⟩), .pointer (some ⟨b2, 0, none⟩)]] w (impl_areWithin.IxPost l lo hi w) := by
  have HR := Aside0.mk hr
  have hm := Kd.C_max hr
  have HM := Aside0.mk hm
  have H1 := Aside0.mk h1
  have H2 := Aside0.mk h2
  clear hr hm h1 h2
  go_enter Try.func122, Try.ntmps122
  go_wp2
  go_loopg [8] l.length (fun kq v8 w' => ∃ i : Int, v8 = .int .i64 i ∧ Aside0 (0 ≤ i ∧ i + kq = (l.length : Int)) ∧ Aside0 (∀ j : Nat, (j : Int) < i → impl_areWithin.ok lo hi (l.getD j 0) = true) ∧ Drawn0 w w')
  case atStart => exact ⟨0, (by first | rfl | (simp; done) | (simp [*]; done)), ⟨by omega⟩, ⟨fun j hj => by omega⟩, by repeat (first | exact Drawn0.refl _ | apply Drawn0.step)⟩
  case round =>
    obtain ⟨i, rfl, HI, HJ, ⟨m1, rfl⟩⟩ := hrel
    have hI := HI.out
    by_cases c : i < (l.length : Int)
    · have c1 : decide (i < (l.length : Int)) = true := decide_eq_true c
      have c2 : 0 ≤ i := hI.1
      obtain ⟨ad, e, hx⟩ := Kd.at_int (Kd.C_drewN HR.out m1) i c2 c
      cases e
      have hxe : rd l i = l.getD i.toNat 0 := rfl
      rw [hxe] at hx
      generalize hxi : l.getD i.toNat 0 = x at hx
      have HX := Aside0.mk hxi
      have HCI := Aside0.mk c
      clear hxi hI hxe
      replace c := eq_true c
      replace c2 := eq_true c2
      cases hb : impl_areWithin.ok lo hi x with
      | true =>
        have HB := Aside0.mk hb
        clear hb
        go_wp2_with (first | (go_at_call 107; (with_reducible refine (impl_areWithin.pred x lo hi b1 b2 true _ (impl_areWithin.cellN H1.out m1) (impl_areWithin.cellN H2.out m1) HB.out).mono ?_); rintro e w1 ⟨rfl, ⟨m2, rfl⟩⟩))
        go_roundg (l.length - (i.toNat + 1))
        case measure => have := HI.out; have := HCI.out; omega
        case rel => exact ⟨i + 1, (by have := HI.out; have := HM.out; have := HCI.out; rw [show wrap64 (i + 1) = i + 1 by unfold wrap64; omega]), ⟨by have := HI.out; have := HCI.out; omega⟩, ⟨fun j hj => by
          by_cases e : (j : Int) = i
          · rw [show j = i.toNat by omega, HX.out]; exact HB.out
          · exact HJ.out j (by omega)⟩, by repeat (first | exact Drawn0.refl _ | apply Drawn0.step)⟩
      | false =>
        have HB := Aside0.mk hb
        clear hb
        go_wp2_with (first | (go_at_call 107; (with_reducible refine (impl_areWithin.pred x lo hi b1 b2 false _ (impl_areWithin.cellN H1.out m1) (impl_areWithin.cellN H2.out m1) HB.out).mono ?_); rintro e w1 ⟨rfl, ⟨m2, rfl⟩⟩))
        go_ret
        refine ⟨i, rfl, ?_, by repeat (first | exact Drawn0.refl _ | apply Drawn0.step)⟩
        rw [if_neg (impl_areWithin.all_not (j := i.toNat) (by have := HI.out; have := HCI.out; omega) (by rw [HX.out]; exact HB.out))]
        exact HI.out.1
    · have c1 : decide (i < (l.length : Int)) = false := decide_eq_false c
      have HCI := Aside0.mk c
      clear hI c
      go_wp2
      go_ret
      refine ⟨-1, rfl, ?_, by repeat (first | exact Drawn0.refl _ | apply Drawn0.step)⟩
      rw [if_pos (impl_areWithin.all_of (fun j hj => HJ.out j (by have := HI.out; have := HCI.out; omega)))]
set_option maxHeartbeats 4000000 in
theorem impl_areWithin.contains (A0 : Option Addr) (c0 : Nat) (l : List Int) (lo hi : Int) (b1 b2 : Nat) (t : Bool) (w : World) (hr : Kd.C (Kd.int .i64) w A0 l.length l) (h1 : w.cell? ⟨b1, 0, none⟩ = some (.int .i64 lo)) (h2 : w.cell? ⟨b2, 0, none⟩ = some (.int .i64 hi)) (ht : l.all (impl_areWithin.ok lo hi) = t) :
    Calls Try.prog 106 #[.slice A0 l.length c0, .func (.func 107) #[] #[.pointer (some ⟨b1, 0, none⟩), .pointer (some ⟨b2, 0, none⟩)]] w fun e w' => e = .returned (.bool (!t)) ∧ Drawn0 w w' := by
  have HR := Aside0.mk hr
  have HT := Aside0.mk ht
  have H1 := Aside0.mk h1
  have H2 := Aside0.mk h2
  clear hr ht h1 h2
  go_enter Try.func106, Try.ntmps106
  go_wp2_with fail
  go_at_call 122
  (with_reducible refine (impl_areWithin.index _ _ l lo hi b1 b2 _ HR.out H1.out H2.out).mono ?_)
  rintro e w1 ⟨i, rfl, hi, ⟨m, rfl⟩⟩
  rw [HT.out] at hi
  cases t with
  | true =>
    rw [if_pos rfl] at hi
    subst hi
    go_wp2
    go_ret
    exact ⟨rfl, by repeat (first | exact Drawn0.refl _ | apply Drawn0.step)⟩
  | false =>
    rw [if_neg (by decide)] at hi
    have b : decide (0 ≤ i) = true := decide_eq_true hi
    clear hi
    go_wp2
    go_ret
    exact ⟨rfl, by repeat (first | exact Drawn0.refl _ | apply Drawn0.step)⟩
set_option maxHeartbeats 4000000 in
theorem impl_areWithin.calls (A0 : Option Addr) (c0 : Nat) (l0 : List Int) (a1 a2 : Int) (r : Bool) (w : World) (hr0 : Kd.C (Kd.int .i64) w A0 l0.length l0) (hc0 : l0.length ≤ c0) (h : impl_areWithin.f l0 a1 a2 = some r) :
    Calls Try.prog 74 #[.slice A0 l0.length c0, .int .i64 a1, .int .i64 a2] w fun e w' => e = .returned (.bool r) ∧ Below w.heap.size w w' := by
  have HT := Aside0.mk (Option.some.inj h)
  have HR := Aside0.mk hr0
  have HB := Aside0.mk (Below.refl w.heap.size w)
  clear hr0 hc0 h
  go_enter Try.func74, Try.ntmps74
  go_upto_region 1 with (first | ((with_reducible refine gate_dst (N := 4) rfl ?_); refine box_event ?hg (N := 4) ?hd (cs := #[.int .i64 a1]) (t := 3) ?hr ?_; (case hd => rfl); (case hg => rfl); (case hr => first | (go_simp; done) | (go_simp; rfl)); intro g1 hg w4 hbox hb; have B1 := Aside0.mk hbox; have n0_ := Aside0.mk (below_step (by repeat (first | (with_reducible first | exact HB.out | apply below_alloc | apply pw_below_drewN | apply below_drew1) | exact HB.out)) hb); clear HB hg hbox hb; have HB := n0_; clear n0_) | ((with_reducible refine gate_dst (N := 5) rfl ?_); refine box_event ?hg (N := 5) ?hd (cs := #[.int .i64 a2]) (t := 3) ?hr ?_; (case hd => rfl); (case hg => rfl); (case hr => first | (go_simp; done) | (go_simp; rfl)); intro g2 hg w5 hbox hb; have B2 := Aside0.mk hbox; have n1_ := Aside0.mk (blk_below (g := g1) (o := .cells #[.int .i64 a1] 3 (0, 0)) (by (with_reducible repeat (first | refine blk_drewN ?_ _ | refine blk_drew ?_ | refine blk_alloc ?_ _)); exact B1.out) hb); have n0_ := Aside0.mk (below_step (by repeat (first | (with_reducible first | exact HB.out | apply below_alloc | apply pw_below_drewN | apply below_drew1) | exact HB.out)) hb); clear HB B1 hg hbox hb; have HB := n0_; have B1 := n1_; clear n0_ n1_))
  go_wp2_with (first | (go_at_call 106; (with_reducible refine (impl_areWithin.contains A0 c0 l0 a1 a2 g1 g2 r _ (Kd.C_below HR.out HB.out) ((blk_cell B1.out 0).trans rfl) ((blk_cell B2.out 0).trans rfl) HT.out).mono ?_); rintro e w1 ⟨rfl, ⟨m, rfl⟩⟩))
  go_ret
  exact ⟨by cases r <;> rfl, by repeat (first | exact HB.out | apply pw_below_drewN | apply below_drew1)⟩

/-! ### impl_sumOf: function 75 -/
def impl_sumOf.l0 : Nat → Int → List Int → Int → Int → Option (Int)
  | 0, _, _, _, _ => none
  | k + 1, x3, x6, x7, x8 => if x8 < x7 then (if 0 ≤ x8 then (if x8 < (x6.length : Int) then (impl_sumOf.l0 k (wrap64 (x3 + (rd x6 x8))) x6 x7 (wrap64 (x8 + 1))) else (none)) else (none)) else (some x3)
def impl_sumOf.f (k : Nat) (l0 : List Int) : Option (Int) := impl_sumOf.l0 k 0 l0 (l0.length : Int) 0
theorem impl_sumOf.mono_l : ∀ k, (∀ y0 y1 y2 y3, LeO (impl_sumOf.l0 k y0 y1 y2 y3) (impl_sumOf.l0 (k + 1) y0 y1 y2 y3))
  | 0 => fun _ _ _ _ r h => by simp [impl_sumOf.l0] at h
  | k + 1 => by
    have ih0 := impl_sumOf.mono_l k
    · intro y0 y1 y2 y3
      unfold impl_sumOf.l0
      repeat' first
      | (with_reducible exact ih0 _ _ _ _)
      | (with_reducible exact LeO.refl _)
      | (with_reducible exact LeO.none _)
      | (with_reducible refine LeO.ite ?_ ?_)
      | (with_reducible refine LeO.bind ?_ (fun _ => ?_))
      | exact ih0 _ _ _ _
      | exact LeO.none _
      | refine LeO.ite ?_ ?_
      | refine LeO.bind ?_ (fun _ => ?_)
theorem impl_sumOf.mono : ∀ a0 k, LeO (impl_sumOf.f k a0) (impl_sumOf.f (k + 1) a0) := by
  intro a0 k
  have ih0 := impl_sumOf.mono_l k
  unfold impl_sumOf.f
  repeat' first
      | (with_reducible exact ih0 _ _ _ _)
      | (with_reducible exact LeO.refl _)
      | (with_reducible exact LeO.none _)
      | (with_reducible refine LeO.ite ?_ ?_)
      | (with_reducible refine LeO.bind ?_ (fun _ => ?_))
      | exact ih0 _ _ _ _
      | exact LeO.none _
      | refine LeO.ite ?_ ?_
      | refine LeO.bind ?_ (fun _ => ?_)
set_option maxHeartbeats 8000000 in
set_option maxRecDepth 100000 in
theorem impl_sumOf.calls (k : Nat) (A0 : Option Addr) (c0 : Nat) (l0 : List Int) (r : Int) (w : World) (hr0 : Kd.C (Kd.int .i64) w A0 l0.length l0) (hc0 : l0.length ≤ c0) (h : impl_sumOf.f k l0 = some r) :
    Calls Try.prog 75 #[.slice A0 l0.length c0] w fun e w' => e = .returned (.int .i64 r) ∧ Drawn0 w w' := by
  have HR0 := Aside0.mk hr0
  have HC0 := Aside0.mk hc0
  clear hr0 hc0
  have H : (impl_sumOf.l0 k 0 l0 (l0.length : Int) 0) = some r := h
  clear h
  have H' := Aside0.mk H
  clear H
  go_enter Try.func75, Try.ntmps75
  go_wp2
  go_loopg [3, 8] k (fun kq v3 v8 w' => ∃ (x3_1 : Int) (x8_1 : Int), v3 = .int .i64 x3_1 ∧ v8 = .int .i64 x8_1 ∧ Aside0 (impl_sumOf.l0 kq x3_1 l0 (l0.length : Int) x8_1 = some r) ∧ Aside0 (kq ≤ k) ∧ Drawn0 w w')
  case atStart => exact ⟨(0), (0), (by first | rfl | (simp; done) | (simp [*]; done)), (by first | rfl | (simp; done) | (simp [*]; done)), H', ⟨Nat.le_refl _⟩, by repeat (first | exact Drawn0.refl _ | apply Drawn0.step)⟩
  case round =>
    clear H'
    obtain ⟨x3_1, x8_1, rfl, rfl, HA, HK1, ⟨m1, rfl⟩⟩ := hrel
    cases gk with
    | zero => exact absurd HA.out (by simp [impl_sumOf.l0])
    | succ k1 =>
      have H := HA.out
      clear HA
      simp only [impl_sumOf.l0] at H
      by_cases c2 : x8_1 < (l0.length : Int)
      · rw [if_pos c2] at H
        have c2b0 : decide (x8_1 < (l0.length : Int)) = true := decide_eq_true c2
        clear c2
        by_cases c3 : 0 ≤ x8_1
        · rw [if_pos c3] at H
          have c3b0 : decide (0 ≤ x8_1) = true := decide_eq_true c3
          clear c3
          by_cases c4 : x8_1 < (l0.length : Int)
          · rw [if_pos c4] at H
            have c4b0 : decide (x8_1 < (l0.length : Int)) = true := decide_eq_true c4
            clear c4
            have H' := Aside0.mk H
            clear H
            have p101 : 0 ≤ (x8_1 : Int) := of_decide_eq_true (by first | (with_reducible assumption) | assumption)
            have q101 : x8_1 < (l0.length : Int) := of_decide_eq_true (by first | (with_reducible assumption) | assumption)
            obtain ⟨ad101, e101, hx101_0⟩ := Kd.at_int HR0.out x8_1 p101 q101
            cases e101
            replace p101 := eq_true p101
            replace q101 := eq_true q101
            go_wp2
            go_roundg k1
            case measure => have := HK1.out; omega
            case rel => exact ⟨(wrap64 (x3_1 + (rd l0 x8_1))), (wrap64 (x8_1 + 1)), (by first | rfl | (simp; done) | (simp [*]; done)), (by first | rfl | (simp; done) | (simp [*]; done)), H', ⟨by have := HK1.out; omega⟩, by repeat (first | exact Drawn0.refl _ | apply Drawn0.step)⟩
          · rw [if_neg c4] at H
            exact absurd H (by simp)
        · rw [if_neg c3] at H
          exact absurd H (by simp)
      · rw [if_neg c2] at H
        have c2b0 : decide (x8_1 < (l0.length : Int)) = false := decide_eq_false c2
        clear c2
        obtain rfl := Option.some.inj H
        go_wp2
        go_ret
        exact ⟨by first | rfl | (simp; done) | (simp [*]; done), by repeat (first | exact Drawn0.refl _ | apply Drawn0.step)⟩

/-! ### impl_within: function 76 -/
def impl_within.f (a0 : Int) (a1 : Int) (a2 : Int) : Option (Bool) := if a0 ≥ a1 then (some (decide (a0 ≤ a2))) else (some false)
set_option maxHeartbeats 8000000 in
set_option maxRecDepth 100000 in
theorem impl_within.calls (a0 : Int) (a1 : Int) (a2 : Int) (r : Bool) (w : World) (h : impl_within.f a0 a1 a2 = some r) :
    Calls Try.prog 76 #[.int .i64 a0, .int .i64 a1, .int .i64 a2] w fun e w' => e = .returned (.bool r) ∧ Drawn0 w w' := by
  have H : (if a0 ≥ a1 then (some (decide (a0 ≤ a2))) else (some false)) = some r := h
  clear h
  by_cases c4 : a0 ≥ a1
  · rw [if_pos c4] at H
    have c4b0 : decide (a1 ≤ a0) = true := decide_eq_true c4
    clear c4
    obtain rfl := Option.some.inj H
    go_enter Try.func76, Try.ntmps76
    go_wp2
    go_ret
    exact ⟨by first | rfl | (simp; done) | (simp [*]; done), by repeat (first | exact Drawn0.refl _ | apply Drawn0.step)⟩
  · rw [if_neg c4] at H
    have c4b0 : decide (a1 ≤ a0) = false := decide_eq_false c4
    clear c4
    obtain rfl := Option.some.inj H
    go_enter Try.func76, Try.ntmps76
    go_wp2
    go_ret
    exact ⟨by first | rfl | (simp; done) | (simp [*]; done), by repeat (first | exact Drawn0.refl _ | apply Drawn0.step)⟩

/-! ### impl_orderOf: function 77 -/
def impl_orderOf.l0 : Nat → List Int → Int → Int → Option (List Int)
  | 0, _, _, _ => none
  | k + 1, x3, x6, x7 => if x7 < x6 then (if x3.length < 17592186044416 then (impl_orderOf.l0 k (x3 ++ [x7]) x6 (wrap64 (x7 + 1))) else (none)) else (some x3)
def impl_orderOf.f (k : Nat) (a0 : Int) : Option (List Int) := impl_orderOf.l0 k (([] : List Int)) a0 0
theorem impl_orderOf.mono_l : ∀ k, (∀ y0 y1 y2, LeO (impl_orderOf.l0 k y0 y1 y2) (impl_orderOf.l0 (k + 1) y0 y1 y2))
  | 0 => fun _ _ _ r h => by simp [impl_orderOf.l0] at h
  | k + 1 => by
    have ih0 := impl_orderOf.mono_l k
    · intro y0 y1 y2
      unfold impl_orderOf.l0
      repeat' first
      | (with_reducible exact ih0 _ _ _)
      | (with_reducible exact LeO.refl _)
      | (with_reducible exact LeO.none _)
      | (with_reducible refine LeO.ite ?_ ?_)
      | (with_reducible refine LeO.bind ?_ (fun _ => ?_))
      | exact ih0 _ _ _
      | exact LeO.none _
      | refine LeO.ite ?_ ?_
      | refine LeO.bind ?_ (fun _ => ?_)
theorem impl_orderOf.mono : ∀ a0 k, LeO (impl_orderOf.f k a0) (impl_orderOf.f (k + 1) a0) := by
  intro a0 k
  have ih0 := impl_orderOf.mono_l k
  unfold impl_orderOf.f
  repeat' first
      | (with_reducible exact ih0 _ _ _)
      | (with_reducible exact LeO.refl _)
      | (with_reducible exact LeO.none _)
      | (with_reducible refine LeO.ite ?_ ?_)
      | (with_reducible refine LeO.bind ?_ (fun _ => ?_))
      | exact ih0 _ _ _
      | exact LeO.none _
      | refine LeO.ite ?_ ?_
      | refine LeO.bind ?_ (fun _ => ?_)
set_option maxHeartbeats 8000000 in
set_option maxRecDepth 100000 in
theorem impl_orderOf.calls (k : Nat) (a0 : Int) (r : List Int) (w : World) (h : impl_orderOf.f k a0 = some r) :
    Calls Try.prog 77 #[.int .i64 a0] w fun e w' => ∃ v0_ : Value, e = .returned (v0_) ∧ Kd.R (Kd.int .i64) 3 w' w.heap.size (fun _ => True) v0_ r ∧ Below w.heap.size w w' := by
  have HB := Aside0.mk (Below.refl w.heap.size w)
  have H : (impl_orderOf.l0 k (([] : List Int)) a0 0) = some r := h
  clear h
  obtain ⟨y102, hy102⟩ : ∃ y_ : List Int, y_ = (([] : List Int)) := ⟨_, rfl⟩
  replace H : (impl_orderOf.l0 k y102 a0 0) = some r := by first | (rw [hy102]; with_reducible exact H) | (have H2_ := (Option.bind_some _ _).symm.trans H; rw [hy102]; with_reducible exact H2_) | (have H2_ := (Option.bind_some _ _).symm.trans H; with_reducible exact H2_) | with_reducible exact H | (rw [hy102]; exact H) | exact H
  have Ny102 := Aside0.mk hy102
  clear hy102
  have H' := Aside0.mk H
  clear H
  go_enter Try.func77, Try.ntmps77
  go_wp2_with (first | ((with_reducible refine gate_dst (N := 5) rfl ?_); refine Kd.R_lit (Kd.int .i64) _ 3 ?hg (N := 5) ?hd (xs := ([] : List Int)) (inner := []) (ok := fun _ => True) (okp := fun _ => True) ?hr ?hp (fun _ hk => hk) trivial (Below.refl _ _) (Nat.le_refl _) (by simp) ?_; (case hd => rfl); (case hg => rfl); (case hr => first | (go_simp; done) | (go_simp; rfl)); (case hp => exact (Reps.none _ _)); intro v103 w2 ho3 hb hg_ hnew_; clear hg_ hnew_; (first | rw [← Ny102.out] at ho3 | (simp only [Int.reduceToNat] at ho3; rw [← Ny102.out] at ho3)); have n0_ := Aside0.mk (Kd.R_lower ho3 (below_size (by repeat (first | (with_reducible first | exact HB.out | apply below_alloc | apply pw_below_drewN | apply below_drew1) | exact HB.out)))); have n1_ := Aside0.mk (below_step (by repeat (first | (with_reducible first | exact HB.out | apply below_alloc | apply pw_below_drewN | apply below_drew1) | exact HB.out)) hb); clear HB; have HO104 := n0_; have HB := n1_; clear n0_ n1_; clear hb ho3))
  go_loopg [3, 7] k (fun kq v3 v7 w' => ∃ (x3_1 : List Int) (x7_1 : Int), v7 = .int .i64 x7_1 ∧ Aside0 (impl_orderOf.l0 kq x3_1 a0 x7_1 = some r) ∧ Aside0 (kq ≤ k) ∧ Aside0 (Kd.R (Kd.int .i64) 3 w' w.heap.size (fun _ => True) v3 x3_1) ∧ Aside0 (Below w.heap.size w w'))
  case atStart => exact ⟨(y102), (0), (by first | rfl | (simp; done) | (simp [*]; done)), H', ⟨Nat.le_refl _⟩, ⟨by (with_reducible repeat (first | apply Kd.R_alloc | apply Kd.R_drewN | apply Kd.R_drew)); exact HO104.out⟩, ⟨by repeat (first | (with_reducible first | exact HB.out | apply below_alloc | apply pw_below_drewN | apply below_drew1) | exact HB.out)⟩⟩
  case round =>
    clear H'
    try clear p2
    obtain ⟨x3_1, x7_1, rfl, HA, HK1, HO_3, HB⟩ := hrel
    cases gk with
    | zero => exact absurd HA.out (by simp [impl_orderOf.l0])
    | succ k1 =>
      have H := HA.out
      clear HA
      simp only [impl_orderOf.l0] at H
      by_cases c4 : x7_1 < a0
      · rw [if_pos c4] at H
        have c4b0 : decide (x7_1 < a0) = true := decide_eq_true c4
        clear c4
        by_cases c5 : x3_1.length < 17592186044416
        · rw [if_pos c5] at H
          have LMc5 := Aside0.mk c5
          clear c5
          obtain ⟨y105, hy105⟩ : ∃ y_ : List Int, y_ = (x3_1 ++ [x7_1]) := ⟨_, rfl⟩
          replace H : (impl_orderOf.l0 k1 y105 a0 (wrap64 (x7_1 + 1))) = some r := by first | (rw [hy105]; with_reducible exact H) | (have H2_ := (Option.bind_some _ _).symm.trans H; rw [hy105]; with_reducible exact H2_) | (have H2_ := (Option.bind_some _ _).symm.trans H; with_reducible exact H2_) | with_reducible exact H | (rw [hy105]; exact H) | exact H
          have Ny105 := Aside0.mk hy105
          clear hy105
          have H' := Aside0.mk H
          clear H
          go_wp2_with (first | ((with_reducible refine gate_builtin (b := .append) (xs := #[.tmp 10, .tmp 12]) rfl ?_); at_builtin; refine Kd.R_append (Kd.int .i64) (w0 := w) w.heap.size rfl (.tmp 10) (.tmp 12) 30 3 (.int .i64 0) 8 rfl Try.underlying30 info3 rfl (by decide) (by omega) u3 x3_1 x7_1 [.int .i64 x7_1] (fun _ => True) (fun _ => False) rfl rfl ?aP (fun _ hk => hk.elim) ?aF ?aO ?aB ?aS ?aL ?_; (case aP => exact rfl); (case aB => exact (by repeat (first | (with_reducible first | exact HB.out | apply below_alloc | apply pw_below_drewN | apply below_drew1) | exact HB.out))); (case aF => exact (fun _ _ => trivial)); (case aO => exact (by (with_reducible repeat (first | apply Kd.R_alloc | apply Kd.R_drewN | apply Kd.R_drew)); exact HO_3.out)); (case aS => exact (below_size (by repeat (first | (with_reducible first | exact HB.out | apply below_alloc | apply pw_below_drewN | apply below_drew1) | exact HB.out)))); (case aL => have := LMc5.out; omega); intro v106 w6 ho hb hg hat; rw [← Ny105.out] at ho; have n0_ := Aside0.mk (hb); have n1_ := Aside0.mk (ho); clear HB; clear HO_3; have HB := n0_; have HO107 := n1_; clear n0_ n1_; clear ho hb hg hat))
          go_roundg k1
          case measure => have := HK1.out; omega
          case rel => exact ⟨(y105), (wrap64 (x7_1 + 1)), (by first | rfl | (simp; done) | (simp [*]; done)), H', ⟨by have := HK1.out; omega⟩, ⟨by (with_reducible repeat (first | apply Kd.R_alloc | apply Kd.R_drewN | apply Kd.R_drew)); exact HO107.out⟩, ⟨by repeat (first | (with_reducible first | exact HB.out | apply below_alloc | apply pw_below_drewN | apply below_drew1) | exact HB.out)⟩⟩
        · rw [if_neg c5] at H
          exact absurd H (by simp)
      · rw [if_neg c4] at H
        have c4b0 : decide (x7_1 < a0) = false := decide_eq_false c4
        clear c4
        obtain rfl := Option.some.inj H
        go_wp2
        go_ret
        exact ⟨_, by first | rfl | (simp [errW_none, errW_some] <;> rfl) | (simp [*, errW_none, errW_some] <;> rfl), by (with_reducible repeat (first | apply Kd.R_alloc | apply Kd.R_drewN | apply Kd.R_drew)); exact HO_3.out, by repeat (first | (with_reducible first | exact HB.out | apply below_alloc | apply pw_below_drewN | apply below_drew1) | exact HB.out)⟩

-- NOT PRINTED: function 123 (slices_insertionSortCmpFunc_int)

-- NOT PRINTED: function 148 (slices_swapRangeCmpFunc_int)

-- NOT PRINTED: function 134 (slices_rotateCmpFunc_int)

-- NOT PRINTED: function 124 (slices_symMergeCmpFunc_int)

-- NOT PRINTED: function 108 (slices_stableCmpFunc_int)

-- NOT PRINTED: function 78 (slices_SortStableFunc_int)

/-! ### impl_ShareOut: function 27 -/
--import Derived.WalkSpells
--import Derived.Deep.QuietTactic
--import Derived.Deep.RegionHeld3
--import Derived.BigQuiet
--import Derived.Shelf.SlSortCmp.Insertion
def Try.laysSlF20_f123_ren : Go.Shelf.Ren := ⟨fun | 20 => 123 | n => n, fun | 24 => 3 | 22 => 30 | 3 => 3 | 25 => 49 | 4 => 4 | 0 => 0 | n => n, fun | n => n⟩
theorem Try.laysSlF20_f123 : Go.Proofs.SlLaysF.n20 Try.prog Try.laysSlF20_f123_ren := {
  mixed := by kernel_rfl
  f20 := ⟨Try.f123.name, by decide, Try.func123.trans (congrArg some (by kernel_rfl))⟩
  t0 := Try.underlying0
  a0 := Try.isAgg0
  z0 := Try.sizeOf0
  v0 := Try.zeroValue0
  t3 := Try.underlying3
  a3 := Try.isAgg3
  z3 := Try.sizeOf3
  v3 := Try.zeroValue3
  t4 := Try.underlying4
  a4 := Try.isAgg4
  z4 := Try.sizeOf4
  v4 := Try.zeroValue4
  t22 := Try.underlying30
  a22 := Try.isAgg30
  z22 := Try.sizeOf30
  v22 := Try.zeroValue30
  a24 := Try.isAgg3
  z24 := Try.sizeOf3
  t25 := Try.underlying49
  a25 := Try.isAgg49
  z25 := Try.sizeOf49
  v25 := Try.zeroValue49 }
/-! the stable sort of the numbers 0, 1, .. by what is left of each share -/
def impl_ShareOut.cf (total all : Int) (l : List Int) (x y : Int) : Int := wrap64 (Int.tmod (wrap64 (total * rd l y)) all - Int.tmod (wrap64 (total * rd l x)) all)
def impl_ShareOut.cfi (total all : Int) (l : List Int) (m : Nat) (x y : Fin (m + 1)) : Int := impl_ShareOut.cf total all l (x.val : Int) (y.val : Int)
def impl_ShareOut.sig (total all : Int) (l : List Int) (m : Nat) : Array (Fin (m + 1)) := Go.Sort.insertionSort (ltOf (impl_ShareOut.cfi total all l m)) (List.finRange (m + 1)).toArray 0 (m + 1)
def impl_ShareOut.ids (m : Nat) : List Int := (List.finRange (m + 1)).map (fun i => (i.val : Int))
def impl_ShareOut.ord (total all : Int) (l : List Int) (m : Nat) : List Int := (impl_ShareOut.sig total all l m).toList.map (fun i => (i.val : Int))
theorem impl_ShareOut.cellN {w : World} {p : Addr} {v : Value} (h : w.cell? p = some v) (m : Nat) : (w.drewN m).cell? p = some v := by simpa using h
set_option maxHeartbeats 4000000 in
theorem impl_ShareOut.cmp (x y total all : Int) (A : Option Addr) (c : Nat) (l : List Int) (b1 b2 b3 : Nat) (w : World)
    (h1 : w.cell? ⟨b1, 0, none⟩ = some (.int .i64 total)) (h2 : w.cell? ⟨b2, 0, none⟩ = some (.slice A l.length c)) (h3 : w.cell? ⟨b3, 0, none⟩ = some (.int .i64 all))
    (hr : Kd.C (Kd.int .i64) w A l.length l) (hx : 0 ≤ x) (hx2 : x < (l.length : Int)) (hy : 0 ≤ y) (hy2 : y < (l.length : Int)) (ha : all ≠ 0) :
    Calls Try.prog 79 #[.int .i64 x, .int .i64 y, .pointer (some ⟨b1, 0, none⟩), .pointer (some ⟨b2, 0, none⟩), .pointer (some ⟨b3, 0, none⟩)] w fun e w' => e = .returned (.int .i64 (impl_ShareOut.cf total all l x y)) ∧ ∃ m, w' = w.drewN m := by
  obtain ⟨ad, e, hcx⟩ := Kd.at_int hr x hx hx2
  cases e
  obtain ⟨ad2, e, hcy⟩ := Kd.at_int hr y hy hy2
  cases e
  have HC := Aside0.mk hr
  unfold impl_ShareOut.cf
  generalize hxe : rd l x = rx at hcx ⊢
  generalize hye : rd l y = ry at hcy ⊢
  clear hr hxe hye
  go_enter Try.func79, Try.ntmps79
  go_wp2
  go_quiet (fail)
  go_wp2
  go_ret
  exact ⟨rfl, by first | exact ⟨_, rfl⟩ | simp⟩
section
open Go.Sort
theorem impl_ShareOut.holds {α : Type} [Inhabited α] (enc : α → Value) {w : World} {g : Nat} {cur : Array Value} {e : TypeId} {ss : List α} (hb : w.heap[g]? = some (.cells cur e (0, 0))) (ht : cur.toList.take ss.length = ss.map enc) : Go.Sort.Holds enc w g 0 ss.toArray := by
  intro j hj
  have hj' : j < ss.length := by simpa using hj
  refine ⟨?_, by simp [World.frozen?, hb]⟩
  have h1 : (cur.toList.take ss.length)[j]? = (ss.map enc)[j]? := by rw [ht]
  rw [List.getElem?_take_of_lt hj'] at h1
  simp only [World.cell?, hb, Nat.zero_add]
  simp only [Option.isSome_none, Bool.false_eq_true, if_false]
  rw [← Array.getElem?_toList, h1]
  simp [hj']
theorem impl_ShareOut.heap_put {α : Type} [Inhabited α] (enc : α → Value) {w : World} {g m : Nat} {os : Array Obj} {cur : Array Value} {e : TypeId} {fr : Nat × Nat} (d : Array α) (hb : w.heap[g]? = some (.cells cur e fr)) :
    (Go.Proofs.sortWorld enc w g 0 m d os).heap[g]? = some (.cells (Go.Sort.putCells enc 0 d cur) e fr) := by
  have hg : g < w.heap.size := (Array.getElem?_eq_some_iff.1 hb).1
  unfold Go.Proofs.sortWorld
  rw [Go.Sort.heap_grow_old _ _ (by simpa using hg)]
  simp [Go.Sort.putRow, Go.Sort.mapBlock, Go.Sort.ahead, Array.getElem?_modify, hb, Go.Sort.onCells]
theorem impl_ShareOut.grown_put {α : Type} [Inhabited α] (enc : α → Value) {w : World} {g m : Nat} {os : Array Obj} (d : Array α) : w.grownBy (Go.Proofs.sortWorld enc w g 0 m d os) (some g) := by
  unfold Go.Proofs.sortWorld
  refine ⟨rfl, rfl, rfl, by simp, fun k hk hne => ?_⟩
  rw [Go.Sort.heap_grow_old _ _ (by simpa using hk)]
  have : g ≠ k := fun e => hne (by rw [e])
  simp [Go.Sort.putRow, Go.Sort.mapBlock, Go.Sort.ahead, Array.getElem?_modify, this]
theorem impl_ShareOut.take_put {α : Type} [Inhabited α] (enc : α → Value) (cur : Array Value) (ts : List α) (h : ts.length ≤ cur.size) : (Go.Sort.putCells enc 0 ts.toArray cur).toList.take ts.length = ts.map enc := by
  apply List.ext_getElem?
  intro j
  by_cases hj : j < ts.length
  · rw [List.getElem?_take_of_lt hj, Array.getElem?_toList]
    simp [Go.Sort.putCells, hj, show j < cur.size by omega]
  · rw [List.getElem?_take_eq_none (by omega), List.getElem?_eq_none (by simp; omega)]
theorem impl_ShareOut.cell_grown {w w1 : World} {g b : Nat} {v : Value} (h : w.cell? ⟨b, 0, none⟩ = some v) (hg : w.grownBy w1 (some g)) (hb : b ≠ g) : w1.cell? ⟨b, 0, none⟩ = some v := by
  have hk := hg.block b (World.block_lt_of_cell? w _ h) (fun e => hb (Option.some.inj e))
  rw [← h]
  simp only [World.cell?, hk]
end
def impl_ShareOut.enc (m : Nat) (i : Fin (m + 1)) : Value := .int .i64 (i.val : Int)
theorem impl_ShareOut.sig_size (total all : Int) (l : List Int) (m : Nat) : (impl_ShareOut.sig total all l m).size = m + 1 := by
  have hz : ∀ (lt : Fin (m + 1) → Fin (m + 1) → Bool) (j : Nat) (d : Array (Fin (m + 1))), (Go.Sort.insInner lt 0 j d).size = d.size := by
    intro lt j
    induction j with
    | zero => intro d; rfl
    | succ j ih =>
      intro d
      unfold Go.Sort.insInner
      split
      · rw [ih]; simp [Go.Sort.swp]
      · rfl
  have ho : ∀ (lt : Fin (m + 1) → Fin (m + 1) → Bool) (b k i : Nat) (d : Array (Fin (m + 1))), b - i = k → (Go.Sort.insOuter lt 0 b i d).size = d.size := by
    intro lt b k
    induction k with
    | zero => intro i d h; rw [Go.Sort.insOuter, if_neg (by omega)]
    | succ k ih => intro i d h; rw [Go.Sort.insOuter, if_pos (by omega), ih _ _ (by omega), hz]
  unfold impl_ShareOut.sig Go.Sort.insertionSort
  rw [ho _ _ _ _ _ rfl]
  simp
set_option maxHeartbeats 4000000 in
theorem impl_ShareOut.ins (w0 w : World) (base g cap m : Nat) (total all : Int) (A : Option Addr) (c : Nat) (l : List Int) (b1 b2 b3 : Nat) (okk : Nat → Prop)
    (h1 : w.cell? ⟨b1, 0, none⟩ = some (.int .i64 total)) (h2 : w.cell? ⟨b2, 0, none⟩ = some (.slice A l.length c)) (h3 : w.cell? ⟨b3, 0, none⟩ = some (.int .i64 all))
    (hr : Kd.C (Kd.int .i64) w0 A l.length l) (hB : Below w0.heap.size w0 w) (hg0 : w0.heap.size ≤ g) (hl : l.length = m + 1) (hm : m < 1000) (ha : all ≠ 0) (hb1 : b1 ≠ g) (hb2 : b2 ≠ g) (hb3 : b3 ≠ g)
    (hR : Kd.R (Kd.int .i64) 3 w base okk (.slice (some ⟨g, 0, none⟩) (impl_ShareOut.ids m).length cap) (impl_ShareOut.ids m)) :
    Calls Try.prog 123 #[.slice (some ⟨g, 0, none⟩) (m + 1) cap, .int .i64 0, .int .i64 ((m + 1 : Nat) : Int), .func (.func 79) #[] #[.pointer (some ⟨b1, 0, none⟩), .pointer (some ⟨b2, 0, none⟩), .pointer (some ⟨b3, 0, none⟩)]] w fun e w' => e = .returned (.tuple #[]) ∧ w.grownBy w' (some g) ∧ Kd.R (Kd.int .i64) 3 w' base okk (.slice (some ⟨g, 0, none⟩) (m + 1) cap) (impl_ShareOut.ord total all l m) := by
  have own := Kd.own_of_R hR
  have hok := hR.1
  have hidl : (impl_ShareOut.ids m).length = m + 1 := by simp [impl_ShareOut.ids]
  obtain ⟨hil, hx⟩ := own
  rcases hx with ⟨h, _⟩ | ⟨g', cap', cur, hv, hbase, hb, q1, q2, q3, q4⟩
  · cases h
  cases hv
  have hH := impl_ShareOut.holds (impl_ShareOut.enc m) (ss := List.finRange (m + 1)) hb (by
    rw [List.length_finRange]
    rw [Nat.mul_one, hidl] at q4
    rw [q4]
    unfold encs impl_ShareOut.ids impl_ShareOut.enc
    rw [List.map_map]
    rfl)
  have hcmp : CmpReads Try.prog 79 #[.pointer (some ⟨b1, 0, none⟩), .pointer (some ⟨b2, 0, none⟩), .pointer (some ⟨b3, 0, none⟩)] (impl_ShareOut.enc m) (impl_ShareOut.cfi total all l m) g 0 (List.finRange (m + 1)).toArray.size w := by
    intro m' os dk _ x y
    have hgr := impl_ShareOut.grown_put (impl_ShareOut.enc m) (w := w) (g := g) (m := m') (os := os) dk
    exact impl_ShareOut.cmp _ _ total all A c l b1 b2 b3 _ (impl_ShareOut.cell_grown h1 hgr hb1) (impl_ShareOut.cell_grown h2 hgr hb2) (impl_ShareOut.cell_grown h3 hgr hb3) (Kd.C_below hr (hB.grown hgr hB.size (fun k hk => by injection hk with hk; omega))) (by omega) (by have := x.isLt; omega) (by omega) (by have := y.isLt; omega) ha
  have eg : ∀ args w, (callFunc 79 args).run Try.prog w = .ok (.enter 79 args) w := enters_of Try.func79 (by kernel_rfl) rfl
  have hd : (List.finRange (m + 1)).toArray.size = m + 1 := by simp
  have hc := Any.insertionSortCmpFunc_one Try.laysSlF20_f123 (impl_ShareOut.enc m) (fun i => rfl) (impl_ShareOut.cfi total all l m) 79 #[.pointer (some ⟨b1, 0, none⟩), .pointer (some ⟨b2, 0, none⟩), .pointer (some ⟨b3, 0, none⟩)] g 0 cap 0 (m + 1) (List.finRange (m + 1)).toArray w eg hcmp hH (by omega) (by rw [hd]; omega) (by rw [hd]; omega)
  rw [hd] at hc
  refine Calls.mono (P := Try.prog) (f := 123) hc ?_
  rintro e w' ⟨he, n, rfl⟩
  obtain ⟨σ, hσ⟩ : ∃ σ, σ = impl_ShareOut.sig total all l m := ⟨_, rfl⟩
  have hse : Go.Sort.insertionSort (ltOf (impl_ShareOut.cfi total all l m)) (List.finRange (m + 1)).toArray 0 (m + 1) = σ := hσ.symm
  have hsl : σ.toList.length = m + 1 := by rw [hσ, Array.length_toList, impl_ShareOut.sig_size]
  rw [hse, ← sortWorld_none]
  have hgr := impl_ShareOut.grown_put (impl_ShareOut.enc m) (w := w) (g := g) (m := n) (os := #[]) σ
  refine ⟨he, hgr, ?_⟩
  have hol : (impl_ShareOut.ord total all l m).length = m + 1 := by unfold impl_ShareOut.ord; rw [List.length_map, ← hσ, hsl]
  have hmap : encs (Value.int .i64) (impl_ShareOut.ord total all l m) = σ.toList.map (impl_ShareOut.enc m) := by
    unfold encs impl_ShareOut.ord impl_ShareOut.enc
    rw [← hσ, List.map_map]
    rfl
  have hhp := impl_ShareOut.heap_put (impl_ShareOut.enc m) (m := n) (os := #[]) σ hb
  have hpt := impl_ShareOut.take_put (impl_ShareOut.enc m) cur σ.toList (by omega)
  have hps : (Go.Sort.putCells (impl_ShareOut.enc m) 0 σ cur).size = cap * 1 := by simp [Go.Sort.putCells]; omega
  have hpt2 : (Go.Sort.putCells (impl_ShareOut.enc m) 0 σ cur).toList.take (m + 1) = σ.toList.map (impl_ShareOut.enc m) := by rw [← hpt, hsl]
  generalize Go.Sort.putCells (impl_ShareOut.enc m) 0 σ cur = pc at hhp hps hpt2
  generalize sortWorld (impl_ShareOut.enc m) w g 0 n σ #[] = W at hgr hhp ⊢
  rw [← hmap] at hpt2
  clear hmap
  generalize impl_ShareOut.ord total all l m = od at hol hpt2 ⊢
  rw [← hol] at hpt2 ⊢
  exact Kd.R_of_own (enc := Value.int .i64) ⟨by rw [encs_length, Nat.mul_one], .inr ⟨g, cap, pc, rfl, hbase, hhp, by rw [hol, ← hidl]; exact q1, q2, hps, by rw [Nat.mul_one]; exact hpt2⟩⟩ hok
/-- what the sort asks for -/
structure impl_ShareOut.Pre (w0 w : World) (base g cap m nl : Nat) (nn : Int) (total all : Int) (A : Option Addr) (c : Nat) (l : List Int) (b1 b2 b3 : Nat) (okk : Nat → Prop) : Prop where
  h1 : w.cell? ⟨b1, 0, none⟩ = some (.int .i64 total)
  h2 : w.cell? ⟨b2, 0, none⟩ = some (.slice A l.length c)
  h3 : w.cell? ⟨b3, 0, none⟩ = some (.int .i64 all)
  hr : Kd.C (Kd.int .i64) w0 A l.length l
  hB : Below w0.heap.size w0 w
  hg0 : w0.heap.size ≤ g
  hl : l.length = m + 1
  hm : m < 10
  ha : all ≠ 0
  hb1 : b1 ≠ g
  hb2 : b2 ≠ g
  hb3 : b3 ≠ g
  hnl : nl = m + 1
  hnn : nn = ((m + 1 : Nat) : Int)
  hR : Kd.R (Kd.int .i64) 3 w base okk (.slice (some ⟨g, 0, none⟩) nl cap) (impl_ShareOut.ids m)
def impl_ShareOut.Post (base g cap m nl : Nat) (total all : Int) (l : List Int) (okk : Nat → Prop) (w : World) (e : Ending) (w' : World) : Prop :=
  e = .returned (.tuple #[]) ∧ w.grownBy w' (some g) ∧ Kd.R (Kd.int .i64) 3 w' base okk (.slice (some ⟨g, 0, none⟩) nl cap) (impl_ShareOut.ord total all l m)
theorem impl_ShareOut.ins2 {w0 w : World} {base g cap m nl : Nat} {nn : Int} {total all : Int} {A : Option Addr} {c : Nat} {l : List Int} {b1 b2 b3 : Nat} {okk : Nat → Prop} (h : impl_ShareOut.Pre w0 w base g cap m nl nn total all A c l b1 b2 b3 okk) :
    Calls Try.prog 123 #[.slice (some ⟨g, 0, none⟩) nl cap, .int .i64 0, .int .i64 nn, .func (.func 79) #[] #[.pointer (some ⟨b1, 0, none⟩), .pointer (some ⟨b2, 0, none⟩), .pointer (some ⟨b3, 0, none⟩)]] w (impl_ShareOut.Post base g cap m nl total all l okk w) := by
  obtain ⟨h1, h2, h3, hr, hB, hg0, hl, hm, ha, hb1, hb2, hb3, hnl, hnn, hR⟩ := h
  subst hnl
  subst hnn
  have hidl : (impl_ShareOut.ids m).length = m + 1 := by simp [impl_ShareOut.ids]
  exact impl_ShareOut.ins w0 w base g cap m total all A c l b1 b2 b3 okk h1 h2 h3 hr hB hg0 hl (by omega) ha hb1 hb2 hb3 (by rw [hidl]; exact hR)
set_option maxHeartbeats 4000000 in
theorem impl_ShareOut.stable {w0 w : World} {base g cap m nl : Nat} {nn : Int} {total all : Int} {A : Option Addr} {c : Nat} {l : List Int} {b1 b2 b3 : Nat} {okk : Nat → Prop} (h : impl_ShareOut.Pre w0 w base g cap m nl nn total all A c l b1 b2 b3 okk) :
    Calls Try.prog 108 #[.slice (some ⟨g, 0, none⟩) nl cap, .int .i64 nn, .func (.func 79) #[] #[.pointer (some ⟨b1, 0, none⟩), .pointer (some ⟨b2, 0, none⟩), .pointer (some ⟨b3, 0, none⟩)]] w (impl_ShareOut.Post base g cap m nl total all l okk w) := by
  have H := Aside0.mk h
  have c1 : decide (20 ≤ nn) = false := decide_eq_false (by have := h.hnn; have := h.hm; omega)
  have c2 : decide (20 < nn) = false := decide_eq_false (by have := h.hnn; have := h.hm; omega)
  clear h
  go_enter Try.func108, Try.ntmps108
  go_wp2
  go_loopg [7, 8] 1 (fun kq v7 v8 w' => v7 = .int .i64 0 ∧ v8 = .int .i64 20 ∧ w' = w)
  case atStart => exact ⟨rfl, rfl, rfl⟩
  case round =>
    obtain ⟨rfl, rfl, rfl⟩ := hrel
    go_wp2_with (first | (go_at_call 123; (with_reducible refine (impl_ShareOut.ins2 H.out).mono ?_); rintro e w1 ⟨rfl, hg, hr⟩; have HG := Aside0.mk hg; have HR := Aside0.mk hr; clear hg hr))
    go_loopg [6, 7, 8, 9] 1 (fun kq v6 v7 v8 v9 w' => v6 = .int .i64 20 ∧ w' = w1)
    case atStart => exact ⟨rfl, rfl⟩
    case round =>
      obtain ⟨rfl, rfl⟩ := hrel
      go_wp2
      go_end0
      exact ⟨rfl, HG.out, HR.out⟩
set_option maxHeartbeats 4000000 in
theorem impl_ShareOut.sort {w0 w : World} {base g cap m nl : Nat} {nn : Int} {total all : Int} {A : Option Addr} {c : Nat} {l : List Int} {b1 b2 b3 : Nat} {okk : Nat → Prop} (h : impl_ShareOut.Pre w0 w base g cap m nl nn total all A c l b1 b2 b3 okk) :
    Calls Try.prog 78 #[.slice (some ⟨g, 0, none⟩) nl cap, .func (.func 79) #[] #[.pointer (some ⟨b1, 0, none⟩), .pointer (some ⟨b2, 0, none⟩), .pointer (some ⟨b3, 0, none⟩)]] w (impl_ShareOut.Post base g cap m nl total all l okk w) := by
  have hn : nn = (nl : Int) := by rw [h.hnn, h.hnl]
  subst hn
  have H := Aside0.mk h
  clear h
  go_enter Try.func78, Try.ntmps78
  go_wp2_with (first | (go_at_call 108; (with_reducible refine (impl_ShareOut.stable H.out).mono ?_); rintro e w1 ⟨rfl, hg, hr⟩; have HG := Aside0.mk hg; have HR := Aside0.mk hr; clear hg hr))
  go_end0
  exact ⟨rfl, HG.out, HR.out⟩
/-! the shares -/
def impl_ShareOut.q (a0 all x : Int) : Int := wrap64 (Int.tdiv (wrap64 (a0 * x)) all)
def impl_ShareOut.lft (a0 all : Int) (l : List Int) : Int := l.foldl (fun acc x => wrap64 (acc - impl_ShareOut.q a0 all x)) a0
def impl_ShareOut.incs (o : List Int) (ix : List Int) : List Int := ix.foldl (fun o i => o.set i.toNat (wrap64 (rd o i + 1))) o
def impl_ShareOut.all? (k : Nat) (l : List Int) : Option Int := if l.length ≤ 10 then (if l.all (impl_areWithin.ok 0 1000) = true then impl_sumOf.f k l else some 0) else some 0
def impl_ShareOut.cond (l : List Int) : Bool := decide (l.length ≤ 10) && l.all (impl_areWithin.ok 0 1000)
def impl_ShareOut.main (a0 all : Int) (l : List Int) : Option (List Int) := if 1 ≤ l.length ∧ l.length ≤ 10 ∧ 0 ≤ impl_ShareOut.lft a0 all l ∧ impl_ShareOut.lft a0 all l ≤ (l.length : Int) then some (impl_ShareOut.incs (l.map (impl_ShareOut.q a0 all)) ((impl_ShareOut.ord a0 all l (l.length - 1)).take (impl_ShareOut.lft a0 all l).toNat)) else none
def impl_ShareOut.f (k : Nat) (a0 : Int) (l : List Int) : Option (List Int) := (impl_ShareOut.all? k l).bind fun all => (impl_within.f a0 0 1000000).bind fun t => if t = true ∧ 1 ≤ all then impl_ShareOut.main a0 all l else some []
theorem impl_ShareOut.mono : ∀ a0 a1 k, LeO (impl_ShareOut.f k a0 a1) (impl_ShareOut.f (k + 1) a0 a1) := by
  intro a0 a1 k
  unfold impl_ShareOut.f impl_ShareOut.all?
  refine LeO.bind ?_ (fun _ => LeO.refl _)
  refine LeO.ite ?_ (LeO.refl _)
  refine LeO.ite ?_ (LeO.refl _)
  exact impl_sumOf.mono _ _
theorem impl_ShareOut.lft_take (a0 all : Int) (l : List Int) (j : Nat) (h : j < l.length) : impl_ShareOut.lft a0 all (l.take (j + 1)) = wrap64 (impl_ShareOut.lft a0 all (l.take j) - impl_ShareOut.q a0 all (rd l j)) := by
  have e : l.take (j + 1) = l.take j ++ [rd l j] := by
    rw [List.take_succ_eq_append_getElem h]
    congr 1
    simp [rd, List.getD_eq_getElem?_getD, List.getElem?_eq_getElem h]
  unfold impl_ShareOut.lft
  rw [e, List.foldl_append]
  rfl
theorem impl_ShareOut.map_take (f : Int → Int) (l : List Int) (j : Nat) (h : j < l.length) : (l.take (j + 1)).map f = (l.take j).map f ++ [f (rd l j)] := by
  have e : l.take (j + 1) = l.take j ++ [rd l j] := by
    rw [List.take_succ_eq_append_getElem h]
    congr 1
    simp [rd, List.getD_eq_getElem?_getD, List.getElem?_eq_getElem h]
  rw [e, List.map_append]
  rfl
theorem impl_ShareOut.incs_take (o ix : List Int) (j : Nat) (h : j < ix.length) : impl_ShareOut.incs o (ix.take (j + 1)) = (impl_ShareOut.incs o (ix.take j)).set (rd ix j).toNat (wrap64 (rd (impl_ShareOut.incs o (ix.take j)) (rd ix j) + 1)) := by
  have e : ix.take (j + 1) = ix.take j ++ [rd ix j] := by
    rw [List.take_succ_eq_append_getElem h]
    congr 1
    simp [rd, List.getD_eq_getElem?_getD, List.getElem?_eq_getElem h]
  unfold impl_ShareOut.incs
  rw [e, List.foldl_append]
  rfl
theorem impl_ShareOut.incs_len (o ix : List Int) : (impl_ShareOut.incs o ix).length = o.length := by
  unfold impl_ShareOut.incs
  induction ix generalizing o with
  | nil => rfl
  | cons i ix ih => rw [List.foldl_cons, ih, List.length_set]
theorem impl_ShareOut.ord_len (total all : Int) (l : List Int) (m : Nat) : (impl_ShareOut.ord total all l m).length = m + 1 := by
  unfold impl_ShareOut.ord
  rw [List.length_map, Array.length_toList, impl_ShareOut.sig_size]
theorem impl_ShareOut.ord_lt (total all : Int) (l : List Int) (m j : Nat) (h : j < m + 1) : 0 ≤ rd (impl_ShareOut.ord total all l m) j ∧ rd (impl_ShareOut.ord total all l m) j < (m + 1 : Nat) := by
  have hl := impl_ShareOut.ord_len total all l m
  have hx : rd (impl_ShareOut.ord total all l m) j ∈ impl_ShareOut.ord total all l m := by
    have e : rd (impl_ShareOut.ord total all l m) j = (impl_ShareOut.ord total all l m)[j]'(by omega) := by
      simp [rd, List.getD_eq_getElem?_getD, List.getElem?_eq_getElem (show j < (impl_ShareOut.ord total all l m).length by omega)]
    rw [e]
    exact List.getElem_mem _
  unfold impl_ShareOut.ord at hx
  obtain ⟨i, _, hi⟩ := List.mem_map.1 hx
  unfold impl_ShareOut.ord
  have := i.isLt
  omega
theorem impl_ShareOut.orderOf : ∀ m : Nat, m < 10 → impl_orderOf.f 12 ((m + 1 : Nat) : Int) = some (impl_ShareOut.ids m) := by
  intro m hm
  have h : m = 0 ∨ m = 1 ∨ m = 2 ∨ m = 3 ∨ m = 4 ∨ m = 5 ∨ m = 6 ∨ m = 7 ∨ m = 8 ∨ m = 9 := by omega
  clear hm
  rcases h with rfl | rfl | rfl | rfl | rfl | rfl | rfl | rfl | rfl | rfl <;> decide +kernel
theorem impl_ShareOut.all_f {k : Nat} {l : List Int} (h : impl_ShareOut.cond l = false) : (if l.length ≤ 10 then (if l.all (impl_areWithin.ok 0 1000) = true then impl_sumOf.f k l else some 0) else some 0) = some 0 := by
  unfold impl_ShareOut.cond at h
  by_cases c : l.length ≤ 10
  · rw [decide_eq_true c, Bool.true_and] at h
    rw [if_pos c, h, if_neg (by decide)]
  · rw [if_neg c]
theorem impl_ShareOut.all_t {k : Nat} {l : List Int} (h : impl_ShareOut.cond l = true) : impl_ShareOut.all? k l = impl_sumOf.f k l := by
  unfold impl_ShareOut.cond at h
  rw [Bool.and_eq_true, decide_eq_true_eq] at h
  unfold impl_ShareOut.all?
  rw [if_pos h.1, if_pos h.2]
theorem impl_ShareOut.pre {w0 w : World} {base g cap m nl : Nat} {total all : Int} {A : Option Addr} {c : Nat} {l : List Int} {b1 b2 b3 : Nat} {okk : Nat → Prop} (hr : Kd.C (Kd.int .i64) w0 A l.length l) (hB : Below w0.heap.size w0 w)
    (h1 : w.heap[b1]? = some (.cells #[.int .i64 total] 3 (0, 0))) (h2 : w.heap[b2]? = some (.cells #[.slice A l.length c] 30 (0, 0))) (h3 : w.heap[b3]? = some (.cells #[.int .i64 all] 3 (0, 0)))
    (hR : Kd.R (Kd.int .i64) 3 w base okk (.slice (some ⟨g, 0, none⟩) nl cap) (impl_ShareOut.ids m)) (hl : l.length = m + 1) (h10 : l.length ≤ 10) (ha : 1 ≤ all) (hne : w0.heap.size ≤ g ∧ b1 ≠ g ∧ b2 ≠ g ∧ b3 ≠ g) (hnl : nl = l.length) :
    impl_ShareOut.Pre w0 w base g cap m nl ((m + 1 : Nat) : Int) total all A c l b1 b2 b3 okk :=
  ⟨(blk_cell h1 0).trans rfl, (blk_cell h2 0).trans rfl, (blk_cell h3 0).trans rfl, hr, hB, hne.1, hl, by omega, by omega, hne.2.1, hne.2.2.1, hne.2.2.2, by omega, rfl, hR⟩
set_option maxHeartbeats 8000000 in
set_option maxRecDepth 100000 in
theorem impl_ShareOut.calls (k : Nat) (a0 : Int) (A1 : Option Addr) (c1 : Nat) (l1 : List Int) (r : List Int) (w : World) (hr1 : Kd.C (Kd.int .i64) w A1 l1.length l1) (hc1 : l1.length ≤ c1) (h : impl_ShareOut.f k a0 l1 = some r) :
    Calls Try.prog 27 #[.int .i64 a0, .slice A1 l1.length c1] w fun e w' => ∃ v0_ : Value, e = .returned (v0_) ∧ Kd.R (Kd.int .i64) 3 w' w.heap.size (fun _ => True) v0_ r ∧ Below w.heap.size w w' := by
  have HR := Aside0.mk hr1
  have HC := Aside0.mk hc1
  have HB := Aside0.mk (Below.refl w.heap.size w)
  have H := Aside0.mk h
  clear hr1 hc1 h
  go_enter Try.func27, Try.ntmps27
  go_upto_region 2 with (first | ((with_reducible refine gate_dst (N := 2) rfl ?_); refine box_event ?hg (N := 2) ?hd (cs := #[.int .i64 a0]) (t := 3) ?hr ?_; (case hd => rfl); (case hg => rfl); (case hr => first | (go_simp; done) | (go_simp; rfl)); intro g1 hg w22 hbox hb; have B1 := Aside0.mk hbox; have GEB1 := Aside0.mk hg; have LTB1 := Aside0.mk (blk_lt hbox); have nHB_ := Aside0.mk (below_step (by repeat (first | (with_reducible first | exact HB.out | apply below_alloc | apply pw_below_drewN | apply below_drew1) | exact HB.out)) hb); clear HB hg hbox hb; have HB := nHB_; clear nHB_) | ((with_reducible refine gate_dst (N := 3) rfl ?_); refine box_event ?hg (N := 3) ?hd (cs := #[.slice A1 l1.length c1]) (t := 30) ?hr ?_; (case hd => rfl); (case hg => rfl); (case hr => first | (go_simp; done) | (go_simp; rfl)); intro g2 hg w23 hbox hb; have B2 := Aside0.mk hbox; have GEB2 := Aside0.mk hg; have LTB2 := Aside0.mk (blk_lt hbox); have nB1_ := Aside0.mk (blk_below (g := g1) (o := .cells #[.int .i64 a0] 3 (0, 0)) (by (with_reducible repeat (first | refine blk_drewN ?_ _ | refine blk_drew ?_ | refine blk_alloc ?_ _)); exact B1.out) hb); have nHB_ := Aside0.mk (below_step (by repeat (first | (with_reducible first | exact HB.out | apply below_alloc | apply pw_below_drewN | apply below_drew1) | exact HB.out)) hb); clear HB hg hbox hb B1; have HB := nHB_; have B1 := nB1_; clear nHB_ nB1_) | ((with_reducible refine gate_dst (N := 5) rfl ?_); refine box_event ?hg (N := 5) ?hd (cs := #[.int .i64 0]) (t := 3) ?hr ?_; (case hd => rfl); (case hg => rfl); (case hr => first | (go_simp; done) | (go_simp; rfl)); intro g3 hg w25 hbox hb; have B3 := Aside0.mk hbox; have GEB3 := Aside0.mk hg; have LTB3 := Aside0.mk (blk_lt hbox); have nB1_ := Aside0.mk (blk_below (g := g1) (o := .cells #[.int .i64 a0] 3 (0, 0)) (by (with_reducible repeat (first | refine blk_drewN ?_ _ | refine blk_drew ?_ | refine blk_alloc ?_ _)); exact B1.out) hb); have nB2_ := Aside0.mk (blk_below (g := g2) (o := .cells #[.slice A1 l1.length c1] 30 (0, 0)) (by (with_reducible repeat (first | refine blk_drewN ?_ _ | refine blk_drew ?_ | refine blk_alloc ?_ _)); exact B2.out) hb); have nHB_ := Aside0.mk (below_step (by repeat (first | (with_reducible first | exact HB.out | apply below_alloc | apply pw_below_drewN | apply below_drew1) | exact HB.out)) hb); clear HB hg hbox hb B1 B2; have HB := nHB_; have B1 := nB1_; have B2 := nB2_; clear nHB_ nB1_ nB2_; have LG : Aside0 (w.heap.size = g1 ∧ g1 < g2 ∧ g2 < g3) := ⟨by have := GEB1.out; have := GEB2.out; have := GEB3.out; have := LTB1.out; have := LTB2.out; omega⟩; clear GEB1 GEB2 GEB3 LTB1 LTB2 LTB3) | ((with_reducible refine gate_store (t := 3) (p := 5) rfl ?_); have hsc : w25.cell? ⟨g3, 0, none⟩ = some (.int .i64 0) := (blk_cell B3.out 0).trans rfl; have hsf : w25.frozen? ⟨g3, 0, none⟩ = false := blk_frozen B3.out 0; refine store_event (t := 3) (p := 5) (v := ?vo_w26) (w1 := (w25.setCell ⟨g3, 0, none⟩ (.int .i64 0))) ?hg ?ho ?hn ?hr ?_; (case ho => rfl); (case hg => rfl); (case hn => rfl); (case hr => first | (go_simp; done) | (go_simp; rfl)); intro w26 hw; clear hsc hsf; have n1_ : Aside0 (w26.heap[g1]? = some (.cells #[.int .i64 a0] 3 (0, 0))) := ⟨by rw [hw]; exact blk_far B1.out (by have := LG.out; show g1 ≠ g3; omega) _⟩; have n2_ : Aside0 (w26.heap[g2]? = some (.cells #[.slice A1 l1.length c1] 30 (0, 0))) := ⟨by rw [hw]; exact blk_far B2.out (by have := LG.out; show g2 ≠ g3; omega) _⟩; have n3_ : Aside0 (w26.heap[g3]? = some (.cells #[.int .i64 0] 3 (0, 0))) := ⟨by rw [hw]; exact blk_put B3.out 0 _ rfl⟩; have n0_ : Aside0 (Below w.heap.size w w26) := ⟨by rw [hw]; exact below_set HB.out (by have := LG.out; omega)⟩; clear hw B1 B2 B3 HB; have B1 := n1_; have B2 := n2_; have B3 := n3_; have HB := n0_; clear n0_ n1_ n2_ n3_))
  have z1 : w26.cell? ⟨g1, 0, none⟩ = some (.int .i64 a0) := (blk_cell B1.out 0).trans rfl
  have z2 : w26.cell? ⟨g2, 0, none⟩ = some (.slice A1 l1.length c1) := (blk_cell B2.out 0).trans rfl
  simp only [Act.put, List.setIfInBounds_toArray, List.set_cons_succ, List.set_cons_zero]
  go_cut [19] (fun v19 wc => ∃ b : Bool, v19 = .bool b ∧ Aside0 (impl_ShareOut.cond l1 = b) ∧ Aside0 (wc.heap[g1]? = some (.cells #[.int .i64 a0] 3 (0, 0))) ∧ Aside0 (wc.heap[g2]? = some (.cells #[.slice A1 l1.length c1] 30 (0, 0))) ∧ Aside0 (wc.heap[g3]? = some (.cells #[.int .i64 0] 3 (0, 0))) ∧ Aside0 (Below w.heap.size w wc))
  case first =>
    by_cases c : l1.length ≤ 10
    · have cb : decide ((l1.length : Int) ≤ 10) = true := decide_eq_true (by omega)
      have HL := Aside0.mk c
      clear c
      cases ht : l1.all (impl_areWithin.ok 0 1000) with
      | true =>
        have HT := Aside0.mk ht
        have HF : Aside0 (impl_areWithin.f l1 0 1000 = some true) := ⟨congrArg some ht⟩
        clear ht
        go_wp2_with (first | (go_at_call 74; (with_reducible refine (impl_areWithin.calls A1 c1 l1 0 1000 _ _ (Kd.C_below HR.out (by repeat (first | (with_reducible first | exact HB.out | apply below_alloc | apply pw_below_drewN | apply below_drew1) | exact HB.out))) HC.out HF.out).mono ?_); rintro e w30 ⟨rfl, hb⟩; have nB1_ := Aside0.mk (blk_below (by (with_reducible repeat (first | refine blk_drewN ?_ _ | refine blk_drew ?_ | refine blk_alloc ?_ _)); exact B1.out) hb); have nB2_ := Aside0.mk (blk_below (by (with_reducible repeat (first | refine blk_drewN ?_ _ | refine blk_drew ?_ | refine blk_alloc ?_ _)); exact B2.out) hb); have nB3_ := Aside0.mk (blk_below (by (with_reducible repeat (first | refine blk_drewN ?_ _ | refine blk_drew ?_ | refine blk_alloc ?_ _)); exact B3.out) hb); have nHB_ := Aside0.mk (below_step (by repeat (first | (with_reducible first | exact HB.out | apply below_alloc | apply pw_below_drewN | apply below_drew1) | exact HB.out)) hb); clear HB B1 B2 B3; have HB := nHB_; have B1 := nB1_; have B2 := nB2_; have B3 := nB3_; clear nHB_ nB1_ nB2_ nB3_; clear hb; have z2 : w30.cell? ⟨g2, 0, none⟩ = some (.slice A1 l1.length c1) := (blk_cell B2.out 0).trans rfl))
        go_meet
        case rel => exact ⟨true, rfl, ⟨by unfold impl_ShareOut.cond; rw [HT.out, decide_eq_true HL.out]; rfl⟩, ⟨(by (with_reducible repeat (first | refine blk_drewN ?_ _ | refine blk_drew ?_ | refine blk_alloc ?_ _)); exact B1.out)⟩, ⟨(by (with_reducible repeat (first | refine blk_drewN ?_ _ | refine blk_drew ?_ | refine blk_alloc ?_ _)); exact B2.out)⟩, ⟨(by (with_reducible repeat (first | refine blk_drewN ?_ _ | refine blk_drew ?_ | refine blk_alloc ?_ _)); exact B3.out)⟩, ⟨(by repeat (first | (with_reducible first | exact HB.out | apply below_alloc | apply pw_below_drewN | apply below_drew1) | exact HB.out))⟩⟩
      | false =>
        have HT := Aside0.mk ht
        have HF : Aside0 (impl_areWithin.f l1 0 1000 = some false) := ⟨congrArg some ht⟩
        clear ht
        go_wp2_with (first | (go_at_call 74; (with_reducible refine (impl_areWithin.calls A1 c1 l1 0 1000 _ _ (Kd.C_below HR.out (by repeat (first | (with_reducible first | exact HB.out | apply below_alloc | apply pw_below_drewN | apply below_drew1) | exact HB.out))) HC.out HF.out).mono ?_); rintro e w30 ⟨rfl, hb⟩; have nB1_ := Aside0.mk (blk_below (by (with_reducible repeat (first | refine blk_drewN ?_ _ | refine blk_drew ?_ | refine blk_alloc ?_ _)); exact B1.out) hb); have nB2_ := Aside0.mk (blk_below (by (with_reducible repeat (first | refine blk_drewN ?_ _ | refine blk_drew ?_ | refine blk_alloc ?_ _)); exact B2.out) hb); have nB3_ := Aside0.mk (blk_below (by (with_reducible repeat (first | refine blk_drewN ?_ _ | refine blk_drew ?_ | refine blk_alloc ?_ _)); exact B3.out) hb); have nHB_ := Aside0.mk (below_step (by repeat (first | (with_reducible first | exact HB.out | apply below_alloc | apply pw_below_drewN | apply below_drew1) | exact HB.out)) hb); clear HB B1 B2 B3; have HB := nHB_; have B1 := nB1_; have B2 := nB2_; have B3 := nB3_; clear nHB_ nB1_ nB2_ nB3_; clear hb; have z2 : w30.cell? ⟨g2, 0, none⟩ = some (.slice A1 l1.length c1) := (blk_cell B2.out 0).trans rfl))
        go_meet
        case rel => exact ⟨false, rfl, ⟨by unfold impl_ShareOut.cond; rw [HT.out, Bool.and_false]⟩, ⟨(by (with_reducible repeat (first | refine blk_drewN ?_ _ | refine blk_drew ?_ | refine blk_alloc ?_ _)); exact B1.out)⟩, ⟨(by (with_reducible repeat (first | refine blk_drewN ?_ _ | refine blk_drew ?_ | refine blk_alloc ?_ _)); exact B2.out)⟩, ⟨(by (with_reducible repeat (first | refine blk_drewN ?_ _ | refine blk_drew ?_ | refine blk_alloc ?_ _)); exact B3.out)⟩, ⟨(by repeat (first | (with_reducible first | exact HB.out | apply below_alloc | apply pw_below_drewN | apply below_drew1) | exact HB.out))⟩⟩
    · have cb : decide ((l1.length : Int) ≤ 10) = false := decide_eq_false (by omega)
      have HL := Aside0.mk c
      clear c
      go_wp2
      go_meet
      case rel => exact ⟨false, rfl, ⟨by unfold impl_ShareOut.cond; rw [decide_eq_false HL.out, Bool.false_and]⟩, ⟨(by (with_reducible repeat (first | refine blk_drewN ?_ _ | refine blk_drew ?_ | refine blk_alloc ?_ _)); exact B1.out)⟩, ⟨(by (with_reducible repeat (first | refine blk_drewN ?_ _ | refine blk_drew ?_ | refine blk_alloc ?_ _)); exact B2.out)⟩, ⟨(by (with_reducible repeat (first | refine blk_drewN ?_ _ | refine blk_drew ?_ | refine blk_alloc ?_ _)); exact B3.out)⟩, ⟨(by repeat (first | (with_reducible first | exact HB.out | apply below_alloc | apply pw_below_drewN | apply below_drew1) | exact HB.out))⟩⟩
  case rest =>
    clear z1 z2 B1 B2 B3 HB
    obtain ⟨b, rfl, HBB, B1, B2, B3, HB⟩ := hcut
    obtain ⟨t, ht⟩ : ∃ t, impl_within.f a0 0 1000000 = some t := by unfold impl_within.f; split <;> exact ⟨_, rfl⟩
    have HT := Aside0.mk ht
    clear ht
    cases b with
    | false =>
      have hr : r = [] := by
        have h0 := H.out
        unfold impl_ShareOut.f impl_ShareOut.all? at h0
        rw [impl_ShareOut.all_f HBB.out, HT.out] at h0
        rw [Option.bind_some, Option.bind_some, if_neg (fun h => absurd h.2 (by decide))] at h0
        exact (Option.some.inj h0).symm
      subst hr
      have z1 : wc.cell? ⟨g1, 0, none⟩ = some (.int .i64 a0) := (blk_cell B1.out 0).trans rfl
      have z2 : wc.cell? ⟨g2, 0, none⟩ = some (.slice A1 l1.length c1) := (blk_cell B2.out 0).trans rfl
      have z3 : wc.cell? ⟨g3, 0, none⟩ = some (.int .i64 0) := (blk_cell B3.out 0).trans rfl
      cases t with
      | true =>
        go_wp2_with (first | (go_at_call 76; (with_reducible refine (impl_within.calls a0 0 1000000 true _ HT.out).mono ?_); rintro e w33 ⟨rfl, ⟨m, rfl⟩⟩))
        go_ret
        exact ⟨_, rfl, Kd.R_nil _ _ _ _ _, (by repeat (first | (with_reducible first | exact HB.out | apply below_alloc | apply pw_below_drewN | apply below_drew1) | exact HB.out))⟩
      | false =>
        go_wp2_with (first | (go_at_call 76; (with_reducible refine (impl_within.calls a0 0 1000000 false _ HT.out).mono ?_); rintro e w33 ⟨rfl, ⟨m, rfl⟩⟩))
        go_ret
        exact ⟨_, rfl, Kd.R_nil _ _ _ _ _, (by repeat (first | (with_reducible first | exact HB.out | apply below_alloc | apply pw_below_drewN | apply below_drew1) | exact HB.out))⟩
    | true =>
      have h0 := H.out
      unfold impl_ShareOut.f at h0
      rw [impl_ShareOut.all_t HBB.out, HT.out, Option.bind_eq_some_iff] at h0
      obtain ⟨all, hs, h0⟩ := h0
      rw [Option.bind_some] at h0
      have HS := Aside0.mk hs
      clear hs
      have z1 : wc.cell? ⟨g1, 0, none⟩ = some (.int .i64 a0) := (blk_cell B1.out 0).trans rfl
      have z2 : wc.cell? ⟨g2, 0, none⟩ = some (.slice A1 l1.length c1) := (blk_cell B2.out 0).trans rfl
      cases t with
      | false =>
        rw [if_neg (fun h => absurd h.1 (by decide))] at h0
        obtain rfl := Option.some.inj h0
        clear h0
        go_wp2_with (first | ((with_reducible refine gate_callee (f := 75) rfl ?_); refine goesL_ (some 21) rfl rfl Try.func75 (by kernel_rfl) rfl #[.slice A1 l1.length c1] rfl (by (try simp only [List.map_toArray, List.map_cons, List.map_nil]); first | done | rfl) ?_; (with_reducible refine (impl_sumOf.calls k A1 c1 l1 all _ (Kd.C_below HR.out (by repeat (first | (with_reducible first | exact HB.out | apply below_alloc | apply pw_below_drewN | apply below_drew1) | exact HB.out))) HC.out HS.out).mono ?_); rintro e w31 ⟨rfl, hd⟩; refine ⟨_, rfl, ?_⟩; have hb : Below wc.heap.size wc w31 := (by obtain ⟨m, hm⟩ := hd; rw [hm]; exact pw_below_drewN (Below.refl _ _) m); clear hd z1 z2; have nB1_ := Aside0.mk (blk_below (by (with_reducible repeat (first | refine blk_drewN ?_ _ | refine blk_drew ?_ | refine blk_alloc ?_ _)); exact B1.out) hb); have nB2_ := Aside0.mk (blk_below (by (with_reducible repeat (first | refine blk_drewN ?_ _ | refine blk_drew ?_ | refine blk_alloc ?_ _)); exact B2.out) hb); have nB3_ := Aside0.mk (blk_below (by (with_reducible repeat (first | refine blk_drewN ?_ _ | refine blk_drew ?_ | refine blk_alloc ?_ _)); exact B3.out) hb); have nHB_ := Aside0.mk (below_step (by repeat (first | (with_reducible first | exact HB.out | apply below_alloc | apply pw_below_drewN | apply below_drew1) | exact HB.out)) hb); clear HB B1 B2 B3; have HB := nHB_; have B1 := nB1_; have B2 := nB2_; have B3 := nB3_; clear nHB_ nB1_ nB2_ nB3_; clear hb) | ((with_reducible refine gate_store (t := 3) (p := 5) rfl ?_); have hsc : w31.cell? ⟨g3, 0, none⟩ = some (.int .i64 0) := (blk_cell B3.out 0).trans rfl; have hsf : w31.frozen? ⟨g3, 0, none⟩ = false := blk_frozen B3.out 0; refine store_event (t := 3) (p := 5) (v := ?vo_w32) (w1 := (w31.setCell ⟨g3, 0, none⟩ (.int .i64 all))) ?hg ?ho ?hn ?hr ?_; (case ho => rfl); (case hg => rfl); (case hn => rfl); (case hr => first | (go_simp; done) | (go_simp; rfl)); intro w32 hw; clear hsc hsf; have n1_ : Aside0 (w32.heap[g1]? = some (.cells #[.int .i64 a0] 3 (0, 0))) := ⟨by rw [hw]; exact blk_far B1.out (by have := LG.out; show g1 ≠ g3; omega) _⟩; have n2_ : Aside0 (w32.heap[g2]? = some (.cells #[.slice A1 l1.length c1] 30 (0, 0))) := ⟨by rw [hw]; exact blk_far B2.out (by have := LG.out; show g2 ≠ g3; omega) _⟩; have n3_ : Aside0 (w32.heap[g3]? = some (.cells #[.int .i64 all] 3 (0, 0))) := ⟨by rw [hw]; exact blk_put B3.out 0 _ rfl⟩; have n0_ : Aside0 (Below w.heap.size w w32) := ⟨by rw [hw]; exact below_set HB.out (by have := LG.out; omega)⟩; clear hw B1 B2 B3 HB; have B1 := n1_; have B2 := n2_; have B3 := n3_; have HB := n0_; clear n0_ n1_ n2_ n3_; have z1 : w32.cell? ⟨g1, 0, none⟩ = some (.int .i64 a0) := (blk_cell B1.out 0).trans rfl; have z3 : w32.cell? ⟨g3, 0, none⟩ = some (.int .i64 all) := (blk_cell B3.out 0).trans rfl) | (go_at_call 76; (with_reducible refine (impl_within.calls a0 0 1000000 false _ HT.out).mono ?_); rintro e w33 ⟨rfl, ⟨m, rfl⟩⟩))
        go_ret
        exact ⟨_, rfl, Kd.R_nil _ _ _ _ _, (by repeat (first | (with_reducible first | exact HB.out | apply below_alloc | apply pw_below_drewN | apply below_drew1) | exact HB.out))⟩
      | true =>
        by_cases ca : 1 ≤ all
        · rw [if_pos ⟨rfl, ca⟩] at h0
          have HM := Aside0.mk h0
          have HA := Aside0.mk ca
          have cb : decide (all < 1) = false := decide_eq_false (by omega)
          clear h0 ca
          go_upto_region 6 with (first | ((with_reducible refine gate_callee (f := 75) rfl ?_); refine goesL_ (some 21) rfl rfl Try.func75 (by kernel_rfl) rfl #[.slice A1 l1.length c1] rfl (by (try simp only [List.map_toArray, List.map_cons, List.map_nil]); first | done | rfl) ?_; (with_reducible refine (impl_sumOf.calls k A1 c1 l1 all _ (Kd.C_below HR.out (by repeat (first | (with_reducible first | exact HB.out | apply below_alloc | apply pw_below_drewN | apply below_drew1) | exact HB.out))) HC.out HS.out).mono ?_); rintro e w31 ⟨rfl, hd⟩; refine ⟨_, rfl, ?_⟩; have hb : Below wc.heap.size wc w31 := (by obtain ⟨m, hm⟩ := hd; rw [hm]; exact pw_below_drewN (Below.refl _ _) m); clear hd z1 z2; have nB1_ := Aside0.mk (blk_below (by (with_reducible repeat (first | refine blk_drewN ?_ _ | refine blk_drew ?_ | refine blk_alloc ?_ _)); exact B1.out) hb); have nB2_ := Aside0.mk (blk_below (by (with_reducible repeat (first | refine blk_drewN ?_ _ | refine blk_drew ?_ | refine blk_alloc ?_ _)); exact B2.out) hb); have nB3_ := Aside0.mk (blk_below (by (with_reducible repeat (first | refine blk_drewN ?_ _ | refine blk_drew ?_ | refine blk_alloc ?_ _)); exact B3.out) hb); have nHB_ := Aside0.mk (below_step (by repeat (first | (with_reducible first | exact HB.out | apply below_alloc | apply pw_below_drewN | apply below_drew1) | exact HB.out)) hb); clear HB B1 B2 B3; have HB := nHB_; have B1 := nB1_; have B2 := nB2_; have B3 := nB3_; clear nHB_ nB1_ nB2_ nB3_; clear hb) | ((with_reducible refine gate_store (t := 3) (p := 5) rfl ?_); have hsc : w31.cell? ⟨g3, 0, none⟩ = some (.int .i64 0) := (blk_cell B3.out 0).trans rfl; have hsf : w31.frozen? ⟨g3, 0, none⟩ = false := blk_frozen B3.out 0; refine store_event (t := 3) (p := 5) (v := ?vo_w32) (w1 := (w31.setCell ⟨g3, 0, none⟩ (.int .i64 all))) ?hg ?ho ?hn ?hr ?_; (case ho => rfl); (case hg => rfl); (case hn => rfl); (case hr => first | (go_simp; done) | (go_simp; rfl)); intro w32 hw; clear hsc hsf; have n1_ : Aside0 (w32.heap[g1]? = some (.cells #[.int .i64 a0] 3 (0, 0))) := ⟨by rw [hw]; exact blk_far B1.out (by have := LG.out; show g1 ≠ g3; omega) _⟩; have n2_ : Aside0 (w32.heap[g2]? = some (.cells #[.slice A1 l1.length c1] 30 (0, 0))) := ⟨by rw [hw]; exact blk_far B2.out (by have := LG.out; show g2 ≠ g3; omega) _⟩; have n3_ : Aside0 (w32.heap[g3]? = some (.cells #[.int .i64 all] 3 (0, 0))) := ⟨by rw [hw]; exact blk_put B3.out 0 _ rfl⟩; have n0_ : Aside0 (Below w.heap.size w w32) := ⟨by rw [hw]; exact below_set HB.out (by have := LG.out; omega)⟩; clear hw B1 B2 B3 HB; have B1 := n1_; have B2 := n2_; have B3 := n3_; have HB := n0_; clear n0_ n1_ n2_ n3_; have z1 : w32.cell? ⟨g1, 0, none⟩ = some (.int .i64 a0) := (blk_cell B1.out 0).trans rfl; have z3 : w32.cell? ⟨g3, 0, none⟩ = some (.int .i64 all) := (blk_cell B3.out 0).trans rfl) | (go_at_call 76; (with_reducible refine (impl_within.calls a0 0 1000000 true _ HT.out).mono ?_); rintro e w33 ⟨rfl, ⟨m, rfl⟩⟩))
          go_cut [6, 7] (fun v6 v7 wc => v7 = .int .i64 a0 ∧ Aside0 (Kd.R (Kd.int .i64) 3 wc w32.heap.size (fun _ => True) v6 []) ∧ Aside0 (Below w32.heap.size w32 wc))
          case first =>
            have za : ((w32.drewN (m + 1)).alloc (.cells #[] 3)).cell? ⟨g1, 0, none⟩ = some (.int .i64 a0) := (blk_cell (blk_alloc (blk_drewN B1.out (m + 1)) _) 0).trans rfl
            go_region
            go_wp2
            go_meet
            case rel => exact ⟨rfl, ⟨Kd.R_of_own (enc := Value.int .i64) (own_lit_of (w32.drewN (m + 1)) w32.heap.size 3 ([] : List Int) (by simp) (by simp)) (fun _ _ => trivial)⟩, ⟨below_alloc (pw_below_drewN (Below.refl _ _) _) _⟩⟩
          case rest =>
            clear z1 z3
            obtain ⟨rfl, HO, HB3⟩ := hcut
            have hm := HM.out
            unfold impl_ShareOut.main at hm
            split at hm
            case isFalse => cases hm
            case isTrue hcn =>
            obtain ⟨hn1, hn10, hl0, hln⟩ := hcn
            have HRr := Aside0.mk (Option.some.inj hm)
            clear hm
            have N1 := Aside0.mk hn1
            have N10 := Aside0.mk hn10
            have L0 := Aside0.mk hl0
            have LN := Aside0.mk hln
            have ha : all ≠ 0 := by have := HA.out; omega
            have W32S := Aside0.mk (below_size HB.out)
            have LTS : Aside0 (g1 < w32.heap.size ∧ g2 < w32.heap.size ∧ g3 < w32.heap.size) := ⟨blk_lt B1.out, blk_lt B2.out, blk_lt B3.out⟩
            clear hn1 hn10 hl0 hln
            have z2 : wc.cell? ⟨g2, 0, none⟩ = some (.slice A1 l1.length c1) := (blk_cell (blk_below B2.out HB3.out) 0).trans rfl
            go_wp2
            go_loopg [6, 7, 33] l1.length (fun kq v6 v7 v33 w' => ∃ (j : Nat) (x7 : Int), v33 = .int .i64 (j : Int) ∧ v7 = .int .i64 x7 ∧ Aside0 (x7 = impl_ShareOut.lft a0 all (l1.take j)) ∧ Aside0 (j + kq = l1.length) ∧ Aside0 (Kd.R (Kd.int .i64) 3 w' w32.heap.size (fun _ => True) v6 ((l1.take j).map (impl_ShareOut.q a0 all))) ∧ Aside0 (Below w32.heap.size w32 w'))
            case atStart => exact ⟨0, a0, rfl, rfl, ⟨rfl⟩, ⟨Nat.zero_add _⟩, ⟨HO.out⟩, HB3⟩
            case round =>
              clear HO HB3 z2
              obtain ⟨j, x7, rfl, rfl, HX7, HJ, HO, HB3⟩ := hrel
              by_cases c : j < l1.length
              · have cJ := Aside0.mk c
                have c' : decide ((j : Int) < (l1.length : Int)) = true := decide_eq_true (by omega)
                have c2 : 0 ≤ (j : Int) := by omega
                have c3 : (j : Int) < (l1.length : Int) := by omega
                obtain ⟨ad, e, hx⟩ := Kd.at_int (Kd.C_below HR.out (below_step HB.out HB3.out)) (j : Int) c2 c3
                cases e
                replace hx : wr.cell? (ad.add j) = some (.int .i64 (rd l1 (j : Int))) := hx
                have z1 : wr.cell? ⟨g1, 0, none⟩ = some (.int .i64 a0) := (blk_cell (blk_below B1.out HB3.out) 0).trans rfl
                have z3 : wr.cell? ⟨g3, 0, none⟩ = some (.int .i64 all) := (blk_cell (blk_below B3.out HB3.out) 0).trans rfl
                have Ny : Aside0 ((l1.take (j + 1)).map (impl_ShareOut.q a0 all) = (l1.take j).map (impl_ShareOut.q a0 all) ++ [wrap64 (Int.tdiv (wrap64 (a0 * (rd l1 (j : Int)))) all)]) := ⟨impl_ShareOut.map_take _ _ _ c⟩
                clear c
                replace c2 := eq_true c2
                replace c3 := eq_true c3
                go_wp2_with (first | ((with_reducible refine gate_builtin (b := .append) (xs := #[.tmp 37, .tmp 43]) rfl ?_); at_builtin; refine Kd.R_append (Kd.int .i64) (w0 := w32) w32.heap.size rfl (.tmp 37) (.tmp 43) 30 3 (.int .i64 0) 8 rfl Try.underlying30 info3 rfl (by decide) (by omega) u6 ((l1.take j).map (impl_ShareOut.q a0 all)) (wrap64 (Int.tdiv (wrap64 (a0 * (rd l1 (j : Int)))) all)) [.int .i64 (wrap64 (Int.tdiv (wrap64 (a0 * (rd l1 (j : Int)))) all))] (fun _ => True) (fun _ => False) rfl rfl ?aP (fun _ hk => hk.elim) ?aF ?aO ?aB ?aS ?aL ?_; (case aP => exact rfl); (case aB => exact (by repeat (first | (with_reducible first | exact HB3.out | apply below_alloc | apply pw_below_drewN | apply below_drew1) | exact HB3.out))); (case aF => exact (fun _ _ => trivial)); (case aO => exact (by (with_reducible repeat (first | apply Kd.R_alloc | apply Kd.R_drewN | apply Kd.R_drew)); exact HO.out)); (case aS => exact (below_size (by repeat (first | (with_reducible first | exact HB3.out | apply below_alloc | apply pw_below_drewN | apply below_drew1) | exact HB3.out)))); (case aL => have := N10.out; rw [List.length_map, List.length_take]; omega); intro v40 w40 ho hb hg hat; rw [← Ny.out] at ho; have n0_ := Aside0.mk hb; have n1_ := Aside0.mk ho; clear HB3 HO z1 z3 hx; have HB3 := n0_; have HO := n1_; clear n0_ n1_ ho hb hg hat; have z1 : w40.cell? ⟨g1, 0, none⟩ = some (.int .i64 a0) := (blk_cell (blk_below B1.out HB3.out) 0).trans rfl; have z3 : w40.cell? ⟨g3, 0, none⟩ = some (.int .i64 all) := (blk_cell (blk_below B3.out HB3.out) 0).trans rfl))
                go_roundg (l1.length - (j + 1))
                case measure => have := HJ.out; have := cJ.out; omega
                case rel => exact ⟨j + 1, _, (by have := N10.out; have := cJ.out; rw [show wrap64 ((j : Int) + 1) = ((j + 1 : Nat) : Int) by unfold wrap64; omega]), rfl, ⟨by rw [impl_ShareOut.lft_take _ _ _ _ cJ.out, HX7.out]; rfl⟩, ⟨by have := cJ.out; omega⟩, HO, HB3⟩
              · have ej : j = l1.length := by have := HJ.out; omega
                subst ej
                rw [List.take_length] at HX7 HO
                have c' : decide (((l1.length : Nat) : Int) < (l1.length : Int)) = false := decide_eq_false (by omega)
                obtain ⟨lf, hlf⟩ : ∃ lf : Nat, x7 = (lf : Int) := ⟨x7.toNat, by have := L0.out; have := HX7.out; omega⟩
                subst hlf
                obtain ⟨m0, hm0⟩ : ∃ m0, l1.length = m0 + 1 := ⟨l1.length - 1, by have := N1.out; omega⟩
                have HM0 := Aside0.mk hm0
                have HOO : Aside0 (impl_orderOf.f 12 ((l1.length : Nat) : Int) = some (impl_ShareOut.ids m0)) := ⟨by rw [hm0]; exact impl_ShareOut.orderOf m0 (by have := N10.out; omega)⟩
                have IDL : Aside0 ((impl_ShareOut.ids m0).length = l1.length) := ⟨by rw [hm0]; simp [impl_ShareOut.ids]⟩
                have IDP : Aside0 (0 < (impl_ShareOut.ids m0).length) := ⟨by simp [impl_ShareOut.ids]⟩
                obtain ⟨gq, co, eq_, hgq, hgql, _⟩ := Kd.R_form HO.out (by rw [List.length_map]; have := N1.out; omega)
                subst eq_
                have ho := HO.out
                rw [List.length_map] at ho
                clear HO
                have HO := Aside0.mk ho
                obtain ⟨bs, hbs⟩ : ∃ bs, bs = wr.heap.size := ⟨_, rfl⟩
                have GQ : Aside0 (gq < bs) := ⟨by rw [hbs]; exact hgql⟩
                have GQ2 := Aside0.mk hgq
                have BS := Aside0.mk hbs
                clear ho hgq hgql hm0 c
                have z2 : wr.cell? ⟨g2, 0, none⟩ = some (.slice A1 l1.length c1) := (blk_cell (blk_below B2.out HB3.out) 0).trans rfl
                have c4 : (0 ≤ (lf : Int)) = True := eq_true (by omega)
                go_upto_region 15 with (first | (go_at_call 77; (with_reducible refine (impl_orderOf.calls 12 _ _ _ HOO.out).mono ?_); rintro e w41 ⟨vo, rfl, ho, hb⟩; have n0_ := Aside0.mk (Kd.R_elder' HO.out (Kd.R_base ho) hb); have n1_ := Aside0.mk (below_step HB3.out hb); obtain ⟨g, cap, ev, hgb, hgl, _⟩ := Kd.R_form ho IDP.out; rw [IDL.out] at ev; subst ev; have HID := Aside0.mk ho; have GB := Aside0.mk hgb; clear HO HB3 ho hb hgb hgl z2; have HO := n0_; have HB3 := n1_; clear n0_ n1_; have PRE := Aside0.mk (impl_ShareOut.pre HR.out (below_step HB.out HB3.out) (blk_below B1.out HB3.out) (blk_below B2.out HB3.out) (blk_below B3.out HB3.out) HID.out HM0.out N10.out HA.out (by have := LTS.out; have := GB.out; have := W32S.out; have := GQ.out; have := GQ2.out; have := BS.out; omega) rfl)) | (go_at_call 78; (with_reducible refine (impl_ShareOut.sort PRE.out).mono ?_); rintro e w42 ⟨rfl, hg, hr⟩; have n0_ := Aside0.mk (Kd.R_mono (Kd.R_bound hr) (ok' := fun k => k ≠ gq) (fun k hk => by have := hk.2.1; have := GQ.out; have := BS.out; omega)); have n1_ := Aside0.mk (Kd.R_mono (Kd.R_grown HO.out hg (fun k hk e_ => hk.2 (by rw [e_]; rfl))) (ok' := fun _ => True) (fun _ _ => trivial)); have n2_ := Aside0.mk (HB3.out.grown hg HB3.out.size (fun k hk => by injection hk with hk; have := GB.out; have := GQ.out; have := GQ2.out; have := BS.out; omega)); clear HO HB3 HID hg hr PRE; have HO := n1_; have HB3 := n2_; have HID := n0_; clear n0_ n1_ n2_))
                obtain ⟨hrn, hrc, _⟩ := Kd.R_reads' HID.out
                have hlc : lf ≤ cap := by have := LN.out; have := HX7.out; omega
                have LFN : Aside0 (lf ≤ l1.length) := ⟨by have := LN.out; have := HX7.out; omega⟩
                have c5 : ((lf : Int) ≤ (cap : Int)) = True := eq_true (by omega)
                have c6 : (lf ≤ cap) = True := eq_true hlc
                obtain ⟨od, hod⟩ : ∃ od, od = impl_ShareOut.ord a0 all l1 m0 := ⟨_, rfl⟩
                have HOD := Aside0.mk hod
                have nHID : Aside0 (Kd.R (Kd.int .i64) 3 w42 bs (fun k => k ≠ gq) (.slice (some ⟨g, 0, none⟩) l1.length cap) od) := ⟨by rw [BS.out, hod]; exact HID.out⟩
                clear hrn hrc hlc hod HID
                have HID := nHID
                clear nHID
                go_wp2
                go_loopg [12, 63] lf (fun kq v12 v63 w' => ∃ (j : Nat) (cur : List Int), v63 = .int .i64 (j : Int) ∧ Aside0 (cur = impl_ShareOut.incs (l1.map (impl_ShareOut.q a0 all)) (od.take j)) ∧ Aside0 (j + kq = lf) ∧ Aside0 (Kd.R (Kd.int .i64) 3 w' bs (fun k => k ≠ gq) (.slice (some ⟨g, 0, none⟩) l1.length cap) od) ∧ Aside0 (Kd.R (Kd.int .i64) 3 w' w32.heap.size (fun _ => True) (.slice (some ⟨gq, 0, none⟩) l1.length co) cur) ∧ Aside0 (Below w32.heap.size w32 w'))
                case atStart => exact ⟨0, _, rfl, ⟨rfl⟩, ⟨Nat.zero_add _⟩, HID, HO, HB3⟩
                case round =>
                  clear HO HB3 HID
                  obtain ⟨j, cur, rfl, HCUR, HJ2, HID, HO, HB3⟩ := hrel
                  by_cases c : j < lf
                  · have cJ := Aside0.mk c
                    obtain ⟨ix, hix⟩ : ∃ ix, ix = rd od (j : Int) := ⟨_, rfl⟩
                    have hb2 := impl_ShareOut.ord_lt a0 all l1 m0 j (by have := LFN.out; have := HM0.out; omega)
                    rw [← HOD.out, ← hix] at hb2
                    have hx0 : 0 ≤ ix := hb2.1
                    have hx1 : ix < (l1.length : Int) := by have := hb2.2; have := HM0.out; omega
                    have hxc : wr.cell? ⟨g, j, none⟩ = some (.int .i64 ix) := by rw [hix]; exact (Kd.R_celln 0 HID.out (j : Int) (by omega) (by have := LFN.out; omega)).1
                    have hyc : wr.cell? ⟨gq, ix.toNat, none⟩ = some (.int .i64 (rd cur ix)) := (Kd.R_celln 0 HO.out ix hx0 hx1).1
                    have hxf : wr.frozen? ⟨gq, ix.toNat, none⟩ = false := (Kd.R_celln 0 HO.out ix hx0 hx1).2
                    have HIX := Aside0.mk hix
                    have c7 : decide ((j : Int) < (lf : Int)) = true := decide_eq_true (by omega)
                    have c8 : (j < lf) = True := eq_true c
                    replace hx0 := eq_true hx0
                    replace hx1 := eq_true hx1
                    clear hix hb2 c
                    go_wp2_with (first | ((with_reducible refine gate_store (t := 3) (p := 72) rfl ?_); refine store_event (t := 3) (p := 72) (v := ?vo_w50) (w1 := (wr.setCell ⟨gq, ix.toNat, none⟩ (.int .i64 (wrap64 (rd cur ix + 1))))) ?hg ?ho ?hn ?hr ?_; (case ho => rfl); (case hg => rfl); (case hn => rfl); (case hr => first | (go_simp; done) | (go_simp; rfl)); intro w50 hw; have n0_ : Aside0 (Kd.R (Kd.int .i64) 3 w50 bs (fun k => k ≠ gq) (.slice (some ⟨g, 0, none⟩) l1.length cap) od) := ⟨by rw [hw]; exact Kd.R_far HID.out (fun k hk => hk) _⟩; have n1_ : Aside0 (Kd.R (Kd.int .i64) 3 w50 w32.heap.size (fun _ => True) (.slice (some ⟨gq, 0, none⟩) l1.length co) (cur.set ix.toNat (wrap64 (rd cur ix + 1)))) := ⟨by rw [hw]; exact Kd.R_putn HO.out ix _⟩; have n2_ : Aside0 (Below w32.heap.size w32 w50) := ⟨by rw [hw]; exact below_set HB3.out GQ2.out⟩; clear HO HB3 HID hw; have HO := n1_; have HB3 := n2_; have HID := n0_; clear n0_ n1_ n2_ hxc hxf hyc))
                    go_roundg (lf - (j + 1))
                    case measure => have := HJ2.out; have := cJ.out; omega
                    case rel => exact ⟨j + 1, _, (by have := LFN.out; have := N10.out; have := cJ.out; rw [show wrap64 ((j : Int) + 1) = ((j + 1 : Nat) : Int) by unfold wrap64; omega]), ⟨by rw [impl_ShareOut.incs_take _ _ _ (by rw [HOD.out, impl_ShareOut.ord_len]; have := LFN.out; have := HM0.out; have := cJ.out; omega), ← HCUR.out, ← HIX.out]⟩, ⟨by have := cJ.out; omega⟩, HID, HO, HB3⟩
                  · have ej : j = lf := by have := HJ2.out; omega
                    subst ej
                    have c7 : decide (((j : Nat) : Int) < (j : Int)) = false := decide_eq_false (by omega)
                    have HRES : Aside0 (cur = r) := ⟨by rw [← HRr.out, HCUR.out, HOD.out, ← HX7.out, HM0.out]; rfl⟩
                    clear c
                    go_wp2
                    go_ret
                    exact ⟨_, rfl, by rw [← HRES.out]; exact Kd.R_lower HO.out W32S.out, below_step HB.out HB3.out⟩
        · rw [if_neg (fun h => ca h.2)] at h0
          obtain rfl := Option.some.inj h0
          have cb : decide (all < 1) = true := decide_eq_true (by omega)
          clear h0 ca
          go_wp2_with (first | ((with_reducible refine gate_callee (f := 75) rfl ?_); refine goesL_ (some 21) rfl rfl Try.func75 (by kernel_rfl) rfl #[.slice A1 l1.length c1] rfl (by (try simp only [List.map_toArray, List.map_cons, List.map_nil]); first | done | rfl) ?_; (with_reducible refine (impl_sumOf.calls k A1 c1 l1 all _ (Kd.C_below HR.out (by repeat (first | (with_reducible first | exact HB.out | apply below_alloc | apply pw_below_drewN | apply below_drew1) | exact HB.out))) HC.out HS.out).mono ?_); rintro e w31 ⟨rfl, hd⟩; refine ⟨_, rfl, ?_⟩; have hb : Below wc.heap.size wc w31 := (by obtain ⟨m, hm⟩ := hd; rw [hm]; exact pw_below_drewN (Below.refl _ _) m); clear hd z1 z2; have nB1_ := Aside0.mk (blk_below (by (with_reducible repeat (first | refine blk_drewN ?_ _ | refine blk_drew ?_ | refine blk_alloc ?_ _)); exact B1.out) hb); have nB2_ := Aside0.mk (blk_below (by (with_reducible repeat (first | refine blk_drewN ?_ _ | refine blk_drew ?_ | refine blk_alloc ?_ _)); exact B2.out) hb); have nB3_ := Aside0.mk (blk_below (by (with_reducible repeat (first | refine blk_drewN ?_ _ | refine blk_drew ?_ | refine blk_alloc ?_ _)); exact B3.out) hb); have nHB_ := Aside0.mk (below_step (by repeat (first | (with_reducible first | exact HB.out | apply below_alloc | apply pw_below_drewN | apply below_drew1) | exact HB.out)) hb); clear HB B1 B2 B3; have HB := nHB_; have B1 := nB1_; have B2 := nB2_; have B3 := nB3_; clear nHB_ nB1_ nB2_ nB3_; clear hb) | ((with_reducible refine gate_store (t := 3) (p := 5) rfl ?_); have hsc : w31.cell? ⟨g3, 0, none⟩ = some (.int .i64 0) := (blk_cell B3.out 0).trans rfl; have hsf : w31.frozen? ⟨g3, 0, none⟩ = false := blk_frozen B3.out 0; refine store_event (t := 3) (p := 5) (v := ?vo_w32) (w1 := (w31.setCell ⟨g3, 0, none⟩ (.int .i64 all))) ?hg ?ho ?hn ?hr ?_; (case ho => rfl); (case hg => rfl); (case hn => rfl); (case hr => first | (go_simp; done) | (go_simp; rfl)); intro w32 hw; clear hsc hsf; have n1_ : Aside0 (w32.heap[g1]? = some (.cells #[.int .i64 a0] 3 (0, 0))) := ⟨by rw [hw]; exact blk_far B1.out (by have := LG.out; show g1 ≠ g3; omega) _⟩; have n2_ : Aside0 (w32.heap[g2]? = some (.cells #[.slice A1 l1.length c1] 30 (0, 0))) := ⟨by rw [hw]; exact blk_far B2.out (by have := LG.out; show g2 ≠ g3; omega) _⟩; have n3_ : Aside0 (w32.heap[g3]? = some (.cells #[.int .i64 all] 3 (0, 0))) := ⟨by rw [hw]; exact blk_put B3.out 0 _ rfl⟩; have n0_ : Aside0 (Below w.heap.size w w32) := ⟨by rw [hw]; exact below_set HB.out (by have := LG.out; omega)⟩; clear hw B1 B2 B3 HB; have B1 := n1_; have B2 := n2_; have B3 := n3_; have HB := n0_; clear n0_ n1_ n2_ n3_; have z1 : w32.cell? ⟨g1, 0, none⟩ = some (.int .i64 a0) := (blk_cell B1.out 0).trans rfl; have z3 : w32.cell? ⟨g3, 0, none⟩ = some (.int .i64 all) := (blk_cell B3.out 0).trans rfl) | (go_at_call 76; (with_reducible refine (impl_within.calls a0 0 1000000 true _ HT.out).mono ?_); rintro e w33 ⟨rfl, ⟨m, rfl⟩⟩))
          go_ret
          exact ⟨_, rfl, Kd.R_nil _ _ _ _ _, (by repeat (first | (with_reducible first | exact HB.out | apply below_alloc | apply pw_below_drewN | apply below_drew1) | exact HB.out))⟩

end Go.Proofs.Ytdiphnkkomfmdaa.QFnPrices
