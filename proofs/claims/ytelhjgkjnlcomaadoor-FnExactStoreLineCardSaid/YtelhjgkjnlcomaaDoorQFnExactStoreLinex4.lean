-- Printed for this claim by a changed copy of the kit's print (the session's own; own contracts in place of some functions).
import Derived.Test.YtelhjgkjnlcomaaDoorQFnExactStoreLinex0
import Derived.Test.YtelhjgkjnlcomaaDoorQFnExactStoreLinex3
namespace Go.Proofs.YtelhjgkjnlcomaaDoor.QFnExactStoreLine
open Go.RowKit Go.Proofs.YtelhjgkjnlcomaaDoorW.PrintWords Go.Proofs.YtelhjgkjnlcomaaDoorW.PrintLast Go.Proofs.YtelhjgkjnlcomaaDoorW.PrintMore
attribute [local go_sem] max2_int min2_int max_two min_two max_three min_three max_four min_four   -- for this text's walks alone
set_option linter.unusedVariables false
set_option linter.unusedSimpArgs false

/-! ### impl_StoreOk: function 37 -/
--import Derived.WalkSpells
--import Derived.Deep.QuietTactic
--import Derived.BigQuiet
def impl_StoreOk.row (r : List Int) : Bool := decide (r.length = 2) && ((decide (1 ≤ rd r 0) && decide (rd r 0 ≤ 100)) && (decide (1 ≤ rd r 1) && decide (rd r 1 ≤ 100)))
def impl_StoreOk.f (l0 : List (List Int)) : Option Bool := some (decide (l0.length ≤ 20) && l0.all impl_StoreOk.row)
theorem impl_StoreOk.wi (a b c : Int) : impl_within.f a b c = some (decide (b ≤ a) && decide (a ≤ c)) := by
  unfold impl_within.f
  by_cases h : a ≥ b
  · rw [if_pos h, decide_eq_true (show b ≤ a from h)]; rfl
  · rw [if_neg h, decide_eq_false (show ¬ b ≤ a from h)]; rfl
set_option maxHeartbeats 1000000 in
theorem impl_StoreOk.rem (a b : Int) (t : Bool) (ht : t = ((decide (1 ≤ a) && decide (a ≤ 100)) && (decide (1 ≤ b) && decide (b ≤ 100)))) (w : World) : Calls Tryd.prog 59 #[.int .i64 a, .int .i64 b] w fun e w' => e = .returned (.bool t) ∧ ∃ m, w' = w.drewN m := by
  cases h1 : (decide (1 ≤ a) && decide (a ≤ 100)) with
  | false =>
    have H1 := Aside0.mk ((impl_StoreOk.wi a 1 100).trans (congrArg some h1))
    obtain rfl : t = false := by rw [ht, h1]; rfl
    clear h1 ht
    go_enter Tryd.func59, Tryd.ntmps59
    go_wp2_with (first | (go_at_call 55; (with_reducible refine (impl_within.calls a 1 100 false _ H1.out).mono ?_); rintro e w1 ⟨rfl, ⟨m1, rfl⟩⟩))
    go_ret
    exact ⟨rfl, m1, rfl⟩
  | true =>
    have H1 := Aside0.mk ((impl_StoreOk.wi a 1 100).trans (congrArg some h1))
    have ht2 : t = (decide (1 ≤ b) && decide (b ≤ 100)) := by rw [ht, h1]; rfl
    have H2 := Aside0.mk ((impl_StoreOk.wi b 1 100).trans (congrArg some ht2.symm))
    clear h1 ht ht2
    go_enter Tryd.func59, Tryd.ntmps59
    go_wp2_with (first | (go_at_call 55; (with_reducible refine (impl_within.calls a 1 100 true _ H1.out).mono ?_); rintro e w1 ⟨rfl, ⟨m1, rfl⟩⟩) | (go_at_call 55; (with_reducible refine (impl_within.calls b 1 100 t _ H2.out).mono ?_); rintro e w2 ⟨rfl, ⟨m2, rfl⟩⟩))
    go_ret
    exact ⟨rfl, m1 + m2, by first | rfl | simp [World.drewN_drewN] | (simp [World.drewN, Nat.add_assoc])⟩
theorem impl_StoreOk.rowAt {w : World} {A : Option Addr} {n : Nat} {xs : List (List Int)} (h : Kd.C (Kd.slice 3 (Kd.int .i64)) w A n xs) (i : Int) (h0 : 0 ≤ i) (h1 : i < n) : ∃ ad A0 c0, A = some ad ∧ w.cell? (ad.add i.toNat) = some (.slice A0 (xs.getD i.toNat []).length c0) ∧ (Kd.int .i64).C w A0 (xs.getD i.toNat []).length (xs.getD i.toNat []) := by
  obtain ⟨ad, c, e, _, hK, hc0⟩ := Kd.C_get h ([] : List Int) i h0 h1
  have hc : ∀ j u, c[j]? = some u → w.cell? (ad.add (i.toNat * 1 + j)) = some u := hc0
  obtain ⟨A0, c0, rfl, l0, g0⟩ := hK
  exact ⟨ad, A0, c0, e, by have hq := hc 0 _ rfl; rwa [Nat.mul_one, Nat.add_zero] at hq, g0⟩
set_option maxHeartbeats 4000000 in
theorem impl_StoreOk.pred (A : Option Addr) (c : Nat) (r : List Int) (w : World) (hC : (Kd.int .i64).C w A r.length r) : Calls Tryd.prog 58 #[.slice A r.length c] w fun e w' => e = .returned (.bool (!impl_StoreOk.row r)) ∧ ∃ m, w' = w.drewN m := by
  by_cases h2 : r.length = 2
  · have b0 : (((r.length : Int)) != 2) = false := bne_eq_false_iff_eq.mpr (by omega)
    have b1 : (r.length != 2) = false := bne_eq_false_iff_eq.mpr h2
    obtain ⟨ad, e, hx0⟩ := Kd.at_int hC 0 (by omega) (by omega)
    cases e
    obtain ⟨ad1, e, hx1⟩ := Kd.at_int hC 1 (by omega) (by omega)
    obtain rfl : ad = ad1 := by injection e
    rw [show ((0 : Int)).toNat = 0 from rfl, Addr.add_zero'] at hx0
    rw [show ((1 : Int)).toNat = 1 from rfl] at hx1
    have hx1b := hx1
    simp only [Nat.reduceMul, Nat.reduceEqDiff, Go.Addr.add, ↓reduceIte] at hx1
    obtain ⟨t, ht⟩ : ∃ t, t = ((decide (1 ≤ rd r 0) && decide (rd r 0 ≤ 100)) && (decide (1 ≤ rd r 1) && decide (rd r 1 ≤ 100))) := ⟨_, rfl⟩
    have hrow : impl_StoreOk.row r = t := by unfold impl_StoreOk.row; rw [decide_eq_true h2, Bool.true_and, ht]
    rw [hrow]
    generalize rd r 0 = a at hx0 ht
    generalize rd r 1 = b at hx1 hx1b ht
    have HT := Aside0.mk ht
    have p0 : (0 : Int) < (r.length : Int) := by omega
    have p1 : (1 : Int) < (r.length : Int) := by omega
    have n0 : 0 < r.length := by omega
    have n1 : 1 < r.length := by omega
    have hcr := fun W => impl_StoreOk.rem a b t HT.out W
    have HCR := Aside0.mk hcr
    clear ht hrow e hC h2 hcr
    go_enter Tryd.func58, Tryd.ntmps58
    go_wp2
    go_quiet ((go_at_call 59; exact Calls.quiet_of (impl_StoreOk.rem _ _ _ HT.out _)))
    go_wp2
    go_ret
    exact ⟨rfl, by first | exact ⟨_, rfl⟩ | simp⟩
  · have b0 : (((r.length : Int)) != 2) = true := bne_iff_ne.mpr (by omega)
    have b1 : (r.length != 2) = true := bne_iff_ne.mpr h2
    have hrow : impl_StoreOk.row r = false := by unfold impl_StoreOk.row; rw [decide_eq_false h2, Bool.false_and]
    rw [hrow]
    clear hrow h2 hC
    go_enter Tryd.func58, Tryd.ntmps58
    go_wp2
    go_quiet (fail)
    go_wp2
    go_ret
    exact ⟨rfl, by first | exact ⟨_, rfl⟩ | simp⟩
def impl_StoreOk.IxPost (l : List (List Int)) (w : World) (e : Ending) (w' : World) : Prop := ∃ i : Int, e = .returned (.int .i64 i) ∧ (if l.all impl_StoreOk.row = true then i = -1 else 0 ≤ i) ∧ Drawn0 w w'
theorem impl_StoreOk.all_of {l : List (List Int)} (h : ∀ j : Nat, j < l.length → impl_StoreOk.row (l.getD j []) = true) : l.all impl_StoreOk.row = true := by
  rw [List.all_eq_true]
  intro x hx
  obtain ⟨j, hj, rfl⟩ := List.getElem_of_mem hx
  have := h j hj
  rwa [List.getD_eq_getElem?_getD, List.getElem?_eq_getElem hj] at this
theorem impl_StoreOk.all_not {l : List (List Int)} {j : Nat} (hj : j < l.length) (h : impl_StoreOk.row (l.getD j []) = false) : ¬ l.all impl_StoreOk.row = true := by
  rw [List.all_eq_true]
  intro h2
  rw [List.getD_eq_getElem?_getD, List.getElem?_eq_getElem hj] at h
  have h3 := h2 _ (List.getElem_mem hj)
  rw [Option.getD_some] at h
  rw [h] at h3
  cases h3
set_option maxHeartbeats 4000000 in
theorem impl_StoreOk.index (A0 : Option Addr) (c0 : Nat) (l : List (List Int)) (w : World) (hr : Kd.C (Kd.slice 3 (Kd.int .i64)) w A0 l.length l) :
    Calls Tryd.prog 87 #[.slice A0 l.length c0, .func (.func 58) #[] #[]] w (impl_StoreOk.IxPost l w) := by
  have HR := Aside0.mk hr
  have hm := Kd.C_max hr
  have HM := Aside0.mk hm
  clear hr hm
  go_enter Tryd.func87, Tryd.ntmps87
  go_wp2
  go_loopg [8] l.length (fun kq v8 w' => ∃ i : Int, v8 = .int .i64 i ∧ Aside0 (0 ≤ i ∧ i + kq = (l.length : Int)) ∧ Aside0 (∀ j : Nat, (j : Int) < i → impl_StoreOk.row (l.getD j []) = true) ∧ Drawn0 w w')
  case atStart => exact ⟨0, (by first | rfl | (simp; done) | (simp [*]; done)), ⟨by omega⟩, ⟨fun j hj => by omega⟩, by repeat (first | exact Drawn0.refl _ | apply Drawn0.step)⟩
  case round =>
    obtain ⟨i, rfl, HI, HJ, ⟨m1, rfl⟩⟩ := hrel
    have hI := HI.out
    by_cases c : i < (l.length : Int)
    · have c1 : decide (i < (l.length : Int)) = true := decide_eq_true c
      have c2 : 0 ≤ i := hI.1
      obtain ⟨ad, A1, ca, e, hx, hC⟩ := impl_StoreOk.rowAt (Kd.C_drewN HR.out m1) i c2 c
      cases e
      generalize hxi : l.getD i.toNat [] = x at hx hC
      have HX := Aside0.mk hxi
      have HC := Aside0.mk hC
      have HCI := Aside0.mk c
      clear hxi hC hI
      replace c := eq_true c
      replace c2 := eq_true c2
      cases hb : impl_StoreOk.row x with
      | true =>
        have HB := Aside0.mk hb
        clear hb
        go_wp2_with (first | (go_at_call 58; (with_reducible refine (impl_StoreOk.pred _ _ x _ HC.out).mono ?_); rw [HB.out]; rintro e w1 ⟨rfl, ⟨m2, rfl⟩⟩))
        go_roundg (l.length - (i.toNat + 1))
        case measure => have := HI.out; have := HCI.out; omega
        case rel => exact ⟨i + 1, (by have := HI.out; have := HM.out; have := HCI.out; rw [show wrap64 (i + 1) = i + 1 by unfold wrap64; omega]), ⟨by have := HI.out; have := HCI.out; omega⟩, ⟨fun j hj => by
          by_cases e : (j : Int) = i
          · rw [show j = i.toNat by omega, HX.out]; exact HB.out
          · exact HJ.out j (by omega)⟩, by repeat (first | exact Drawn0.refl _ | apply Drawn0.step)⟩
      | false =>
        have HB := Aside0.mk hb
        clear hb
        go_wp2_with (first | (go_at_call 58; (with_reducible refine (impl_StoreOk.pred _ _ x _ HC.out).mono ?_); rw [HB.out]; rintro e w1 ⟨rfl, ⟨m2, rfl⟩⟩))
        go_ret
        refine ⟨i, rfl, ?_, by repeat (first | exact Drawn0.refl _ | apply Drawn0.step)⟩
        rw [if_neg (impl_StoreOk.all_not (j := i.toNat) (by have := HI.out; have := HCI.out; omega) (by rw [HX.out]; exact HB.out))]
        exact HI.out.1
    · have c1 : decide (i < (l.length : Int)) = false := decide_eq_false c
      have HCI := Aside0.mk c
      clear hI c
      go_wp2
      go_ret
      refine ⟨-1, rfl, ?_, by repeat (first | exact Drawn0.refl _ | apply Drawn0.step)⟩
      rw [if_pos (impl_StoreOk.all_of (fun j hj => HJ.out j (by have := HI.out; have := HCI.out; omega)))]
set_option maxHeartbeats 4000000 in
theorem impl_StoreOk.contains (A0 : Option Addr) (c0 : Nat) (l : List (List Int)) (t : Bool) (w : World) (hr : Kd.C (Kd.slice 3 (Kd.int .i64)) w A0 l.length l) (ht : l.all impl_StoreOk.row = t) :
    Calls Tryd.prog 57 #[.slice A0 l.length c0, .func (.func 58) #[] #[]] w fun e w' => e = .returned (.bool (!t)) ∧ Drawn0 w w' := by
  have HR := Aside0.mk hr
  have HT := Aside0.mk ht
  clear hr ht
  go_enter Tryd.func57, Tryd.ntmps57
  go_wp2_with fail
  go_at_call 87
  (with_reducible refine (impl_StoreOk.index _ _ l _ HR.out).mono ?_)
  rintro e w1 ⟨i, rfl, hi, ⟨m, rfl⟩⟩
  rw [HT.out] at hi
  cases t with
  | true =>
    rw [if_pos rfl] at hi
    subst hi
    go_wp2
    go_ret
    exact ⟨rfl, by repeat (first | exact Drawn0.refl _ | apply Drawn0.step)⟩
  | false =>
    rw [if_neg (by decide)] at hi
    have b : decide (0 ≤ i) = true := decide_eq_true hi
    clear hi
    go_wp2
    go_ret
    exact ⟨rfl, by repeat (first | exact Drawn0.refl _ | apply Drawn0.step)⟩
set_option maxHeartbeats 4000000 in
theorem impl_StoreOk.calls (A0 : Option Addr) (c0 : Nat) (l0 : List (List Int)) (r : Bool) (w : World) (hr0 : Kd.C (Kd.slice 3 (Kd.int .i64)) w A0 l0.length l0) (hc0 : l0.length ≤ c0) (h : impl_StoreOk.f l0 = some r) :
    Calls Tryd.prog 37 #[.slice A0 l0.length c0] w fun e w' => e = .returned (.bool r) ∧ Drawn0 w w' := by
  unfold impl_StoreOk.f at h
  have HR := Aside0.mk hr0
  clear hr0 hc0
  by_cases c : l0.length ≤ 20
  · rw [decide_eq_true c, Bool.true_and] at h
    have b0 : decide ((l0.length : Int) ≤ 20) = true := decide_eq_true (by omega)
    have b1 : decide (l0.length ≤ 20) = true := decide_eq_true c
    have HT := Aside0.mk (Option.some.inj h)
    clear h c
    go_enter Tryd.func37, Tryd.ntmps37
    go_wp2_with fail
    go_at_call 57
    (with_reducible refine (impl_StoreOk.contains _ _ l0 r _ HR.out HT.out).mono ?_)
    rintro e w1 ⟨rfl, ⟨m, rfl⟩⟩
    go_wp2
    go_ret
    exact ⟨by cases r <;> rfl, by repeat (first | exact Drawn0.refl _ | apply Drawn0.step)⟩
  · rw [decide_eq_false c, Bool.false_and] at h
    obtain rfl := Option.some.inj h
    have b0 : decide ((l0.length : Int) ≤ 20) = false := decide_eq_false (by omega)
    have b1 : decide (l0.length ≤ 20) = false := decide_eq_false c
    clear h c
    go_enter Tryd.func37, Tryd.ntmps37
    go_wp2
    go_ret
    exact ⟨rfl, by repeat (first | exact Drawn0.refl _ | apply Drawn0.step)⟩

/-! ### impl_copyLists: function 60 -/
def impl_copyLists.l0 : Nat → List (List Int) → List (List Int) → Int → Int → Option ((List (List Int)))
  | 0, _, _, _, _ => none
  | k + 1, x3, x7, x8, x9 => if x9 < x8 then (if 0 ≤ x9 then (if x9 < (x7.length : Int) then ((some (([] : List Int) : List Int)).bind fun y155 => (if y155.length + (rd_L1 x7 x9).length < 17592186044416 then (if x3.length < 5864062014805 then (impl_copyLists.l0 k (x3 ++ [(y155 ++ (rd_L1 x7 x9))]) x7 x8 (wrap64 (x9 + 1))) else (none)) else (none))) else (none)) else (none)) else (some x3)
def impl_copyLists.f (k : Nat) (l0 : List (List Int)) : Option ((List (List Int))) := impl_copyLists.l0 k (([] : List (List Int))) l0 (l0.length : Int) 0
theorem impl_copyLists.mono_l : ∀ k, (∀ y0 y1 y2 y3, LeO (impl_copyLists.l0 k y0 y1 y2 y3) (impl_copyLists.l0 (k + 1) y0 y1 y2 y3))
  | 0 => fun _ _ _ _ r h => by simp [impl_copyLists.l0] at h
  | k + 1 => by
    have ih0 := impl_copyLists.mono_l k
    · intro y0 y1 y2 y3
      unfold impl_copyLists.l0
      repeat' first
      | (with_reducible exact ih0 _ _ _ _)
      | (with_reducible exact LeO.refl _)
      | (with_reducible exact LeO.none _)
      | (with_reducible refine LeO.ite ?_ ?_)
      | (with_reducible refine LeO.bind ?_ (fun _ => ?_))
      | exact ih0 _ _ _ _
      | exact LeO.none _
      | refine LeO.ite ?_ ?_
      | refine LeO.bind ?_ (fun _ => ?_)
theorem impl_copyLists.mono : ∀ a0 k, LeO (impl_copyLists.f k a0) (impl_copyLists.f (k + 1) a0) := by
  intro a0 k
  have ih0 := impl_copyLists.mono_l k
  unfold impl_copyLists.f
  repeat' first
      | (with_reducible exact ih0 _ _ _ _)
      | (with_reducible exact LeO.refl _)
      | (with_reducible exact LeO.none _)
      | (with_reducible refine LeO.ite ?_ ?_)
      | (with_reducible refine LeO.bind ?_ (fun _ => ?_))
      | exact ih0 _ _ _ _
      | exact LeO.none _
      | refine LeO.ite ?_ ?_
      | refine LeO.bind ?_ (fun _ => ?_)
set_option maxHeartbeats 8000000 in
set_option maxRecDepth 100000 in
theorem impl_copyLists.calls (k : Nat) (A0 : Option Addr) (c0 : Nat) (l0 : List (List Int)) (r : List (List Int)) (w : World) (hr0 : Kd.C (Kd.slice 3 (Kd.int .i64)) w A0 l0.length l0) (hc0 : l0.length ≤ c0) (h : impl_copyLists.f k l0 = some r) :
    Calls Tryd.prog 60 #[.slice A0 l0.length c0] w fun e w' => ∃ v0_ : Value, e = .returned (v0_) ∧ Kd.S (Kd.slice 3 (Kd.int .i64)) 22 w' w.heap.size (fun _ => True) v0_ r ∧ Below w.heap.size w w' := by
  have HR0 := Aside0.mk hr0
  have HC0 := Aside0.mk hc0
  clear hr0 hc0
  have HB := Aside0.mk (Below.refl w.heap.size w)
  have H : (impl_copyLists.l0 k (([] : List (List Int))) l0 (l0.length : Int) 0) = some r := h
  clear h
  obtain ⟨y151, hy151⟩ : ∃ y_ : List (List Int), y_ = (([] : List (List Int))) := ⟨_, rfl⟩
  replace H : (impl_copyLists.l0 k y151 l0 (l0.length : Int) 0) = some r := by first | (rw [hy151]; with_reducible exact H) | (have H2_ := (Option.bind_some _ _).symm.trans H; rw [hy151]; with_reducible exact H2_) | (have H2_ := (Option.bind_some _ _).symm.trans H; with_reducible exact H2_) | with_reducible exact H | (rw [hy151]; exact H) | exact H
  have Ny151 := Aside0.mk hy151
  clear hy151
  have H' := Aside0.mk H
  clear H
  go_enter Tryd.func60, Tryd.ntmps60
  go_wp2_with (first | ((with_reducible refine gate_dst (N := 6) rfl ?_); refine Kd.S_lit (Kd.slice 3 (Kd.int .i64)) _ 22 ?hg (N := 6) ?hd (xs := ([] : List (List Int))) (inner := []) (ok := fun _ => True) (okp := fun _ => True) ?hr ?hp (fun _ hk => hk) trivial (Below.refl _ _) (Nat.le_refl _) (by simp) ?_; (case hd => rfl); (case hg => rfl); (case hr => first | (go_simp; done) | (go_simp; rfl)); (case hp => exact (Reps.none _ _)); intro v152 w2 ho3 hb hg_ hnew_; clear hg_ hnew_; (first | rw [← Ny151.out] at ho3 | (simp only [Int.reduceToNat] at ho3; rw [← Ny151.out] at ho3)); have n0_ := Aside0.mk (Kd.S_lower ho3 (below_size (by repeat (first | (with_reducible first | exact HB.out | apply below_alloc | apply pw_below_drewN | apply below_drew1) | exact HB.out)))); have n1_ := Aside0.mk (below_step (by repeat (first | (with_reducible first | exact HB.out | apply below_alloc | apply pw_below_drewN | apply below_drew1) | exact HB.out)) hb); clear HB; have HO153 := n0_; have HB := n1_; clear n0_ n1_; clear hb ho3))
  go_loopg [3, 9] k (fun kq v3 v9 w' => ∃ (x3_1 : List (List Int)) (x9_1 : Int), v9 = .int .i64 x9_1 ∧ Aside0 (impl_copyLists.l0 kq x3_1 l0 (l0.length : Int) x9_1 = some r) ∧ Aside0 (kq ≤ k) ∧ Aside0 (Kd.S (Kd.slice 3 (Kd.int .i64)) 22 w' w.heap.size (fun _ => True) v3 x3_1) ∧ Aside0 (Below w.heap.size w w'))
  case atStart => exact ⟨(y151), (0), (by first | rfl | (simp; done) | (simp [*]; done)), H', ⟨Nat.le_refl _⟩, ⟨by (with_reducible repeat (first | apply Kd.S_alloc | apply Kd.S_drewN | apply Kd.S_drew)); exact HO153.out⟩, ⟨by repeat (first | (with_reducible first | exact HB.out | apply below_alloc | apply pw_below_drewN | apply below_drew1) | exact HB.out)⟩⟩
  case round =>
    clear H'
    try clear p2
    obtain ⟨x3_1, x9_1, rfl, HA, HK1, HO_3, HB⟩ := hrel
    cases gk with
    | zero => exact absurd HA.out (by simp [impl_copyLists.l0])
    | succ k1 =>
      have H := HA.out
      clear HA
      simp only [impl_copyLists.l0] at H
      by_cases c4 : x9_1 < (l0.length : Int)
      · rw [if_pos c4] at H
        have c4b0 : decide (x9_1 < (l0.length : Int)) = true := decide_eq_true c4
        clear c4
        by_cases c5 : 0 ≤ x9_1
        · rw [if_pos c5] at H
          have c5b0 : decide (0 ≤ x9_1) = true := decide_eq_true c5
          clear c5
          by_cases c6 : x9_1 < (l0.length : Int)
          · rw [if_pos c6] at H
            have c6b0 : decide (x9_1 < (l0.length : Int)) = true := decide_eq_true c6
            clear c6
            obtain ⟨y155, hy155⟩ : ∃ y_ : List Int, y_ = (([] : List Int)) := ⟨_, rfl⟩
            replace H : (if y155.length + (rd_L1 l0 x9_1).length < 17592186044416 then (if x3_1.length < 5864062014805 then (impl_copyLists.l0 k1 (x3_1 ++ [(y155 ++ (rd_L1 l0 x9_1))]) l0 (l0.length : Int) (wrap64 (x9_1 + 1))) else (none)) else (none)) = some r := by first | (rw [hy155]; with_reducible exact H) | (have H2_ := (Option.bind_some _ _).symm.trans H; rw [hy155]; with_reducible exact H2_) | (have H2_ := (Option.bind_some _ _).symm.trans H; with_reducible exact H2_) | with_reducible exact H | (rw [hy155]; exact H) | exact H
            have Ny155 := Aside0.mk hy155
            clear hy155
            by_cases c7 : y155.length + (rd_L1 l0 x9_1).length < 17592186044416
            · rw [if_pos c7] at H
              have LMc7 := Aside0.mk c7
              clear c7
              obtain ⟨y158, hy158⟩ : ∃ y_ : List Int, y_ = (y155 ++ (rd_L1 l0 x9_1)) := ⟨_, rfl⟩
              replace H : (if x3_1.length < 5864062014805 then (impl_copyLists.l0 k1 (x3_1 ++ [y158]) l0 (l0.length : Int) (wrap64 (x9_1 + 1))) else (none)) = some r := by first | (rw [hy158]; with_reducible exact H) | (have H2_ := (Option.bind_some _ _).symm.trans H; rw [hy158]; with_reducible exact H2_) | (have H2_ := (Option.bind_some _ _).symm.trans H; with_reducible exact H2_) | with_reducible exact H | (rw [hy158]; exact H) | exact H
              have Ny158 := Aside0.mk hy158
              clear hy158
              by_cases c8 : x3_1.length < 5864062014805
              · rw [if_pos c8] at H
                have LMc8 := Aside0.mk c8
                clear c8
                obtain ⟨y161, hy161⟩ : ∃ y_ : List (List Int), y_ = (x3_1 ++ [y158]) := ⟨_, rfl⟩
                replace H : (impl_copyLists.l0 k1 y161 l0 (l0.length : Int) (wrap64 (x9_1 + 1))) = some r := by first | (rw [hy161]; with_reducible exact H) | (have H2_ := (Option.bind_some _ _).symm.trans H; rw [hy161]; with_reducible exact H2_) | (have H2_ := (Option.bind_some _ _).symm.trans H; with_reducible exact H2_) | with_reducible exact H | (rw [hy161]; exact H) | exact H
                have Ny161 := Aside0.mk hy161
                clear hy161
                have H' := Aside0.mk H
                clear H
                have p154 : 0 ≤ (x9_1 : Int) := of_decide_eq_true (by first | (with_reducible assumption) | assumption)
                have q154 : x9_1 < (l0.length : Int) := of_decide_eq_true (by first | (with_reducible assumption) | assumption)
                obtain ⟨ad154, A154_0, c154_0, e154, hx154_0, hl154_0, hi154_0⟩ := at_L1 HR0.out x9_1 p154 q154
                cases e154
                (try replace hx154_0 := (HB.out.cell (World.block_lt_of_cell? w _ hx154_0)).trans hx154_0)
                have HR154_0 := Aside0.mk hi154_0
                have HC154_0 := Aside0.mk hl154_0
                clear hi154_0 hl154_0
                replace p154 := eq_true p154
                replace q154 := eq_true q154
                go_wp2_with (first | ((with_reducible refine gate_dst (N := 14) rfl ?_); refine Kd.R_lit (Kd.int .i64) _ 3 ?hg (N := 14) ?hd (xs := ([] : List Int)) (inner := []) (ok := fun _ => True) (okp := fun _ => True) ?hr ?hp (fun _ hk => hk) trivial (Below.refl _ _) (Nat.le_refl _) (by simp) ?_; (case hd => rfl); (case hg => rfl); (case hr => first | (go_simp; done) | (go_simp; rfl)); (case hp => exact (Reps.none _ _)); intro v156 w9 ho10 hb hg_ hnew_; clear hg_ hnew_; (first | rw [← Ny155.out] at ho10 | (simp only [Int.reduceToNat] at ho10; rw [← Ny155.out] at ho10)); have n0_ := Aside0.mk (Kd.S_elder' (by (with_reducible repeat (first | apply Kd.S_alloc | apply Kd.S_drewN | apply Kd.S_drew)); exact HO_3.out) (Kd.R_base ho10) hb); have n1_ := Aside0.mk (Kd.R_lower ho10 (below_size (by repeat (first | (with_reducible first | exact HB.out | apply below_alloc | apply pw_below_drewN | apply below_drew1) | exact HB.out)))); have n2_ := Aside0.mk (below_step (by repeat (first | (with_reducible first | exact HB.out | apply below_alloc | apply pw_below_drewN | apply below_drew1) | exact HB.out)) hb); clear HO_3; clear HB; have HO_3 := n0_; have HO157 := n1_; have HB := n2_; clear n0_ n1_ n2_; clear hb ho10) | ((with_reducible refine gate_builtin (b := .append) (xs := #[.tmp 14, .tmp 15]) rfl ?_); at_builtin; refine Kd.R_append_rows (Kd.int .i64) (w0 := w) w.heap.size rfl (.tmp 14) (.tmp 15) 22 3 (.int .i64 0) 8 rfl Tryd.underlying22 info3 rfl (by decide) (by omega) v156 y155 (rd_L1 l0 x9_1) _ _ _ (fun _ => True) (fun _ => False) rfl rfl ?aO ?aR (fun _ _ h => h) (fun _ h => h.elim) ?aF ?aB ?aS ?aL ?_; (case aR => repeat (first | exact (Kd.C_below HR154_0.out HB.out) | (with_reducible refine Kd.C_alloc ?_ _) | (with_reducible refine Kd.C_drewN ?_ _) | (with_reducible refine Kd.C_drew ?_))); (case aB => exact (by repeat (first | (with_reducible first | exact HB.out | apply below_alloc | apply pw_below_drewN | apply below_drew1) | exact HB.out))); (case aF => exact (fun _ _ => trivial)); (case aO => exact (by (with_reducible repeat (first | apply Kd.R_alloc | apply Kd.R_drewN | apply Kd.R_drew)); exact HO157.out)); (case aS => exact (below_size (by repeat (first | (with_reducible first | exact HB.out | apply below_alloc | apply pw_below_drewN | apply below_drew1) | exact HB.out)))); (case aL => have := LMc7.out; omega); intro v159 w11 ho hb hg hat; rw [← Ny158.out] at ho; have n0_ := Aside0.mk (Kd.S_after (ok := (fun _ => True)) (by (with_reducible repeat (first | apply Kd.S_alloc | apply Kd.S_drewN | apply Kd.S_drew)); exact HO_3.out) hg hat); have n1_ := Aside0.mk (hb); have n2_ := Aside0.mk (ho); clear HO_3; clear HB; clear HO157; have HO_3 := n0_; have HB := n1_; have HO160 := n2_; clear n0_ n1_ n2_; clear ho hb hg hat; obtain ⟨Ao13, co13, eo13⟩ := Kd.R_slice HO160.out; subst eo13) | ((with_reducible refine gate_builtin (b := .append) (xs := #[.tmp 13, .tmp 17]) rfl ?_); at_builtin; refine Kd.S_append (Kd.slice 3 (Kd.int .i64)) (w0 := w) w.heap.size rfl (.tmp 13) (.tmp 17) 27 22 (.slice none 0 0) 24 rfl Tryd.underlying27 info22 rfl (by decide) (by omega) u3 x3_1 y158 [.slice Ao13 y158.length co13] (fun _ => True) (fun k_ => some k_ = (.slice Ao13 y158.length co13 : Value).ownBlock) rfl rfl ?aP (fun k_ hk_ => ((Kd.R_mono (ok' := fun k_ => ((fun _ => True)) k_ ∧ some k_ ≠ (u3 : Value).ownBlock) (Kd.R_apart' (HO160.out) (Kd.S_typed HO_3.out) (by decide)) (fun k_ hk => ⟨trivial, hk.2⟩))).1 k_ hk_.symm) ?aF ?aO ?aB ?aS ?aL ?_; (case aP => exact Kd.M_row (Kd.R_mono (Kd.R_tight rfl (Kd.R_mono (ok' := fun k_ => ((fun _ => True)) k_ ∧ some k_ ≠ (u3 : Value).ownBlock) (Kd.R_apart' (HO160.out) (Kd.S_typed HO_3.out) (by decide)) (fun k_ hk => ⟨trivial, hk.2⟩))) (fun _ h_ => h_))); (case aB => exact (by repeat (first | (with_reducible first | exact HB.out | apply below_alloc | apply pw_below_drewN | apply below_drew1) | exact HB.out))); (case aF => exact (fun _ _ => trivial)); (case aO => exact (by (with_reducible repeat (first | apply Kd.S_alloc | apply Kd.S_drewN | apply Kd.S_drew)); exact Kd.S_mono HO_3.out (fun k_ hk => ⟨trivial, fun e_ => hk.2 e_⟩))); (case aS => exact (below_size (by repeat (first | (with_reducible first | exact HB.out | apply below_alloc | apply pw_below_drewN | apply below_drew1) | exact HB.out)))); (case aL => have := LMc8.out; omega); intro v162 w12 ho hb hg hat; rw [← Ny161.out] at ho; have n0_ := Aside0.mk (hb); have n1_ := Aside0.mk (ho); clear HB; clear HO_3; clear HO160; have HB := n0_; have HO163 := n1_; clear n0_ n1_; clear ho hb hg hat))
                go_roundg k1
                case measure => have := HK1.out; omega
                case rel => exact ⟨(y161), (wrap64 (x9_1 + 1)), (by first | rfl | (simp; done) | (simp [*]; done)), H', ⟨by have := HK1.out; omega⟩, ⟨by (with_reducible repeat (first | apply Kd.S_alloc | apply Kd.S_drewN | apply Kd.S_drew)); exact HO163.out⟩, ⟨by repeat (first | (with_reducible first | exact HB.out | apply below_alloc | apply pw_below_drewN | apply below_drew1) | exact HB.out)⟩⟩
              · rw [if_neg c8] at H
                exact absurd H (by simp)
            · rw [if_neg c7] at H
              exact absurd H (by simp)
          · rw [if_neg c6] at H
            exact absurd H (by simp)
        · rw [if_neg c5] at H
          exact absurd H (by simp)
      · rw [if_neg c4] at H
        have c4b0 : decide (x9_1 < (l0.length : Int)) = false := decide_eq_false c4
        clear c4
        obtain rfl := Option.some.inj H
        go_wp2
        go_ret
        exact ⟨_, by first | rfl | (simp [errW_none, errW_some] <;> rfl) | (simp [*, errW_none, errW_some] <;> rfl), by (with_reducible repeat (first | apply Kd.S_alloc | apply Kd.S_drewN | apply Kd.S_drew)); exact HO_3.out, by repeat (first | (with_reducible first | exact HB.out | apply below_alloc | apply pw_below_drewN | apply below_drew1) | exact HB.out)⟩

-- NOT PRINTED: function 115 (slices_insertionSortCmpFunc_Sint)

-- NOT PRINTED: function 159 (slices_swapRangeCmpFunc_Sint)

-- NOT PRINTED: function 138 (slices_rotateCmpFunc_Sint)

-- NOT PRINTED: function 116 (slices_symMergeCmpFunc_Sint)

-- NOT PRINTED: function 88 (slices_stableCmpFunc_Sint)

-- NOT PRINTED: function 61 (slices_SortStableFunc_Sint)

/-! ### impl_SortStore: function 38 -/
--import Derived.WalkSpells
--import Derived.Deep.RegionHeld3
--import Derived.BigQuiet
--import Derived.Shelf.SlSortCmp.Insertion
--import Derived.Sort.LotA
def Tryd.laysSlF20_f115_ren : Go.Shelf.Ren := ⟨fun | 20 => 115 | n => n, fun | 24 => 22 | 22 => 27 | 3 => 3 | 25 => 67 | 4 => 4 | 0 => 0 | n => n, fun | n => n⟩
theorem Tryd.laysSlF20_f115 : Go.Proofs.SlLaysF.n20 Tryd.prog Tryd.laysSlF20_f115_ren := {
  mixed := by kernel_rfl
  f20 := ⟨Tryd.f115.name, by decide, Tryd.func115.trans (congrArg some (by kernel_rfl))⟩
  t0 := Tryd.underlying0
  a0 := Tryd.isAgg0
  z0 := Tryd.sizeOf0
  v0 := Tryd.zeroValue0
  t3 := Tryd.underlying3
  a3 := Tryd.isAgg3
  z3 := Tryd.sizeOf3
  v3 := Tryd.zeroValue3
  t4 := Tryd.underlying4
  a4 := Tryd.isAgg4
  z4 := Tryd.sizeOf4
  v4 := Tryd.zeroValue4
  t22 := Tryd.underlying27
  a22 := Tryd.isAgg27
  z22 := Tryd.sizeOf27
  v22 := Tryd.zeroValue27
  a24 := Tryd.isAgg22
  z24 := Tryd.sizeOf22
  t25 := Tryd.underlying67
  a25 := Tryd.isAgg67
  z25 := Tryd.sizeOf67
  v25 := Tryd.zeroValue67 }
/-! the row of rows behind the sort -/
def impl_SortStore.encI (inner : List Value) (n : Nat) (i : Fin n) : Value := inner.getD i.val (.bool false)
section
open Go.Sort
theorem impl_SortStore.holds {α : Type} [Inhabited α] (enc : α → Value) {w : World} {g : Nat} {cur : Array Value} {e : TypeId} {ss : List α} (hb : w.heap[g]? = some (.cells cur e (0, 0))) (ht : cur.toList.take ss.length = ss.map enc) : Go.Sort.Holds enc w g 0 ss.toArray := by
  intro j hj
  have hj' : j < ss.length := by simpa using hj
  refine ⟨?_, by simp [World.frozen?, hb]⟩
  have h1 : (cur.toList.take ss.length)[j]? = (ss.map enc)[j]? := by rw [ht]
  rw [List.getElem?_take_of_lt hj'] at h1
  simp only [World.cell?, hb, Nat.zero_add]
  simp only [Option.isSome_none, Bool.false_eq_true, if_false]
  rw [← Array.getElem?_toList, h1]
  simp [hj']
theorem impl_SortStore.heap_put {α : Type} [Inhabited α] (enc : α → Value) {w : World} {g m : Nat} {os : Array Obj} {cur : Array Value} {e : TypeId} {fr : Nat × Nat} (d : Array α) (hb : w.heap[g]? = some (.cells cur e fr)) :
    (Go.Proofs.sortWorld enc w g 0 m d os).heap[g]? = some (.cells (Go.Sort.putCells enc 0 d cur) e fr) := by
  have hg : g < w.heap.size := (Array.getElem?_eq_some_iff.1 hb).1
  unfold Go.Proofs.sortWorld
  rw [Go.Sort.heap_grow_old _ _ (by simpa using hg)]
  simp [Go.Sort.putRow, Go.Sort.mapBlock, Go.Sort.ahead, Array.getElem?_modify, hb, Go.Sort.onCells]
theorem impl_SortStore.grown_put {α : Type} [Inhabited α] (enc : α → Value) {w : World} {g m : Nat} {os : Array Obj} (d : Array α) : w.grownBy (Go.Proofs.sortWorld enc w g 0 m d os) (some g) := by
  unfold Go.Proofs.sortWorld
  refine ⟨rfl, rfl, rfl, by simp, fun k hk hne => ?_⟩
  rw [Go.Sort.heap_grow_old _ _ (by simpa using hk)]
  have : g ≠ k := fun e => hne (by rw [e])
  simp [Go.Sort.putRow, Go.Sort.mapBlock, Go.Sort.ahead, Array.getElem?_modify, this]
theorem impl_SortStore.take_put {α : Type} [Inhabited α] (enc : α → Value) (cur : Array Value) (ts : List α) (h : ts.length ≤ cur.size) : (Go.Sort.putCells enc 0 ts.toArray cur).toList.take ts.length = ts.map enc := by
  apply List.ext_getElem?
  intro j
  by_cases hj : j < ts.length
  · rw [List.getElem?_take_of_lt hj, Array.getElem?_toList]
    simp [Go.Sort.putCells, hj, show j < cur.size by omega]
  · rw [List.getElem?_take_eq_none (by omega), List.getElem?_eq_none (by simp; omega)]
end
theorem impl_SortStore.take1 {l : List Value} {j : Nat} {v : Value} (h : l[j]? = some v) : (l.drop j).take 1 = [v] := by
  obtain ⟨hj, rfl⟩ := List.getElem?_eq_some_iff.1 h
  rw [List.drop_eq_getElem_cons hj]
  rfl
theorem impl_SortStore.nodup_at {α : Type} {l : List α} (h : l.Nodup) {i j : Nat} (hi : i < l.length) (hj : j < l.length) (e : l[i] = l[j]) : i = j := by
  have hp := List.pairwise_iff_getElem.1 h
  rcases Nat.lt_trichotomy i j with c | c | c
  · exact absurd e (hp i j hi hj c)
  · exact c
  · exact absurd e.symm (hp j i hj hi c)
theorem impl_SortStore.S_sorted {d : Kd (List Int)} (hsz : d.sz = 1) {e base g cap m : Nat} {os : Array Obj} {w : World} {xs : List (List Int)} {inner : List Value} {fo : Nat → Nat} {okk : Nat → Prop}
    (ho : w.ownsRow base e 1 (.slice (some ⟨g, 0, none⟩) xs.length cap) xs.length inner)
    (hr : Reps ((Kd.tag fo d).M w base (fun k => okk k ∧ some k ≠ (Value.slice (some ⟨g, 0, none⟩) xs.length cap).ownBlock)) d.sz xs.zipIdx inner)
    (hg : okk g) [Inhabited (Fin xs.length)] (σ : List (Fin xs.length)) (hσ : σ.Nodup) (hl : σ.length = xs.length) :
    Kd.S d e (Go.Proofs.sortWorld (impl_SortStore.encI inner xs.length) w g 0 m σ.toArray os) base okk (.slice (some ⟨g, 0, none⟩) xs.length cap) (σ.map xs.get) := by
  have hgr := impl_SortStore.grown_put (impl_SortStore.encI inner xs.length) (w := w) (g := g) (m := m) (os := os) σ.toArray
  obtain ⟨hil, hx⟩ := ho
  rcases hx with ⟨h, _⟩ | ⟨g', cap', cur, hv, hbase, hb, h1, h2, h3, h4⟩
  · cases h
  cases hv
  have own' : (Go.Proofs.sortWorld (impl_SortStore.encI inner xs.length) w g 0 m σ.toArray os).ownsRow base e 1 (.slice (some ⟨g, 0, none⟩) xs.length cap) xs.length (σ.map (impl_SortStore.encI inner xs.length)) :=
    ⟨by simp [hl], .inr ⟨g, cap, _, rfl, hbase, impl_SortStore.heap_put _ _ hb, h1, h2, by simp [Go.Sort.putCells, h3], by rw [Nat.mul_one]; exact (congrArg (fun z => List.take z (Go.Sort.putCells (impl_SortStore.encI inner xs.length) 0 σ.toArray cur).toList) hl.symm).trans (impl_SortStore.take_put _ cur σ (by omega))⟩⟩
  obtain ⟨f, hf⟩ := Kd.reps_tag (d := d) (w := Go.Proofs.sortWorld (impl_SortStore.encI inner xs.length) w g 0 m σ.toArray os) (base := base) (ok := fun k => okk k ∧ some k ≠ (Value.slice (some ⟨g, 0, none⟩) xs.length cap).ownBlock) (xs := σ.map xs.get) (inner := σ.map (impl_SortStore.encI inner xs.length))
    (fun j k => (okk k ∧ some k ≠ (Value.slice (some ⟨g, 0, none⟩) xs.length cap).ownBlock) ∧ ∃ h : j < σ.length, fo k = σ[j].val)
    (fun i j k hi hj => by
      obtain ⟨_, h1, e1⟩ := hi
      obtain ⟨_, h2, e2⟩ := hj
      exact impl_SortStore.nodup_at hσ h1 h2 (Fin.ext (e1.symm.trans e2)))
    (fun j k hk => hk.1) (by rw [List.length_map, List.length_map, hsz, Nat.mul_one])
    (fun j x hj => by
      rw [List.getElem?_map] at hj
      obtain ⟨i, hi, rfl⟩ := Option.map_eq_some_iff.1 hj
      obtain ⟨hjl, rfl⟩ := List.getElem?_eq_some_iff.1 hi
      have hx : xs[(σ[j]).val]? = some xs[(σ[j]).val] := List.getElem?_eq_getElem (σ[j]).isLt
      have hM : d.M w base _ (xs.get σ[j]) _ := hr.2 (σ[j]).val _ (Kd.zip_at hx)
      have hil' : inner.length = xs.length := by rw [hil, Nat.mul_one]
      have hc1 : inner[(σ[j]).val]? = some (impl_SortStore.encI inner xs.length σ[j]) := by
        unfold impl_SortStore.encI
        rw [List.getD_eq_getElem?_getD, List.getElem?_eq_getElem (by rw [hil']; exact (σ[j]).isLt)]
        rfl
      have hc2 : (σ.map (impl_SortStore.encI inner xs.length))[j]? = some (impl_SortStore.encI inner xs.length σ[j]) := by rw [List.getElem?_map, List.getElem?_eq_getElem hjl]; rfl
      rw [hsz, Nat.mul_one, impl_SortStore.take1 hc1] at hM
      rw [hsz, Nat.mul_one, impl_SortStore.take1 hc2]
      refine d.M_mono (fun k hk => ⟨hk.1, hjl, hk.2⟩) (Kd.M_step (d := d) hM (fun k hk hlt => hgr.block k hlt (fun e_ => hk.1.2 (by rw [e_]; rfl))))
      )
  refine ⟨f, fun k hk => ?_, σ.map (impl_SortStore.encI inner xs.length), ?_, hf⟩
  · have : g = k := by simpa [Value.ownBlock] using hk
    rw [← this]; exact hg
  · rw [List.length_zipIdx, List.length_map, hl]
    rw [show (Kd.tag f d).sz = 1 from hsz]
    exact own'

/-! the comparison -/
def impl_SortStore.cf (r s : List Int) : Int := if rd r 0 * rd r 1 = rd s 0 * rd s 1 then rd r 0 - rd s 0 else rd r 0 * rd r 1 - rd s 0 * rd s 1
def impl_SortStore.le (r s : List Int) : Bool := decide (rd r 0 * rd r 1 < rd s 0 * rd s 1) || (decide (rd r 0 * rd r 1 = rd s 0 * rd s 1) && decide (rd r 0 ≤ rd s 0))
def impl_SortStore.sorted (l : List (List Int)) : List (List Int) := l.mergeSort impl_SortStore.le
theorem impl_SortStore.cf_le (r s : List Int) : (!(decide (impl_SortStore.cf s r < 0))) = impl_SortStore.le r s := by
  unfold impl_SortStore.cf impl_SortStore.le
  generalize rd r 0 * rd r 1 = x
  generalize rd s 0 * rd s 1 = y
  generalize rd r 0 = a
  generalize rd s 0 = b
  rw [Bool.eq_iff_iff]
  simp only [Bool.not_eq_true', decide_eq_false_iff_not, Bool.or_eq_true, Bool.and_eq_true, decide_eq_true_eq]
  by_cases h : y = x
  · rw [if_pos h]; omega
  · rw [if_neg h]; omega
theorem impl_SortStore.le_trans (a b c : List Int) (h1 : impl_SortStore.le a b = true) (h2 : impl_SortStore.le b c = true) : impl_SortStore.le a c = true := by
  unfold impl_SortStore.le at *
  simp only [Bool.or_eq_true, Bool.and_eq_true, decide_eq_true_eq] at *
  omega
theorem impl_SortStore.le_total (a b : List Int) : (impl_SortStore.le a b || impl_SortStore.le b a) = true := by
  unfold impl_SortStore.le
  simp only [Bool.or_eq_true, Bool.and_eq_true, decide_eq_true_eq]
  omega
def impl_SortStore.ok (r : List Int) : Prop := r.length = 2 ∧ (1 ≤ rd r 0 ∧ rd r 0 ≤ 100) ∧ (1 ≤ rd r 1 ∧ rd r 1 ≤ 100)
theorem impl_SortStore.ok_of {r : List Int} (h : impl_StoreOk.row r = true) : impl_SortStore.ok r := by
  unfold impl_StoreOk.row at h
  simp only [Bool.and_eq_true, decide_eq_true_eq] at h
  exact ⟨h.1, h.2.1, h.2.2⟩
theorem impl_SortStore.ok_ext {r s : List Int} (hr : impl_SortStore.ok r) (hs : impl_SortStore.ok s) (h0 : rd r 0 = rd s 0) (h1 : rd r 1 = rd s 1) : r = s := by
  obtain ⟨lr, _⟩ := hr
  obtain ⟨ls, _⟩ := hs
  match r, s, lr, ls with
  | [a, b], [c, d], _, _ =>
    have e0 : a = c := h0
    have e1 : b = d := h1
    rw [e0, e1]
theorem impl_SortStore.anti {r s : List Int} (hr : impl_SortStore.ok r) (hs : impl_SortStore.ok s) (h1 : impl_SortStore.le r s = true) (h2 : impl_SortStore.le s r = true) : r = s := by
  unfold impl_SortStore.le at h1 h2
  simp only [Bool.or_eq_true, Bool.and_eq_true, decide_eq_true_eq] at h1 h2
  have e0 : rd r 0 = rd s 0 := by omega
  refine impl_SortStore.ok_ext hr hs e0 ?_
  have hm : rd r 0 * rd r 1 = rd r 0 * rd s 1 := by rw [e0] at h1 h2 ⊢; omega
  exact Int.eq_of_mul_eq_mul_left (by have := hr.2.1.1; omega) hm
theorem impl_SortStore.mul_b {a b : Int} (ha : 1 ≤ a ∧ a ≤ 100) (hb : 1 ≤ b ∧ b ≤ 100) : 1 ≤ a * b ∧ a * b ≤ 10000 := by
  have h1 : 1 * 1 ≤ a * b := Int.mul_le_mul ha.1 hb.1 (by omega) (by omega)
  have h2 : a * b ≤ 100 * 100 := Int.mul_le_mul ha.2 hb.2 (by omega) (by omega)
  omega
set_option maxHeartbeats 4000000 in
set_option maxRecDepth 100000 in
theorem impl_SortStore.cmp_calls (W : World) (a b : Addr) (ca cb : Nat) (x0 x1 y0 y1 : Int) (ha : W.cell? a = some (.int .i64 x0)) (ha1 : W.cell? (a.add 1) = some (.int .i64 x1)) (hb : W.cell? b = some (.int .i64 y0)) (hb1 : W.cell? (b.add 1) = some (.int .i64 y1)) :
    Calls Tryd.prog 62 #[.slice (some a) 2 ca, .slice (some b) 2 cb] W fun e w' => e = .returned (.int .i64 (if wrap64 (x0 * x1) = wrap64 (y0 * y1) then wrap64 (x0 - y0) else wrap64 (wrap64 (x0 * x1) - wrap64 (y0 * y1)))) ∧ ∃ q, w' = W.drewN q := by
  have ha2 := ha1
  have hb2 := hb1
  simp only [Nat.reduceMul, Nat.reduceEqDiff, Go.Addr.add, ↓reduceIte] at ha1 hb1
  by_cases h : wrap64 (x0 * x1) = wrap64 (y0 * y1)
  · rw [if_pos h]
    have b0 : (wrap64 (x0 * x1) != wrap64 (y0 * y1)) = false := bne_eq_false_iff_eq.mpr h
    clear h
    go_enter Tryd.func62, Tryd.ntmps62
    go_wp2
    go_quiet (fail)
    go_wp2
    go_quiet (fail)
    go_wp2
    go_ret
    exact ⟨by first | rfl | (simp; done), by first | exact ⟨_, rfl⟩ | (simp; exact ⟨_, rfl⟩)⟩
  · rw [if_neg h]
    have b0 : (wrap64 (x0 * x1) != wrap64 (y0 * y1)) = true := bne_iff_ne.mpr h
    clear h
    go_enter Tryd.func62, Tryd.ntmps62
    go_wp2
    go_quiet (fail)
    go_wp2
    go_ret
    exact ⟨by first | rfl | (simp; done), by first | exact ⟨_, rfl⟩ | simp⟩
theorem impl_SortStore.cmp_eq {r s : List Int} (hr : impl_SortStore.ok r) (hs : impl_SortStore.ok s) : (if wrap64 (rd r 0 * rd r 1) = wrap64 (rd s 0 * rd s 1) then wrap64 (rd r 0 - rd s 0) else wrap64 (wrap64 (rd r 0 * rd r 1) - wrap64 (rd s 0 * rd s 1))) = impl_SortStore.cf r s := by
  have m1 := impl_SortStore.mul_b hr.2.1 hr.2.2
  have m2 := impl_SortStore.mul_b hs.2.1 hs.2.2
  obtain ⟨_, ⟨_, _⟩, _⟩ := hr
  obtain ⟨_, ⟨_, _⟩, _⟩ := hs
  unfold impl_SortStore.cf
  generalize rd r 0 * rd r 1 = x at *
  generalize rd s 0 * rd s 1 = y at *
  rw [show wrap64 x = x by unfold wrap64; omega, show wrap64 y = y by unfold wrap64; omega]
  by_cases h : x = y
  · rw [if_pos h, if_pos h]; unfold wrap64; omega
  · rw [if_neg h, if_neg h]; unfold wrap64; omega
theorem impl_SortStore.row_at {W : World} {base : Nat} {ok : Nat → Prop} {r : List Int} {u : Value} (h2 : r.length = 2) (h : (Kd.slice 3 (Kd.int .i64)).M W base ok r [u]) : ∃ a c, u = .slice (some a) 2 c ∧ W.cell? a = some (.int .i64 (rd r 0)) ∧ W.cell? (a.add 1) = some (.int .i64 (rd r 1)) := by
  obtain ⟨A, c, hu, hl, hC⟩ := (Kd.slice 3 (Kd.int .i64)).K_of_M h
  obtain ⟨a, e, h0⟩ := Kd.at_int hC 0 (by omega) (by omega)
  obtain ⟨a', e', h1⟩ := Kd.at_int hC 1 (by omega) (by omega)
  rw [e] at e'
  obtain rfl : a = a' := by injection e'
  refine ⟨a, c, by rw [← h2]; injection hu with hu; rw [hu, e], ?_, ?_⟩
  · rw [show ((0 : Int)).toNat = 0 from rfl, Addr.add_zero'] at h0; exact h0
  · exact h1
theorem impl_SortStore.le_iff {r s : List Int} : impl_SortStore.le r s = true ↔ (rd r 0 * rd r 1 < rd s 0 * rd s 1 ∨ (rd r 0 * rd r 1 = rd s 0 * rd s 1 ∧ rd r 0 ≤ rd s 0)) := by
  unfold impl_SortStore.le
  simp only [Bool.or_eq_true, Bool.and_eq_true, decide_eq_true_eq]
theorem impl_SortStore.map_get (xs : List (List Int)) : (List.finRange xs.length).map xs.get = xs := by
  apply List.ext_getElem?
  intro j
  rw [List.getElem?_map]
  by_cases hj : j < xs.length
  · rw [List.getElem?_eq_getElem (by rw [List.length_finRange]; exact hj), Option.map_some, List.getElem_finRange, List.getElem?_eq_getElem hj]
    rfl
  · rw [List.getElem?_eq_none (by rw [List.length_finRange]; omega), List.getElem?_eq_none (by omega)]
    rfl
theorem impl_SortStore.swo {n : Nat} (num : Fin n → List Int) : Go.Sort.SWO (ltOf (fun i j => impl_SortStore.cf (num i) (num j))) := by
  have key : ∀ x y, ltOf (fun i j => impl_SortStore.cf (num i) (num j)) x y = !(impl_SortStore.le (num y) (num x)) := by
    intro x y
    rw [← impl_SortStore.cf_le, Bool.not_not]
    rfl
  refine ⟨fun x => ?_, fun x y z => ?_, fun x y z => ?_⟩
  · rw [key, impl_SortStore.le_iff.2 (.inr ⟨rfl, Int.le_refl _⟩)]; rfl
  · rw [key, key, key, Bool.not_eq_true', Bool.not_eq_true', Bool.not_eq_true', ← Bool.not_eq_true, ← Bool.not_eq_true, ← Bool.not_eq_true, impl_SortStore.le_iff, impl_SortStore.le_iff, impl_SortStore.le_iff]; omega
  · rw [key, key, key, Bool.not_eq_false', Bool.not_eq_false', Bool.not_eq_false', impl_SortStore.le_iff, impl_SortStore.le_iff, impl_SortStore.le_iff]; omega
theorem impl_SortStore.perm_of {n : Nat} [Inhabited (Fin n)] {d : Array (Fin n)} (h : Go.Sort.PermIn 0 n (List.finRange n).toArray d) : d.toList.Perm (List.finRange n) := by
  obtain ⟨hs, _, hp⟩ := h
  have hn : (List.finRange n).toArray.size = n := by simp
  rw [hn] at hs
  have e1 : d.extract 0 n = d := by have := Array.extract_size (xs := d); rwa [hs] at this
  have e2 : (List.finRange n).toArray.extract 0 n = (List.finRange n).toArray := by have := Array.extract_size (xs := (List.finRange n).toArray); rwa [hn] at this
  rw [e1, e2] at hp
  exact hp
theorem impl_SortStore.pw_of {n : Nat} [Inhabited (Fin n)] {lt : Fin n → Fin n → Bool} {d : Array (Fin n)} (hd : d.size = n) (h : Go.Sort.SortedIn lt 0 n d) : d.toList.Pairwise (fun x y => lt y x = false) := by
  rw [List.pairwise_iff_getElem]
  intro i j hi hj hij
  have := h i j (Nat.zero_le _) hij (by rw [← hd]; simpa using hj)
  rw [getElem!_pos d i (by simpa using hi), getElem!_pos d j (by simpa using hj)] at this
  simpa using this
set_option maxHeartbeats 4000000 in
theorem impl_SortStore.ins (w : World) (base g cap : Nat) (xs : List (List Int)) (hok : ∀ r ∈ xs, impl_SortStore.ok r) (hne : 0 < xs.length) (hcap : xs.length ≤ 20)
    (hS : Kd.S (Kd.slice 3 (Kd.int .i64)) 22 w base (fun _ => True) (.slice (some ⟨g, 0, none⟩) xs.length cap) xs) :
    Calls Tryd.prog 115 #[.slice (some ⟨g, 0, none⟩) xs.length cap, .int .i64 0, .int .i64 (xs.length : Int), .func (.func 62) #[] #[]] w fun e w' => e = .returned (.tuple #[]) ∧ w.grownBy w' (some g) ∧
      Kd.S (Kd.slice 3 (Kd.int .i64)) 22 w' base (fun _ => True) (.slice (some ⟨g, 0, none⟩) xs.length cap) (impl_SortStore.sorted xs) := by
  obtain ⟨fo, h0, inner, ho, hr⟩ := hS
  rw [List.length_zipIdx] at ho
  have ho' : w.ownsRow base 22 1 (.slice (some ⟨g, 0, none⟩) xs.length cap) xs.length inner := ho
  have inst : Inhabited (Fin xs.length) := ⟨⟨0, hne⟩⟩
  obtain ⟨hil, hx⟩ := ho'
  rcases hx with ⟨hh, _⟩ | ⟨g', cap', cur, hv, hbase, hb, h1, h2, h3, h4⟩
  · cases hh
  cases hv
  have hin : (List.finRange xs.length).map (impl_SortStore.encI inner xs.length) = inner := by
    apply List.ext_getElem?
    intro j
    rw [List.getElem?_map]
    by_cases hj : j < xs.length
    · rw [List.getElem?_eq_getElem (by rw [List.length_finRange]; exact hj), Option.map_some, List.getElem_finRange]
      unfold impl_SortStore.encI
      rw [List.getElem?_eq_getElem (by rw [hil, Nat.mul_one]; exact hj), List.getD_eq_getElem?_getD]
      simp only [Fin.cast_mk]
      rw [List.getElem?_eq_getElem (by rw [hil, Nat.mul_one]; exact hj)]
      rfl
    · rw [List.getElem?_eq_none (by rw [List.length_finRange]; omega), List.getElem?_eq_none (by rw [hil]; omega)]
      rfl
  have hH := impl_SortStore.holds (impl_SortStore.encI inner xs.length) (ss := List.finRange xs.length) hb (by rw [hin, List.length_finRange]; rw [Nat.mul_one] at h4; exact h4)
  have hat : ∀ (m : Nat) (os : Array Obj) (dk : Array (Fin xs.length)) (i : Fin xs.length), ∃ a c, impl_SortStore.encI inner xs.length i = .slice (some a) 2 c ∧ (sortWorld (impl_SortStore.encI inner xs.length) w g 0 m dk os).cell? a = some (.int .i64 (rd (xs.get i) 0)) ∧ (sortWorld (impl_SortStore.encI inner xs.length) w g 0 m dk os).cell? (a.add 1) = some (.int .i64 (rd (xs.get i) 1)) := by
    intro m os dk i
    have hx : xs[i.val]? = some (xs.get i) := List.getElem?_eq_getElem i.isLt
    have hM : (Kd.slice 3 (Kd.int .i64)).M w base _ (xs.get i) _ := hr.2 i.val _ (Kd.zip_at hx)
    have hc1 : inner[i.val]? = some (impl_SortStore.encI inner xs.length i) := by
      unfold impl_SortStore.encI
      rw [List.getD_eq_getElem?_getD, List.getElem?_eq_getElem (by rw [hil, Nat.mul_one]; exact i.isLt)]
      rfl
    have hM2 : (Kd.slice 3 (Kd.int .i64)).M w base (fun k => (True ∧ some k ≠ (Value.slice (some ⟨g, 0, none⟩) xs.length cap).ownBlock) ∧ fo k = i.val) (xs.get i) ((inner.drop (i.val * 1)).take 1) := hM
    rw [Nat.mul_one, impl_SortStore.take1 hc1] at hM2
    have hgr := impl_SortStore.grown_put (impl_SortStore.encI inner xs.length) (w := w) (g := g) (m := m) (os := os) dk
    exact impl_SortStore.row_at (hok _ (List.get_mem _ _)).1 (Kd.M_step hM2 (fun k hk hlt => hgr.block k hlt (fun e_ => hk.1.2 (by rw [e_]; rfl))))
  have h1c : OneCell (impl_SortStore.encI inner xs.length) := fun i => by
    obtain ⟨a, c, e, _⟩ := hat 0 #[] #[] i
    rw [e]
    rfl
  have hcmp : CmpReads Tryd.prog 62 #[] (impl_SortStore.encI inner xs.length) (fun i j => impl_SortStore.cf (xs.get i) (xs.get j)) g 0 (List.finRange xs.length).toArray.size w := by
    intro m os dk _ x y
    obtain ⟨a, ca, ea, ha, ha1⟩ := hat m os dk x
    obtain ⟨b, cb, eb, hb, hb1⟩ := hat m os dk y
    rw [ea, eb]
    have h := impl_SortStore.cmp_calls _ a b ca cb _ _ _ _ ha ha1 hb hb1
    rw [impl_SortStore.cmp_eq (hok _ (List.get_mem _ _)) (hok _ (List.get_mem _ _))] at h
    exact h
  have eg : ∀ args w, (callFunc 62 args).run Tryd.prog w = .ok (.enter 62 args) w := enters_of Tryd.func62 (by kernel_rfl) rfl
  have hd : (List.finRange xs.length).toArray.size = xs.length := by simp
  have hc := Any.insertionSortCmpFunc_one Tryd.laysSlF20_f115 (impl_SortStore.encI inner xs.length) h1c (fun i j => impl_SortStore.cf (xs.get i) (xs.get j)) 62 #[] g 0 cap 0 xs.length (List.finRange xs.length).toArray w eg hcmp hH (by omega) (by rw [hd]; omega) (by rw [hd]; omega)
  rw [hd] at hc
  refine Calls.mono (P := Tryd.prog) (f := 115) hc ?_
  rintro e w' ⟨he, m, rfl⟩
  obtain ⟨σ, hσ⟩ : ∃ σ, σ = Go.Sort.insertionSort (ltOf (fun i j => impl_SortStore.cf (xs.get i) (xs.get j))) (List.finRange xs.length).toArray 0 xs.length := ⟨_, rfl⟩
  rw [← hσ, ← sortWorld_none]
  have hi := Go.Sort.insertionSort_holds (lt := ltOf (fun i j => impl_SortStore.cf (xs.get i) (xs.get j))) (impl_SortStore.swo xs.get) (List.finRange xs.length).toArray 0 xs.length (Nat.zero_le _) (by rw [hd]; omega)
  rw [← hσ] at hi
  have hp : σ.toList.Perm (List.finRange xs.length) := impl_SortStore.perm_of hi.1
  have hl : σ.toList.length = xs.length := by rw [hp.length_eq, List.length_finRange]
  have hnd2 : σ.toList.Nodup := hp.nodup_iff.2 (List.nodup_finRange _)
  have hpw := impl_SortStore.pw_of (by rw [← Array.length_toList]; exact hl) hi.2
  have hxs : (List.finRange xs.length).map xs.get = xs := impl_SortStore.map_get xs
  have hrow : σ.toList.map xs.get = impl_SortStore.sorted xs := by
    have hpm : (σ.toList.map xs.get).Perm xs := by have := hp.map xs.get; rwa [hxs] at this
    refine List.Perm.eq_of_pairwise (le := fun a b => impl_SortStore.le a b = true) ?_ ?_ ?_ (hpm.trans (List.mergeSort_perm _ _).symm)
    · intro a b ha hb h1 h2
      exact impl_SortStore.anti (hok a (hpm.mem_iff.1 ha)) (hok b ((List.mergeSort_perm _ _).mem_iff.1 hb)) h1 h2
    · rw [List.pairwise_map]
      exact hpw.imp (fun {a b} h => by
        rw [← impl_SortStore.cf_le]
        have h' : decide (impl_SortStore.cf (xs.get b) (xs.get a) < 0) = false := h
        rw [h']
        rfl)
    · exact List.pairwise_mergeSort impl_SortStore.le_trans impl_SortStore.le_total _
  refine ⟨he, impl_SortStore.grown_put _ _, ?_⟩
  have := impl_SortStore.S_sorted (d := Kd.slice 3 (Kd.int .i64)) rfl (m := m) (os := #[]) ho hr trivial σ.toList hnd2 hl
  rw [hrow] at this
  exact this
theorem impl_SortStore.ins0 (v fv : Value) (a b : Int) (h : b ≤ wrap64 (a + 1)) (w : World) :
    Calls Tryd.prog 115 #[v, .int .i64 a, .int .i64 b, fv] w fun e w' => e = .returned (.tuple #[]) ∧ w' = w := by
  have c1 : decide (wrap64 (a + 1) < b) = false := decide_eq_false (by omega)
  clear h
  go_enter Tryd.func115, Tryd.ntmps115
  go_wp2
  go_loopg [8] 1 (fun kq v8 w' => v8 = .int .i64 (wrap64 (a + 1)) ∧ w' = w)
  case atStart => exact ⟨by first | rfl | (simp; done), rfl⟩
  case round =>
    obtain ⟨rfl, rfl⟩ := hrel
    go_wp2
    go_end0
    exact ⟨rfl, rfl⟩
def impl_SortStore.Post (base : Nat) (v : Value) (xs : List (List Int)) (w : World) (e : Ending) (w' : World) : Prop :=
  e = .returned (.tuple #[]) ∧ Below base w w' ∧ Kd.S (Kd.slice 3 (Kd.int .i64)) 22 w' base (fun _ => True) v (impl_SortStore.sorted xs)
theorem impl_SortStore.sorted_nil : impl_SortStore.sorted [] = [] := by simp [impl_SortStore.sorted]
theorem impl_SortStore.sorted_len (xs : List (List Int)) : (impl_SortStore.sorted xs).length = xs.length := List.length_mergeSort xs
theorem impl_SortStore.ins2 (w : World) (base : Nat) (A : Option Addr) (cap n : Nat) (nn : Int) (xs : List (List Int)) (hok : ∀ r ∈ xs, impl_SortStore.ok r) (hn : n = xs.length) (hnn : nn = (n : Int)) (hcap : xs.length ≤ 20)
    (hS : Kd.S (Kd.slice 3 (Kd.int .i64)) 22 w base (fun _ => True) (.slice A n cap) xs) :
    Calls Tryd.prog 115 #[.slice A n cap, .int .i64 0, .int .i64 nn, .func (.func 62) #[] #[]] w (impl_SortStore.Post base (.slice A n cap) xs w) := by
  subst hn
  subst hnn
  by_cases h0 : xs = []
  · subst h0
    refine (impl_SortStore.ins0 _ _ 0 _ (by show ((0 : Nat) : Int) ≤ _; unfold wrap64; omega) w).mono ?_
    rintro e w' ⟨he, rfl⟩
    exact ⟨he, Below.refl _ _, by rw [impl_SortStore.sorted_nil]; exact hS⟩
  · obtain ⟨g, c, e3, hgb, hgl, _⟩ := Kd.S_form hS (List.length_pos_iff.2 h0)
    obtain ⟨rfl, rfl⟩ : A = some ⟨g, 0, none⟩ ∧ cap = c := by injection e3 with e1 e2 e3; exact ⟨e1, e3⟩
    refine (impl_SortStore.ins w base g cap xs hok (List.length_pos_iff.2 h0) hcap hS).mono ?_
    rintro e w' ⟨he, hg, hs⟩
    exact ⟨he, (Below.refl base w).grown hg (by omega) (fun k hk => by injection hk with hk; omega), hs⟩
set_option maxHeartbeats 4000000 in
theorem impl_SortStore.stable (w : World) (base : Nat) (A : Option Addr) (cap n : Nat) (nn : Int) (xs : List (List Int)) (hok : ∀ r ∈ xs, impl_SortStore.ok r) (hn : n = xs.length) (hnn : nn = (n : Int)) (hcap : xs.length ≤ 20)
    (hS : Kd.S (Kd.slice 3 (Kd.int .i64)) 22 w base (fun _ => True) (.slice A n cap) xs) :
    Calls Tryd.prog 88 #[.slice A n cap, .int .i64 nn, .func (.func 62) #[] #[]] w (impl_SortStore.Post base (.slice A n cap) xs w) := by
  have HI := Aside0.mk (impl_SortStore.ins2 w base A cap n nn xs hok hn hnn hcap hS)
  have c2 : decide (20 < nn) = false := decide_eq_false (by omega)
  have HN := Aside0.mk (show nn ≤ 20 by omega)
  clear hok hn hnn hcap hS
  by_cases c : nn = 20
  · subst c
    clear HN c2
    go_enter Tryd.func88, Tryd.ntmps88
    go_wp2
    go_loopg [7, 8] 2 (fun kq v7 v8 w' => (v7 = .int .i64 0 ∧ v8 = .int .i64 20 ∧ w' = w ∧ kq = 2) ∨ (v7 = .int .i64 20 ∧ v8 = .int .i64 40 ∧ Aside0 (impl_SortStore.Post base (.slice A n cap) xs w (.returned (.tuple #[])) w')))
    case atStart => exact .inl ⟨rfl, rfl, rfl, rfl⟩
    case round =>
      rcases hrel with ⟨rfl, rfl, rfl, rfl⟩ | ⟨rfl, rfl, HP⟩
      · go_wp2_with (first | (go_at_call 115; (with_reducible refine HI.out.mono ?_); rintro e w1 hp; obtain ⟨rfl, hp1, hp2⟩ := hp; have HP := Aside0.mk (show impl_SortStore.Post base (.slice A n cap) xs _ (.returned (.tuple #[])) w1 from ⟨rfl, hp1, hp2⟩); clear hp1 hp2))
        go_roundg 1
        case measure => omega
        case rel => exact .inr ⟨rfl, by first | rfl | (simp; done), HP⟩
      · go_wp2_with (first | (go_at_call 115; (with_reducible refine (impl_SortStore.ins0 _ _ 20 20 (by unfold wrap64; omega) _).mono ?_); rintro e w2 ⟨rfl, rfl⟩))
        go_loopg [6, 7, 8, 9] 1 (fun kq v6 v7 v8 v9 w' => v6 = .int .i64 20 ∧ w' = w2)
        case atStart => exact ⟨rfl, rfl⟩
        case round =>
          obtain ⟨rfl, rfl⟩ := hrel
          go_wp2
          go_end0
          exact HP.out
  · have c1 : decide (20 ≤ nn) = false := decide_eq_false (by have := HN.out; omega)
    clear c HN
    go_enter Tryd.func88, Tryd.ntmps88
    go_wp2
    go_loopg [7, 8] 1 (fun kq v7 v8 w' => v7 = .int .i64 0 ∧ v8 = .int .i64 20 ∧ w' = w)
    case atStart => exact ⟨rfl, rfl, rfl⟩
    case round =>
      obtain ⟨rfl, rfl, rfl⟩ := hrel
      go_wp2_with (first | (go_at_call 115; (with_reducible refine HI.out.mono ?_); rintro e w1 hp; obtain ⟨rfl, hp1, hp2⟩ := hp; have HP := Aside0.mk (show impl_SortStore.Post base (.slice A n cap) xs _ (.returned (.tuple #[])) w1 from ⟨rfl, hp1, hp2⟩); clear hp1 hp2))
      go_loopg [6, 7, 8, 9] 1 (fun kq v6 v7 v8 v9 w' => v6 = .int .i64 20 ∧ w' = w1)
      case atStart => exact ⟨rfl, rfl⟩
      case round =>
        obtain ⟨rfl, rfl⟩ := hrel
        go_wp2
        go_end0
        exact HP.out
set_option maxHeartbeats 4000000 in
theorem impl_SortStore.sort (w : World) (base : Nat) (A : Option Addr) (cap n : Nat) (xs : List (List Int)) (hok : ∀ r ∈ xs, impl_SortStore.ok r) (hn : n = xs.length) (hcap : xs.length ≤ 20)
    (hS : Kd.S (Kd.slice 3 (Kd.int .i64)) 22 w base (fun _ => True) (.slice A n cap) xs) :
    Calls Tryd.prog 61 #[.slice A n cap, .func (.func 62) #[] #[]] w (impl_SortStore.Post base (.slice A n cap) xs w) := by
  have HI := Aside0.mk (impl_SortStore.stable w base A cap n (n : Int) xs hok hn rfl hcap hS)
  clear hok hn hcap hS
  go_enter Tryd.func61, Tryd.ntmps61
  go_wp2_with (first | (go_at_call 88; (with_reducible refine HI.out.mono ?_); rintro e w1 hp; obtain ⟨rfl, hp1, hp2⟩ := hp; have HP := Aside0.mk (show impl_SortStore.Post base (.slice A n cap) xs _ (.returned (.tuple #[])) w1 from ⟨rfl, hp1, hp2⟩); clear hp1 hp2))
  go_end0
  exact HP.out
def impl_SortStore.f (k : Nat) (l0 : List (List Int)) : Option (List (List Int)) := (impl_StoreOk.f l0).bind fun t => if t = true then (impl_copyLists.f k l0).bind (fun c => if c = l0 then some (impl_SortStore.sorted l0) else none) else some []
theorem impl_SortStore.mono : ∀ a0 k, LeO (impl_SortStore.f k a0) (impl_SortStore.f (k + 1) a0) := by
  intro a0 k
  unfold impl_SortStore.f
  exact LeO.bind (LeO.refl _) (fun _ => LeO.ite (LeO.bind (impl_copyLists.mono _ _) (fun _ => LeO.refl _)) (LeO.refl _))
set_option maxHeartbeats 4000000 in
theorem impl_SortStore.calls (k : Nat) (A0 : Option Addr) (c0 : Nat) (l0 : List (List Int)) (r : List (List Int)) (w : World) (hr0 : Kd.C (Kd.slice 3 (Kd.int .i64)) w A0 l0.length l0) (hc0 : l0.length ≤ c0) (h : impl_SortStore.f k l0 = some r) :
    Calls Tryd.prog 38 #[.slice A0 l0.length c0] w fun e w' => ∃ v0_ : Value, e = .returned v0_ ∧ Kd.S (Kd.slice 3 (Kd.int .i64)) 22 w' w.heap.size (fun _ => True) v0_ r ∧ Below w.heap.size w w' := by
  have HR0 := Aside0.mk hr0
  have HC0 := Aside0.mk hc0
  clear hr0 hc0
  unfold impl_SortStore.f at h
  rw [Option.bind_eq_some_iff] at h
  obtain ⟨t, ht, h⟩ := h
  have HT := Aside0.mk ht
  clear ht
  cases t with
  | false =>
    rw [if_neg (by decide)] at h
    obtain rfl := Option.some.inj h
    clear h
    go_enter Tryd.func38, Tryd.ntmps38
    go_wp2_with (first | (go_at_call 37; (with_reducible refine (impl_StoreOk.calls _ _ l0 false _ HR0.out HC0.out HT.out).mono ?_); rintro e w1 ⟨rfl, hd⟩; obtain ⟨m1, rfl⟩ := hd.out))
    go_ret
    exact ⟨_, rfl, Kd.S_nil _ _ _ _ _, by repeat (first | exact Below.refl _ _ | apply pw_below_drewN | apply below_drew1)⟩
  | true =>
    rw [if_pos rfl, Option.bind_eq_some_iff] at h
    obtain ⟨c, hc, h⟩ := h
    by_cases e : c = l0
    case neg => rw [if_neg e] at h; cases h
    subst e
    rw [if_pos rfl] at h
    obtain rfl := Option.some.inj h
    have HC := Aside0.mk hc
    clear hc h
    go_enter Tryd.func38, Tryd.ntmps38
    have hk := HT.out
    unfold impl_StoreOk.f at hk
    have hk := Option.some.inj hk
    rw [Bool.and_eq_true, decide_eq_true_eq, List.all_eq_true] at hk
    have HOK := Aside0.mk (show ∀ r ∈ c, impl_SortStore.ok r from fun r hr => impl_SortStore.ok_of (hk.2 r hr))
    have HL := Aside0.mk hk.1
    clear hk
    go_wp2_with (first | (go_at_call 37; (with_reducible refine (impl_StoreOk.calls _ _ c true _ HR0.out HC0.out HT.out).mono ?_); rintro e w1 ⟨rfl, hd⟩; obtain ⟨m1, rfl⟩ := hd.out) | (go_at_call 60; (with_reducible refine (impl_copyLists.calls k _ _ c c _ (Kd.C_drewN HR0.out _) HC0.out HC.out).mono ?_); rintro e w2 ⟨v, rfl, ho, hb⟩; obtain ⟨A_, c_, e_⟩ := Kd.S_slice ho; subst e_; have HO := Aside0.mk ho; have HB := Aside0.mk hb; clear ho hb) | (go_at_call 61; (with_reducible refine (impl_SortStore.sort _ _ _ _ _ c HOK.out rfl HL.out HO.out).mono ?_); rintro e w3 hp; obtain ⟨rfl, hb, ho⟩ := hp; have HO3 := Aside0.mk ho; have HB3 := Aside0.mk hb; clear ho hb))
    go_ret
    exact ⟨_, rfl, Kd.S_lower HO3.out (by simp), (below_step (pw_below_drewN (Below.refl _ _) _) HB.out).trans HB3.out⟩

-- NOT PRINTED: function 86 (strconv_Itoa_86)

-- NOT PRINTED: function 54 (strconv_Itoa_54)

end Go.Proofs.YtelhjgkjnlcomaaDoor.QFnExactStoreLine
