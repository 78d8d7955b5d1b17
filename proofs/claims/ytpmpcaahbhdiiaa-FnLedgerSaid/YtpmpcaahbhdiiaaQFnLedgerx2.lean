-- Printed for this claim by a changed copy of the kit's print (the session's own; own contracts in place of some functions).
import Derived.Test.YtpmpcaahbhdiiaaQFnLedgerx0
import Derived.Test.YtpmpcaahbhdiiaaQFnLedgerx1
namespace Go.Proofs.Ytpmpcaahbhdiiaa.QFnLedger
open Go.RowKit Go.Proofs.YtpmpcaahbhdiiaaW.PrintWords Go.Proofs.YtpmpcaahbhdiiaaW.PrintLast Go.Proofs.YtpmpcaahbhdiiaaW.PrintMore
attribute [local go_sem] max2_int min2_int max_two min_two max_three min_three max_four min_four   -- for this text's walks alone
set_option linter.unusedVariables false
set_option linter.unusedSimpArgs false

/-! ### spec_l26Step: function 35 -/
def spec_l26Step.j0 : Nat → List Int → List Int → Bool → Option (Bool × List Int)
 | 0, _, _, _ => none
 | k + 1, x0, x1, x42 => if x42 = true then (some (false, x0)) else (if 1 < (x1.length : Int) then (if 0 < (x1.length : Int) then (if (rd x1 0) = 1 then (if 0 ≤ (rd x1 1) then (if (rd x1 1) < (x0.length : Int) then (if (rd x0 (rd x1 1)) = 0 then (if 2 < (x1.length : Int) then (some (true, (x0.set ((rd x1 1) : Int).toNat (rd x1 2)))) else (none)) else (some (false, x0))) else (none)) else (none)) else (if 0 ≤ (rd x1 1) then (if (rd x1 1) < (x0.length : Int) then (if (rd x0 (rd x1 1)) ≤ 0 then (some (false, x0)) else (if (rd x1 0) = 2 then (if 2 < (x1.length : Int) then (if (rd x1 2) ≥ (rd x0 (rd x1 1)) then (some (false, x0)) else (some (true, (x0.set ((rd x1 1) : Int).toNat (wrap64 ((rd x0 (rd x1 1)) - (rd x1 2))))))) else (none)) else (if (rd x1 0) = 3 then ((spec_l26Free.f k x0).bind fun t139 => (if 2 < (x1.length : Int) then (if (rd x1 2) ≥ (rd x0 (rd x1 1)) then (some (false, x0)) else (if t139 = 0 then (some (false, x0)) else (if 0 ≤ t139 then (if t139 < (x0.length : Int) then (some (true, ((x0.set ((rd x1 1) : Int).toNat (wrap64 ((rd x0 (rd x1 1)) - (rd x1 2)))).set (t139 : Int).toNat (rd x1 2)))) else (none)) else (none)))) else (none))) else (if (rd x1 0) = 4 then (if 2 < (x1.length : Int) then (if (rd x1 2) > 99 then (some (false, x0)) else (if (rd x1 2) = (rd x1 1) then (some (false, x0)) else (if 0 ≤ (rd x1 2) then (if (rd x1 2) < (x0.length : Int) then (if (rd x0 (rd x1 2)) ≤ 0 then (some (false, x0)) else (some (true, ((x0.set ((rd x1 2) : Int).toNat (wrap64 ((rd x0 (rd x1 2)) + (rd x0 (rd x1 1))))).set ((rd x1 1) : Int).toNat (-1))))) else (none)) else (none)))) else (none)) else (if (rd x1 0) = 5 then (if 2 < (x1.length : Int) then (if (rd x1 2) = (rd x0 (rd x1 1)) then (some (true, (x0.set ((rd x1 1) : Int).toNat (-1)))) else (some (false, x0))) else (none)) else (some (true, x0))))))) else (none)) else (none))) else (none)) else (none))
def spec_l26Step.f (k : Nat) (l0 : List Int) (l1 : List Int) : Option (Bool × List Int) := if (l1.length : Int) = 3 then (if 0 < (l1.length : Int) then ((spec_l01In.f (rd l1 0) 1 5).bind fun t119 => (if t119 = true then (if 1 < (l1.length : Int) then ((spec_l01In.f (rd l1 1) 1 99).bind fun t121 => (if t121 = true then (if 2 < (l1.length : Int) then ((spec_l01In.f (rd l1 2) 1 1000).bind fun t123 => (if t123 = true then (spec_l26Step.j0 k l0 l1 (decide ((rd l1 2) < 1))) else (if (rd l1 0) = 5 then (spec_l26Step.j0 k l0 l1 (decide ((rd l1 2) < 1))) else (spec_l26Step.j0 k l0 l1 true)))) else (none)) else (spec_l26Step.j0 k l0 l1 true))) else (none)) else (spec_l26Step.j0 k l0 l1 true))) else (none)) else (spec_l26Step.j0 k l0 l1 true)
theorem spec_l26Step.mono_l : ∀ k, (∀ y0 y1 y2, LeO (spec_l26Step.j0 k y0 y1 y2) (spec_l26Step.j0 (k + 1) y0 y1 y2))
 | 0 => fun _ _ _ r h => by simp [spec_l26Step.j0] at h
 | k + 1 => by
  have ih0 := spec_l26Step.mono_l k
  ·intro y0 y1 y2
   unfold spec_l26Step.j0
   repeat' first
   | (with_reducible exact ih0 _ _ _)
   | (with_reducible exact spec_l26Free.mono _ _)
   | (with_reducible exact LeO.refl _)
   | (with_reducible exact LeO.none _)
   | (with_reducible refine LeO.ite ?_ ?_)
   | (with_reducible refine LeO.bind ?_ (fun _ => ?_))
   | exact ih0 _ _ _
   | exact spec_l26Free.mono _ _
   | exact LeO.none _
   | refine LeO.ite ?_ ?_
   | refine LeO.bind ?_ (fun _ => ?_)
theorem spec_l26Step.mono : ∀ a0 a1 k, LeO (spec_l26Step.f k a0 a1) (spec_l26Step.f (k + 1) a0 a1) := by
 intro a0 a1 k
 have ih0 := spec_l26Step.mono_l k
 unfold spec_l26Step.f
 repeat' first
   | (with_reducible exact ih0 _ _ _)
   | (with_reducible exact spec_l26Free.mono _ _)
   | (with_reducible exact LeO.refl _)
   | (with_reducible exact LeO.none _)
   | (with_reducible refine LeO.ite ?_ ?_)
   | (with_reducible refine LeO.bind ?_ (fun _ => ?_))
   | exact ih0 _ _ _
   | exact spec_l26Free.mono _ _
   | exact LeO.none _
   | refine LeO.ite ?_ ?_
   | refine LeO.bind ?_ (fun _ => ?_)
def spec_l26Step.T13 : Bool × List (List Nat × List Nat) := (true, [([], []), ([0], [0]), ([1], [1]), ([], []), ([], []), ([3, 4], [3, 4]), ([5], [5]), ([2, 6], [2, 6])])
def spec_l26Step.B13 : List Nat := [0, 1, 3, 0, 0, 24, 56, 127]
theorem spec_l26Step.tab13 : rtab .any (opsOf Try.f35 13) = spec_l26Step.T13 := by kernel_rfl
theorem spec_l26Step.bits13 : waitsOk spec_l26Step.T13.2 spec_l26Step.B13 = true := by kernel_rfl
def spec_l26Step.T15 : Bool × List (List Nat × List Nat) := (true, [([], []), ([], []), ([], []), ([], []), ([2, 3], [2, 3]), ([4], [4]), ([], []), ([6], [6]), ([7], [7]), ([5, 8], [5, 8]), ([0, 1, 0, 1, 2, 3, 4, 5, 6, 7, 8, 9], [0, 1]), ([10, 9, 0, 1, 2, 3, 4, 5, 6, 7, 8, 9], [9, 10])])
def spec_l26Step.B15 : List Nat := [0, 0, 0, 0, 12, 28, 0, 64, 192, 508, 1023, 2047]
theorem spec_l26Step.tab15 : rtab .any (opsOf Try.f35 15) = spec_l26Step.T15 := by kernel_rfl
theorem spec_l26Step.bits15 : waitsOk spec_l26Step.T15.2 spec_l26Step.B15 = true := by kernel_rfl
def spec_l26Step.T18 : Bool × List (List Nat × List Nat) := (true, [([], []), ([0], [0]), ([1], [1]), ([], []), ([], []), ([3, 4], [3, 4]), ([5], [5]), ([2, 6], [2, 6]), ([7], [7]), ([8], [8]), ([9, 8], [8, 9]), ([8, 10], [8, 10])])
def spec_l26Step.B18 : List Nat := [0, 1, 3, 0, 0, 24, 56, 127, 255, 511, 1023, 2047]
theorem spec_l26Step.tab18 : rtab .any (opsOf Try.f35 18) = spec_l26Step.T18 := by kernel_rfl
theorem spec_l26Step.bits18 : waitsOk spec_l26Step.T18.2 spec_l26Step.B18 = true := by kernel_rfl
def spec_l26Step.T20 : Bool × List (List Nat × List Nat) := (true, [([], []), ([], []), ([], []), ([], []), ([2, 3], [2, 3]), ([4], [4]), ([], []), ([6], [6]), ([7], [7]), ([5, 8], [5, 8]), ([0, 1, 0, 1, 2, 3, 4, 5, 6, 7, 8, 9], [0, 1]), ([10, 9, 0, 1, 2, 3, 4, 5, 6, 7, 8, 9], [9, 10])])
def spec_l26Step.B20 : List Nat := [0, 0, 0, 0, 12, 28, 0, 64, 192, 508, 1023, 2047]
theorem spec_l26Step.tab20 : rtab .any (opsOf Try.f35 20) = spec_l26Step.T20 := by kernel_rfl
theorem spec_l26Step.bits20 : waitsOk spec_l26Step.T20.2 spec_l26Step.B20 = true := by kernel_rfl
def spec_l26Step.T25 : Bool × List (List Nat × List Nat) := (true, [([], []), ([], []), ([1], [1]), ([2], [2]), ([], []), ([], []), ([5], [5]), ([6], [6]), ([4, 7], [4, 7]), ([8], [8]), ([], []), ([], []), ([10, 11], [10, 11]), ([12], [12]), ([9, 13], [9, 13]), ([0, 3, 0, 1, 2, 3, 4, 5, 6, 7, 8, 9, 10, 11, 12, 13, 14], [0, 3]), ([15, 14, 0, 1, 2, 3, 4, 5, 6, 7, 8, 9, 10, 11, 12, 13, 14], [14, 15])])
def spec_l26Step.B25 : List Nat := [0, 0, 2, 6, 0, 0, 32, 96, 240, 496, 0, 0, 3072, 7168, 16368, 32767, 65535]
theorem spec_l26Step.tab25 : rtab .any (opsOf Try.f35 25) = spec_l26Step.T25 := by kernel_rfl
theorem spec_l26Step.bits25 : waitsOk spec_l26Step.T25.2 spec_l26Step.B25 = true := by kernel_rfl
def spec_l26Step.T28 : Bool × List (List Nat × List Nat) := (true, [([], []), ([0], [0]), ([1], [1]), ([], []), ([], []), ([3, 4], [3, 4]), ([5], [5]), ([2, 6], [2, 6])])
def spec_l26Step.B28 : List Nat := [0, 1, 3, 0, 0, 24, 56, 127]
theorem spec_l26Step.tab28 : rtab .any (opsOf Try.f35 28) = spec_l26Step.T28 := by kernel_rfl
theorem spec_l26Step.bits28 : waitsOk spec_l26Step.T28.2 spec_l26Step.B28 = true := by kernel_rfl
set_option maxHeartbeats 8000000 in
set_option maxRecDepth 100000 in
theorem spec_l26Step.calls (k : Nat) (P0_ : Nat → Prop) (u9000_ : Value) (l0 : List Int) (A1 : Option Addr) (c1 : Nat) (l1 : List Int) (r1 : Bool) (r2 : List Int) (w0 w : World) (hB : Below w0.heap.size w0 w) (ho0 : Kd.R (Kd.int .i64) 3 w w0.heap.size P0_ u9000_ l0) (hr1 : ∀ W_, Kept w W_ (fun k_ => P0_ k_) → Kd.C (Kd.int .i64) W_ A1 l1.length l1) (hc1 : l1.length ≤ c1) (h : spec_l26Step.f k l0 l1 = some (r1, r2)) :
  Calls Try.prog 35 #[u9000_, .slice A1 l1.length c1] w fun e w' => e = .returned (.bool r1) ∧ Kd.R (Kd.int .i64) 3 w' w0.heap.size (fun k_ => (P0_ k_ ∨ w.heap.size ≤ k_)) u9000_ r2 ∧ Below w0.heap.size w0 w' ∧ Kept w w' (fun k_ => P0_ k_) := by
 have HO0 := zm1 (show Kd.R (Kd.int .i64) 3 w w0.heap.size (fun k_ => (P0_ k_ ∨ w.heap.size ≤ k_)) u9000_ l0 from Kd.R_mono ho0 (fun k_ hk => (.inl hk)))
 have HR1 := zm1 hr1
 have HC1 := zm1 hc1
 clear hr1 hc1
 have HK := zm1 (Kept.refl w (fun k_ => P0_ k_))
 have HW0 := zm1 hB.size
 have HB := zm1 hB
 clear hB
 have H : (if (l1.length : Int) = 3 then (if 0 < (l1.length : Int) then ((spec_l01In.f (rd l1 0) 1 5).bind fun t119 => (if t119 = true then (if 1 < (l1.length : Int) then ((spec_l01In.f (rd l1 1) 1 99).bind fun t121 => (if t121 = true then (if 2 < (l1.length : Int) then ((spec_l01In.f (rd l1 2) 1 1000).bind fun t123 => (if t123 = true then (spec_l26Step.j0 k l0 l1 (decide ((rd l1 2) < 1))) else (if (rd l1 0) = 5 then (spec_l26Step.j0 k l0 l1 (decide ((rd l1 2) < 1))) else (spec_l26Step.j0 k l0 l1 true)))) else (none)) else (spec_l26Step.j0 k l0 l1 true))) else (none)) else (spec_l26Step.j0 k l0 l1 true))) else (none)) else (spec_l26Step.j0 k l0 l1 true)) = some (r1, r2) := h
 clear h
 have HC3 := zm1 H
 clear H
 go_enter Try.func35, Try.ntmps35
 go_upto_region 1 with (fail)
 go_cut [42] (fun v42 wc => ∃ (kq : Nat) (x42_2 : Bool), v42 = .bool x42_2 ∧ Aside0 (spec_l26Step.j0 kq l0 l1 x42_2 = some (r1, r2)) ∧ Aside0 (kq ≤ k) ∧ Aside0 (Kd.R (Kd.int .i64) 3 wc w0.heap.size (fun k_ => (P0_ k_ ∨ w.heap.size ≤ k_)) u9000_ l0) ∧ Aside0 (Kept w wc (fun k_ => P0_ k_)) ∧ Aside0 (Below w0.heap.size w0 wc))
 case first =>
  have H := HC3.out
  clear HC3
  by_cases c4 : (l1.length : Int) = 3
  ·rw [if_pos c4] at H
   have c4b0 : ((l1.length : Int) == 3) = true := beq_iff_eq.mpr c4
   have c4b1 : ((l1.length : Int) != 3) = false := bne_eq_false_iff_eq.mpr c4
   clear c4
   (first | rw [c4b0] | (simp only [i64_w, i32_w]; rw [c4b0]) | skip)
   by_cases c5 : 0 < (l1.length : Int)
   ·rw [if_pos c5] at H
    have c5b0 : decide (0 < (l1.length : Int)) = true := decide_eq_true c5
    have c5b1 : decide (0 < l1.length) = true := decide_eq_true (by omega)
    clear c5
    replace H := Option.bind_eq_some_iff.mp H
    obtain ⟨t119, A60, H⟩ := H
    replace H : (if t119 = true then (if 1 < (l1.length : Int) then ((spec_l01In.f (rd l1 1) 1 99).bind fun t121 => (if t121 = true then (if 2 < (l1.length : Int) then ((spec_l01In.f (rd l1 2) 1 1000).bind fun t123 => (if t123 = true then (spec_l26Step.j0 k l0 l1 (decide ((rd l1 2) < 1))) else (if (rd l1 0) = 5 then (spec_l26Step.j0 k l0 l1 (decide ((rd l1 2) < 1))) else (spec_l26Step.j0 k l0 l1 true)))) else (none)) else (spec_l26Step.j0 k l0 l1 true))) else (none)) else (spec_l26Step.j0 k l0 l1 true)) = some (r1, r2) := H
    have A6 := zm1 A60
    clear A60
    by_cases c7 : t119 = true
    ·subst c7
     have H1 : (if 1 < (l1.length : Int) then ((spec_l01In.f (rd l1 1) 1 99).bind fun t121 => (if t121 = true then (if 2 < (l1.length : Int) then ((spec_l01In.f (rd l1 2) 1 1000).bind fun t123 => (if t123 = true then (spec_l26Step.j0 k l0 l1 (decide ((rd l1 2) < 1))) else (if (rd l1 0) = 5 then (spec_l26Step.j0 k l0 l1 (decide ((rd l1 2) < 1))) else (spec_l26Step.j0 k l0 l1 true)))) else (none)) else (spec_l26Step.j0 k l0 l1 true))) else (none)) = some (r1, r2) := by rw [if_pos rfl] at H; exact H
     clear H
     have H := H1
     clear H1
     by_cases c8 : 1 < (l1.length : Int)
     ·rw [if_pos c8] at H
      have c8b0 : decide (1 < (l1.length : Int)) = true := decide_eq_true c8
      have c8b1 : decide (1 < l1.length) = true := decide_eq_true (by omega)
      clear c8
      replace H := Option.bind_eq_some_iff.mp H
      obtain ⟨t121, A90, H⟩ := H
      replace H : (if t121 = true then (if 2 < (l1.length : Int) then ((spec_l01In.f (rd l1 2) 1 1000).bind fun t123 => (if t123 = true then (spec_l26Step.j0 k l0 l1 (decide ((rd l1 2) < 1))) else (if (rd l1 0) = 5 then (spec_l26Step.j0 k l0 l1 (decide ((rd l1 2) < 1))) else (spec_l26Step.j0 k l0 l1 true)))) else (none)) else (spec_l26Step.j0 k l0 l1 true)) = some (r1, r2) := H
      have A9 := zm1 A90
      clear A90
      by_cases c10 : t121 = true
      ·subst c10
       have H1 : (if 2 < (l1.length : Int) then ((spec_l01In.f (rd l1 2) 1 1000).bind fun t123 => (if t123 = true then (spec_l26Step.j0 k l0 l1 (decide ((rd l1 2) < 1))) else (if (rd l1 0) = 5 then (spec_l26Step.j0 k l0 l1 (decide ((rd l1 2) < 1))) else (spec_l26Step.j0 k l0 l1 true)))) else (none)) = some (r1, r2) := by rw [if_pos rfl] at H; exact H
       clear H
       have H := H1
       clear H1
       by_cases c11 : 2 < (l1.length : Int)
       ·rw [if_pos c11] at H
        have c11b0 : decide (2 < (l1.length : Int)) = true := decide_eq_true c11
        have c11b1 : decide (2 < l1.length) = true := decide_eq_true (by omega)
        clear c11
        replace H := Option.bind_eq_some_iff.mp H
        obtain ⟨t123, A120, H⟩ := H
        replace H : (if t123 = true then (spec_l26Step.j0 k l0 l1 (decide ((rd l1 2) < 1))) else (if (rd l1 0) = 5 then (spec_l26Step.j0 k l0 l1 (decide ((rd l1 2) < 1))) else (spec_l26Step.j0 k l0 l1 true))) = some (r1, r2) := H
        have A12 := zm1 A120
        clear A120
        by_cases c13 : t123 = true
        ·subst c13
         have H1 : (spec_l26Step.j0 k l0 l1 (decide ((rd l1 2) < 1))) = some (r1, r2) := by rw [if_pos rfl] at H; exact H
         clear H
         have H := H1
         clear H1
         have H' := zm1 H
         clear H
         have p118 : 0 ≤ (0 : Int) := (by omega)
         have q118 : 0 < (l1.length : Int) := of_decide_eq_true (by assumption)
         obtain ⟨ad118, e118, hx118_0⟩ := Kd.at_int (Kd.C_kept_now HR1.out HK.out) 0 p118 q118
         cases e118
         have qi118 : (0 < l1.length) = True := eq_true (by omega)
         (try rw [show ((0 : Int)).toNat = 0 from rfl] at hx118_0)
         (try rw [Addr.add_zero'] at hx118_0)
         replace p118 := eq_true p118
         replace q118 := eq_true q118
         go_wp2_with (first | (go_at_call 29; (with_reducible refine (spec_l01In.calls (rd l1 0) 1 5 true _ A6.out).mono ?_); rintro e w' ⟨rfl, ⟨nd, rfl⟩⟩; have p120 : 0 ≤ (1 : Int) := (by omega); have q120 : 1 < (l1.length : Int) := of_decide_eq_true (by assumption); obtain ⟨ad120, e120, hx120_0⟩ := Kd.at_int (Kd.C_kept_now HR1.out HK.out) 1 p120 q120; obtain rfl : ad118 = ad120 := (by injection e120); (try simp only [show (1 : Int).toNat = 1 from rfl, Nat.reduceMul, Nat.reduceEqDiff, Go.Addr.add, ↓reduceIte] at hx120_0); have qi120 : (1 < l1.length) = True := eq_true (by omega); (try rw [show ((1 : Int)).toNat = 1 from rfl] at hx120_0); replace p120 := eq_true p120; replace q120 := eq_true q120) | (go_at_call 29; (with_reducible refine (spec_l01In.calls (rd l1 1) 1 99 true _ A9.out).mono ?_); rintro e w' ⟨rfl, ⟨nd, rfl⟩⟩; have p122 : 0 ≤ (2 : Int) := (by omega); have q122 : 2 < (l1.length : Int) := of_decide_eq_true (by assumption); obtain ⟨ad122, e122, hx122_0⟩ := Kd.at_int (Kd.C_kept_now HR1.out HK.out) 2 p122 q122; obtain rfl : ad118 = ad122 := (by injection e122); (try simp only [show (2 : Int).toNat = 2 from rfl, Nat.reduceMul, Nat.reduceEqDiff, Go.Addr.add, ↓reduceIte] at hx122_0); have qi122 : (2 < l1.length) = True := eq_true (by omega); (try rw [show ((2 : Int)).toNat = 2 from rfl] at hx122_0); replace p122 := eq_true p122; replace q122 := eq_true q122) | (go_at_call 29; (with_reducible refine (spec_l01In.calls (rd l1 2) 1 1000 true _ A12.out).mono ?_); rintro e w' ⟨rfl, ⟨nd, rfl⟩⟩; have p124 : 0 ≤ (2 : Int) := (by omega); have q124 : 2 < (l1.length : Int) := of_decide_eq_true (by assumption); obtain ⟨ad124, e124, hx124_0⟩ := Kd.at_int (Kd.C_kept_now HR1.out HK.out) 2 p124 q124; obtain rfl : ad118 = ad124 := (by injection e124); (try simp only [show (2 : Int).toNat = 2 from rfl, Nat.reduceMul, Nat.reduceEqDiff, Go.Addr.add, ↓reduceIte] at hx124_0); have qi124 : (2 < l1.length) = True := eq_true (by omega); (try rw [show ((2 : Int)).toNat = 2 from rfl] at hx124_0); replace p124 := eq_true p124; replace q124 := eq_true q124))
         go_meet
         case rel => exact ⟨_, (decide ((rd l1 2) < 1)), (by first | rfl | (simp; done) | (simp [*]; done)), H', ⟨by first | omega | exact Nat.le_refl _⟩, ⟨by (with_reducible repeat (first | apply zr1 | apply zr2 | apply zr3)); exact HO0.out⟩, ⟨by repeat (first | (with_reducible first | exact HK.out | apply Kept.alloc | apply Kept.drewN | apply Kept.drew) | exact HK.out)⟩, ⟨by repeat (first | (with_reducible first | exact HB.out | apply zc1 | apply zc2 | apply zc3) | exact HB.out)⟩⟩
        ·replace c13 := Bool.eq_false_iff.mpr c13
         subst c13
         have H1 : (if (rd l1 0) = 5 then (spec_l26Step.j0 k l0 l1 (decide ((rd l1 2) < 1))) else (spec_l26Step.j0 k l0 l1 true)) = some (r1, r2) := by rw [if_neg (show ¬ (false = true) by decide)] at H; exact H
         clear H
         have H := H1
         clear H1
         by_cases c14 : (rd l1 0) = 5
         ·rw [if_pos c14] at H
          have c14b0 : ((rd l1 0) == 5) = true := beq_iff_eq.mpr c14
          have c14b1 : ((rd l1 0) != 5) = false := bne_eq_false_iff_eq.mpr c14
          clear c14
          have H' := zm1 H
          clear H
          have p118 : 0 ≤ (0 : Int) := (by omega)
          have q118 : 0 < (l1.length : Int) := of_decide_eq_true (by assumption)
          obtain ⟨ad118, e118, hx118_0⟩ := Kd.at_int (Kd.C_kept_now HR1.out HK.out) 0 p118 q118
          cases e118
          have qi118 : (0 < l1.length) = True := eq_true (by omega)
          (try rw [show ((0 : Int)).toNat = 0 from rfl] at hx118_0)
          (try rw [Addr.add_zero'] at hx118_0)
          replace p118 := eq_true p118
          replace q118 := eq_true q118
          go_wp2_with (first | (go_at_call 29; (with_reducible refine (spec_l01In.calls (rd l1 0) 1 5 true _ A6.out).mono ?_); rintro e w' ⟨rfl, ⟨nd, rfl⟩⟩; have p120 : 0 ≤ (1 : Int) := (by omega); have q120 : 1 < (l1.length : Int) := of_decide_eq_true (by assumption); obtain ⟨ad120, e120, hx120_0⟩ := Kd.at_int (Kd.C_kept_now HR1.out HK.out) 1 p120 q120; obtain rfl : ad118 = ad120 := (by injection e120); (try simp only [show (1 : Int).toNat = 1 from rfl, Nat.reduceMul, Nat.reduceEqDiff, Go.Addr.add, ↓reduceIte] at hx120_0); have qi120 : (1 < l1.length) = True := eq_true (by omega); (try rw [show ((1 : Int)).toNat = 1 from rfl] at hx120_0); replace p120 := eq_true p120; replace q120 := eq_true q120) | (go_at_call 29; (with_reducible refine (spec_l01In.calls (rd l1 1) 1 99 true _ A9.out).mono ?_); rintro e w' ⟨rfl, ⟨nd, rfl⟩⟩; have p122 : 0 ≤ (2 : Int) := (by omega); have q122 : 2 < (l1.length : Int) := of_decide_eq_true (by assumption); obtain ⟨ad122, e122, hx122_0⟩ := Kd.at_int (Kd.C_kept_now HR1.out HK.out) 2 p122 q122; obtain rfl : ad118 = ad122 := (by injection e122); (try simp only [show (2 : Int).toNat = 2 from rfl, Nat.reduceMul, Nat.reduceEqDiff, Go.Addr.add, ↓reduceIte] at hx122_0); have qi122 : (2 < l1.length) = True := eq_true (by omega); (try rw [show ((2 : Int)).toNat = 2 from rfl] at hx122_0); replace p122 := eq_true p122; replace q122 := eq_true q122) | (go_at_call 29; (with_reducible refine (spec_l01In.calls (rd l1 2) 1 1000 false _ A12.out).mono ?_); rintro e w' ⟨rfl, ⟨nd, rfl⟩⟩; have p125 : 0 ≤ (0 : Int) := (by omega); have q125 : 0 < (l1.length : Int) := of_decide_eq_true (by assumption); obtain ⟨ad125, e125, hx125_0⟩ := Kd.at_int (Kd.C_kept_now HR1.out HK.out) 0 p125 q125; obtain rfl : ad118 = ad125 := (by injection e125); have qi125 : (0 < l1.length) = True := eq_true (by omega); (try rw [show ((0 : Int)).toNat = 0 from rfl] at hx125_0); (try rw [Addr.add_zero'] at hx125_0); replace p125 := eq_true p125; replace q125 := eq_true q125; have p126 : 0 ≤ (2 : Int) := (by omega); have q126 : 2 < (l1.length : Int) := of_decide_eq_true (by assumption); obtain ⟨ad126, e126, hx126_0⟩ := Kd.at_int (Kd.C_kept_now HR1.out HK.out) 2 p126 q126; obtain rfl : ad118 = ad126 := (by injection e126); (try simp only [show (2 : Int).toNat = 2 from rfl, Nat.reduceMul, Nat.reduceEqDiff, Go.Addr.add, ↓reduceIte] at hx126_0); have qi126 : (2 < l1.length) = True := eq_true (by omega); (try rw [show ((2 : Int)).toNat = 2 from rfl] at hx126_0); replace p126 := eq_true p126; replace q126 := eq_true q126))
          go_meet
          case rel => exact ⟨_, (decide ((rd l1 2) < 1)), (by first | rfl | (simp; done) | (simp [*]; done)), H', ⟨by first | omega | exact Nat.le_refl _⟩, ⟨by (with_reducible repeat (first | apply zr1 | apply zr2 | apply zr3)); exact HO0.out⟩, ⟨by repeat (first | (with_reducible first | exact HK.out | apply Kept.alloc | apply Kept.drewN | apply Kept.drew) | exact HK.out)⟩, ⟨by repeat (first | (with_reducible first | exact HB.out | apply zc1 | apply zc2 | apply zc3) | exact HB.out)⟩⟩
         ·rw [if_neg c14] at H
          have c14b0 : ((rd l1 0) == 5) = false := beq_eq_false_iff_ne.mpr c14
          have c14b1 : ((rd l1 0) != 5) = true := bne_iff_ne.mpr c14
          have H' := zm1 H
          clear H
          have p118 : 0 ≤ (0 : Int) := (by omega)
          have q118 : 0 < (l1.length : Int) := of_decide_eq_true (by assumption)
          obtain ⟨ad118, e118, hx118_0⟩ := Kd.at_int (Kd.C_kept_now HR1.out HK.out) 0 p118 q118
          cases e118
          have qi118 : (0 < l1.length) = True := eq_true (by omega)
          (try rw [show ((0 : Int)).toNat = 0 from rfl] at hx118_0)
          (try rw [Addr.add_zero'] at hx118_0)
          replace p118 := eq_true p118
          replace q118 := eq_true q118
          go_wp2_with (first | (go_at_call 29; (with_reducible refine (spec_l01In.calls (rd l1 0) 1 5 true _ A6.out).mono ?_); rintro e w' ⟨rfl, ⟨nd, rfl⟩⟩; have p120 : 0 ≤ (1 : Int) := (by omega); have q120 : 1 < (l1.length : Int) := of_decide_eq_true (by assumption); obtain ⟨ad120, e120, hx120_0⟩ := Kd.at_int (Kd.C_kept_now HR1.out HK.out) 1 p120 q120; obtain rfl : ad118 = ad120 := (by injection e120); (try simp only [show (1 : Int).toNat = 1 from rfl, Nat.reduceMul, Nat.reduceEqDiff, Go.Addr.add, ↓reduceIte] at hx120_0); have qi120 : (1 < l1.length) = True := eq_true (by omega); (try rw [show ((1 : Int)).toNat = 1 from rfl] at hx120_0); replace p120 := eq_true p120; replace q120 := eq_true q120) | (go_at_call 29; (with_reducible refine (spec_l01In.calls (rd l1 1) 1 99 true _ A9.out).mono ?_); rintro e w' ⟨rfl, ⟨nd, rfl⟩⟩; have p122 : 0 ≤ (2 : Int) := (by omega); have q122 : 2 < (l1.length : Int) := of_decide_eq_true (by assumption); obtain ⟨ad122, e122, hx122_0⟩ := Kd.at_int (Kd.C_kept_now HR1.out HK.out) 2 p122 q122; obtain rfl : ad118 = ad122 := (by injection e122); (try simp only [show (2 : Int).toNat = 2 from rfl, Nat.reduceMul, Nat.reduceEqDiff, Go.Addr.add, ↓reduceIte] at hx122_0); have qi122 : (2 < l1.length) = True := eq_true (by omega); (try rw [show ((2 : Int)).toNat = 2 from rfl] at hx122_0); replace p122 := eq_true p122; replace q122 := eq_true q122) | (go_at_call 29; (with_reducible refine (spec_l01In.calls (rd l1 2) 1 1000 false _ A12.out).mono ?_); rintro e w' ⟨rfl, ⟨nd, rfl⟩⟩; have p125 : 0 ≤ (0 : Int) := (by omega); have q125 : 0 < (l1.length : Int) := of_decide_eq_true (by assumption); obtain ⟨ad125, e125, hx125_0⟩ := Kd.at_int (Kd.C_kept_now HR1.out HK.out) 0 p125 q125; obtain rfl : ad118 = ad125 := (by injection e125); have qi125 : (0 < l1.length) = True := eq_true (by omega); (try rw [show ((0 : Int)).toNat = 0 from rfl] at hx125_0); (try rw [Addr.add_zero'] at hx125_0); replace p125 := eq_true p125; replace q125 := eq_true q125))
          go_meet
          case rel => exact ⟨_, (true), (by first | rfl | (simp; done) | (simp [*]; done)), H', ⟨by first | omega | exact Nat.le_refl _⟩, ⟨by (with_reducible repeat (first | apply zr1 | apply zr2 | apply zr3)); exact HO0.out⟩, ⟨by repeat (first | (with_reducible first | exact HK.out | apply Kept.alloc | apply Kept.drewN | apply Kept.drew) | exact HK.out)⟩, ⟨by repeat (first | (with_reducible first | exact HB.out | apply zc1 | apply zc2 | apply zc3) | exact HB.out)⟩⟩
       ·rw [if_neg c11] at H
        exact absurd H (by simp)
      ·replace c10 := Bool.eq_false_iff.mpr c10
       subst c10
       have H1 : (spec_l26Step.j0 k l0 l1 true) = some (r1, r2) := by rw [if_neg (show ¬ (false = true) by decide)] at H; exact H
       clear H
       have H := H1
       clear H1
       have H' := zm1 H
       clear H
       have p118 : 0 ≤ (0 : Int) := (by omega)
       have q118 : 0 < (l1.length : Int) := of_decide_eq_true (by assumption)
       obtain ⟨ad118, e118, hx118_0⟩ := Kd.at_int (Kd.C_kept_now HR1.out HK.out) 0 p118 q118
       cases e118
       have qi118 : (0 < l1.length) = True := eq_true (by omega)
       (try rw [show ((0 : Int)).toNat = 0 from rfl] at hx118_0)
       (try rw [Addr.add_zero'] at hx118_0)
       replace p118 := eq_true p118
       replace q118 := eq_true q118
       go_wp2_with (first | (go_at_call 29; (with_reducible refine (spec_l01In.calls (rd l1 0) 1 5 true _ A6.out).mono ?_); rintro e w' ⟨rfl, ⟨nd, rfl⟩⟩; have p120 : 0 ≤ (1 : Int) := (by omega); have q120 : 1 < (l1.length : Int) := of_decide_eq_true (by assumption); obtain ⟨ad120, e120, hx120_0⟩ := Kd.at_int (Kd.C_kept_now HR1.out HK.out) 1 p120 q120; obtain rfl : ad118 = ad120 := (by injection e120); (try simp only [show (1 : Int).toNat = 1 from rfl, Nat.reduceMul, Nat.reduceEqDiff, Go.Addr.add, ↓reduceIte] at hx120_0); have qi120 : (1 < l1.length) = True := eq_true (by omega); (try rw [show ((1 : Int)).toNat = 1 from rfl] at hx120_0); replace p120 := eq_true p120; replace q120 := eq_true q120) | (go_at_call 29; (with_reducible refine (spec_l01In.calls (rd l1 1) 1 99 false _ A9.out).mono ?_); rintro e w' ⟨rfl, ⟨nd, rfl⟩⟩))
       go_meet
       case rel => exact ⟨_, (true), (by first | rfl | (simp; done) | (simp [*]; done)), H', ⟨by first | omega | exact Nat.le_refl _⟩, ⟨by (with_reducible repeat (first | apply zr1 | apply zr2 | apply zr3)); exact HO0.out⟩, ⟨by repeat (first | (with_reducible first | exact HK.out | apply Kept.alloc | apply Kept.drewN | apply Kept.drew) | exact HK.out)⟩, ⟨by repeat (first | (with_reducible first | exact HB.out | apply zc1 | apply zc2 | apply zc3) | exact HB.out)⟩⟩
     ·rw [if_neg c8] at H
      exact absurd H (by simp)
    ·replace c7 := Bool.eq_false_iff.mpr c7
     subst c7
     have H1 : (spec_l26Step.j0 k l0 l1 true) = some (r1, r2) := by rw [if_neg (show ¬ (false = true) by decide)] at H; exact H
     clear H
     have H := H1
     clear H1
     have H' := zm1 H
     clear H
     have p118 : 0 ≤ (0 : Int) := (by omega)
     have q118 : 0 < (l1.length : Int) := of_decide_eq_true (by assumption)
     obtain ⟨ad118, e118, hx118_0⟩ := Kd.at_int (Kd.C_kept_now HR1.out HK.out) 0 p118 q118
     cases e118
     have qi118 : (0 < l1.length) = True := eq_true (by omega)
     (try rw [show ((0 : Int)).toNat = 0 from rfl] at hx118_0)
     (try rw [Addr.add_zero'] at hx118_0)
     replace p118 := eq_true p118
     replace q118 := eq_true q118
     go_wp2_with (first | (go_at_call 29; (with_reducible refine (spec_l01In.calls (rd l1 0) 1 5 false _ A6.out).mono ?_); rintro e w' ⟨rfl, ⟨nd, rfl⟩⟩))
     go_meet
     case rel => exact ⟨_, (true), (by first | rfl | (simp; done) | (simp [*]; done)), H', ⟨by first | omega | exact Nat.le_refl _⟩, ⟨by (with_reducible repeat (first | apply zr1 | apply zr2 | apply zr3)); exact HO0.out⟩, ⟨by repeat (first | (with_reducible first | exact HK.out | apply Kept.alloc | apply Kept.drewN | apply Kept.drew) | exact HK.out)⟩, ⟨by repeat (first | (with_reducible first | exact HB.out | apply zc1 | apply zc2 | apply zc3) | exact HB.out)⟩⟩
   ·rw [if_neg c5] at H
    exact absurd H (by simp)
  ·rw [if_neg c4] at H
   have c4b0 : ((l1.length : Int) == 3) = false := beq_eq_false_iff_ne.mpr c4
   have c4b1 : ((l1.length : Int) != 3) = true := bne_iff_ne.mpr c4
   (first | rw [c4b0] | (simp only [i64_w, i32_w]; rw [c4b0]) | skip)
   have H' := zm1 H
   clear H
   go_wp2
   go_meet
   case rel => exact ⟨_, (true), (by first | rfl | (simp; done) | (simp [*]; done)), H', ⟨by first | omega | exact Nat.le_refl _⟩, ⟨by (with_reducible repeat (first | apply zr1 | apply zr2 | apply zr3)); exact HO0.out⟩, ⟨by repeat (first | (with_reducible first | exact HK.out | apply Kept.alloc | apply Kept.drewN | apply Kept.drew) | exact HK.out)⟩, ⟨by repeat (first | (with_reducible first | exact HB.out | apply zc1 | apply zc2 | apply zc3) | exact HB.out)⟩⟩
 case rest =>
  clear HC3
  try clear c1
  try clear p1
  try clear q1
  try clear hx1
  try clear qi1
  try clear p2
  try clear c3
  try clear c4
  try clear c4b0
  try clear c4b1
  try clear c5
  try clear c5b0
  try clear c5b1
  try clear c7
  try clear c8
  try clear c8b0
  try clear c8b1
  try clear c10
  try clear c11
  try clear c11b0
  try clear c11b1
  try clear p11
  try clear q11
  try clear hx11
  try clear qi11
  try clear p12
  try clear q12
  try clear hx12
  try clear qi12
  try clear c13
  try clear c14
  try clear c14b0
  try clear c14b1
  try clear hx118_0
  try clear hx120_0
  try clear hx122_0
  try clear hx124_0
  try clear hx125_0
  try clear hx126_0
  try clear p118
  try clear p120
  try clear p122
  try clear p124
  try clear p125
  try clear p126
  try clear q118
  try clear q120
  try clear q122
  try clear q124
  try clear q125
  try clear q126
  obtain ⟨kq, x42_2, rfl, HA, HJ2, HO_0, HK, HB⟩ := hcut
  cases kq with
  | zero => exact absurd HA.out (by simp [spec_l26Step.j0])
  | succ kj2 =>
   have H := HA.out
   clear HA
   simp only [spec_l26Step.j0] at H
   by_cases c15 : x42_2 = true
   ·subst c15
    have H1 : (some (false, l0)) = some (r1, r2) := by rw [if_pos rfl] at H; exact H
    clear H
    have H := H1
    clear H1
    simp only [Option.some.injEq, Prod.mk.injEq] at H
    obtain ⟨rfl, rfl⟩ := H
    go_wp2
    go_ret
    exact ⟨by first | rfl | (simp [errW_none, errW_some] <;> rfl) | (simp [*, errW_none, errW_some] <;> rfl), by (with_reducible repeat (first | apply zr1 | apply zr2 | apply zr3)); exact HO_0.out, by repeat (first | (with_reducible first | exact HB.out | apply zc1 | apply zc2 | apply zc3) | exact HB.out), by repeat (first | (with_reducible first | exact HK.out | apply Kept.alloc | apply Kept.drewN | apply Kept.drew) | exact HK.out)⟩
   ·replace c15 := Bool.eq_false_iff.mpr c15
    subst c15
    have H1 : (if 1 < (l1.length : Int) then (if 0 < (l1.length : Int) then (if (rd l1 0) = 1 then (if 0 ≤ (rd l1 1) then (if (rd l1 1) < (l0.length : Int) then (if (rd l0 (rd l1 1)) = 0 then (if 2 < (l1.length : Int) then (some (true, (l0.set ((rd l1 1) : Int).toNat (rd l1 2)))) else (none)) else (some (false, l0))) else (none)) else (none)) else (if 0 ≤ (rd l1 1) then (if (rd l1 1) < (l0.length : Int) then (if (rd l0 (rd l1 1)) ≤ 0 then (some (false, l0)) else (if (rd l1 0) = 2 then (if 2 < (l1.length : Int) then (if (rd l1 2) ≥ (rd l0 (rd l1 1)) then (some (false, l0)) else (some (true, (l0.set ((rd l1 1) : Int).toNat (wrap64 ((rd l0 (rd l1 1)) - (rd l1 2))))))) else (none)) else (if (rd l1 0) = 3 then ((spec_l26Free.f kj2 l0).bind fun t139 => (if 2 < (l1.length : Int) then (if (rd l1 2) ≥ (rd l0 (rd l1 1)) then (some (false, l0)) else (if t139 = 0 then (some (false, l0)) else (if 0 ≤ t139 then (if t139 < (l0.length : Int) then (some (true, ((l0.set ((rd l1 1) : Int).toNat (wrap64 ((rd l0 (rd l1 1)) - (rd l1 2)))).set (t139 : Int).toNat (rd l1 2)))) else (none)) else (none)))) else (none))) else (if (rd l1 0) = 4 then (if 2 < (l1.length : Int) then (if (rd l1 2) > 99 then (some (false, l0)) else (if (rd l1 2) = (rd l1 1) then (some (false, l0)) else (if 0 ≤ (rd l1 2) then (if (rd l1 2) < (l0.length : Int) then (if (rd l0 (rd l1 2)) ≤ 0 then (some (false, l0)) else (some (true, ((l0.set ((rd l1 2) : Int).toNat (wrap64 ((rd l0 (rd l1 2)) + (rd l0 (rd l1 1))))).set ((rd l1 1) : Int).toNat (-1))))) else (none)) else (none)))) else (none)) else (if (rd l1 0) = 5 then (if 2 < (l1.length : Int) then (if (rd l1 2) = (rd l0 (rd l1 1)) then (some (true, (l0.set ((rd l1 1) : Int).toNat (-1)))) else (some (false, l0))) else (none)) else (some (true, l0))))))) else (none)) else (none))) else (none)) else (none)) = some (r1, r2) := by rw [if_neg (show ¬ (false = true) by decide)] at H; exact H
    clear H
    have H := H1
    clear H1
    by_cases c16 : 1 < (l1.length : Int)
    ·rw [if_pos c16] at H
     have c16b0 : decide (1 < (l1.length : Int)) = true := decide_eq_true c16
     have c16b1 : decide (1 < l1.length) = true := decide_eq_true (by omega)
     clear c16
     by_cases c17 : 0 < (l1.length : Int)
     ·rw [if_pos c17] at H
      have c17b0 : decide (0 < (l1.length : Int)) = true := decide_eq_true c17
      have c17b1 : decide (0 < l1.length) = true := decide_eq_true (by omega)
      clear c17
      by_cases c18 : (rd l1 0) = 1
      ·rw [if_pos c18] at H
       have c18b0 : ((rd l1 0) == 1) = true := beq_iff_eq.mpr c18
       have c18b1 : ((rd l1 0) != 1) = false := bne_eq_false_iff_eq.mpr c18
       clear c18
       by_cases c19 : 0 ≤ (rd l1 1)
       ·rw [if_pos c19] at H
        have c19b0 : decide (0 ≤ (rd l1 1)) = true := decide_eq_true c19
        clear c19
        by_cases c20 : (rd l1 1) < (l0.length : Int)
        ·rw [if_pos c20] at H
         have c20b0 : decide ((rd l1 1) < (l0.length : Int)) = true := decide_eq_true c20
         clear c20
         by_cases c21 : (rd l0 (rd l1 1)) = 0
         ·rw [if_pos c21] at H
          have c21b0 : ((rd l0 (rd l1 1)) == 0) = true := beq_iff_eq.mpr c21
          have c21b1 : ((rd l0 (rd l1 1)) != 0) = false := bne_eq_false_iff_eq.mpr c21
          clear c21
          by_cases c22 : 2 < (l1.length : Int)
          ·rw [if_pos c22] at H
           have c22b0 : decide (2 < (l1.length : Int)) = true := decide_eq_true c22
           have c22b1 : decide (2 < l1.length) = true := decide_eq_true (by omega)
           clear c22
           obtain ⟨y131, hy131⟩ : ∃ y_ : List Int, y_ = (l0.set ((rd l1 1) : Int).toNat (rd l1 2)) := ⟨_, rfl⟩
           replace H : (some (true, y131)) = some (r1, r2) := by first | (rw [hy131]; with_reducible exact H) | (have H2_ := (Option.bind_some _ _).symm.trans H; rw [hy131]; with_reducible exact H2_) | (have H2_ := (Option.bind_some _ _).symm.trans H; with_reducible exact H2_) | with_reducible exact H | (rw [hy131]; exact H) | exact H
           have Ny131 := zm1 hy131
           clear hy131
           simp only [Option.some.injEq, Prod.mk.injEq] at H
           obtain ⟨rfl, rfl⟩ := H
           have p127 : 0 ≤ (1 : Int) := (by omega)
           have q127 : 1 < (l1.length : Int) := of_decide_eq_true (by assumption)
           obtain ⟨ad127, e127, hx127_0⟩ := Kd.at_int (Kd.C_kept_now HR1.out HK.out) 1 p127 q127
           cases e127
           (try simp only [show (1 : Int).toNat = 1 from rfl, Nat.reduceMul, Nat.reduceEqDiff, Go.Addr.add, ↓reduceIte] at hx127_0)
           have qi127 : (1 < l1.length) = True := eq_true (by omega)
           (try rw [show ((1 : Int)).toNat = 1 from rfl] at hx127_0)
           replace p127 := eq_true p127
           replace q127 := eq_true q127
           have p128 : 0 ≤ (0 : Int) := (by omega)
           have q128 : 0 < (l1.length : Int) := of_decide_eq_true (by assumption)
           obtain ⟨ad128, e128, hx128_0⟩ := Kd.at_int (Kd.C_kept_now HR1.out HK.out) 0 p128 q128
           obtain rfl : ad127 = ad128 := (by injection e128)
           have qi128 : (0 < l1.length) = True := eq_true (by omega)
           (try rw [show ((0 : Int)).toNat = 0 from rfl] at hx128_0)
           (try rw [Addr.add_zero'] at hx128_0)
           replace p128 := eq_true p128
           replace q128 := eq_true q128
           obtain ⟨Ao24, co24, eo24⟩ := Kd.R_slice HO_0.out
           subst eo24
           have p129 : 0 ≤ ((rd l1 1) : Int) := of_decide_eq_true (by assumption)
           have q129 : (rd l1 1) < (l0.length : Int) := of_decide_eq_true (by assumption)
           obtain ⟨ad129, e129, hx129_0⟩ := Kd.at_int (Kd.R_reads' HO_0.out).2.2 (rd l1 1) p129 q129
           cases e129
           replace p129 := eq_true p129
           replace q129 := eq_true q129
           have p130 : 0 ≤ (2 : Int) := (by omega)
           have q130 : 2 < (l1.length : Int) := of_decide_eq_true (by assumption)
           obtain ⟨ad130, e130, hx130_0⟩ := Kd.at_int (Kd.C_kept_now HR1.out HK.out) 2 p130 q130
           obtain rfl : ad127 = ad130 := (by injection e130)
           (try simp only [show (2 : Int).toNat = 2 from rfl, Nat.reduceMul, Nat.reduceEqDiff, Go.Addr.add, ↓reduceIte] at hx130_0)
           have qi130 : (2 < l1.length) = True := eq_true (by omega)
           (try rw [show ((2 : Int)).toNat = 2 from rfl] at hx130_0)
           replace p130 := eq_true p130
           replace q130 := eq_true q130
           have p23 : 0 ≤ ((rd l1 1) : Int) := of_decide_eq_true (by assumption)
           have q23 : ((rd l1 1) : Int) < ((l0.length : Int) : Int) := of_decide_eq_true (by assumption)
           obtain ⟨go23, co23, eo23, gb23, gl23, cl23, HG23⟩ := Kd.R_form HO_0.out (by omega)
           (first | cases eo23 | (injection eo23 with ea_ en_ ec_; (first | subst ea_ | (injection ea_ with ea_; subst ea_)); subst ec_; clear en_))
           have GB23 := zm1 gb23
           have GG23 := zm1 HG23
           clear gb23 gl23 HG23
           have HMgo23 := zm1 (show (P0_ go23 ∨ w.heap.size ≤ go23) from (HO_0.out.1 _ rfl))
           (first | simp only [add_plain] at hx129_0 | skip)
           obtain ⟨hx23_0, hf23_0⟩ := Kd.R_celln 0 HO_0.out ((rd l1 1) : Int) p23 q23
           replace p23 := eq_true p23
           replace q23 := eq_true q23
           have HP25 := Kd.R_putg HO_0.out ((rd l1 1) : Int) (rd l1 2)
           go_wp2_with (first | ((with_reducible refine gate_store (t := 3) (p := 60) rfl ?_); refine store_event (t := 3) (p := 60) (v := ?vo_w26) (w1 := (wc.setCell ⟨go23, ((rd l1 1) : Int).toNat, none⟩ (.int .i64 (rd l1 2)))) ?hg ?ho ?hn ?hr ?_; (case ho => rfl); (case hg => rfl); (case hn => rfl); (case hr => first | (go_simp; done) | (go_simp; rfl)); intro w26 hw; have hg : wc.grownBy w26 (some go23) := (by rw [hw]; exact HP25.2); have hp_ : Kd.R (Kd.int .i64) 3 w26 w0.heap.size (fun k_ => (P0_ k_ ∨ w.heap.size ≤ k_)) (.slice (some ⟨go23, 0, none⟩) l0.length co24) y131 := (by rw [hw, Ny131.out]; exact HP25.1); clear HP25; have n0_ := zm1 (hp_); have n1_ := zm1 ((by rw [hw]; exact below_set (HB.out) GB23.out : Below w0.heap.size w0 w26)); have n2_ := zm1 (Kept.of_grown (S := (fun k_ => P0_ k_)) hg (by repeat (first | (with_reducible first | exact HK.out | apply Kept.alloc | apply Kept.drewN | apply Kept.drew) | exact HK.out)) (fun k_ e_ => (HO_0.out.1 k_ e_))); clear HO_0; clear HB; clear HK; have HO_0 := n0_; have HB := n1_; have HK := n2_; clear n0_ n1_ n2_; clear hg hw hp_))
           go_ret
           exact ⟨by first | rfl | (simp [errW_none, errW_some] <;> rfl) | (simp [*, errW_none, errW_some] <;> rfl), by (with_reducible repeat (first | apply zr1 | apply zr2 | apply zr3)); exact HO_0.out, by repeat (first | (with_reducible first | exact HB.out | apply zc1 | apply zc2 | apply zc3) | exact HB.out), by repeat (first | (with_reducible first | exact HK.out | apply Kept.alloc | apply Kept.drewN | apply Kept.drew) | exact HK.out)⟩
          ·rw [if_neg c22] at H
           exact absurd H (by simp)
         ·rw [if_neg c21] at H
          have c21b0 : ((rd l0 (rd l1 1)) == 0) = false := beq_eq_false_iff_ne.mpr c21
          have c21b1 : ((rd l0 (rd l1 1)) != 0) = true := bne_iff_ne.mpr c21
          simp only [Option.some.injEq, Prod.mk.injEq] at H
          obtain ⟨rfl, rfl⟩ := H
          have p127 : 0 ≤ (1 : Int) := (by omega)
          have q127 : 1 < (l1.length : Int) := of_decide_eq_true (by assumption)
          obtain ⟨ad127, e127, hx127_0⟩ := Kd.at_int (Kd.C_kept_now HR1.out HK.out) 1 p127 q127
          cases e127
          (try simp only [show (1 : Int).toNat = 1 from rfl, Nat.reduceMul, Nat.reduceEqDiff, Go.Addr.add, ↓reduceIte] at hx127_0)
          have qi127 : (1 < l1.length) = True := eq_true (by omega)
          (try rw [show ((1 : Int)).toNat = 1 from rfl] at hx127_0)
          replace p127 := eq_true p127
          replace q127 := eq_true q127
          have p128 : 0 ≤ (0 : Int) := (by omega)
          have q128 : 0 < (l1.length : Int) := of_decide_eq_true (by assumption)
          obtain ⟨ad128, e128, hx128_0⟩ := Kd.at_int (Kd.C_kept_now HR1.out HK.out) 0 p128 q128
          obtain rfl : ad127 = ad128 := (by injection e128)
          have qi128 : (0 < l1.length) = True := eq_true (by omega)
          (try rw [show ((0 : Int)).toNat = 0 from rfl] at hx128_0)
          (try rw [Addr.add_zero'] at hx128_0)
          replace p128 := eq_true p128
          replace q128 := eq_true q128
          obtain ⟨Ao27, co27, eo27⟩ := Kd.R_slice HO_0.out
          subst eo27
          have p129 : 0 ≤ ((rd l1 1) : Int) := of_decide_eq_true (by assumption)
          have q129 : (rd l1 1) < (l0.length : Int) := of_decide_eq_true (by assumption)
          obtain ⟨ad129, e129, hx129_0⟩ := Kd.at_int (Kd.R_reads' HO_0.out).2.2 (rd l1 1) p129 q129
          cases e129
          replace p129 := eq_true p129
          replace q129 := eq_true q129
          go_wp2
          go_ret
          exact ⟨by first | rfl | (simp [errW_none, errW_some] <;> rfl) | (simp [*, errW_none, errW_some] <;> rfl), by (with_reducible repeat (first | apply zr1 | apply zr2 | apply zr3)); exact HO_0.out, by repeat (first | (with_reducible first | exact HB.out | apply zc1 | apply zc2 | apply zc3) | exact HB.out), by repeat (first | (with_reducible first | exact HK.out | apply Kept.alloc | apply Kept.drewN | apply Kept.drew) | exact HK.out)⟩
        ·rw [if_neg c20] at H
         exact absurd H (by simp)
       ·rw [if_neg c19] at H
        exact absurd H (by simp)
      ·rw [if_neg c18] at H
       have c18b0 : ((rd l1 0) == 1) = false := beq_eq_false_iff_ne.mpr c18
       have c18b1 : ((rd l1 0) != 1) = true := bne_iff_ne.mpr c18
       by_cases c28 : 0 ≤ (rd l1 1)
       ·rw [if_pos c28] at H
        have c28b0 : decide (0 ≤ (rd l1 1)) = true := decide_eq_true c28
        clear c28
        by_cases c29 : (rd l1 1) < (l0.length : Int)
        ·rw [if_pos c29] at H
         have c29b0 : decide ((rd l1 1) < (l0.length : Int)) = true := decide_eq_true c29
         clear c29
         by_cases c30 : (rd l0 (rd l1 1)) ≤ 0
         ·rw [if_pos c30] at H
          have c30b0 : decide ((rd l0 (rd l1 1)) ≤ 0) = true := decide_eq_true c30
          clear c30
          simp only [Option.some.injEq, Prod.mk.injEq] at H
          obtain ⟨rfl, rfl⟩ := H
          have p127 : 0 ≤ (1 : Int) := (by omega)
          have q127 : 1 < (l1.length : Int) := of_decide_eq_true (by assumption)
          obtain ⟨ad127, e127, hx127_0⟩ := Kd.at_int (Kd.C_kept_now HR1.out HK.out) 1 p127 q127
          cases e127
          (try simp only [show (1 : Int).toNat = 1 from rfl, Nat.reduceMul, Nat.reduceEqDiff, Go.Addr.add, ↓reduceIte] at hx127_0)
          have qi127 : (1 < l1.length) = True := eq_true (by omega)
          (try rw [show ((1 : Int)).toNat = 1 from rfl] at hx127_0)
          replace p127 := eq_true p127
          replace q127 := eq_true q127
          have p128 : 0 ≤ (0 : Int) := (by omega)
          have q128 : 0 < (l1.length : Int) := of_decide_eq_true (by assumption)
          obtain ⟨ad128, e128, hx128_0⟩ := Kd.at_int (Kd.C_kept_now HR1.out HK.out) 0 p128 q128
          obtain rfl : ad127 = ad128 := (by injection e128)
          have qi128 : (0 < l1.length) = True := eq_true (by omega)
          (try rw [show ((0 : Int)).toNat = 0 from rfl] at hx128_0)
          (try rw [Addr.add_zero'] at hx128_0)
          replace p128 := eq_true p128
          replace q128 := eq_true q128
          obtain ⟨Ao31, co31, eo31⟩ := Kd.R_slice HO_0.out
          subst eo31
          have p132 : 0 ≤ ((rd l1 1) : Int) := of_decide_eq_true (by assumption)
          have q132 : (rd l1 1) < (l0.length : Int) := of_decide_eq_true (by assumption)
          obtain ⟨ad132, e132, hx132_0⟩ := Kd.at_int (Kd.R_reads' HO_0.out).2.2 (rd l1 1) p132 q132
          cases e132
          replace p132 := eq_true p132
          replace q132 := eq_true q132
          go_wp2
          go_ret
          exact ⟨by first | rfl | (simp [errW_none, errW_some] <;> rfl) | (simp [*, errW_none, errW_some] <;> rfl), by (with_reducible repeat (first | apply zr1 | apply zr2 | apply zr3)); exact HO_0.out, by repeat (first | (with_reducible first | exact HB.out | apply zc1 | apply zc2 | apply zc3) | exact HB.out), by repeat (first | (with_reducible first | exact HK.out | apply Kept.alloc | apply Kept.drewN | apply Kept.drew) | exact HK.out)⟩
         ·rw [if_neg c30] at H
          have c30b0 : decide ((rd l0 (rd l1 1)) ≤ 0) = false := decide_eq_false c30
          clear c30
          by_cases c32 : (rd l1 0) = 2
          ·rw [if_pos c32] at H
           have c32b0 : ((rd l1 0) == 2) = true := beq_iff_eq.mpr c32
           have c32b1 : ((rd l1 0) != 2) = false := bne_eq_false_iff_eq.mpr c32
           clear c32
           by_cases c33 : 2 < (l1.length : Int)
           ·rw [if_pos c33] at H
            have c33b0 : decide (2 < (l1.length : Int)) = true := decide_eq_true c33
            have c33b1 : decide (2 < l1.length) = true := decide_eq_true (by omega)
            clear c33
            by_cases c34 : (rd l1 2) ≥ (rd l0 (rd l1 1))
            ·rw [if_pos c34] at H
             have c34b0 : decide ((rd l0 (rd l1 1)) ≤ (rd l1 2)) = true := decide_eq_true c34
             clear c34
             simp only [Option.some.injEq, Prod.mk.injEq] at H
             obtain ⟨rfl, rfl⟩ := H
             have p127 : 0 ≤ (1 : Int) := (by omega)
             have q127 : 1 < (l1.length : Int) := of_decide_eq_true (by assumption)
             obtain ⟨ad127, e127, hx127_0⟩ := Kd.at_int (Kd.C_kept_now HR1.out HK.out) 1 p127 q127
             cases e127
             (try simp only [show (1 : Int).toNat = 1 from rfl, Nat.reduceMul, Nat.reduceEqDiff, Go.Addr.add, ↓reduceIte] at hx127_0)
             have qi127 : (1 < l1.length) = True := eq_true (by omega)
             (try rw [show ((1 : Int)).toNat = 1 from rfl] at hx127_0)
             replace p127 := eq_true p127
             replace q127 := eq_true q127
             have p128 : 0 ≤ (0 : Int) := (by omega)
             have q128 : 0 < (l1.length : Int) := of_decide_eq_true (by assumption)
             obtain ⟨ad128, e128, hx128_0⟩ := Kd.at_int (Kd.C_kept_now HR1.out HK.out) 0 p128 q128
             obtain rfl : ad127 = ad128 := (by injection e128)
             have qi128 : (0 < l1.length) = True := eq_true (by omega)
             (try rw [show ((0 : Int)).toNat = 0 from rfl] at hx128_0)
             (try rw [Addr.add_zero'] at hx128_0)
             replace p128 := eq_true p128
             replace q128 := eq_true q128
             obtain ⟨Ao35, co35, eo35⟩ := Kd.R_slice HO_0.out
             subst eo35
             have p132 : 0 ≤ ((rd l1 1) : Int) := of_decide_eq_true (by assumption)
             have q132 : (rd l1 1) < (l0.length : Int) := of_decide_eq_true (by assumption)
             obtain ⟨ad132, e132, hx132_0⟩ := Kd.at_int (Kd.R_reads' HO_0.out).2.2 (rd l1 1) p132 q132
             cases e132
             replace p132 := eq_true p132
             replace q132 := eq_true q132
             have p133 : 0 ≤ (0 : Int) := (by omega)
             have q133 : 0 < (l1.length : Int) := of_decide_eq_true (by assumption)
             obtain ⟨ad133, e133, hx133_0⟩ := Kd.at_int (Kd.C_kept_now HR1.out HK.out) 0 p133 q133
             obtain rfl : ad127 = ad133 := (by injection e133)
             have qi133 : (0 < l1.length) = True := eq_true (by omega)
             (try rw [show ((0 : Int)).toNat = 0 from rfl] at hx133_0)
             (try rw [Addr.add_zero'] at hx133_0)
             replace p133 := eq_true p133
             replace q133 := eq_true q133
             try go_wp2
             have n0_ := zm1 (Kd.R_drew HO_0.out)
             have n1_ := zm1 (Kept.drew HK.out)
             have n2_ := zm1 (below_drew1 HB.out)
             clear HO_0
             clear HK
             clear HB
             have HO_0 := n0_
             have HK := n1_
             have HB := n2_
             clear n0_ n1_ n2_
             have p134 : 0 ≤ (2 : Int) := (by omega)
             have q134 : 2 < (l1.length : Int) := of_decide_eq_true (by assumption)
             obtain ⟨ad134, e134, hx134_0⟩ := Kd.at_int (Kd.C_kept_now HR1.out HK.out) 2 p134 q134
             have hw134_0 := hx134_0
             (try rw [show ((2 : Int)).toNat = 2 from rfl] at hw134_0)
             (try rw [show 2 * 1 = 2 from rfl] at hw134_0)
             (try simp only [Nat.reduceMul, Nat.reduceEqDiff, Go.Addr.add, ↓reduceIte] at hw134_0)
             obtain rfl : ad127 = ad134 := (by injection e134)
             (try simp only [show (2 : Int).toNat = 2 from rfl, Nat.reduceMul, Nat.reduceEqDiff, Go.Addr.add, ↓reduceIte] at hx134_0)
             have qi134 : (2 < l1.length) = True := eq_true (by omega)
             (try rw [show ((2 : Int)).toNat = 2 from rfl] at hx134_0)
             replace p134 := eq_true p134
             replace q134 := eq_true q134
             have p135 : 0 ≤ ((rd l1 1) : Int) := of_decide_eq_true (by assumption)
             have q135 : (rd l1 1) < (l0.length : Int) := of_decide_eq_true (by assumption)
             obtain ⟨ad135, e135, hx135_0⟩ := Kd.at_int (Kd.R_reads' HO_0.out).2.2 (rd l1 1) p135 q135
             obtain rfl : ad132 = ad135 := (by injection e135)
             replace p135 := eq_true p135
             replace q135 := eq_true q135
             refine start_ (n := 8) (S := fun w' => w'.cell? ⟨ad127.block, ad127.off + 2, none⟩ = some (.int .i64 (rd l1 2)) ∧ w'.cell? (ad132.add ((rd l1 1)).toNat) = some (.int .i64 (rd l0 (rd l1 1)))) (ds := []) #[false, false, false, false, false, false, false, false] (by kernel_rfl) rfl rfl ⟨(Kd.foot_int (HR1.out _ (by repeat (first | exact HK.out | apply Kept.alloc | apply Kept.drewN | apply Kept.drew))) (2 : Int) (of_eq_true p134) (of_eq_true q134)), hx135_0⟩ (fun hHeld => ?_); refine with_tabW spec_l26Step.tab13 spec_l26Step.bits13 (fun HT_ HW_ => ?_)
             generalize wc.drew = w36 at HO_0 HK HB hx134_0 hx135_0 hHeld ⊢
             refine pure_ (i := 0) (N := some 71) (v := ?_) (a' := ?_) #[true, false, false, false, false, false, false, false] rfl rfl (any_of HT_.out (by kernel_rfl)) (fun _ _ _ h => h) (Or.inl ⟨by rfl, ?_⟩) ?_ ?_
             rotate_left
             ·intro w'
              go_simp
              with_reducible rfl
             rotate_left
             ·simp only [Act.put, zs1, zs2, zs3, i64_w, i32_w]
              rfl
             refine pure_ (i := 1) (N := some 72) (v := ?_) (a' := ?_) #[true, true, false, false, false, false, false, false] rfl rfl (any_of HT_.out (by kernel_rfl)) (fun _ _ _ h => h) (Or.inl ⟨by rfl, ?_⟩) ?_ ?_
             rotate_left
             ·intro w'
              go_simp
              with_reducible rfl
             rotate_left
             ·simp only [Act.put, zs1, zs2, zs3, i64_w, i32_w]
              rfl
             refine pure_ (i := 3) (N := some 74) (v := ?_) (a' := ?_) #[true, true, false, true, false, false, false, false] rfl rfl (any_of HT_.out (by kernel_rfl)) (fun _ _ _ h => h) (Or.inl ⟨by rfl, ?_⟩) ?_ ?_
             rotate_left
             ·intro w'
              go_simp
              with_reducible rfl
             rotate_left
             ·simp only [Act.put, zs1, zs2, zs3, i64_w, i32_w]
              rfl
             refine pure_ (i := 4) (N := some 75) (v := ?_) (a' := ?_) #[true, true, false, true, true, false, false, false] rfl rfl (any_of HT_.out (by kernel_rfl)) (fun _ _ _ h => h) (Or.inl ⟨by rfl, ?_⟩) ?_ ?_
             rotate_left
             ·intro w'
              go_simp
              with_reducible rfl
             rotate_left
             ·simp only [Act.put, zs1, zs2, zs3, i64_w, i32_w]
              rfl
             refine pure_ (i := 5) (N := some 76) (v := ?_) (a' := ?_) #[true, true, false, true, true, true, false, false] rfl rfl (any_of HT_.out (by kernel_rfl)) (fun _ _ _ h => h) (Or.inl ⟨by rfl, ?_⟩) ?_ ?_
             rotate_left
             ·intro w'
              go_simp
              with_reducible rfl
             rotate_left
             ·simp only [Act.put, zs1, zs2, zs3, i64_w, i32_w]
              rfl
             refine take_ (i := 2) (N := some 73) (v := ?_) (a' := ?_) #[true, true, true, true, true, true, false, false] rfl rfl (take_ofW HT_.out HW_.out (by kernel_rfl)) (fun _ _ _ h => h) (Or.inl ⟨by rfl, ?_⟩) hHeld ?_ ?_
             rotate_left
             ·rintro w' ⟨s0, s1⟩
              go_simp
              with_reducible rfl
             rotate_left
             ·simp only [Act.put, zs1, zs2, zs3, i64_w, i32_w]
              rfl
             refine take_ (i := 6) (N := some 77) (v := ?_) (a' := ?_) #[true, true, true, true, true, true, true, false] rfl rfl (take_ofW HT_.out HW_.out (by kernel_rfl)) (fun _ _ _ h => h) (Or.inl ⟨by rfl, ?_⟩) hHeld ?_ ?_
             rotate_left
             ·rintro w' ⟨s0, s1⟩
              go_simp
              with_reducible rfl
             rotate_left
             ·simp only [Act.put, zs1, zs2, zs3, i64_w, i32_w]
              rfl
             refine pure_ (i := 7) (N := some 78) (v := ?_) (a' := ?_) #[true, true, true, true, true, true, true, true] rfl rfl (any_of HT_.out (by kernel_rfl)) (fun _ _ _ h => h) (Or.inl ⟨by rfl, ?_⟩) ?_ ?_
             rotate_left
             ·intro w'
              go_simp
              with_reducible rfl
             rotate_left
             ·simp only [Act.put, zs1, zs2, zs3, i64_w, i32_w]
              rfl
             refine done_ (done_of HT_.out (by kernel_rfl)) ?_
             try go_wp2
             go_ret
             exact ⟨by first | rfl | (simp [errW_none, errW_some] <;> rfl) | (simp [*, errW_none, errW_some] <;> rfl), by (with_reducible repeat (first | apply zr1 | apply zr2 | apply zr3)); exact HO_0.out, by repeat (first | (with_reducible first | exact HB.out | apply zc1 | apply zc2 | apply zc3) | exact HB.out), by repeat (first | (with_reducible first | exact HK.out | apply Kept.alloc | apply Kept.drewN | apply Kept.drew) | exact HK.out)⟩
            ·rw [if_neg c34] at H
             have c34b0 : decide ((rd l0 (rd l1 1)) ≤ (rd l1 2)) = false := decide_eq_false c34
             clear c34
             obtain ⟨y138, hy138⟩ : ∃ y_ : List Int, y_ = (l0.set ((rd l1 1) : Int).toNat (wrap64 ((rd l0 (rd l1 1)) - (rd l1 2)))) := ⟨_, rfl⟩
             replace H : (some (true, y138)) = some (r1, r2) := by first | (rw [hy138]; with_reducible exact H) | (have H2_ := (Option.bind_some _ _).symm.trans H; rw [hy138]; with_reducible exact H2_) | (have H2_ := (Option.bind_some _ _).symm.trans H; with_reducible exact H2_) | with_reducible exact H | (rw [hy138]; exact H) | exact H
             have Ny138 := zm1 hy138
             clear hy138
             simp only [Option.some.injEq, Prod.mk.injEq] at H
             obtain ⟨rfl, rfl⟩ := H
             have p127 : 0 ≤ (1 : Int) := (by omega)
             have q127 : 1 < (l1.length : Int) := of_decide_eq_true (by assumption)
             obtain ⟨ad127, e127, hx127_0⟩ := Kd.at_int (Kd.C_kept_now HR1.out HK.out) 1 p127 q127
             cases e127
             (try simp only [show (1 : Int).toNat = 1 from rfl, Nat.reduceMul, Nat.reduceEqDiff, Go.Addr.add, ↓reduceIte] at hx127_0)
             have qi127 : (1 < l1.length) = True := eq_true (by omega)
             (try rw [show ((1 : Int)).toNat = 1 from rfl] at hx127_0)
             replace p127 := eq_true p127
             replace q127 := eq_true q127
             have p128 : 0 ≤ (0 : Int) := (by omega)
             have q128 : 0 < (l1.length : Int) := of_decide_eq_true (by assumption)
             obtain ⟨ad128, e128, hx128_0⟩ := Kd.at_int (Kd.C_kept_now HR1.out HK.out) 0 p128 q128
             obtain rfl : ad127 = ad128 := (by injection e128)
             have qi128 : (0 < l1.length) = True := eq_true (by omega)
             (try rw [show ((0 : Int)).toNat = 0 from rfl] at hx128_0)
             (try rw [Addr.add_zero'] at hx128_0)
             replace p128 := eq_true p128
             replace q128 := eq_true q128
             obtain ⟨Ao38, co38, eo38⟩ := Kd.R_slice HO_0.out
             subst eo38
             have p132 : 0 ≤ ((rd l1 1) : Int) := of_decide_eq_true (by assumption)
             have q132 : (rd l1 1) < (l0.length : Int) := of_decide_eq_true (by assumption)
             obtain ⟨ad132, e132, hx132_0⟩ := Kd.at_int (Kd.R_reads' HO_0.out).2.2 (rd l1 1) p132 q132
             cases e132
             replace p132 := eq_true p132
             replace q132 := eq_true q132
             have p133 : 0 ≤ (0 : Int) := (by omega)
             have q133 : 0 < (l1.length : Int) := of_decide_eq_true (by assumption)
             obtain ⟨ad133, e133, hx133_0⟩ := Kd.at_int (Kd.C_kept_now HR1.out HK.out) 0 p133 q133
             obtain rfl : ad127 = ad133 := (by injection e133)
             have qi133 : (0 < l1.length) = True := eq_true (by omega)
             (try rw [show ((0 : Int)).toNat = 0 from rfl] at hx133_0)
             (try rw [Addr.add_zero'] at hx133_0)
             replace p133 := eq_true p133
             replace q133 := eq_true q133
             try go_wp2
             have n0_ := zm1 (Kd.R_drew HO_0.out)
             have n1_ := zm1 (Kept.drew HK.out)
             have n2_ := zm1 (below_drew1 HB.out)
             clear HO_0
             clear HK
             clear HB
             have HO_0 := n0_
             have HK := n1_
             have HB := n2_
             clear n0_ n1_ n2_
             have p134 : 0 ≤ (2 : Int) := (by omega)
             have q134 : 2 < (l1.length : Int) := of_decide_eq_true (by assumption)
             obtain ⟨ad134, e134, hx134_0⟩ := Kd.at_int (Kd.C_kept_now HR1.out HK.out) 2 p134 q134
             have hw134_0 := hx134_0
             (try rw [show ((2 : Int)).toNat = 2 from rfl] at hw134_0)
             (try rw [show 2 * 1 = 2 from rfl] at hw134_0)
             (try simp only [Nat.reduceMul, Nat.reduceEqDiff, Go.Addr.add, ↓reduceIte] at hw134_0)
             obtain rfl : ad127 = ad134 := (by injection e134)
             (try simp only [show (2 : Int).toNat = 2 from rfl, Nat.reduceMul, Nat.reduceEqDiff, Go.Addr.add, ↓reduceIte] at hx134_0)
             have qi134 : (2 < l1.length) = True := eq_true (by omega)
             (try rw [show ((2 : Int)).toNat = 2 from rfl] at hx134_0)
             replace p134 := eq_true p134
             replace q134 := eq_true q134
             have p135 : 0 ≤ ((rd l1 1) : Int) := of_decide_eq_true (by assumption)
             have q135 : (rd l1 1) < (l0.length : Int) := of_decide_eq_true (by assumption)
             obtain ⟨ad135, e135, hx135_0⟩ := Kd.at_int (Kd.R_reads' HO_0.out).2.2 (rd l1 1) p135 q135
             obtain rfl : ad132 = ad135 := (by injection e135)
             replace p135 := eq_true p135
             replace q135 := eq_true q135
             refine start_ (n := 8) (S := fun w' => w'.cell? ⟨ad127.block, ad127.off + 2, none⟩ = some (.int .i64 (rd l1 2)) ∧ w'.cell? (ad132.add ((rd l1 1)).toNat) = some (.int .i64 (rd l0 (rd l1 1)))) (ds := []) #[false, false, false, false, false, false, false, false] (by kernel_rfl) rfl rfl ⟨(Kd.foot_int (HR1.out _ (by repeat (first | exact HK.out | apply Kept.alloc | apply Kept.drewN | apply Kept.drew))) (2 : Int) (of_eq_true p134) (of_eq_true q134)), hx135_0⟩ (fun hHeld => ?_); refine with_tabW spec_l26Step.tab13 spec_l26Step.bits13 (fun HT_ HW_ => ?_)
             generalize wc.drew = w39 at HO_0 HK HB hx134_0 hx135_0 hHeld ⊢
             refine pure_ (i := 0) (N := some 71) (v := ?_) (a' := ?_) #[true, false, false, false, false, false, false, false] rfl rfl (any_of HT_.out (by kernel_rfl)) (fun _ _ _ h => h) (Or.inl ⟨by rfl, ?_⟩) ?_ ?_
             rotate_left
             ·intro w'
              go_simp
              with_reducible rfl
             rotate_left
             ·simp only [Act.put, zs1, zs2, zs3, i64_w, i32_w]
              rfl
             refine pure_ (i := 1) (N := some 72) (v := ?_) (a' := ?_) #[true, true, false, false, false, false, false, false] rfl rfl (any_of HT_.out (by kernel_rfl)) (fun _ _ _ h => h) (Or.inl ⟨by rfl, ?_⟩) ?_ ?_
             rotate_left
             ·intro w'
              go_simp
              with_reducible rfl
             rotate_left
             ·simp only [Act.put, zs1, zs2, zs3, i64_w, i32_w]
              rfl
             refine pure_ (i := 3) (N := some 74) (v := ?_) (a' := ?_) #[true, true, false, true, false, false, false, false] rfl rfl (any_of HT_.out (by kernel_rfl)) (fun _ _ _ h => h) (Or.inl ⟨by rfl, ?_⟩) ?_ ?_
             rotate_left
             ·intro w'
              go_simp
              with_reducible rfl
             rotate_left
             ·simp only [Act.put, zs1, zs2, zs3, i64_w, i32_w]
              rfl
             refine pure_ (i := 4) (N := some 75) (v := ?_) (a' := ?_) #[true, true, false, true, true, false, false, false] rfl rfl (any_of HT_.out (by kernel_rfl)) (fun _ _ _ h => h) (Or.inl ⟨by rfl, ?_⟩) ?_ ?_
             rotate_left
             ·intro w'
              go_simp
              with_reducible rfl
             rotate_left
             ·simp only [Act.put, zs1, zs2, zs3, i64_w, i32_w]
              rfl
             refine pure_ (i := 5) (N := some 76) (v := ?_) (a' := ?_) #[true, true, false, true, true, true, false, false] rfl rfl (any_of HT_.out (by kernel_rfl)) (fun _ _ _ h => h) (Or.inl ⟨by rfl, ?_⟩) ?_ ?_
             rotate_left
             ·intro w'
              go_simp
              with_reducible rfl
             rotate_left
             ·simp only [Act.put, zs1, zs2, zs3, i64_w, i32_w]
              rfl
             refine take_ (i := 2) (N := some 73) (v := ?_) (a' := ?_) #[true, true, true, true, true, true, false, false] rfl rfl (take_ofW HT_.out HW_.out (by kernel_rfl)) (fun _ _ _ h => h) (Or.inl ⟨by rfl, ?_⟩) hHeld ?_ ?_
             rotate_left
             ·rintro w' ⟨s0, s1⟩
              go_simp
              with_reducible rfl
             rotate_left
             ·simp only [Act.put, zs1, zs2, zs3, i64_w, i32_w]
              rfl
             refine take_ (i := 6) (N := some 77) (v := ?_) (a' := ?_) #[true, true, true, true, true, true, true, false] rfl rfl (take_ofW HT_.out HW_.out (by kernel_rfl)) (fun _ _ _ h => h) (Or.inl ⟨by rfl, ?_⟩) hHeld ?_ ?_
             rotate_left
             ·rintro w' ⟨s0, s1⟩
              go_simp
              with_reducible rfl
             rotate_left
             ·simp only [Act.put, zs1, zs2, zs3, i64_w, i32_w]
              rfl
             refine pure_ (i := 7) (N := some 78) (v := ?_) (a' := ?_) #[true, true, true, true, true, true, true, true] rfl rfl (any_of HT_.out (by kernel_rfl)) (fun _ _ _ h => h) (Or.inl ⟨by rfl, ?_⟩) ?_ ?_
             rotate_left
             ·intro w'
              go_simp
              with_reducible rfl
             rotate_left
             ·simp only [Act.put, zs1, zs2, zs3, i64_w, i32_w]
              rfl
             refine done_ (done_of HT_.out (by kernel_rfl)) ?_
             try go_wp2
             have n0_ := zm1 (Kd.R_drew HO_0.out)
             have n1_ := zm1 (Kept.drew HK.out)
             have n2_ := zm1 (below_drew1 HB.out)
             clear HO_0
             clear HK
             clear HB
             have HO_0 := n0_
             have HK := n1_
             have HB := n2_
             clear n0_ n1_ n2_
             have p136 : 0 ≤ ((rd l1 1) : Int) := of_decide_eq_true (by assumption)
             have q136 : (rd l1 1) < (l0.length : Int) := of_decide_eq_true (by assumption)
             obtain ⟨ad136, e136, hx136_0⟩ := Kd.at_int (Kd.R_reads' HO_0.out).2.2 (rd l1 1) p136 q136
             obtain rfl : ad132 = ad136 := (by injection e136)
             replace p136 := eq_true p136
             replace q136 := eq_true q136
             have p137 : 0 ≤ (2 : Int) := (by omega)
             have q137 : 2 < (l1.length : Int) := of_decide_eq_true (by assumption)
             obtain ⟨ad137, e137, hx137_0⟩ := Kd.at_int (Kd.C_kept_now HR1.out HK.out) 2 p137 q137
             have hw137_0 := hx137_0
             (try rw [show ((2 : Int)).toNat = 2 from rfl] at hw137_0)
             (try rw [show 2 * 1 = 2 from rfl] at hw137_0)
             (try simp only [Nat.reduceMul, Nat.reduceEqDiff, Go.Addr.add, ↓reduceIte] at hw137_0)
             obtain rfl : ad127 = ad137 := (by injection e137)
             (try simp only [show (2 : Int).toNat = 2 from rfl, Nat.reduceMul, Nat.reduceEqDiff, Go.Addr.add, ↓reduceIte] at hx137_0)
             have qi137 : (2 < l1.length) = True := eq_true (by omega)
             (try rw [show ((2 : Int)).toNat = 2 from rfl] at hx137_0)
             replace p137 := eq_true p137
             replace q137 := eq_true q137
             have p37 : 0 ≤ ((rd l1 1) : Int) := of_decide_eq_true (by assumption)
             have q37 : ((rd l1 1) : Int) < ((l0.length : Int) : Int) := of_decide_eq_true (by assumption)
             obtain ⟨go37, co37, eo37, gb37, gl37, cl37, HG37⟩ := Kd.R_form HO_0.out (by omega)
             (first | cases eo37 | (injection eo37 with ea_ en_ ec_; (first | subst ea_ | (injection ea_ with ea_; subst ea_)); subst ec_; clear en_))
             have GB37 := zm1 gb37
             have GG37 := zm1 HG37
             clear gb37 gl37 HG37
             have HMgo37 := zm1 (show (P0_ go37 ∨ w.heap.size ≤ go37) from (HO_0.out.1 _ rfl))
             (first | simp only [add_plain] at hx132_0 | skip)
             (first | simp only [add_plain] at hx135_0 | skip)
             (first | simp only [add_plain] at hx136_0 | skip)
             obtain ⟨hx37_0, hf37_0⟩ := Kd.R_celln 0 HO_0.out ((rd l1 1) : Int) p37 q37
             replace p37 := eq_true p37
             replace q37 := eq_true q37
             have HP41 := Kd.R_putn HO_0.out ((rd l1 1) : Int) (wrap64 ((rd l0 (rd l1 1)) - (rd l1 2)))
             rw [← Ny138.out] at HP41
             have HQ41 := zm1 HP41
             clear HP41
             refine start_ (n := 12) (S := fun w' => w'.cell? ⟨go37, ((rd l1 1)).toNat, none⟩ = some (.int .i64 (rd l0 (rd l1 1))) ∧ w'.cell? ⟨ad127.block, ad127.off + 2, none⟩ = some (.int .i64 (rd l1 2))) (ds := [11]) #[false, false, false, false, false, false, false, false, false, false, false, false] (by kernel_rfl) rfl rfl ⟨hx136_0, (Kd.foot_int (HR1.out _ (by repeat (first | exact HK.out | apply Kept.alloc | apply Kept.drewN | apply Kept.drew | refine Kept.setCell ?_ HMgo37.out _))) (2 : Int) (of_eq_true p137) (of_eq_true q137))⟩ (fun hHeld => ?_); refine with_tabW spec_l26Step.tab15 spec_l26Step.bits15 (fun HT_ HW_ => ?_)
             generalize w39.drew = w40 at HO_0 HK HB GG37 HQ41 hf37_0 hx132_0 hx135_0 hx136_0 hx137_0 hx37_0 hHeld ⊢
             refine pure_ (i := 0) (N := some 79) (v := ?_) (a' := ?_) #[true, false, false, false, false, false, false, false, false, false, false, false] rfl rfl (any_of HT_.out (by kernel_rfl)) (fun _ _ _ h => h) (Or.inl ⟨by rfl, ?_⟩) ?_ ?_
             rotate_left
             ·intro w'
              go_simp
              with_reducible rfl
             rotate_left
             ·simp only [Act.put, zs1, zs2, zs3, i64_w, i32_w]
              rfl
             refine pure_ (i := 1) (N := some 80) (v := ?_) (a' := ?_) #[true, true, false, false, false, false, false, false, false, false, false, false] rfl rfl (any_of HT_.out (by kernel_rfl)) (fun _ _ _ h => h) (Or.inl ⟨by rfl, ?_⟩) ?_ ?_
             rotate_left
             ·intro w'
              go_simp
              with_reducible rfl
             rotate_left
             ·simp only [Act.put, zs1, zs2, zs3, i64_w, i32_w]
              rfl
             refine pure_ (i := 2) (N := some 81) (v := ?_) (a' := ?_) #[true, true, true, false, false, false, false, false, false, false, false, false] rfl rfl (any_of HT_.out (by kernel_rfl)) (fun _ _ _ h => h) (Or.inl ⟨by rfl, ?_⟩) ?_ ?_
             rotate_left
             ·intro w'
              go_simp
              with_reducible rfl
             rotate_left
             ·simp only [Act.put, zs1, zs2, zs3, i64_w, i32_w]
              rfl
             refine pure_ (i := 3) (N := some 82) (v := ?_) (a' := ?_) #[true, true, true, true, false, false, false, false, false, false, false, false] rfl rfl (any_of HT_.out (by kernel_rfl)) (fun _ _ _ h => h) (Or.inl ⟨by rfl, ?_⟩) ?_ ?_
             rotate_left
             ·intro w'
              go_simp
              with_reducible rfl
             rotate_left
             ·simp only [Act.put, zs1, zs2, zs3, i64_w, i32_w]
              rfl
             refine pure_ (i := 4) (N := some 83) (v := ?_) (a' := ?_) #[true, true, true, true, true, false, false, false, false, false, false, false] rfl rfl (any_of HT_.out (by kernel_rfl)) (fun _ _ _ h => h) (Or.inl ⟨by rfl, ?_⟩) ?_ ?_
             rotate_left
             ·intro w'
              go_simp
              with_reducible rfl
             rotate_left
             ·simp only [Act.put, zs1, zs2, zs3, i64_w, i32_w]
              rfl
             refine pure_ (i := 6) (N := some 85) (v := ?_) (a' := ?_) #[true, true, true, true, true, false, true, false, false, false, false, false] rfl rfl (any_of HT_.out (by kernel_rfl)) (fun _ _ _ h => h) (Or.inl ⟨by rfl, ?_⟩) ?_ ?_
             rotate_left
             ·intro w'
              go_simp
              with_reducible rfl
             rotate_left
             ·simp only [Act.put, zs1, zs2, zs3, i64_w, i32_w]
              rfl
             refine pure_ (i := 7) (N := some 86) (v := ?_) (a' := ?_) #[true, true, true, true, true, false, true, true, false, false, false, false] rfl rfl (any_of HT_.out (by kernel_rfl)) (fun _ _ _ h => h) (Or.inl ⟨by rfl, ?_⟩) ?_ ?_
             rotate_left
             ·intro w'
              go_simp
              with_reducible rfl
             rotate_left
             ·simp only [Act.put, zs1, zs2, zs3, i64_w, i32_w]
              rfl
             refine take_ (i := 5) (N := some 84) (v := ?_) (a' := ?_) #[true, true, true, true, true, true, true, true, false, false, false, false] rfl rfl (take_ofW HT_.out HW_.out (by kernel_rfl)) (fun _ _ _ h => h) (Or.inl ⟨by rfl, ?_⟩) hHeld ?_ ?_
             rotate_left
             ·rintro w' ⟨s0, s1⟩
              go_simp
              with_reducible rfl
             rotate_left
             ·simp only [Act.put, zs1, zs2, zs3, i64_w, i32_w]
              rfl
             refine take_ (i := 8) (N := some 87) (v := ?_) (a' := ?_) #[true, true, true, true, true, true, true, true, true, false, false, false] rfl rfl (take_ofW HT_.out HW_.out (by kernel_rfl)) (fun _ _ _ h => h) (Or.inl ⟨by rfl, ?_⟩) hHeld ?_ ?_
             rotate_left
             ·rintro w' ⟨s0, s1⟩
              go_simp
              with_reducible rfl
             rotate_left
             ·simp only [Act.put, zs1, zs2, zs3, i64_w, i32_w]
              rfl
             refine pure_ (i := 9) (N := some 88) (v := ?_) (a' := ?_) #[true, true, true, true, true, true, true, true, true, true, false, false] rfl rfl (any_of HT_.out (by kernel_rfl)) (fun _ _ _ h => h) (Or.inl ⟨by rfl, ?_⟩) ?_ ?_
             rotate_left
             ·intro w'
              go_simp
              with_reducible rfl
             rotate_left
             ·simp only [Act.put, zs1, zs2, zs3, i64_w, i32_w]
              rfl
             refine pure_ (i := 10) (N := some 89) (v := ?_) (a' := ?_) #[true, true, true, true, true, true, true, true, true, true, true, false] rfl rfl (any_of HT_.out (by kernel_rfl)) (fun _ _ _ h => h) (Or.inl ⟨by rfl, ?_⟩) ?_ ?_
             rotate_left
             ·intro w'
              go_simp
              with_reducible rfl
             rotate_left
             ·simp only [Act.put, zs1, zs2, zs3, i64_w, i32_w]
              rfl
             refine last_ (i := 11) (N := none) #[true, true, true, true, true, true, true, true, true, true, true, true] rfl rfl (one_of HT_.out (by kernel_rfl)) (by decide) (fun K hK => ?_)
             refine skip_ (w1 := ?_) (by rfl) rfl ?_ ?_
             rotate_left
             ·go_simp
              rfl
             refine hK.out _ _ ?_
             clear hK K
             refine done_ (done_of HT_.out (by kernel_rfl)) ?_
             try go_wp2
             go_ret
             exact ⟨by first | rfl | (simp [errW_none, errW_some] <;> rfl) | (simp [*, errW_none, errW_some] <;> rfl), by (with_reducible repeat (first | apply zr1 | apply zr2 | apply zr3)); exact HQ41.out, by repeat (first | (with_reducible first | exact HB.out | apply zc1 | apply zc2 | apply zc3 | refine below_set ?_ GB37.out) | exact HB.out), by repeat (first | (with_reducible first | exact HK.out | apply Kept.alloc | apply Kept.drewN | apply Kept.drew | refine Kept.setCell ?_ HMgo37.out _) | exact HK.out)⟩
           ·rw [if_neg c33] at H
            exact absurd H (by simp)
          ·rw [if_neg c32] at H
           have c32b0 : ((rd l1 0) == 2) = false := beq_eq_false_iff_ne.mpr c32
           have c32b1 : ((rd l1 0) != 2) = true := bne_iff_ne.mpr c32
           by_cases c42 : (rd l1 0) = 3
           ·rw [if_pos c42] at H
            have c42b0 : ((rd l1 0) == 3) = true := beq_iff_eq.mpr c42
            have c42b1 : ((rd l1 0) != 3) = false := bne_eq_false_iff_eq.mpr c42
            clear c42
            replace H := Option.bind_eq_some_iff.mp H
            obtain ⟨t139, A430, H⟩ := H
            replace H : (if 2 < (l1.length : Int) then (if (rd l1 2) ≥ (rd l0 (rd l1 1)) then (some (false, l0)) else (if t139 = 0 then (some (false, l0)) else (if 0 ≤ t139 then (if t139 < (l0.length : Int) then (some (true, ((l0.set ((rd l1 1) : Int).toNat (wrap64 ((rd l0 (rd l1 1)) - (rd l1 2)))).set (t139 : Int).toNat (rd l1 2)))) else (none)) else (none)))) else (none)) = some (r1, r2) := H
            have A43 := zm1 A430
            clear A430
            by_cases c44 : 2 < (l1.length : Int)
            ·rw [if_pos c44] at H
             have c44b0 : decide (2 < (l1.length : Int)) = true := decide_eq_true c44
             have c44b1 : decide (2 < l1.length) = true := decide_eq_true (by omega)
             clear c44
             by_cases c45 : (rd l1 2) ≥ (rd l0 (rd l1 1))
             ·rw [if_pos c45] at H
              have c45b0 : decide ((rd l0 (rd l1 1)) ≤ (rd l1 2)) = true := decide_eq_true c45
              clear c45
              simp only [Option.some.injEq, Prod.mk.injEq] at H
              obtain ⟨rfl, rfl⟩ := H
              have p127 : 0 ≤ (1 : Int) := (by omega)
              have q127 : 1 < (l1.length : Int) := of_decide_eq_true (by assumption)
              obtain ⟨ad127, e127, hx127_0⟩ := Kd.at_int (Kd.C_kept_now HR1.out HK.out) 1 p127 q127
              cases e127
              (try simp only [show (1 : Int).toNat = 1 from rfl, Nat.reduceMul, Nat.reduceEqDiff, Go.Addr.add, ↓reduceIte] at hx127_0)
              have qi127 : (1 < l1.length) = True := eq_true (by omega)
              (try rw [show ((1 : Int)).toNat = 1 from rfl] at hx127_0)
              replace p127 := eq_true p127
              replace q127 := eq_true q127
              have p128 : 0 ≤ (0 : Int) := (by omega)
              have q128 : 0 < (l1.length : Int) := of_decide_eq_true (by assumption)
              obtain ⟨ad128, e128, hx128_0⟩ := Kd.at_int (Kd.C_kept_now HR1.out HK.out) 0 p128 q128
              obtain rfl : ad127 = ad128 := (by injection e128)
              have qi128 : (0 < l1.length) = True := eq_true (by omega)
              (try rw [show ((0 : Int)).toNat = 0 from rfl] at hx128_0)
              (try rw [Addr.add_zero'] at hx128_0)
              replace p128 := eq_true p128
              replace q128 := eq_true q128
              obtain ⟨Ao46, co46, eo46⟩ := Kd.R_slice HO_0.out
              subst eo46
              have p132 : 0 ≤ ((rd l1 1) : Int) := of_decide_eq_true (by assumption)
              have q132 : (rd l1 1) < (l0.length : Int) := of_decide_eq_true (by assumption)
              obtain ⟨ad132, e132, hx132_0⟩ := Kd.at_int (Kd.R_reads' HO_0.out).2.2 (rd l1 1) p132 q132
              cases e132
              replace p132 := eq_true p132
              replace q132 := eq_true q132
              have p133 : 0 ≤ (0 : Int) := (by omega)
              have q133 : 0 < (l1.length : Int) := of_decide_eq_true (by assumption)
              obtain ⟨ad133, e133, hx133_0⟩ := Kd.at_int (Kd.C_kept_now HR1.out HK.out) 0 p133 q133
              obtain rfl : ad127 = ad133 := (by injection e133)
              have qi133 : (0 < l1.length) = True := eq_true (by omega)
              (try rw [show ((0 : Int)).toNat = 0 from rfl] at hx133_0)
              (try rw [Addr.add_zero'] at hx133_0)
              replace p133 := eq_true p133
              replace q133 := eq_true q133
              try go_wp2_with (first | ((with_reducible refine gate_callee (f := 31) rfl ?_); refine goesL_ (some 93) rfl rfl Try.func31 (by kernel_rfl) rfl #[.slice (some ad132) l0.length co46] rfl (by (try simp only [List.map_toArray, List.map_cons, List.map_nil]); first | done | rfl | (simp only [List.length_drop, List.length_take]; rfl)) ?_; (with_reducible refine (spec_l26Free.calls kj2 _ _ l0 t139 _ ?side1 ?side2 A43.out).mono ?_); (case side1 => repeat (first | exact (Kd.R_reads' HO_0.out).2.2 | (with_reducible refine Kd.C_alloc ?_ _) | (with_reducible refine Kd.C_drewN ?_ _) | (with_reducible refine Kd.C_drew ?_))); (case side2 => exact (Kd.R_reads' HO_0.out).2.1); rintro e w' ⟨rfl, ⟨nd, rfl⟩⟩; refine ⟨_, rfl, ?_⟩))
              (try (rw [drewN_self wc]; generalize hq_ : World.drewN wc _ = wc; have n0_ : Aside0 (Kd.R (Kd.int .i64) 3 wc w0.heap.size (fun k_ => (P0_ k_ ∨ w.heap.size ≤ k_)) (.slice (some ad132) l0.length co46) l0) := ⟨by rw [← hq_]; exact (by (with_reducible repeat (first | apply zr1 | apply zr2 | apply zr3)); exact HO_0.out)⟩; have n1_ : Aside0 (Kept w wc (fun k_ => P0_ k_)) := ⟨by rw [← hq_]; exact (by repeat (first | (with_reducible first | exact HK.out | apply Kept.alloc | apply Kept.drewN | apply Kept.drew) | exact HK.out))⟩; have n2_ : Aside0 (Below w0.heap.size w0 wc) := ⟨by rw [← hq_]; exact (by repeat (first | (with_reducible first | exact HB.out | apply zc1 | apply zc2 | apply zc3) | exact HB.out))⟩; clear HO_0 HK HB hq_; have HO_0 := n0_; have HK := n1_; have HB := n2_; clear n0_ n1_ n2_))
              have n0_ := zm1 (Kd.R_drew HO_0.out)
              have n1_ := zm1 (Kept.drew HK.out)
              have n2_ := zm1 (below_drew1 HB.out)
              clear HO_0
              clear HK
              clear HB
              have HO_0 := n0_
              have HK := n1_
              have HB := n2_
              clear n0_ n1_ n2_
              have p140 : 0 ≤ (2 : Int) := (by omega)
              have q140 : 2 < (l1.length : Int) := of_decide_eq_true (by assumption)
              obtain ⟨ad140, e140, hx140_0⟩ := Kd.at_int (Kd.C_kept_now HR1.out HK.out) 2 p140 q140
              have hw140_0 := hx140_0
              (try rw [show ((2 : Int)).toNat = 2 from rfl] at hw140_0)
              (try rw [show 2 * 1 = 2 from rfl] at hw140_0)
              (try simp only [Nat.reduceMul, Nat.reduceEqDiff, Go.Addr.add, ↓reduceIte] at hw140_0)
              obtain rfl : ad127 = ad140 := (by injection e140)
              (try simp only [show (2 : Int).toNat = 2 from rfl, Nat.reduceMul, Nat.reduceEqDiff, Go.Addr.add, ↓reduceIte] at hx140_0)
              have qi140 : (2 < l1.length) = True := eq_true (by omega)
              (try rw [show ((2 : Int)).toNat = 2 from rfl] at hx140_0)
              replace p140 := eq_true p140
              replace q140 := eq_true q140
              have p141 : 0 ≤ ((rd l1 1) : Int) := of_decide_eq_true (by assumption)
              have q141 : (rd l1 1) < (l0.length : Int) := of_decide_eq_true (by assumption)
              obtain ⟨ad141, e141, hx141_0⟩ := Kd.at_int (Kd.R_reads' HO_0.out).2.2 (rd l1 1) p141 q141
              obtain rfl : ad132 = ad141 := (by injection e141)
              replace p141 := eq_true p141
              replace q141 := eq_true q141
              refine start_ (n := 12) (S := fun w' => w'.cell? ⟨ad127.block, ad127.off + 2, none⟩ = some (.int .i64 (rd l1 2)) ∧ w'.cell? (ad132.add ((rd l1 1)).toNat) = some (.int .i64 (rd l0 (rd l1 1)))) (ds := []) #[false, false, false, false, false, false, false, false, false, false, false, false] (by kernel_rfl) rfl rfl ⟨(Kd.foot_int (HR1.out _ (by repeat (first | exact HK.out | apply Kept.alloc | apply Kept.drewN | apply Kept.drew))) (2 : Int) (of_eq_true p140) (of_eq_true q140)), hx141_0⟩ (fun hHeld => ?_); refine with_tabW spec_l26Step.tab18 spec_l26Step.bits18 (fun HT_ HW_ => ?_)
              generalize wc.drew = w47 at HO_0 HK HB hx140_0 hx141_0 hHeld ⊢
              refine pure_ (i := 0) (N := some 94) (v := ?_) (a' := ?_) #[true, false, false, false, false, false, false, false, false, false, false, false] rfl rfl (any_of HT_.out (by kernel_rfl)) (fun _ _ _ h => h) (Or.inl ⟨by rfl, ?_⟩) ?_ ?_
              rotate_left
              ·intro w'
               go_simp
               with_reducible rfl
              rotate_left
              ·simp only [Act.put, zs1, zs2, zs3, i64_w, i32_w]
               rfl
              refine pure_ (i := 1) (N := some 95) (v := ?_) (a' := ?_) #[true, true, false, false, false, false, false, false, false, false, false, false] rfl rfl (any_of HT_.out (by kernel_rfl)) (fun _ _ _ h => h) (Or.inl ⟨by rfl, ?_⟩) ?_ ?_
              rotate_left
              ·intro w'
               go_simp
               with_reducible rfl
              rotate_left
              ·simp only [Act.put, zs1, zs2, zs3, i64_w, i32_w]
               rfl
              refine pure_ (i := 3) (N := some 97) (v := ?_) (a' := ?_) #[true, true, false, true, false, false, false, false, false, false, false, false] rfl rfl (any_of HT_.out (by kernel_rfl)) (fun _ _ _ h => h) (Or.inl ⟨by rfl, ?_⟩) ?_ ?_
              rotate_left
              ·intro w'
               go_simp
               with_reducible rfl
              rotate_left
              ·simp only [Act.put, zs1, zs2, zs3, i64_w, i32_w]
               rfl
              refine pure_ (i := 4) (N := some 98) (v := ?_) (a' := ?_) #[true, true, false, true, true, false, false, false, false, false, false, false] rfl rfl (any_of HT_.out (by kernel_rfl)) (fun _ _ _ h => h) (Or.inl ⟨by rfl, ?_⟩) ?_ ?_
              rotate_left
              ·intro w'
               go_simp
               with_reducible rfl
              rotate_left
              ·simp only [Act.put, zs1, zs2, zs3, i64_w, i32_w]
               rfl
              refine pure_ (i := 5) (N := some 99) (v := ?_) (a' := ?_) #[true, true, false, true, true, true, false, false, false, false, false, false] rfl rfl (any_of HT_.out (by kernel_rfl)) (fun _ _ _ h => h) (Or.inl ⟨by rfl, ?_⟩) ?_ ?_
              rotate_left
              ·intro w'
               go_simp
               with_reducible rfl
              rotate_left
              ·simp only [Act.put, zs1, zs2, zs3, i64_w, i32_w]
               rfl
              refine take_ (i := 2) (N := some 96) (v := ?_) (a' := ?_) #[true, true, true, true, true, true, false, false, false, false, false, false] rfl rfl (take_ofW HT_.out HW_.out (by kernel_rfl)) (fun _ _ _ h => h) (Or.inl ⟨by rfl, ?_⟩) hHeld ?_ ?_
              rotate_left
              ·rintro w' ⟨s0, s1⟩
               go_simp
               with_reducible rfl
              rotate_left
              ·simp only [Act.put, zs1, zs2, zs3, i64_w, i32_w]
               rfl
              refine take_ (i := 6) (N := some 100) (v := ?_) (a' := ?_) #[true, true, true, true, true, true, true, false, false, false, false, false] rfl rfl (take_ofW HT_.out HW_.out (by kernel_rfl)) (fun _ _ _ h => h) (Or.inl ⟨by rfl, ?_⟩) hHeld ?_ ?_
              rotate_left
              ·rintro w' ⟨s0, s1⟩
               go_simp
               with_reducible rfl
              rotate_left
              ·simp only [Act.put, zs1, zs2, zs3, i64_w, i32_w]
               rfl
              refine pure_ (i := 7) (N := some 101) (v := ?_) (a' := ?_) #[true, true, true, true, true, true, true, true, false, false, false, false] rfl rfl (any_of HT_.out (by kernel_rfl)) (fun _ _ _ h => h) (Or.inl ⟨by rfl, ?_⟩) ?_ ?_
              rotate_left
              ·intro w'
               go_simp
               with_reducible rfl
              rotate_left
              ·simp only [Act.put, zs1, zs2, zs3, i64_w, i32_w]
               rfl
              refine pure_ (i := 8) (N := some 102) (v := ?_) (a' := ?_) #[true, true, true, true, true, true, true, true, true, false, false, false] rfl rfl (any_of HT_.out (by kernel_rfl)) (fun _ _ _ h => h) (Or.inl ⟨by rfl, ?_⟩) ?_ ?_
              rotate_left
              ·intro w'
               go_simp
               with_reducible rfl
              rotate_left
              ·simp only [Act.put, zs1, zs2, zs3, i64_w, i32_w]
               rfl
              refine pure_ (i := 9) (N := some 103) (v := undef) (a' := ?_) #[true, true, true, true, true, true, true, true, true, true, false, false] rfl rfl (any_of HT_.out (by kernel_rfl)) (fun _ _ _ h => h) (Or.inr ⟨by rfl, rfl⟩) ?_ ?_
              rotate_left
              ·simp only [Act.put, zs1, zs2, zs3, i64_w, i32_w]
               rfl
              refine pure_ (i := 10) (N := some 104) (v := undef) (a' := ?_) #[true, true, true, true, true, true, true, true, true, true, true, false] rfl rfl (any_of HT_.out (by kernel_rfl)) (fun _ _ _ h => h) (Or.inr ⟨by rfl, rfl⟩) ?_ ?_
              rotate_left
              ·simp only [Act.put, zs1, zs2, zs3, i64_w, i32_w]
               rfl
              refine pure_ (i := 11) (N := some 105) (v := ?_) (a' := ?_) #[true, true, true, true, true, true, true, true, true, true, true, true] rfl rfl (any_of HT_.out (by kernel_rfl)) (fun _ _ _ h => h) (Or.inl ⟨by rfl, ?_⟩) ?_ ?_
              rotate_left
              ·intro w'
               go_simp
               with_reducible rfl
              rotate_left
              ·simp only [Act.put, zs1, zs2, zs3, i64_w, i32_w]
               rfl
              refine done_ (done_of HT_.out (by kernel_rfl)) ?_
              try go_wp2
              go_ret
              exact ⟨by first | rfl | (simp [errW_none, errW_some] <;> rfl) | (simp [*, errW_none, errW_some] <;> rfl), by (with_reducible repeat (first | apply zr1 | apply zr2 | apply zr3)); exact HO_0.out, by repeat (first | (with_reducible first | exact HB.out | apply zc1 | apply zc2 | apply zc3) | exact HB.out), by repeat (first | (with_reducible first | exact HK.out | apply Kept.alloc | apply Kept.drewN | apply Kept.drew) | exact HK.out)⟩
             ·rw [if_neg c45] at H
              have c45b0 : decide ((rd l0 (rd l1 1)) ≤ (rd l1 2)) = false := decide_eq_false c45
              clear c45
              by_cases c48 : t139 = 0
              ·rw [if_pos c48] at H
               have c48b0 : (t139 == 0) = true := beq_iff_eq.mpr c48
               have c48b1 : (t139 != 0) = false := bne_eq_false_iff_eq.mpr c48
               clear c48
               simp only [Option.some.injEq, Prod.mk.injEq] at H
               obtain ⟨rfl, rfl⟩ := H
               have p127 : 0 ≤ (1 : Int) := (by omega)
               have q127 : 1 < (l1.length : Int) := of_decide_eq_true (by assumption)
               obtain ⟨ad127, e127, hx127_0⟩ := Kd.at_int (Kd.C_kept_now HR1.out HK.out) 1 p127 q127
               cases e127
               (try simp only [show (1 : Int).toNat = 1 from rfl, Nat.reduceMul, Nat.reduceEqDiff, Go.Addr.add, ↓reduceIte] at hx127_0)
               have qi127 : (1 < l1.length) = True := eq_true (by omega)
               (try rw [show ((1 : Int)).toNat = 1 from rfl] at hx127_0)
               replace p127 := eq_true p127
               replace q127 := eq_true q127
               have p128 : 0 ≤ (0 : Int) := (by omega)
               have q128 : 0 < (l1.length : Int) := of_decide_eq_true (by assumption)
               obtain ⟨ad128, e128, hx128_0⟩ := Kd.at_int (Kd.C_kept_now HR1.out HK.out) 0 p128 q128
               obtain rfl : ad127 = ad128 := (by injection e128)
               have qi128 : (0 < l1.length) = True := eq_true (by omega)
               (try rw [show ((0 : Int)).toNat = 0 from rfl] at hx128_0)
               (try rw [Addr.add_zero'] at hx128_0)
               replace p128 := eq_true p128
               replace q128 := eq_true q128
               obtain ⟨Ao49, co49, eo49⟩ := Kd.R_slice HO_0.out
               subst eo49
               have p132 : 0 ≤ ((rd l1 1) : Int) := of_decide_eq_true (by assumption)
               have q132 : (rd l1 1) < (l0.length : Int) := of_decide_eq_true (by assumption)
               obtain ⟨ad132, e132, hx132_0⟩ := Kd.at_int (Kd.R_reads' HO_0.out).2.2 (rd l1 1) p132 q132
               cases e132
               replace p132 := eq_true p132
               replace q132 := eq_true q132
               have p133 : 0 ≤ (0 : Int) := (by omega)
               have q133 : 0 < (l1.length : Int) := of_decide_eq_true (by assumption)
               obtain ⟨ad133, e133, hx133_0⟩ := Kd.at_int (Kd.C_kept_now HR1.out HK.out) 0 p133 q133
               obtain rfl : ad127 = ad133 := (by injection e133)
               have qi133 : (0 < l1.length) = True := eq_true (by omega)
               (try rw [show ((0 : Int)).toNat = 0 from rfl] at hx133_0)
               (try rw [Addr.add_zero'] at hx133_0)
               replace p133 := eq_true p133
               replace q133 := eq_true q133
               try go_wp2_with (first | ((with_reducible refine gate_callee (f := 31) rfl ?_); refine goesL_ (some 93) rfl rfl Try.func31 (by kernel_rfl) rfl #[.slice (some ad132) l0.length co49] rfl (by (try simp only [List.map_toArray, List.map_cons, List.map_nil]); first | done | rfl | (simp only [List.length_drop, List.length_take]; rfl)) ?_; (with_reducible refine (spec_l26Free.calls kj2 _ _ l0 t139 _ ?side1 ?side2 A43.out).mono ?_); (case side1 => repeat (first | exact (Kd.R_reads' HO_0.out).2.2 | (with_reducible refine Kd.C_alloc ?_ _) | (with_reducible refine Kd.C_drewN ?_ _) | (with_reducible refine Kd.C_drew ?_))); (case side2 => exact (Kd.R_reads' HO_0.out).2.1); rintro e w' ⟨rfl, ⟨nd, rfl⟩⟩; refine ⟨_, rfl, ?_⟩))
               (try (rw [drewN_self wc]; generalize hq_ : World.drewN wc _ = wc; have n0_ : Aside0 (Kd.R (Kd.int .i64) 3 wc w0.heap.size (fun k_ => (P0_ k_ ∨ w.heap.size ≤ k_)) (.slice (some ad132) l0.length co49) l0) := ⟨by rw [← hq_]; exact (by (with_reducible repeat (first | apply zr1 | apply zr2 | apply zr3)); exact HO_0.out)⟩; have n1_ : Aside0 (Kept w wc (fun k_ => P0_ k_)) := ⟨by rw [← hq_]; exact (by repeat (first | (with_reducible first | exact HK.out | apply Kept.alloc | apply Kept.drewN | apply Kept.drew) | exact HK.out))⟩; have n2_ : Aside0 (Below w0.heap.size w0 wc) := ⟨by rw [← hq_]; exact (by repeat (first | (with_reducible first | exact HB.out | apply zc1 | apply zc2 | apply zc3) | exact HB.out))⟩; clear HO_0 HK HB hq_; have HO_0 := n0_; have HK := n1_; have HB := n2_; clear n0_ n1_ n2_))
               have n0_ := zm1 (Kd.R_drew HO_0.out)
               have n1_ := zm1 (Kept.drew HK.out)
               have n2_ := zm1 (below_drew1 HB.out)
               clear HO_0
               clear HK
               clear HB
               have HO_0 := n0_
               have HK := n1_
               have HB := n2_
               clear n0_ n1_ n2_
               have p140 : 0 ≤ (2 : Int) := (by omega)
               have q140 : 2 < (l1.length : Int) := of_decide_eq_true (by assumption)
               obtain ⟨ad140, e140, hx140_0⟩ := Kd.at_int (Kd.C_kept_now HR1.out HK.out) 2 p140 q140
               have hw140_0 := hx140_0
               (try rw [show ((2 : Int)).toNat = 2 from rfl] at hw140_0)
               (try rw [show 2 * 1 = 2 from rfl] at hw140_0)
               (try simp only [Nat.reduceMul, Nat.reduceEqDiff, Go.Addr.add, ↓reduceIte] at hw140_0)
               obtain rfl : ad127 = ad140 := (by injection e140)
               (try simp only [show (2 : Int).toNat = 2 from rfl, Nat.reduceMul, Nat.reduceEqDiff, Go.Addr.add, ↓reduceIte] at hx140_0)
               have qi140 : (2 < l1.length) = True := eq_true (by omega)
               (try rw [show ((2 : Int)).toNat = 2 from rfl] at hx140_0)
               replace p140 := eq_true p140
               replace q140 := eq_true q140
               have p141 : 0 ≤ ((rd l1 1) : Int) := of_decide_eq_true (by assumption)
               have q141 : (rd l1 1) < (l0.length : Int) := of_decide_eq_true (by assumption)
               obtain ⟨ad141, e141, hx141_0⟩ := Kd.at_int (Kd.R_reads' HO_0.out).2.2 (rd l1 1) p141 q141
               obtain rfl : ad132 = ad141 := (by injection e141)
               replace p141 := eq_true p141
               replace q141 := eq_true q141
               refine start_ (n := 12) (S := fun w' => w'.cell? ⟨ad127.block, ad127.off + 2, none⟩ = some (.int .i64 (rd l1 2)) ∧ w'.cell? (ad132.add ((rd l1 1)).toNat) = some (.int .i64 (rd l0 (rd l1 1)))) (ds := []) #[false, false, false, false, false, false, false, false, false, false, false, false] (by kernel_rfl) rfl rfl ⟨(Kd.foot_int (HR1.out _ (by repeat (first | exact HK.out | apply Kept.alloc | apply Kept.drewN | apply Kept.drew))) (2 : Int) (of_eq_true p140) (of_eq_true q140)), hx141_0⟩ (fun hHeld => ?_); refine with_tabW spec_l26Step.tab18 spec_l26Step.bits18 (fun HT_ HW_ => ?_)
               generalize wc.drew = w50 at HO_0 HK HB hx140_0 hx141_0 hHeld ⊢
               refine pure_ (i := 0) (N := some 94) (v := ?_) (a' := ?_) #[true, false, false, false, false, false, false, false, false, false, false, false] rfl rfl (any_of HT_.out (by kernel_rfl)) (fun _ _ _ h => h) (Or.inl ⟨by rfl, ?_⟩) ?_ ?_
               rotate_left
               ·intro w'
                go_simp
                with_reducible rfl
               rotate_left
               ·simp only [Act.put, zs1, zs2, zs3, i64_w, i32_w]
                rfl
               refine pure_ (i := 1) (N := some 95) (v := ?_) (a' := ?_) #[true, true, false, false, false, false, false, false, false, false, false, false] rfl rfl (any_of HT_.out (by kernel_rfl)) (fun _ _ _ h => h) (Or.inl ⟨by rfl, ?_⟩) ?_ ?_
               rotate_left
               ·intro w'
                go_simp
                with_reducible rfl
               rotate_left
               ·simp only [Act.put, zs1, zs2, zs3, i64_w, i32_w]
                rfl
               refine pure_ (i := 3) (N := some 97) (v := ?_) (a' := ?_) #[true, true, false, true, false, false, false, false, false, false, false, false] rfl rfl (any_of HT_.out (by kernel_rfl)) (fun _ _ _ h => h) (Or.inl ⟨by rfl, ?_⟩) ?_ ?_
               rotate_left
               ·intro w'
                go_simp
                with_reducible rfl
               rotate_left
               ·simp only [Act.put, zs1, zs2, zs3, i64_w, i32_w]
                rfl
               refine pure_ (i := 4) (N := some 98) (v := ?_) (a' := ?_) #[true, true, false, true, true, false, false, false, false, false, false, false] rfl rfl (any_of HT_.out (by kernel_rfl)) (fun _ _ _ h => h) (Or.inl ⟨by rfl, ?_⟩) ?_ ?_
               rotate_left
               ·intro w'
                go_simp
                with_reducible rfl
               rotate_left
               ·simp only [Act.put, zs1, zs2, zs3, i64_w, i32_w]
                rfl
               refine pure_ (i := 5) (N := some 99) (v := ?_) (a' := ?_) #[true, true, false, true, true, true, false, false, false, false, false, false] rfl rfl (any_of HT_.out (by kernel_rfl)) (fun _ _ _ h => h) (Or.inl ⟨by rfl, ?_⟩) ?_ ?_
               rotate_left
               ·intro w'
                go_simp
                with_reducible rfl
               rotate_left
               ·simp only [Act.put, zs1, zs2, zs3, i64_w, i32_w]
                rfl
               refine take_ (i := 2) (N := some 96) (v := ?_) (a' := ?_) #[true, true, true, true, true, true, false, false, false, false, false, false] rfl rfl (take_ofW HT_.out HW_.out (by kernel_rfl)) (fun _ _ _ h => h) (Or.inl ⟨by rfl, ?_⟩) hHeld ?_ ?_
               rotate_left
               ·rintro w' ⟨s0, s1⟩
                go_simp
                with_reducible rfl
               rotate_left
               ·simp only [Act.put, zs1, zs2, zs3, i64_w, i32_w]
                rfl
               refine take_ (i := 6) (N := some 100) (v := ?_) (a' := ?_) #[true, true, true, true, true, true, true, false, false, false, false, false] rfl rfl (take_ofW HT_.out HW_.out (by kernel_rfl)) (fun _ _ _ h => h) (Or.inl ⟨by rfl, ?_⟩) hHeld ?_ ?_
               rotate_left
               ·rintro w' ⟨s0, s1⟩
                go_simp
                with_reducible rfl
               rotate_left
               ·simp only [Act.put, zs1, zs2, zs3, i64_w, i32_w]
                rfl
               refine pure_ (i := 7) (N := some 101) (v := ?_) (a' := ?_) #[true, true, true, true, true, true, true, true, false, false, false, false] rfl rfl (any_of HT_.out (by kernel_rfl)) (fun _ _ _ h => h) (Or.inl ⟨by rfl, ?_⟩) ?_ ?_
               rotate_left
               ·intro w'
                go_simp
                with_reducible rfl
               rotate_left
               ·simp only [Act.put, zs1, zs2, zs3, i64_w, i32_w]
                rfl
               refine pure_ (i := 8) (N := some 102) (v := ?_) (a' := ?_) #[true, true, true, true, true, true, true, true, true, false, false, false] rfl rfl (any_of HT_.out (by kernel_rfl)) (fun _ _ _ h => h) (Or.inl ⟨by rfl, ?_⟩) ?_ ?_
               rotate_left
               ·intro w'
                go_simp
                with_reducible rfl
               rotate_left
               ·simp only [Act.put, zs1, zs2, zs3, i64_w, i32_w]
                rfl
               refine pure_ (i := 9) (N := some 103) (v := ?_) (a' := ?_) #[true, true, true, true, true, true, true, true, true, true, false, false] rfl rfl (any_of HT_.out (by kernel_rfl)) (fun _ _ _ h => h) (Or.inl ⟨by rfl, ?_⟩) ?_ ?_
               rotate_left
               ·intro w'
                go_simp
                with_reducible rfl
               rotate_left
               ·simp only [Act.put, zs1, zs2, zs3, i64_w, i32_w]
                rfl
               refine pure_ (i := 10) (N := some 104) (v := ?_) (a' := ?_) #[true, true, true, true, true, true, true, true, true, true, true, false] rfl rfl (any_of HT_.out (by kernel_rfl)) (fun _ _ _ h => h) (Or.inl ⟨by rfl, ?_⟩) ?_ ?_
               rotate_left
               ·intro w'
                go_simp
                with_reducible rfl
               rotate_left
               ·simp only [Act.put, zs1, zs2, zs3, i64_w, i32_w]
                rfl
               refine pure_ (i := 11) (N := some 105) (v := ?_) (a' := ?_) #[true, true, true, true, true, true, true, true, true, true, true, true] rfl rfl (any_of HT_.out (by kernel_rfl)) (fun _ _ _ h => h) (Or.inl ⟨by rfl, ?_⟩) ?_ ?_
               rotate_left
               ·intro w'
                go_simp
                with_reducible rfl
               rotate_left
               ·simp only [Act.put, zs1, zs2, zs3, i64_w, i32_w]
                rfl
               refine done_ (done_of HT_.out (by kernel_rfl)) ?_
               try go_wp2
               go_ret
               exact ⟨by first | rfl | (simp [errW_none, errW_some] <;> rfl) | (simp [*, errW_none, errW_some] <;> rfl), by (with_reducible repeat (first | apply zr1 | apply zr2 | apply zr3)); exact HO_0.out, by repeat (first | (with_reducible first | exact HB.out | apply zc1 | apply zc2 | apply zc3) | exact HB.out), by repeat (first | (with_reducible first | exact HK.out | apply Kept.alloc | apply Kept.drewN | apply Kept.drew) | exact HK.out)⟩
              ·rw [if_neg c48] at H
               have c48b0 : (t139 == 0) = false := beq_eq_false_iff_ne.mpr c48
               have c48b1 : (t139 != 0) = true := bne_iff_ne.mpr c48
               obtain ⟨y144, hy144⟩ : ∃ y_ : List Int, y_ = (l0.set ((rd l1 1) : Int).toNat (wrap64 ((rd l0 (rd l1 1)) - (rd l1 2)))) := ⟨_, rfl⟩
               replace H : (if 0 ≤ t139 then (if t139 < (l0.length : Int) then (some (true, (y144.set (t139 : Int).toNat (rd l1 2)))) else (none)) else (none)) = some (r1, r2) := by first | (rw [hy144]; with_reducible exact H) | (have H2_ := (Option.bind_some _ _).symm.trans H; rw [hy144]; with_reducible exact H2_) | (have H2_ := (Option.bind_some _ _).symm.trans H; with_reducible exact H2_) | with_reducible exact H | (rw [hy144]; exact H) | exact H
               have Ny144 := zm1 hy144
               clear hy144
               by_cases c52 : 0 ≤ t139
               ·rw [if_pos c52] at H
                have c52b0 : decide (0 ≤ t139) = true := decide_eq_true c52
                clear c52
                by_cases c53 : t139 < (l0.length : Int)
                ·rw [if_pos c53] at H
                 have c53b0 : decide (t139 < (l0.length : Int)) = true := decide_eq_true c53
                 clear c53
                 obtain ⟨y146, hy146⟩ : ∃ y_ : List Int, y_ = (y144.set (t139 : Int).toNat (rd l1 2)) := ⟨_, rfl⟩
                 replace H : (some (true, y146)) = some (r1, r2) := by first | (rw [hy146]; with_reducible exact H) | (have H2_ := (Option.bind_some _ _).symm.trans H; rw [hy146]; with_reducible exact H2_) | (have H2_ := (Option.bind_some _ _).symm.trans H; with_reducible exact H2_) | with_reducible exact H | (rw [hy146]; exact H) | exact H
                 have Ny146 := zm1 hy146
                 clear hy146
                 simp only [Option.some.injEq, Prod.mk.injEq] at H
                 obtain ⟨rfl, rfl⟩ := H
                 have p127 : 0 ≤ (1 : Int) := (by omega)
                 have q127 : 1 < (l1.length : Int) := of_decide_eq_true (by assumption)
                 obtain ⟨ad127, e127, hx127_0⟩ := Kd.at_int (Kd.C_kept_now HR1.out HK.out) 1 p127 q127
                 cases e127
                 (try simp only [show (1 : Int).toNat = 1 from rfl, Nat.reduceMul, Nat.reduceEqDiff, Go.Addr.add, ↓reduceIte] at hx127_0)
                 have qi127 : (1 < l1.length) = True := eq_true (by omega)
                 (try rw [show ((1 : Int)).toNat = 1 from rfl] at hx127_0)
                 replace p127 := eq_true p127
                 replace q127 := eq_true q127
                 have p128 : 0 ≤ (0 : Int) := (by omega)
                 have q128 : 0 < (l1.length : Int) := of_decide_eq_true (by assumption)
                 obtain ⟨ad128, e128, hx128_0⟩ := Kd.at_int (Kd.C_kept_now HR1.out HK.out) 0 p128 q128
                 obtain rfl : ad127 = ad128 := (by injection e128)
                 have qi128 : (0 < l1.length) = True := eq_true (by omega)
                 (try rw [show ((0 : Int)).toNat = 0 from rfl] at hx128_0)
                 (try rw [Addr.add_zero'] at hx128_0)
                 replace p128 := eq_true p128
                 replace q128 := eq_true q128
                 obtain ⟨Ao55, co55, eo55⟩ := Kd.R_slice HO_0.out
                 subst eo55
                 have p132 : 0 ≤ ((rd l1 1) : Int) := of_decide_eq_true (by assumption)
                 have q132 : (rd l1 1) < (l0.length : Int) := of_decide_eq_true (by assumption)
                 obtain ⟨ad132, e132, hx132_0⟩ := Kd.at_int (Kd.R_reads' HO_0.out).2.2 (rd l1 1) p132 q132
                 cases e132
                 replace p132 := eq_true p132
                 replace q132 := eq_true q132
                 have p133 : 0 ≤ (0 : Int) := (by omega)
                 have q133 : 0 < (l1.length : Int) := of_decide_eq_true (by assumption)
                 obtain ⟨ad133, e133, hx133_0⟩ := Kd.at_int (Kd.C_kept_now HR1.out HK.out) 0 p133 q133
                 obtain rfl : ad127 = ad133 := (by injection e133)
                 have qi133 : (0 < l1.length) = True := eq_true (by omega)
                 (try rw [show ((0 : Int)).toNat = 0 from rfl] at hx133_0)
                 (try rw [Addr.add_zero'] at hx133_0)
                 replace p133 := eq_true p133
                 replace q133 := eq_true q133
                 try go_wp2_with (first | ((with_reducible refine gate_callee (f := 31) rfl ?_); refine goesL_ (some 93) rfl rfl Try.func31 (by kernel_rfl) rfl #[.slice (some ad132) l0.length co55] rfl (by (try simp only [List.map_toArray, List.map_cons, List.map_nil]); first | done | rfl | (simp only [List.length_drop, List.length_take]; rfl)) ?_; (with_reducible refine (spec_l26Free.calls kj2 _ _ l0 t139 _ ?side1 ?side2 A43.out).mono ?_); (case side1 => repeat (first | exact (Kd.R_reads' HO_0.out).2.2 | (with_reducible refine Kd.C_alloc ?_ _) | (with_reducible refine Kd.C_drewN ?_ _) | (with_reducible refine Kd.C_drew ?_))); (case side2 => exact (Kd.R_reads' HO_0.out).2.1); rintro e w' ⟨rfl, ⟨nd, rfl⟩⟩; refine ⟨_, rfl, ?_⟩; (try (rw [drewN_self wc]; generalize hq_ : World.drewN wc _ = wc; have n0_ : Aside0 (Kd.R (Kd.int .i64) 3 wc w0.heap.size (fun k_ => (P0_ k_ ∨ w.heap.size ≤ k_)) (.slice (some ad132) l0.length co55) l0) := ⟨by rw [← hq_]; exact (by (with_reducible repeat (first | apply zr1 | apply zr2 | apply zr3)); exact HO_0.out)⟩; have n1_ : Aside0 (Kept w wc (fun k_ => P0_ k_)) := ⟨by rw [← hq_]; exact (by repeat (first | (with_reducible first | exact HK.out | apply Kept.alloc | apply Kept.drewN | apply Kept.drew) | exact HK.out))⟩; have n2_ : Aside0 (Below w0.heap.size w0 wc) := ⟨by rw [← hq_]; exact (by repeat (first | (with_reducible first | exact HB.out | apply zc1 | apply zc2 | apply zc3) | exact HB.out))⟩; clear HO_0 HK HB hq_; have HO_0 := n0_; have HK := n1_; have HB := n2_; clear n0_ n1_ n2_))))
                 have n0_ := zm1 (Kd.R_drew HO_0.out)
                 have n1_ := zm1 (Kept.drew HK.out)
                 have n2_ := zm1 (below_drew1 HB.out)
                 clear HO_0
                 clear HK
                 clear HB
                 have HO_0 := n0_
                 have HK := n1_
                 have HB := n2_
                 clear n0_ n1_ n2_
                 have p140 : 0 ≤ (2 : Int) := (by omega)
                 have q140 : 2 < (l1.length : Int) := of_decide_eq_true (by assumption)
                 obtain ⟨ad140, e140, hx140_0⟩ := Kd.at_int (Kd.C_kept_now HR1.out HK.out) 2 p140 q140
                 have hw140_0 := hx140_0
                 (try rw [show ((2 : Int)).toNat = 2 from rfl] at hw140_0)
                 (try rw [show 2 * 1 = 2 from rfl] at hw140_0)
                 (try simp only [Nat.reduceMul, Nat.reduceEqDiff, Go.Addr.add, ↓reduceIte] at hw140_0)
                 obtain rfl : ad127 = ad140 := (by injection e140)
                 (try simp only [show (2 : Int).toNat = 2 from rfl, Nat.reduceMul, Nat.reduceEqDiff, Go.Addr.add, ↓reduceIte] at hx140_0)
                 have qi140 : (2 < l1.length) = True := eq_true (by omega)
                 (try rw [show ((2 : Int)).toNat = 2 from rfl] at hx140_0)
                 replace p140 := eq_true p140
                 replace q140 := eq_true q140
                 have p141 : 0 ≤ ((rd l1 1) : Int) := of_decide_eq_true (by assumption)
                 have q141 : (rd l1 1) < (l0.length : Int) := of_decide_eq_true (by assumption)
                 obtain ⟨ad141, e141, hx141_0⟩ := Kd.at_int (Kd.R_reads' HO_0.out).2.2 (rd l1 1) p141 q141
                 obtain rfl : ad132 = ad141 := (by injection e141)
                 replace p141 := eq_true p141
                 replace q141 := eq_true q141
                 refine start_ (n := 12) (S := fun w' => w'.cell? ⟨ad127.block, ad127.off + 2, none⟩ = some (.int .i64 (rd l1 2)) ∧ w'.cell? (ad132.add ((rd l1 1)).toNat) = some (.int .i64 (rd l0 (rd l1 1)))) (ds := []) #[false, false, false, false, false, false, false, false, false, false, false, false] (by kernel_rfl) rfl rfl ⟨(Kd.foot_int (HR1.out _ (by repeat (first | exact HK.out | apply Kept.alloc | apply Kept.drewN | apply Kept.drew))) (2 : Int) (of_eq_true p140) (of_eq_true q140)), hx141_0⟩ (fun hHeld => ?_); refine with_tabW spec_l26Step.tab18 spec_l26Step.bits18 (fun HT_ HW_ => ?_)
                 generalize wc.drew = w56 at HO_0 HK HB hx140_0 hx141_0 hHeld ⊢
                 refine pure_ (i := 0) (N := some 94) (v := ?_) (a' := ?_) #[true, false, false, false, false, false, false, false, false, false, false, false] rfl rfl (any_of HT_.out (by kernel_rfl)) (fun _ _ _ h => h) (Or.inl ⟨by rfl, ?_⟩) ?_ ?_
                 rotate_left
                 ·intro w'
                  go_simp
                  with_reducible rfl
                 rotate_left
                 ·simp only [Act.put, zs1, zs2, zs3, i64_w, i32_w]
                  rfl
                 refine pure_ (i := 1) (N := some 95) (v := ?_) (a' := ?_) #[true, true, false, false, false, false, false, false, false, false, false, false] rfl rfl (any_of HT_.out (by kernel_rfl)) (fun _ _ _ h => h) (Or.inl ⟨by rfl, ?_⟩) ?_ ?_
                 rotate_left
                 ·intro w'
                  go_simp
                  with_reducible rfl
                 rotate_left
                 ·simp only [Act.put, zs1, zs2, zs3, i64_w, i32_w]
                  rfl
                 refine pure_ (i := 3) (N := some 97) (v := ?_) (a' := ?_) #[true, true, false, true, false, false, false, false, false, false, false, false] rfl rfl (any_of HT_.out (by kernel_rfl)) (fun _ _ _ h => h) (Or.inl ⟨by rfl, ?_⟩) ?_ ?_
                 rotate_left
                 ·intro w'
                  go_simp
                  with_reducible rfl
                 rotate_left
                 ·simp only [Act.put, zs1, zs2, zs3, i64_w, i32_w]
                  rfl
                 refine pure_ (i := 4) (N := some 98) (v := ?_) (a' := ?_) #[true, true, false, true, true, false, false, false, false, false, false, false] rfl rfl (any_of HT_.out (by kernel_rfl)) (fun _ _ _ h => h) (Or.inl ⟨by rfl, ?_⟩) ?_ ?_
                 rotate_left
                 ·intro w'
                  go_simp
                  with_reducible rfl
                 rotate_left
                 ·simp only [Act.put, zs1, zs2, zs3, i64_w, i32_w]
                  rfl
                 refine pure_ (i := 5) (N := some 99) (v := ?_) (a' := ?_) #[true, true, false, true, true, true, false, false, false, false, false, false] rfl rfl (any_of HT_.out (by kernel_rfl)) (fun _ _ _ h => h) (Or.inl ⟨by rfl, ?_⟩) ?_ ?_
                 rotate_left
                 ·intro w'
                  go_simp
                  with_reducible rfl
                 rotate_left
                 ·simp only [Act.put, zs1, zs2, zs3, i64_w, i32_w]
                  rfl
                 refine take_ (i := 2) (N := some 96) (v := ?_) (a' := ?_) #[true, true, true, true, true, true, false, false, false, false, false, false] rfl rfl (take_ofW HT_.out HW_.out (by kernel_rfl)) (fun _ _ _ h => h) (Or.inl ⟨by rfl, ?_⟩) hHeld ?_ ?_
                 rotate_left
                 ·rintro w' ⟨s0, s1⟩
                  go_simp
                  with_reducible rfl
                 rotate_left
                 ·simp only [Act.put, zs1, zs2, zs3, i64_w, i32_w]
                  rfl
                 refine take_ (i := 6) (N := some 100) (v := ?_) (a' := ?_) #[true, true, true, true, true, true, true, false, false, false, false, false] rfl rfl (take_ofW HT_.out HW_.out (by kernel_rfl)) (fun _ _ _ h => h) (Or.inl ⟨by rfl, ?_⟩) hHeld ?_ ?_
                 rotate_left
                 ·rintro w' ⟨s0, s1⟩
                  go_simp
                  with_reducible rfl
                 rotate_left
                 ·simp only [Act.put, zs1, zs2, zs3, i64_w, i32_w]
                  rfl
                 refine pure_ (i := 7) (N := some 101) (v := ?_) (a' := ?_) #[true, true, true, true, true, true, true, true, false, false, false, false] rfl rfl (any_of HT_.out (by kernel_rfl)) (fun _ _ _ h => h) (Or.inl ⟨by rfl, ?_⟩) ?_ ?_
                 rotate_left
                 ·intro w'
                  go_simp
                  with_reducible rfl
                 rotate_left
                 ·simp only [Act.put, zs1, zs2, zs3, i64_w, i32_w]
                  rfl
                 refine pure_ (i := 8) (N := some 102) (v := ?_) (a' := ?_) #[true, true, true, true, true, true, true, true, true, false, false, false] rfl rfl (any_of HT_.out (by kernel_rfl)) (fun _ _ _ h => h) (Or.inl ⟨by rfl, ?_⟩) ?_ ?_
                 rotate_left
                 ·intro w'
                  go_simp
                  with_reducible rfl
                 rotate_left
                 ·simp only [Act.put, zs1, zs2, zs3, i64_w, i32_w]
                  rfl
                 refine pure_ (i := 9) (N := some 103) (v := ?_) (a' := ?_) #[true, true, true, true, true, true, true, true, true, true, false, false] rfl rfl (any_of HT_.out (by kernel_rfl)) (fun _ _ _ h => h) (Or.inl ⟨by rfl, ?_⟩) ?_ ?_
                 rotate_left
                 ·intro w'
                  go_simp
                  with_reducible rfl
                 rotate_left
                 ·simp only [Act.put, zs1, zs2, zs3, i64_w, i32_w]
                  rfl
                 refine pure_ (i := 10) (N := some 104) (v := ?_) (a' := ?_) #[true, true, true, true, true, true, true, true, true, true, true, false] rfl rfl (any_of HT_.out (by kernel_rfl)) (fun _ _ _ h => h) (Or.inl ⟨by rfl, ?_⟩) ?_ ?_
                 rotate_left
                 ·intro w'
                  go_simp
                  with_reducible rfl
                 rotate_left
                 ·simp only [Act.put, zs1, zs2, zs3, i64_w, i32_w]
                  rfl
                 refine pure_ (i := 11) (N := some 105) (v := ?_) (a' := ?_) #[true, true, true, true, true, true, true, true, true, true, true, true] rfl rfl (any_of HT_.out (by kernel_rfl)) (fun _ _ _ h => h) (Or.inl ⟨by rfl, ?_⟩) ?_ ?_
                 rotate_left
                 ·intro w'
                  go_simp
                  with_reducible rfl
                 rotate_left
                 ·simp only [Act.put, zs1, zs2, zs3, i64_w, i32_w]
                  rfl
                 refine done_ (done_of HT_.out (by kernel_rfl)) ?_
                 try go_wp2
                 have n0_ := zm1 (Kd.R_drew HO_0.out)
                 have n1_ := zm1 (Kept.drew HK.out)
                 have n2_ := zm1 (below_drew1 HB.out)
                 clear HO_0
                 clear HK
                 clear HB
                 have HO_0 := n0_
                 have HK := n1_
                 have HB := n2_
                 clear n0_ n1_ n2_
                 have p142 : 0 ≤ ((rd l1 1) : Int) := of_decide_eq_true (by assumption)
                 have q142 : (rd l1 1) < (l0.length : Int) := of_decide_eq_true (by assumption)
                 obtain ⟨ad142, e142, hx142_0⟩ := Kd.at_int (Kd.R_reads' HO_0.out).2.2 (rd l1 1) p142 q142
                 obtain rfl : ad132 = ad142 := (by injection e142)
                 replace p142 := eq_true p142
                 replace q142 := eq_true q142
                 have p143 : 0 ≤ (2 : Int) := (by omega)
                 have q143 : 2 < (l1.length : Int) := of_decide_eq_true (by assumption)
                 obtain ⟨ad143, e143, hx143_0⟩ := Kd.at_int (Kd.C_kept_now HR1.out HK.out) 2 p143 q143
                 have hw143_0 := hx143_0
                 (try rw [show ((2 : Int)).toNat = 2 from rfl] at hw143_0)
                 (try rw [show 2 * 1 = 2 from rfl] at hw143_0)
                 (try simp only [Nat.reduceMul, Nat.reduceEqDiff, Go.Addr.add, ↓reduceIte] at hw143_0)
                 obtain rfl : ad127 = ad143 := (by injection e143)
                 (try simp only [show (2 : Int).toNat = 2 from rfl, Nat.reduceMul, Nat.reduceEqDiff, Go.Addr.add, ↓reduceIte] at hx143_0)
                 have qi143 : (2 < l1.length) = True := eq_true (by omega)
                 (try rw [show ((2 : Int)).toNat = 2 from rfl] at hx143_0)
                 replace p143 := eq_true p143
                 replace q143 := eq_true q143
                 have p51 : 0 ≤ ((rd l1 1) : Int) := of_decide_eq_true (by assumption)
                 have q51 : ((rd l1 1) : Int) < ((l0.length : Int) : Int) := of_decide_eq_true (by assumption)
                 obtain ⟨go51, co51, eo51, gb51, gl51, cl51, HG51⟩ := Kd.R_form HO_0.out (by omega)
                 (first | cases eo51 | (injection eo51 with ea_ en_ ec_; (first | subst ea_ | (injection ea_ with ea_; subst ea_)); subst ec_; clear en_))
                 have GB51 := zm1 gb51
                 have GG51 := zm1 HG51
                 clear gb51 gl51 HG51
                 have HMgo51 := zm1 (show (P0_ go51 ∨ w.heap.size ≤ go51) from (HO_0.out.1 _ rfl))
                 (first | simp only [add_plain] at hx132_0 | skip)
                 (first | simp only [add_plain] at hx141_0 | skip)
                 (first | simp only [add_plain] at hx142_0 | skip)
                 obtain ⟨hx51_0, hf51_0⟩ := Kd.R_celln 0 HO_0.out ((rd l1 1) : Int) p51 q51
                 replace p51 := eq_true p51
                 replace q51 := eq_true q51
                 have HP58 := Kd.R_putn HO_0.out ((rd l1 1) : Int) (wrap64 ((rd l0 (rd l1 1)) - (rd l1 2)))
                 rw [← Ny144.out] at HP58
                 have HQ58 := zm1 HP58
                 clear HP58
                 refine start_ (n := 12) (S := fun w' => w'.cell? ⟨go51, ((rd l1 1)).toNat, none⟩ = some (.int .i64 (rd l0 (rd l1 1))) ∧ w'.cell? ⟨ad127.block, ad127.off + 2, none⟩ = some (.int .i64 (rd l1 2))) (ds := [11]) #[false, false, false, false, false, false, false, false, false, false, false, false] (by kernel_rfl) rfl rfl ⟨hx142_0, (Kd.foot_int (HR1.out _ (by repeat (first | exact HK.out | apply Kept.alloc | apply Kept.drewN | apply Kept.drew | refine Kept.setCell ?_ HMgo51.out _))) (2 : Int) (of_eq_true p143) (of_eq_true q143))⟩ (fun hHeld => ?_); refine with_tabW spec_l26Step.tab20 spec_l26Step.bits20 (fun HT_ HW_ => ?_)
                 generalize w56.drew = w57 at HO_0 HK HB GG51 HQ58 hf51_0 hx132_0 hx141_0 hx142_0 hx143_0 hx51_0 hHeld ⊢
                 refine pure_ (i := 0) (N := some 106) (v := ?_) (a' := ?_) #[true, false, false, false, false, false, false, false, false, false, false, false] rfl rfl (any_of HT_.out (by kernel_rfl)) (fun _ _ _ h => h) (Or.inl ⟨by rfl, ?_⟩) ?_ ?_
                 rotate_left
                 ·intro w'
                  go_simp
                  with_reducible rfl
                 rotate_left
                 ·simp only [Act.put, zs1, zs2, zs3, i64_w, i32_w]
                  rfl
                 refine pure_ (i := 1) (N := some 107) (v := ?_) (a' := ?_) #[true, true, false, false, false, false, false, false, false, false, false, false] rfl rfl (any_of HT_.out (by kernel_rfl)) (fun _ _ _ h => h) (Or.inl ⟨by rfl, ?_⟩) ?_ ?_
                 rotate_left
                 ·intro w'
                  go_simp
                  with_reducible rfl
                 rotate_left
                 ·simp only [Act.put, zs1, zs2, zs3, i64_w, i32_w]
                  rfl
                 refine pure_ (i := 2) (N := some 108) (v := ?_) (a' := ?_) #[true, true, true, false, false, false, false, false, false, false, false, false] rfl rfl (any_of HT_.out (by kernel_rfl)) (fun _ _ _ h => h) (Or.inl ⟨by rfl, ?_⟩) ?_ ?_
                 rotate_left
                 ·intro w'
                  go_simp
                  with_reducible rfl
                 rotate_left
                 ·simp only [Act.put, zs1, zs2, zs3, i64_w, i32_w]
                  rfl
                 refine pure_ (i := 3) (N := some 109) (v := ?_) (a' := ?_) #[true, true, true, true, false, false, false, false, false, false, false, false] rfl rfl (any_of HT_.out (by kernel_rfl)) (fun _ _ _ h => h) (Or.inl ⟨by rfl, ?_⟩) ?_ ?_
                 rotate_left
                 ·intro w'
                  go_simp
                  with_reducible rfl
                 rotate_left
                 ·simp only [Act.put, zs1, zs2, zs3, i64_w, i32_w]
                  rfl
                 refine pure_ (i := 4) (N := some 110) (v := ?_) (a' := ?_) #[true, true, true, true, true, false, false, false, false, false, false, false] rfl rfl (any_of HT_.out (by kernel_rfl)) (fun _ _ _ h => h) (Or.inl ⟨by rfl, ?_⟩) ?_ ?_
                 rotate_left
                 ·intro w'
                  go_simp
                  with_reducible rfl
                 rotate_left
                 ·simp only [Act.put, zs1, zs2, zs3, i64_w, i32_w]
                  rfl
                 refine pure_ (i := 6) (N := some 112) (v := ?_) (a' := ?_) #[true, true, true, true, true, false, true, false, false, false, false, false] rfl rfl (any_of HT_.out (by kernel_rfl)) (fun _ _ _ h => h) (Or.inl ⟨by rfl, ?_⟩) ?_ ?_
                 rotate_left
                 ·intro w'
                  go_simp
                  with_reducible rfl
                 rotate_left
                 ·simp only [Act.put, zs1, zs2, zs3, i64_w, i32_w]
                  rfl
                 refine pure_ (i := 7) (N := some 113) (v := ?_) (a' := ?_) #[true, true, true, true, true, false, true, true, false, false, false, false] rfl rfl (any_of HT_.out (by kernel_rfl)) (fun _ _ _ h => h) (Or.inl ⟨by rfl, ?_⟩) ?_ ?_
                 rotate_left
                 ·intro w'
                  go_simp
                  with_reducible rfl
                 rotate_left
                 ·simp only [Act.put, zs1, zs2, zs3, i64_w, i32_w]
                  rfl
                 refine take_ (i := 5) (N := some 111) (v := ?_) (a' := ?_) #[true, true, true, true, true, true, true, true, false, false, false, false] rfl rfl (take_ofW HT_.out HW_.out (by kernel_rfl)) (fun _ _ _ h => h) (Or.inl ⟨by rfl, ?_⟩) hHeld ?_ ?_
                 rotate_left
                 ·rintro w' ⟨s0, s1⟩
                  go_simp
                  with_reducible rfl
                 rotate_left
                 ·simp only [Act.put, zs1, zs2, zs3, i64_w, i32_w]
                  rfl
                 refine take_ (i := 8) (N := some 114) (v := ?_) (a' := ?_) #[true, true, true, true, true, true, true, true, true, false, false, false] rfl rfl (take_ofW HT_.out HW_.out (by kernel_rfl)) (fun _ _ _ h => h) (Or.inl ⟨by rfl, ?_⟩) hHeld ?_ ?_
                 rotate_left
                 ·rintro w' ⟨s0, s1⟩
                  go_simp
                  with_reducible rfl
                 rotate_left
                 ·simp only [Act.put, zs1, zs2, zs3, i64_w, i32_w]
                  rfl
                 refine pure_ (i := 9) (N := some 115) (v := ?_) (a' := ?_) #[true, true, true, true, true, true, true, true, true, true, false, false] rfl rfl (any_of HT_.out (by kernel_rfl)) (fun _ _ _ h => h) (Or.inl ⟨by rfl, ?_⟩) ?_ ?_
                 rotate_left
                 ·intro w'
                  go_simp
                  with_reducible rfl
                 rotate_left
                 ·simp only [Act.put, zs1, zs2, zs3, i64_w, i32_w]
                  rfl
                 refine pure_ (i := 10) (N := some 116) (v := ?_) (a' := ?_) #[true, true, true, true, true, true, true, true, true, true, true, false] rfl rfl (any_of HT_.out (by kernel_rfl)) (fun _ _ _ h => h) (Or.inl ⟨by rfl, ?_⟩) ?_ ?_
                 rotate_left
                 ·intro w'
                  go_simp
                  with_reducible rfl
                 rotate_left
                 ·simp only [Act.put, zs1, zs2, zs3, i64_w, i32_w]
                  rfl
                 refine last_ (i := 11) (N := none) #[true, true, true, true, true, true, true, true, true, true, true, true] rfl rfl (one_of HT_.out (by kernel_rfl)) (by decide) (fun K hK => ?_)
                 refine skip_ (w1 := ?_) (by rfl) rfl ?_ ?_
                 rotate_left
                 ·go_simp
                  rfl
                 refine hK.out _ _ ?_
                 clear hK K
                 refine done_ (done_of HT_.out (by kernel_rfl)) ?_
                 have n0_ : Aside0 (Kd.R (Kd.int .i64) 3 (w57.setCell ⟨go51, ((rd l1 1) : Int).toNat, none⟩ (.int .i64 (wrap64 ((rd l0 (rd l1 1)) - (rd l1 2))))) w0.heap.size (fun k_ => (P0_ k_ ∨ w.heap.size ≤ k_)) (.slice (some ⟨go51, 0, none⟩) l0.length co55) y144) := ⟨by (with_reducible repeat (first | apply zr1 | apply zr2 | apply zr3)); exact HQ58.out⟩
                 have n1_ : Aside0 (Kept w (w57.setCell ⟨go51, ((rd l1 1) : Int).toNat, none⟩ (.int .i64 (wrap64 ((rd l0 (rd l1 1)) - (rd l1 2))))) (fun k_ => P0_ k_)) := ⟨by repeat (first | (with_reducible first | exact HK.out | apply Kept.alloc | apply Kept.drewN | apply Kept.drew | refine Kept.setCell ?_ HMgo51.out _) | exact HK.out)⟩
                 have n2_ : Aside0 (Below w0.heap.size w0 (w57.setCell ⟨go51, ((rd l1 1) : Int).toNat, none⟩ (.int .i64 (wrap64 ((rd l0 (rd l1 1)) - (rd l1 2)))))) := ⟨by repeat (first | (with_reducible first | exact HB.out | apply zc1 | apply zc2 | apply zc3 | refine below_set ?_ GB51.out) | exact HB.out)⟩
                 (try clear HO_0)
                 (try clear HK)
                 (try clear HB)
                 generalize (w57.setCell ⟨go51, ((rd l1 1) : Int).toNat, none⟩ (.int .i64 (wrap64 ((rd l0 (rd l1 1)) - (rd l1 2))))) = w59 at n0_ n1_ n2_ ⊢
                 have HO_0 := n0_
                 have HK := n1_
                 have HB := n2_
                 clear n0_ n1_ n2_
                 have p145 : 0 ≤ (2 : Int) := (by omega)
                 have q145 : 2 < (l1.length : Int) := of_decide_eq_true (by assumption)
                 obtain ⟨ad145, e145, hx145_0⟩ := Kd.at_int (Kd.C_kept_now HR1.out HK.out) 2 p145 q145
                 obtain rfl : ad127 = ad145 := (by injection e145)
                 (try simp only [show (2 : Int).toNat = 2 from rfl, Nat.reduceMul, Nat.reduceEqDiff, Go.Addr.add, ↓reduceIte] at hx145_0)
                 have qi145 : (2 < l1.length) = True := eq_true (by omega)
                 (try rw [show ((2 : Int)).toNat = 2 from rfl] at hx145_0)
                 replace p145 := eq_true p145
                 replace q145 := eq_true q145
                 have p54 : 0 ≤ (t139 : Int) := of_decide_eq_true (by assumption)
                 have q54 : (t139 : Int) < ((l0.length : Int) : Int) := of_decide_eq_true (by assumption)
                 obtain ⟨hx54_0, hf54_0⟩ := Kd.R_celln 0 HO_0.out (t139 : Int) p54 q54
                 replace p54 := eq_true p54
                 replace q54 := eq_true q54
                 obtain ⟨hy60_, hz60_⟩ := Kd.R_celln 0 HO_0.out (t139 : Int) (of_decide_eq_true (by assumption)) (of_decide_eq_true (by assumption))
                 have HP60 := Kd.R_putg HO_0.out (t139 : Int) (rd l1 2)
                 try go_wp2_with (first | ((with_reducible refine gate_store (t := 3) (p := 122) rfl ?_); refine store_event (t := 3) (p := 122) (v := ?vo_w61) (w1 := (w59.setCell ⟨go51, (t139 : Int).toNat, none⟩ (.int .i64 (rd l1 2)))) ?hg ?ho ?hn ?hr ?_; (case ho => rfl); (case hg => rfl); (case hn => rfl); (case hr => first | (go_simp; done) | (go_simp; rfl)); intro w61 hw; have hg : w59.grownBy w61 (some go51) := (by rw [hw]; exact HP60.2); have hp_ : Kd.R (Kd.int .i64) 3 w61 w0.heap.size (fun k_ => (P0_ k_ ∨ w.heap.size ≤ k_)) (.slice (some ⟨go51, 0, none⟩) l0.length co55) y146 := (by rw [hw, Ny146.out]; exact HP60.1); clear HP60; have n0_ := zm1 (hp_); have n1_ := zm1 ((by rw [hw]; exact below_set (HB.out) GB51.out : Below w0.heap.size w0 w61)); have n2_ := zm1 (Kept.of_grown (S := (fun k_ => P0_ k_)) hg (by repeat (first | (with_reducible first | exact HK.out | apply Kept.alloc | apply Kept.drewN | apply Kept.drew) | exact HK.out)) (fun k_ e_ => (HO_0.out.1 k_ e_))); clear HO_0; clear HB; clear HK; have HO_0 := n0_; have HB := n1_; have HK := n2_; clear n0_ n1_ n2_; clear hg hw hp_))
                 go_ret
                 exact ⟨by first | rfl | (simp [errW_none, errW_some] <;> rfl) | (simp [*, errW_none, errW_some] <;> rfl), by (with_reducible repeat (first | apply zr1 | apply zr2 | apply zr3)); exact HO_0.out, by repeat (first | (with_reducible first | exact HB.out | apply zc1 | apply zc2 | apply zc3) | exact HB.out), by repeat (first | (with_reducible first | exact HK.out | apply Kept.alloc | apply Kept.drewN | apply Kept.drew) | exact HK.out)⟩
                ·rw [if_neg c53] at H
                 exact absurd H (by simp)
               ·rw [if_neg c52] at H
                exact absurd H (by simp)
            ·rw [if_neg c44] at H
             exact absurd H (by simp)
           ·rw [if_neg c42] at H
            have c42b0 : ((rd l1 0) == 3) = false := beq_eq_false_iff_ne.mpr c42
            have c42b1 : ((rd l1 0) != 3) = true := bne_iff_ne.mpr c42
            by_cases c62 : (rd l1 0) = 4
            ·rw [if_pos c62] at H
             have c62b0 : ((rd l1 0) == 4) = true := beq_iff_eq.mpr c62
             have c62b1 : ((rd l1 0) != 4) = false := bne_eq_false_iff_eq.mpr c62
             clear c62
             by_cases c63 : 2 < (l1.length : Int)
             ·rw [if_pos c63] at H
              have c63b0 : decide (2 < (l1.length : Int)) = true := decide_eq_true c63
              have c63b1 : decide (2 < l1.length) = true := decide_eq_true (by omega)
              clear c63
              by_cases c64 : (rd l1 2) > 99
              ·rw [if_pos c64] at H
               have c64b0 : decide (99 < (rd l1 2)) = true := decide_eq_true c64
               clear c64
               simp only [Option.some.injEq, Prod.mk.injEq] at H
               obtain ⟨rfl, rfl⟩ := H
               have p127 : 0 ≤ (1 : Int) := (by omega)
               have q127 : 1 < (l1.length : Int) := of_decide_eq_true (by assumption)
               obtain ⟨ad127, e127, hx127_0⟩ := Kd.at_int (Kd.C_kept_now HR1.out HK.out) 1 p127 q127
               cases e127
               (try simp only [show (1 : Int).toNat = 1 from rfl, Nat.reduceMul, Nat.reduceEqDiff, Go.Addr.add, ↓reduceIte] at hx127_0)
               have qi127 : (1 < l1.length) = True := eq_true (by omega)
               (try rw [show ((1 : Int)).toNat = 1 from rfl] at hx127_0)
               replace p127 := eq_true p127
               replace q127 := eq_true q127
               have p128 : 0 ≤ (0 : Int) := (by omega)
               have q128 : 0 < (l1.length : Int) := of_decide_eq_true (by assumption)
               obtain ⟨ad128, e128, hx128_0⟩ := Kd.at_int (Kd.C_kept_now HR1.out HK.out) 0 p128 q128
               obtain rfl : ad127 = ad128 := (by injection e128)
               have qi128 : (0 < l1.length) = True := eq_true (by omega)
               (try rw [show ((0 : Int)).toNat = 0 from rfl] at hx128_0)
               (try rw [Addr.add_zero'] at hx128_0)
               replace p128 := eq_true p128
               replace q128 := eq_true q128
               obtain ⟨Ao65, co65, eo65⟩ := Kd.R_slice HO_0.out
               subst eo65
               have p132 : 0 ≤ ((rd l1 1) : Int) := of_decide_eq_true (by assumption)
               have q132 : (rd l1 1) < (l0.length : Int) := of_decide_eq_true (by assumption)
               obtain ⟨ad132, e132, hx132_0⟩ := Kd.at_int (Kd.R_reads' HO_0.out).2.2 (rd l1 1) p132 q132
               cases e132
               replace p132 := eq_true p132
               replace q132 := eq_true q132
               have p133 : 0 ≤ (0 : Int) := (by omega)
               have q133 : 0 < (l1.length : Int) := of_decide_eq_true (by assumption)
               obtain ⟨ad133, e133, hx133_0⟩ := Kd.at_int (Kd.C_kept_now HR1.out HK.out) 0 p133 q133
               obtain rfl : ad127 = ad133 := (by injection e133)
               have qi133 : (0 < l1.length) = True := eq_true (by omega)
               (try rw [show ((0 : Int)).toNat = 0 from rfl] at hx133_0)
               (try rw [Addr.add_zero'] at hx133_0)
               replace p133 := eq_true p133
               replace q133 := eq_true q133
               have p147 : 0 ≤ (2 : Int) := (by omega)
               have q147 : 2 < (l1.length : Int) := of_decide_eq_true (by assumption)
               obtain ⟨ad147, e147, hx147_0⟩ := Kd.at_int (Kd.C_kept_now HR1.out HK.out) 2 p147 q147
               obtain rfl : ad127 = ad147 := (by injection e147)
               (try simp only [show (2 : Int).toNat = 2 from rfl, Nat.reduceMul, Nat.reduceEqDiff, Go.Addr.add, ↓reduceIte] at hx147_0)
               have qi147 : (2 < l1.length) = True := eq_true (by omega)
               (try rw [show ((2 : Int)).toNat = 2 from rfl] at hx147_0)
               replace p147 := eq_true p147
               replace q147 := eq_true q147
               go_wp2
               go_ret
               exact ⟨by first | rfl | (simp [errW_none, errW_some] <;> rfl) | (simp [*, errW_none, errW_some] <;> rfl), by (with_reducible repeat (first | apply zr1 | apply zr2 | apply zr3)); exact HO_0.out, by repeat (first | (with_reducible first | exact HB.out | apply zc1 | apply zc2 | apply zc3) | exact HB.out), by repeat (first | (with_reducible first | exact HK.out | apply Kept.alloc | apply Kept.drewN | apply Kept.drew) | exact HK.out)⟩
              ·rw [if_neg c64] at H
               have c64b0 : decide (99 < (rd l1 2)) = false := decide_eq_false c64
               clear c64
               by_cases c66 : (rd l1 2) = (rd l1 1)
               ·rw [if_pos c66] at H
                have c66b0 : ((rd l1 2) == (rd l1 1)) = true := beq_iff_eq.mpr c66
                have c66b1 : ((rd l1 2) != (rd l1 1)) = false := bne_eq_false_iff_eq.mpr c66
                clear c66
                simp only [Option.some.injEq, Prod.mk.injEq] at H
                obtain ⟨rfl, rfl⟩ := H
                have p127 : 0 ≤ (1 : Int) := (by omega)
                have q127 : 1 < (l1.length : Int) := of_decide_eq_true (by assumption)
                obtain ⟨ad127, e127, hx127_0⟩ := Kd.at_int (Kd.C_kept_now HR1.out HK.out) 1 p127 q127
                cases e127
                (try simp only [show (1 : Int).toNat = 1 from rfl, Nat.reduceMul, Nat.reduceEqDiff, Go.Addr.add, ↓reduceIte] at hx127_0)
                have qi127 : (1 < l1.length) = True := eq_true (by omega)
                (try rw [show ((1 : Int)).toNat = 1 from rfl] at hx127_0)
                replace p127 := eq_true p127
                replace q127 := eq_true q127
                have p128 : 0 ≤ (0 : Int) := (by omega)
                have q128 : 0 < (l1.length : Int) := of_decide_eq_true (by assumption)
                obtain ⟨ad128, e128, hx128_0⟩ := Kd.at_int (Kd.C_kept_now HR1.out HK.out) 0 p128 q128
                obtain rfl : ad127 = ad128 := (by injection e128)
                have qi128 : (0 < l1.length) = True := eq_true (by omega)
                (try rw [show ((0 : Int)).toNat = 0 from rfl] at hx128_0)
                (try rw [Addr.add_zero'] at hx128_0)
                replace p128 := eq_true p128
                replace q128 := eq_true q128
                obtain ⟨Ao67, co67, eo67⟩ := Kd.R_slice HO_0.out
                subst eo67
                have p132 : 0 ≤ ((rd l1 1) : Int) := of_decide_eq_true (by assumption)
                have q132 : (rd l1 1) < (l0.length : Int) := of_decide_eq_true (by assumption)
                obtain ⟨ad132, e132, hx132_0⟩ := Kd.at_int (Kd.R_reads' HO_0.out).2.2 (rd l1 1) p132 q132
                cases e132
                replace p132 := eq_true p132
                replace q132 := eq_true q132
                have p133 : 0 ≤ (0 : Int) := (by omega)
                have q133 : 0 < (l1.length : Int) := of_decide_eq_true (by assumption)
                obtain ⟨ad133, e133, hx133_0⟩ := Kd.at_int (Kd.C_kept_now HR1.out HK.out) 0 p133 q133
                obtain rfl : ad127 = ad133 := (by injection e133)
                have qi133 : (0 < l1.length) = True := eq_true (by omega)
                (try rw [show ((0 : Int)).toNat = 0 from rfl] at hx133_0)
                (try rw [Addr.add_zero'] at hx133_0)
                replace p133 := eq_true p133
                replace q133 := eq_true q133
                have p147 : 0 ≤ (2 : Int) := (by omega)
                have q147 : 2 < (l1.length : Int) := of_decide_eq_true (by assumption)
                obtain ⟨ad147, e147, hx147_0⟩ := Kd.at_int (Kd.C_kept_now HR1.out HK.out) 2 p147 q147
                obtain rfl : ad127 = ad147 := (by injection e147)
                (try simp only [show (2 : Int).toNat = 2 from rfl, Nat.reduceMul, Nat.reduceEqDiff, Go.Addr.add, ↓reduceIte] at hx147_0)
                have qi147 : (2 < l1.length) = True := eq_true (by omega)
                (try rw [show ((2 : Int)).toNat = 2 from rfl] at hx147_0)
                replace p147 := eq_true p147
                replace q147 := eq_true q147
                have p148 : 0 ≤ (2 : Int) := (by omega)
                have q148 : 2 < (l1.length : Int) := of_decide_eq_true (by assumption)
                obtain ⟨ad148, e148, hx148_0⟩ := Kd.at_int (Kd.C_kept_now HR1.out HK.out) 2 p148 q148
                obtain rfl : ad127 = ad148 := (by injection e148)
                (try simp only [show (2 : Int).toNat = 2 from rfl, Nat.reduceMul, Nat.reduceEqDiff, Go.Addr.add, ↓reduceIte] at hx148_0)
                have qi148 : (2 < l1.length) = True := eq_true (by omega)
                (try rw [show ((2 : Int)).toNat = 2 from rfl] at hx148_0)
                replace p148 := eq_true p148
                replace q148 := eq_true q148
                go_wp2
                go_ret
                exact ⟨by first | rfl | (simp [errW_none, errW_some] <;> rfl) | (simp [*, errW_none, errW_some] <;> rfl), by (with_reducible repeat (first | apply zr1 | apply zr2 | apply zr3)); exact HO_0.out, by repeat (first | (with_reducible first | exact HB.out | apply zc1 | apply zc2 | apply zc3) | exact HB.out), by repeat (first | (with_reducible first | exact HK.out | apply Kept.alloc | apply Kept.drewN | apply Kept.drew) | exact HK.out)⟩
               ·rw [if_neg c66] at H
                have c66b0 : ((rd l1 2) == (rd l1 1)) = false := beq_eq_false_iff_ne.mpr c66
                have c66b1 : ((rd l1 2) != (rd l1 1)) = true := bne_iff_ne.mpr c66
                by_cases c68 : 0 ≤ (rd l1 2)
                ·rw [if_pos c68] at H
                 have c68b0 : decide (0 ≤ (rd l1 2)) = true := decide_eq_true c68
                 clear c68
                 by_cases c69 : (rd l1 2) < (l0.length : Int)
                 ·rw [if_pos c69] at H
                  have c69b0 : decide ((rd l1 2) < (l0.length : Int)) = true := decide_eq_true c69
                  clear c69
                  by_cases c70 : (rd l0 (rd l1 2)) ≤ 0
                  ·rw [if_pos c70] at H
                   have c70b0 : decide ((rd l0 (rd l1 2)) ≤ 0) = true := decide_eq_true c70
                   clear c70
                   simp only [Option.some.injEq, Prod.mk.injEq] at H
                   obtain ⟨rfl, rfl⟩ := H
                   have p127 : 0 ≤ (1 : Int) := (by omega)
                   have q127 : 1 < (l1.length : Int) := of_decide_eq_true (by assumption)
                   obtain ⟨ad127, e127, hx127_0⟩ := Kd.at_int (Kd.C_kept_now HR1.out HK.out) 1 p127 q127
                   cases e127
                   (try simp only [show (1 : Int).toNat = 1 from rfl, Nat.reduceMul, Nat.reduceEqDiff, Go.Addr.add, ↓reduceIte] at hx127_0)
                   have qi127 : (1 < l1.length) = True := eq_true (by omega)
                   (try rw [show ((1 : Int)).toNat = 1 from rfl] at hx127_0)
                   replace p127 := eq_true p127
                   replace q127 := eq_true q127
                   have p128 : 0 ≤ (0 : Int) := (by omega)
                   have q128 : 0 < (l1.length : Int) := of_decide_eq_true (by assumption)
                   obtain ⟨ad128, e128, hx128_0⟩ := Kd.at_int (Kd.C_kept_now HR1.out HK.out) 0 p128 q128
                   obtain rfl : ad127 = ad128 := (by injection e128)
                   have qi128 : (0 < l1.length) = True := eq_true (by omega)
                   (try rw [show ((0 : Int)).toNat = 0 from rfl] at hx128_0)
                   (try rw [Addr.add_zero'] at hx128_0)
                   replace p128 := eq_true p128
                   replace q128 := eq_true q128
                   obtain ⟨Ao71, co71, eo71⟩ := Kd.R_slice HO_0.out
                   subst eo71
                   have p132 : 0 ≤ ((rd l1 1) : Int) := of_decide_eq_true (by assumption)
                   have q132 : (rd l1 1) < (l0.length : Int) := of_decide_eq_true (by assumption)
                   obtain ⟨ad132, e132, hx132_0⟩ := Kd.at_int (Kd.R_reads' HO_0.out).2.2 (rd l1 1) p132 q132
                   cases e132
                   replace p132 := eq_true p132
                   replace q132 := eq_true q132
                   have p133 : 0 ≤ (0 : Int) := (by omega)
                   have q133 : 0 < (l1.length : Int) := of_decide_eq_true (by assumption)
                   obtain ⟨ad133, e133, hx133_0⟩ := Kd.at_int (Kd.C_kept_now HR1.out HK.out) 0 p133 q133
                   obtain rfl : ad127 = ad133 := (by injection e133)
                   have qi133 : (0 < l1.length) = True := eq_true (by omega)
                   (try rw [show ((0 : Int)).toNat = 0 from rfl] at hx133_0)
                   (try rw [Addr.add_zero'] at hx133_0)
                   replace p133 := eq_true p133
                   replace q133 := eq_true q133
                   have p147 : 0 ≤ (2 : Int) := (by omega)
                   have q147 : 2 < (l1.length : Int) := of_decide_eq_true (by assumption)
                   obtain ⟨ad147, e147, hx147_0⟩ := Kd.at_int (Kd.C_kept_now HR1.out HK.out) 2 p147 q147
                   obtain rfl : ad127 = ad147 := (by injection e147)
                   (try simp only [show (2 : Int).toNat = 2 from rfl, Nat.reduceMul, Nat.reduceEqDiff, Go.Addr.add, ↓reduceIte] at hx147_0)
                   have qi147 : (2 < l1.length) = True := eq_true (by omega)
                   (try rw [show ((2 : Int)).toNat = 2 from rfl] at hx147_0)
                   replace p147 := eq_true p147
                   replace q147 := eq_true q147
                   have p148 : 0 ≤ (2 : Int) := (by omega)
                   have q148 : 2 < (l1.length : Int) := of_decide_eq_true (by assumption)
                   obtain ⟨ad148, e148, hx148_0⟩ := Kd.at_int (Kd.C_kept_now HR1.out HK.out) 2 p148 q148
                   obtain rfl : ad127 = ad148 := (by injection e148)
                   (try simp only [show (2 : Int).toNat = 2 from rfl, Nat.reduceMul, Nat.reduceEqDiff, Go.Addr.add, ↓reduceIte] at hx148_0)
                   have qi148 : (2 < l1.length) = True := eq_true (by omega)
                   (try rw [show ((2 : Int)).toNat = 2 from rfl] at hx148_0)
                   replace p148 := eq_true p148
                   replace q148 := eq_true q148
                   have p149 : 0 ≤ (2 : Int) := (by omega)
                   have q149 : 2 < (l1.length : Int) := of_decide_eq_true (by assumption)
                   obtain ⟨ad149, e149, hx149_0⟩ := Kd.at_int (Kd.C_kept_now HR1.out HK.out) 2 p149 q149
                   obtain rfl : ad127 = ad149 := (by injection e149)
                   (try simp only [show (2 : Int).toNat = 2 from rfl, Nat.reduceMul, Nat.reduceEqDiff, Go.Addr.add, ↓reduceIte] at hx149_0)
                   have qi149 : (2 < l1.length) = True := eq_true (by omega)
                   (try rw [show ((2 : Int)).toNat = 2 from rfl] at hx149_0)
                   replace p149 := eq_true p149
                   replace q149 := eq_true q149
                   have p150 : 0 ≤ ((rd l1 2) : Int) := of_decide_eq_true (by assumption)
                   have q150 : (rd l1 2) < (l0.length : Int) := of_decide_eq_true (by assumption)
                   obtain ⟨ad150, e150, hx150_0⟩ := Kd.at_int (Kd.R_reads' HO_0.out).2.2 (rd l1 2) p150 q150
                   obtain rfl : ad132 = ad150 := (by injection e150)
                   replace p150 := eq_true p150
                   replace q150 := eq_true q150
                   go_wp2
                   go_ret
                   exact ⟨by first | rfl | (simp [errW_none, errW_some] <;> rfl) | (simp [*, errW_none, errW_some] <;> rfl), by (with_reducible repeat (first | apply zr1 | apply zr2 | apply zr3)); exact HO_0.out, by repeat (first | (with_reducible first | exact HB.out | apply zc1 | apply zc2 | apply zc3) | exact HB.out), by repeat (first | (with_reducible first | exact HK.out | apply Kept.alloc | apply Kept.drewN | apply Kept.drew) | exact HK.out)⟩
                  ·rw [if_neg c70] at H
                   have c70b0 : decide ((rd l0 (rd l1 2)) ≤ 0) = false := decide_eq_false c70
                   clear c70
                   obtain ⟨y155, hy155⟩ : ∃ y_ : List Int, y_ = (l0.set ((rd l1 2) : Int).toNat (wrap64 ((rd l0 (rd l1 2)) + (rd l0 (rd l1 1))))) := ⟨_, rfl⟩
                   replace H : (some (true, (y155.set ((rd l1 1) : Int).toNat (-1)))) = some (r1, r2) := by first | (rw [hy155]; with_reducible exact H) | (have H2_ := (Option.bind_some _ _).symm.trans H; rw [hy155]; with_reducible exact H2_) | (have H2_ := (Option.bind_some _ _).symm.trans H; with_reducible exact H2_) | with_reducible exact H | (rw [hy155]; exact H) | exact H
                   have Ny155 := zm1 hy155
                   clear hy155
                   obtain ⟨y156, hy156⟩ : ∃ y_ : List Int, y_ = (y155.set ((rd l1 1) : Int).toNat (-1)) := ⟨_, rfl⟩
                   replace H : (some (true, y156)) = some (r1, r2) := by first | (rw [hy156]; with_reducible exact H) | (have H2_ := (Option.bind_some _ _).symm.trans H; rw [hy156]; with_reducible exact H2_) | (have H2_ := (Option.bind_some _ _).symm.trans H; with_reducible exact H2_) | with_reducible exact H | (rw [hy156]; exact H) | exact H
                   have Ny156 := zm1 hy156
                   clear hy156
                   simp only [Option.some.injEq, Prod.mk.injEq] at H
                   obtain ⟨rfl, rfl⟩ := H
                   have p127 : 0 ≤ (1 : Int) := (by omega)
                   have q127 : 1 < (l1.length : Int) := of_decide_eq_true (by assumption)
                   obtain ⟨ad127, e127, hx127_0⟩ := Kd.at_int (Kd.C_kept_now HR1.out HK.out) 1 p127 q127
                   cases e127
                   (try simp only [show (1 : Int).toNat = 1 from rfl, Nat.reduceMul, Nat.reduceEqDiff, Go.Addr.add, ↓reduceIte] at hx127_0)
                   have qi127 : (1 < l1.length) = True := eq_true (by omega)
                   (try rw [show ((1 : Int)).toNat = 1 from rfl] at hx127_0)
                   replace p127 := eq_true p127
                   replace q127 := eq_true q127
                   have p128 : 0 ≤ (0 : Int) := (by omega)
                   have q128 : 0 < (l1.length : Int) := of_decide_eq_true (by assumption)
                   obtain ⟨ad128, e128, hx128_0⟩ := Kd.at_int (Kd.C_kept_now HR1.out HK.out) 0 p128 q128
                   obtain rfl : ad127 = ad128 := (by injection e128)
                   have qi128 : (0 < l1.length) = True := eq_true (by omega)
                   (try rw [show ((0 : Int)).toNat = 0 from rfl] at hx128_0)
                   (try rw [Addr.add_zero'] at hx128_0)
                   replace p128 := eq_true p128
                   replace q128 := eq_true q128
                   obtain ⟨Ao74, co74, eo74⟩ := Kd.R_slice HO_0.out
                   subst eo74
                   have p132 : 0 ≤ ((rd l1 1) : Int) := of_decide_eq_true (by assumption)
                   have q132 : (rd l1 1) < (l0.length : Int) := of_decide_eq_true (by assumption)
                   obtain ⟨ad132, e132, hx132_0⟩ := Kd.at_int (Kd.R_reads' HO_0.out).2.2 (rd l1 1) p132 q132
                   cases e132
                   replace p132 := eq_true p132
                   replace q132 := eq_true q132
                   have p133 : 0 ≤ (0 : Int) := (by omega)
                   have q133 : 0 < (l1.length : Int) := of_decide_eq_true (by assumption)
                   obtain ⟨ad133, e133, hx133_0⟩ := Kd.at_int (Kd.C_kept_now HR1.out HK.out) 0 p133 q133
                   obtain rfl : ad127 = ad133 := (by injection e133)
                   have qi133 : (0 < l1.length) = True := eq_true (by omega)
                   (try rw [show ((0 : Int)).toNat = 0 from rfl] at hx133_0)
                   (try rw [Addr.add_zero'] at hx133_0)
                   replace p133 := eq_true p133
                   replace q133 := eq_true q133
                   have p147 : 0 ≤ (2 : Int) := (by omega)
                   have q147 : 2 < (l1.length : Int) := of_decide_eq_true (by assumption)
                   obtain ⟨ad147, e147, hx147_0⟩ := Kd.at_int (Kd.C_kept_now HR1.out HK.out) 2 p147 q147
                   obtain rfl : ad127 = ad147 := (by injection e147)
                   (try simp only [show (2 : Int).toNat = 2 from rfl, Nat.reduceMul, Nat.reduceEqDiff, Go.Addr.add, ↓reduceIte] at hx147_0)
                   have qi147 : (2 < l1.length) = True := eq_true (by omega)
                   (try rw [show ((2 : Int)).toNat = 2 from rfl] at hx147_0)
                   replace p147 := eq_true p147
                   replace q147 := eq_true q147
                   have p148 : 0 ≤ (2 : Int) := (by omega)
                   have q148 : 2 < (l1.length : Int) := of_decide_eq_true (by assumption)
                   obtain ⟨ad148, e148, hx148_0⟩ := Kd.at_int (Kd.C_kept_now HR1.out HK.out) 2 p148 q148
                   obtain rfl : ad127 = ad148 := (by injection e148)
                   (try simp only [show (2 : Int).toNat = 2 from rfl, Nat.reduceMul, Nat.reduceEqDiff, Go.Addr.add, ↓reduceIte] at hx148_0)
                   have qi148 : (2 < l1.length) = True := eq_true (by omega)
                   (try rw [show ((2 : Int)).toNat = 2 from rfl] at hx148_0)
                   replace p148 := eq_true p148
                   replace q148 := eq_true q148
                   have p149 : 0 ≤ (2 : Int) := (by omega)
                   have q149 : 2 < (l1.length : Int) := of_decide_eq_true (by assumption)
                   obtain ⟨ad149, e149, hx149_0⟩ := Kd.at_int (Kd.C_kept_now HR1.out HK.out) 2 p149 q149
                   obtain rfl : ad127 = ad149 := (by injection e149)
                   (try simp only [show (2 : Int).toNat = 2 from rfl, Nat.reduceMul, Nat.reduceEqDiff, Go.Addr.add, ↓reduceIte] at hx149_0)
                   have qi149 : (2 < l1.length) = True := eq_true (by omega)
                   (try rw [show ((2 : Int)).toNat = 2 from rfl] at hx149_0)
                   replace p149 := eq_true p149
                   replace q149 := eq_true q149
                   have p150 : 0 ≤ ((rd l1 2) : Int) := of_decide_eq_true (by assumption)
                   have q150 : (rd l1 2) < (l0.length : Int) := of_decide_eq_true (by assumption)
                   obtain ⟨ad150, e150, hx150_0⟩ := Kd.at_int (Kd.R_reads' HO_0.out).2.2 (rd l1 2) p150 q150
                   obtain rfl : ad132 = ad150 := (by injection e150)
                   replace p150 := eq_true p150
                   replace q150 := eq_true q150
                   try go_wp2
                   have n0_ := zm1 (Kd.R_drew HO_0.out)
                   have n1_ := zm1 (Kept.drew HK.out)
                   have n2_ := zm1 (below_drew1 HB.out)
                   clear HO_0
                   clear HK
                   clear HB
                   have HO_0 := n0_
                   have HK := n1_
                   have HB := n2_
                   clear n0_ n1_ n2_
                   have p151 : 0 ≤ (2 : Int) := (by omega)
                   have q151 : 2 < (l1.length : Int) := of_decide_eq_true (by assumption)
                   obtain ⟨ad151, e151, hx151_0⟩ := Kd.at_int (Kd.C_kept_now HR1.out HK.out) 2 p151 q151
                   have hw151_0 := hx151_0
                   (try rw [show ((2 : Int)).toNat = 2 from rfl] at hw151_0)
                   (try rw [show 2 * 1 = 2 from rfl] at hw151_0)
                   (try simp only [Nat.reduceMul, Nat.reduceEqDiff, Go.Addr.add, ↓reduceIte] at hw151_0)
                   obtain rfl : ad127 = ad151 := (by injection e151)
                   (try simp only [show (2 : Int).toNat = 2 from rfl, Nat.reduceMul, Nat.reduceEqDiff, Go.Addr.add, ↓reduceIte] at hx151_0)
                   have qi151 : (2 < l1.length) = True := eq_true (by omega)
                   (try rw [show ((2 : Int)).toNat = 2 from rfl] at hx151_0)
                   replace p151 := eq_true p151
                   replace q151 := eq_true q151
                   have p152 : 0 ≤ (2 : Int) := (by omega)
                   have q152 : 2 < (l1.length : Int) := of_decide_eq_true (by assumption)
                   obtain ⟨ad152, e152, hx152_0⟩ := Kd.at_int (Kd.C_kept_now HR1.out HK.out) 2 p152 q152
                   have hw152_0 := hx152_0
                   (try rw [show ((2 : Int)).toNat = 2 from rfl] at hw152_0)
                   (try rw [show 2 * 1 = 2 from rfl] at hw152_0)
                   (try simp only [Nat.reduceMul, Nat.reduceEqDiff, Go.Addr.add, ↓reduceIte] at hw152_0)
                   obtain rfl : ad127 = ad152 := (by injection e152)
                   (try simp only [show (2 : Int).toNat = 2 from rfl, Nat.reduceMul, Nat.reduceEqDiff, Go.Addr.add, ↓reduceIte] at hx152_0)
                   have qi152 : (2 < l1.length) = True := eq_true (by omega)
                   (try rw [show ((2 : Int)).toNat = 2 from rfl] at hx152_0)
                   replace p152 := eq_true p152
                   replace q152 := eq_true q152
                   have p153 : 0 ≤ ((rd l1 2) : Int) := of_decide_eq_true (by assumption)
                   have q153 : (rd l1 2) < (l0.length : Int) := of_decide_eq_true (by assumption)
                   obtain ⟨ad153, e153, hx153_0⟩ := Kd.at_int (Kd.R_reads' HO_0.out).2.2 (rd l1 2) p153 q153
                   obtain rfl : ad132 = ad153 := (by injection e153)
                   replace p153 := eq_true p153
                   replace q153 := eq_true q153
                   have p154 : 0 ≤ ((rd l1 1) : Int) := of_decide_eq_true (by assumption)
                   have q154 : (rd l1 1) < (l0.length : Int) := of_decide_eq_true (by assumption)
                   obtain ⟨ad154, e154, hx154_0⟩ := Kd.at_int (Kd.R_reads' HO_0.out).2.2 (rd l1 1) p154 q154
                   obtain rfl : ad132 = ad154 := (by injection e154)
                   replace p154 := eq_true p154
                   replace q154 := eq_true q154
                   have p72 : 0 ≤ ((rd l1 2) : Int) := of_decide_eq_true (by assumption)
                   have q72 : ((rd l1 2) : Int) < ((l0.length : Int) : Int) := of_decide_eq_true (by assumption)
                   obtain ⟨go72, co72, eo72, gb72, gl72, cl72, HG72⟩ := Kd.R_form HO_0.out (by omega)
                   (first | cases eo72 | (injection eo72 with ea_ en_ ec_; (first | subst ea_ | (injection ea_ with ea_; subst ea_)); subst ec_; clear en_))
                   have GB72 := zm1 gb72
                   have GG72 := zm1 HG72
                   clear gb72 gl72 HG72
                   have HMgo72 := zm1 (show (P0_ go72 ∨ w.heap.size ≤ go72) from (HO_0.out.1 _ rfl))
                   (first | simp only [add_plain] at hx132_0 | skip)
                   (first | simp only [add_plain] at hx150_0 | skip)
                   (first | simp only [add_plain] at hx153_0 | skip)
                   (first | simp only [add_plain] at hx154_0 | skip)
                   obtain ⟨hx72_0, hf72_0⟩ := Kd.R_celln 0 HO_0.out ((rd l1 2) : Int) p72 q72
                   replace p72 := eq_true p72
                   replace q72 := eq_true q72
                   have HP76 := Kd.R_putn HO_0.out ((rd l1 2) : Int) (wrap64 ((rd l0 (rd l1 2)) + (rd l0 (rd l1 1))))
                   rw [← Ny155.out] at HP76
                   have HQ76 := zm1 HP76
                   clear HP76
                   refine start_ (n := 17) (S := fun w' => w'.cell? ⟨ad127.block, ad127.off + 2, none⟩ = some (.int .i64 (rd l1 2)) ∧ w'.cell? ⟨ad127.block, ad127.off + 2, none⟩ = some (.int .i64 (rd l1 2)) ∧ w'.cell? ⟨go72, ((rd l1 2)).toNat, none⟩ = some (.int .i64 (rd l0 (rd l1 2))) ∧ w'.cell? ⟨go72, ((rd l1 1)).toNat, none⟩ = some (.int .i64 (rd l0 (rd l1 1)))) (ds := [16]) #[false, false, false, false, false, false, false, false, false, false, false, false, false, false, false, false, false] (by kernel_rfl) rfl rfl ⟨(Kd.foot_int (HR1.out _ (by repeat (first | exact HK.out | apply Kept.alloc | apply Kept.drewN | apply Kept.drew | refine Kept.setCell ?_ HMgo72.out _))) (2 : Int) (of_eq_true p151) (of_eq_true q151)), (Kd.foot_int (HR1.out _ (by repeat (first | exact HK.out | apply Kept.alloc | apply Kept.drewN | apply Kept.drew | refine Kept.setCell ?_ HMgo72.out _))) (2 : Int) (of_eq_true p152) (of_eq_true q152)), hx153_0, hx154_0⟩ (fun hHeld => ?_); refine with_tabW spec_l26Step.tab25 spec_l26Step.bits25 (fun HT_ HW_ => ?_)
                   generalize wc.drew = w75 at HO_0 HK HB GG72 HQ76 hf72_0 hx132_0 hx150_0 hx151_0 hx152_0 hx153_0 hx154_0 hx72_0 hHeld ⊢
                   refine pure_ (i := 0) (N := some 145) (v := ?_) (a' := ?_) #[true, false, false, false, false, false, false, false, false, false, false, false, false, false, false, false, false] rfl rfl (any_of HT_.out (by kernel_rfl)) (fun _ _ _ h => h) (Or.inl ⟨by rfl, ?_⟩) ?_ ?_
                   rotate_left
                   ·intro w'
                    go_simp
                    with_reducible rfl
                   rotate_left
                   ·simp only [Act.put, zs1, zs2, zs3, i64_w, i32_w]
                    rfl
                   refine pure_ (i := 1) (N := some 146) (v := ?_) (a' := ?_) #[true, true, false, false, false, false, false, false, false, false, false, false, false, false, false, false, false] rfl rfl (any_of HT_.out (by kernel_rfl)) (fun _ _ _ h => h) (Or.inl ⟨by rfl, ?_⟩) ?_ ?_
                   rotate_left
                   ·intro w'
                    go_simp
                    with_reducible rfl
                   rotate_left
                   ·simp only [Act.put, zs1, zs2, zs3, i64_w, i32_w]
                    rfl
                   refine pure_ (i := 2) (N := some 147) (v := ?_) (a' := ?_) #[true, true, true, false, false, false, false, false, false, false, false, false, false, false, false, false, false] rfl rfl (any_of HT_.out (by kernel_rfl)) (fun _ _ _ h => h) (Or.inl ⟨by rfl, ?_⟩) ?_ ?_
                   rotate_left
                   ·intro w'
                    go_simp
                    with_reducible rfl
                   rotate_left
                   ·simp only [Act.put, zs1, zs2, zs3, i64_w, i32_w]
                    rfl
                   refine pure_ (i := 4) (N := some 149) (v := ?_) (a' := ?_) #[true, true, true, false, true, false, false, false, false, false, false, false, false, false, false, false, false] rfl rfl (any_of HT_.out (by kernel_rfl)) (fun _ _ _ h => h) (Or.inl ⟨by rfl, ?_⟩) ?_ ?_
                   rotate_left
                   ·intro w'
                    go_simp
                    with_reducible rfl
                   rotate_left
                   ·simp only [Act.put, zs1, zs2, zs3, i64_w, i32_w]
                    rfl
                   refine pure_ (i := 5) (N := some 150) (v := ?_) (a' := ?_) #[true, true, true, false, true, true, false, false, false, false, false, false, false, false, false, false, false] rfl rfl (any_of HT_.out (by kernel_rfl)) (fun _ _ _ h => h) (Or.inl ⟨by rfl, ?_⟩) ?_ ?_
                   rotate_left
                   ·intro w'
                    go_simp
                    with_reducible rfl
                   rotate_left
                   ·simp only [Act.put, zs1, zs2, zs3, i64_w, i32_w]
                    rfl
                   refine pure_ (i := 6) (N := some 151) (v := ?_) (a' := ?_) #[true, true, true, false, true, true, true, false, false, false, false, false, false, false, false, false, false] rfl rfl (any_of HT_.out (by kernel_rfl)) (fun _ _ _ h => h) (Or.inl ⟨by rfl, ?_⟩) ?_ ?_
                   rotate_left
                   ·intro w'
                    go_simp
                    with_reducible rfl
                   rotate_left
                   ·simp only [Act.put, zs1, zs2, zs3, i64_w, i32_w]
                    rfl
                   refine pure_ (i := 10) (N := some 155) (v := ?_) (a' := ?_) #[true, true, true, false, true, true, true, false, false, false, true, false, false, false, false, false, false] rfl rfl (any_of HT_.out (by kernel_rfl)) (fun _ _ _ h => h) (Or.inl ⟨by rfl, ?_⟩) ?_ ?_
                   rotate_left
                   ·intro w'
                    go_simp
                    with_reducible rfl
                   rotate_left
                   ·simp only [Act.put, zs1, zs2, zs3, i64_w, i32_w]
                    rfl
                   refine pure_ (i := 11) (N := some 156) (v := ?_) (a' := ?_) #[true, true, true, false, true, true, true, false, false, false, true, true, false, false, false, false, false] rfl rfl (any_of HT_.out (by kernel_rfl)) (fun _ _ _ h => h) (Or.inl ⟨by rfl, ?_⟩) ?_ ?_
                   rotate_left
                   ·intro w'
                    go_simp
                    with_reducible rfl
                   rotate_left
                   ·simp only [Act.put, zs1, zs2, zs3, i64_w, i32_w]
                    rfl
                   refine pure_ (i := 12) (N := some 157) (v := ?_) (a' := ?_) #[true, true, true, false, true, true, true, false, false, false, true, true, true, false, false, false, false] rfl rfl (any_of HT_.out (by kernel_rfl)) (fun _ _ _ h => h) (Or.inl ⟨by rfl, ?_⟩) ?_ ?_
                   rotate_left
                   ·intro w'
                    go_simp
                    with_reducible rfl
                   rotate_left
                   ·simp only [Act.put, zs1, zs2, zs3, i64_w, i32_w]
                    rfl
                   refine take_ (i := 3) (N := some 148) (v := ?_) (a' := ?_) #[true, true, true, true, true, true, true, false, false, false, true, true, true, false, false, false, false] rfl rfl (take_ofW HT_.out HW_.out (by kernel_rfl)) (fun _ _ _ h => h) (Or.inl ⟨by rfl, ?_⟩) hHeld ?_ ?_
                   rotate_left
                   ·rintro w' ⟨s0, s1, s2, s3⟩
                    go_simp
                    with_reducible rfl
                   rotate_left
                   ·simp only [Act.put, zs1, zs2, zs3, i64_w, i32_w]
                    rfl
                   refine take_ (i := 7) (N := some 152) (v := ?_) (a' := ?_) #[true, true, true, true, true, true, true, true, false, false, true, true, true, false, false, false, false] rfl rfl (take_ofW HT_.out HW_.out (by kernel_rfl)) (fun _ _ _ h => h) (Or.inl ⟨by rfl, ?_⟩) hHeld ?_ ?_
                   rotate_left
                   ·rintro w' ⟨s0, s1, s2, s3⟩
                    go_simp
                    with_reducible rfl
                   rotate_left
                   ·simp only [Act.put, zs1, zs2, zs3, i64_w, i32_w]
                    rfl
                   refine pure_ (i := 8) (N := some 153) (v := ?_) (a' := ?_) #[true, true, true, true, true, true, true, true, true, false, true, true, true, false, false, false, false] rfl rfl (any_of HT_.out (by kernel_rfl)) (fun _ _ _ h => h) (Or.inl ⟨by rfl, ?_⟩) ?_ ?_
                   rotate_left
                   ·intro w'
                    go_simp
                    with_reducible rfl
                   rotate_left
                   ·simp only [Act.put, zs1, zs2, zs3, i64_w, i32_w]
                    rfl
                   refine take_ (i := 9) (N := some 154) (v := ?_) (a' := ?_) #[true, true, true, true, true, true, true, true, true, true, true, true, true, false, false, false, false] rfl rfl (take_ofW HT_.out HW_.out (by kernel_rfl)) (fun _ _ _ h => h) (Or.inl ⟨by rfl, ?_⟩) hHeld ?_ ?_
                   rotate_left
                   ·rintro w' ⟨s0, s1, s2, s3⟩
                    go_simp
                    with_reducible rfl
                   rotate_left
                   ·simp only [Act.put, zs1, zs2, zs3, i64_w, i32_w]
                    rfl
                   refine take_ (i := 13) (N := some 158) (v := ?_) (a' := ?_) #[true, true, true, true, true, true, true, true, true, true, true, true, true, true, false, false, false] rfl rfl (take_ofW HT_.out HW_.out (by kernel_rfl)) (fun _ _ _ h => h) (Or.inl ⟨by rfl, ?_⟩) hHeld ?_ ?_
                   rotate_left
                   ·rintro w' ⟨s0, s1, s2, s3⟩
                    go_simp
                    with_reducible rfl
                   rotate_left
                   ·simp only [Act.put, zs1, zs2, zs3, i64_w, i32_w]
                    rfl
                   refine pure_ (i := 14) (N := some 159) (v := ?_) (a' := ?_) #[true, true, true, true, true, true, true, true, true, true, true, true, true, true, true, false, false] rfl rfl (any_of HT_.out (by kernel_rfl)) (fun _ _ _ h => h) (Or.inl ⟨by rfl, ?_⟩) ?_ ?_
                   rotate_left
                   ·intro w'
                    go_simp
                    with_reducible rfl
                   rotate_left
                   ·simp only [Act.put, zs1, zs2, zs3, i64_w, i32_w]
                    rfl
                   refine pure_ (i := 15) (N := some 160) (v := ?_) (a' := ?_) #[true, true, true, true, true, true, true, true, true, true, true, true, true, true, true, true, false] rfl rfl (any_of HT_.out (by kernel_rfl)) (fun _ _ _ h => h) (Or.inl ⟨by rfl, ?_⟩) ?_ ?_
                   rotate_left
                   ·intro w'
                    go_simp
                    with_reducible rfl
                   rotate_left
                   ·simp only [Act.put, zs1, zs2, zs3, i64_w, i32_w]
                    rfl
                   refine last_ (i := 16) (N := none) #[true, true, true, true, true, true, true, true, true, true, true, true, true, true, true, true, true] rfl rfl (one_of HT_.out (by kernel_rfl)) (by decide) (fun K hK => ?_)
                   refine skip_ (w1 := ?_) (by rfl) rfl ?_ ?_
                   rotate_left
                   ·go_simp
                    rfl
                   refine hK.out _ _ ?_
                   clear hK K
                   refine done_ (done_of HT_.out (by kernel_rfl)) ?_
                   have n0_ : Aside0 (Kd.R (Kd.int .i64) 3 (w75.setCell ⟨go72, ((rd l1 2) : Int).toNat, none⟩ (.int .i64 (wrap64 ((rd l0 (rd l1 2)) + (rd l0 (rd l1 1)))))) w0.heap.size (fun k_ => (P0_ k_ ∨ w.heap.size ≤ k_)) (.slice (some ⟨go72, 0, none⟩) l0.length co74) y155) := ⟨by (with_reducible repeat (first | apply zr1 | apply zr2 | apply zr3)); exact HQ76.out⟩
                   have n1_ : Aside0 (Kept w (w75.setCell ⟨go72, ((rd l1 2) : Int).toNat, none⟩ (.int .i64 (wrap64 ((rd l0 (rd l1 2)) + (rd l0 (rd l1 1)))))) (fun k_ => P0_ k_)) := ⟨by repeat (first | (with_reducible first | exact HK.out | apply Kept.alloc | apply Kept.drewN | apply Kept.drew | refine Kept.setCell ?_ HMgo72.out _) | exact HK.out)⟩
                   have n2_ : Aside0 (Below w0.heap.size w0 (w75.setCell ⟨go72, ((rd l1 2) : Int).toNat, none⟩ (.int .i64 (wrap64 ((rd l0 (rd l1 2)) + (rd l0 (rd l1 1))))))) := ⟨by repeat (first | (with_reducible first | exact HB.out | apply zc1 | apply zc2 | apply zc3 | refine below_set ?_ GB72.out) | exact HB.out)⟩
                   (try clear HO_0)
                   (try clear HK)
                   (try clear HB)
                   generalize (w75.setCell ⟨go72, ((rd l1 2) : Int).toNat, none⟩ (.int .i64 (wrap64 ((rd l0 (rd l1 2)) + (rd l0 (rd l1 1)))))) = w77 at n0_ n1_ n2_ ⊢
                   have HO_0 := n0_
                   have HK := n1_
                   have HB := n2_
                   clear n0_ n1_ n2_
                   have p73 : 0 ≤ ((rd l1 1) : Int) := of_decide_eq_true (by assumption)
                   have q73 : ((rd l1 1) : Int) < ((l0.length : Int) : Int) := of_decide_eq_true (by assumption)
                   obtain ⟨hx73_0, hf73_0⟩ := Kd.R_celln 0 HO_0.out ((rd l1 1) : Int) p73 q73
                   replace p73 := eq_true p73
                   replace q73 := eq_true q73
                   obtain ⟨hy78_, hz78_⟩ := Kd.R_celln 0 HO_0.out ((rd l1 1) : Int) (of_decide_eq_true (by assumption)) (of_decide_eq_true (by assumption))
                   have HP78 := Kd.R_putg HO_0.out ((rd l1 1) : Int) (-1)
                   try go_wp2_with (first | ((with_reducible refine gate_store (t := 3) (p := 163) rfl ?_); refine store_event (t := 3) (p := 163) (v := ?vo_w79) (w1 := (w77.setCell ⟨go72, ((rd l1 1) : Int).toNat, none⟩ (.int .i64 (-1)))) ?hg ?ho ?hn ?hr ?_; (case ho => rfl); (case hg => rfl); (case hn => rfl); (case hr => first | (go_simp; done) | (go_simp; rfl)); intro w79 hw; have hg : w77.grownBy w79 (some go72) := (by rw [hw]; exact HP78.2); have hp_ : Kd.R (Kd.int .i64) 3 w79 w0.heap.size (fun k_ => (P0_ k_ ∨ w.heap.size ≤ k_)) (.slice (some ⟨go72, 0, none⟩) l0.length co74) y156 := (by rw [hw, Ny156.out]; exact HP78.1); clear HP78; have n0_ := zm1 (hp_); have n1_ := zm1 ((by rw [hw]; exact below_set (HB.out) GB72.out : Below w0.heap.size w0 w79)); have n2_ := zm1 (Kept.of_grown (S := (fun k_ => P0_ k_)) hg (by repeat (first | (with_reducible first | exact HK.out | apply Kept.alloc | apply Kept.drewN | apply Kept.drew) | exact HK.out)) (fun k_ e_ => (HO_0.out.1 k_ e_))); clear HO_0; clear HB; clear HK; have HO_0 := n0_; have HB := n1_; have HK := n2_; clear n0_ n1_ n2_; clear hg hw hp_))
                   go_ret
                   exact ⟨by first | rfl | (simp [errW_none, errW_some] <;> rfl) | (simp [*, errW_none, errW_some] <;> rfl), by (with_reducible repeat (first | apply zr1 | apply zr2 | apply zr3)); exact HO_0.out, by repeat (first | (with_reducible first | exact HB.out | apply zc1 | apply zc2 | apply zc3) | exact HB.out), by repeat (first | (with_reducible first | exact HK.out | apply Kept.alloc | apply Kept.drewN | apply Kept.drew) | exact HK.out)⟩
                 ·rw [if_neg c69] at H
                  exact absurd H (by simp)
                ·rw [if_neg c68] at H
                 exact absurd H (by simp)
             ·rw [if_neg c63] at H
              exact absurd H (by simp)
            ·rw [if_neg c62] at H
             have c62b0 : ((rd l1 0) == 4) = false := beq_eq_false_iff_ne.mpr c62
             have c62b1 : ((rd l1 0) != 4) = true := bne_iff_ne.mpr c62
             by_cases c80 : (rd l1 0) = 5
             ·rw [if_pos c80] at H
              have c80b0 : ((rd l1 0) == 5) = true := beq_iff_eq.mpr c80
              have c80b1 : ((rd l1 0) != 5) = false := bne_eq_false_iff_eq.mpr c80
              clear c80
              by_cases c81 : 2 < (l1.length : Int)
              ·rw [if_pos c81] at H
               have c81b0 : decide (2 < (l1.length : Int)) = true := decide_eq_true c81
               have c81b1 : decide (2 < l1.length) = true := decide_eq_true (by omega)
               clear c81
               by_cases c82 : (rd l1 2) = (rd l0 (rd l1 1))
               ·rw [if_pos c82] at H
                have c82b0 : ((rd l1 2) == (rd l0 (rd l1 1))) = true := beq_iff_eq.mpr c82
                have c82b1 : ((rd l1 2) != (rd l0 (rd l1 1))) = false := bne_eq_false_iff_eq.mpr c82
                clear c82
                obtain ⟨y159, hy159⟩ : ∃ y_ : List Int, y_ = (l0.set ((rd l1 1) : Int).toNat (-1)) := ⟨_, rfl⟩
                replace H : (some (true, y159)) = some (r1, r2) := by first | (rw [hy159]; with_reducible exact H) | (have H2_ := (Option.bind_some _ _).symm.trans H; rw [hy159]; with_reducible exact H2_) | (have H2_ := (Option.bind_some _ _).symm.trans H; with_reducible exact H2_) | with_reducible exact H | (rw [hy159]; exact H) | exact H
                have Ny159 := zm1 hy159
                clear hy159
                simp only [Option.some.injEq, Prod.mk.injEq] at H
                obtain ⟨rfl, rfl⟩ := H
                have p127 : 0 ≤ (1 : Int) := (by omega)
                have q127 : 1 < (l1.length : Int) := of_decide_eq_true (by assumption)
                obtain ⟨ad127, e127, hx127_0⟩ := Kd.at_int (Kd.C_kept_now HR1.out HK.out) 1 p127 q127
                cases e127
                (try simp only [show (1 : Int).toNat = 1 from rfl, Nat.reduceMul, Nat.reduceEqDiff, Go.Addr.add, ↓reduceIte] at hx127_0)
                have qi127 : (1 < l1.length) = True := eq_true (by omega)
                (try rw [show ((1 : Int)).toNat = 1 from rfl] at hx127_0)
                replace p127 := eq_true p127
                replace q127 := eq_true q127
                have p128 : 0 ≤ (0 : Int) := (by omega)
                have q128 : 0 < (l1.length : Int) := of_decide_eq_true (by assumption)
                obtain ⟨ad128, e128, hx128_0⟩ := Kd.at_int (Kd.C_kept_now HR1.out HK.out) 0 p128 q128
                obtain rfl : ad127 = ad128 := (by injection e128)
                have qi128 : (0 < l1.length) = True := eq_true (by omega)
                (try rw [show ((0 : Int)).toNat = 0 from rfl] at hx128_0)
                (try rw [Addr.add_zero'] at hx128_0)
                replace p128 := eq_true p128
                replace q128 := eq_true q128
                obtain ⟨Ao84, co84, eo84⟩ := Kd.R_slice HO_0.out
                subst eo84
                have p132 : 0 ≤ ((rd l1 1) : Int) := of_decide_eq_true (by assumption)
                have q132 : (rd l1 1) < (l0.length : Int) := of_decide_eq_true (by assumption)
                obtain ⟨ad132, e132, hx132_0⟩ := Kd.at_int (Kd.R_reads' HO_0.out).2.2 (rd l1 1) p132 q132
                cases e132
                replace p132 := eq_true p132
                replace q132 := eq_true q132
                have p133 : 0 ≤ (0 : Int) := (by omega)
                have q133 : 0 < (l1.length : Int) := of_decide_eq_true (by assumption)
                obtain ⟨ad133, e133, hx133_0⟩ := Kd.at_int (Kd.C_kept_now HR1.out HK.out) 0 p133 q133
                obtain rfl : ad127 = ad133 := (by injection e133)
                have qi133 : (0 < l1.length) = True := eq_true (by omega)
                (try rw [show ((0 : Int)).toNat = 0 from rfl] at hx133_0)
                (try rw [Addr.add_zero'] at hx133_0)
                replace p133 := eq_true p133
                replace q133 := eq_true q133
                try go_wp2
                have n0_ := zm1 (Kd.R_drew HO_0.out)
                have n1_ := zm1 (Kept.drew HK.out)
                have n2_ := zm1 (below_drew1 HB.out)
                clear HO_0
                clear HK
                clear HB
                have HO_0 := n0_
                have HK := n1_
                have HB := n2_
                clear n0_ n1_ n2_
                have p157 : 0 ≤ (2 : Int) := (by omega)
                have q157 : 2 < (l1.length : Int) := of_decide_eq_true (by assumption)
                obtain ⟨ad157, e157, hx157_0⟩ := Kd.at_int (Kd.C_kept_now HR1.out HK.out) 2 p157 q157
                have hw157_0 := hx157_0
                (try rw [show ((2 : Int)).toNat = 2 from rfl] at hw157_0)
                (try rw [show 2 * 1 = 2 from rfl] at hw157_0)
                (try simp only [Nat.reduceMul, Nat.reduceEqDiff, Go.Addr.add, ↓reduceIte] at hw157_0)
                obtain rfl : ad127 = ad157 := (by injection e157)
                (try simp only [show (2 : Int).toNat = 2 from rfl, Nat.reduceMul, Nat.reduceEqDiff, Go.Addr.add, ↓reduceIte] at hx157_0)
                have qi157 : (2 < l1.length) = True := eq_true (by omega)
                (try rw [show ((2 : Int)).toNat = 2 from rfl] at hx157_0)
                replace p157 := eq_true p157
                replace q157 := eq_true q157
                have p158 : 0 ≤ ((rd l1 1) : Int) := of_decide_eq_true (by assumption)
                have q158 : (rd l1 1) < (l0.length : Int) := of_decide_eq_true (by assumption)
                obtain ⟨ad158, e158, hx158_0⟩ := Kd.at_int (Kd.R_reads' HO_0.out).2.2 (rd l1 1) p158 q158
                obtain rfl : ad132 = ad158 := (by injection e158)
                replace p158 := eq_true p158
                replace q158 := eq_true q158
                refine start_ (n := 8) (S := fun w' => w'.cell? ⟨ad127.block, ad127.off + 2, none⟩ = some (.int .i64 (rd l1 2)) ∧ w'.cell? (ad132.add ((rd l1 1)).toNat) = some (.int .i64 (rd l0 (rd l1 1)))) (ds := []) #[false, false, false, false, false, false, false, false] (by kernel_rfl) rfl rfl ⟨(Kd.foot_int (HR1.out _ (by repeat (first | exact HK.out | apply Kept.alloc | apply Kept.drewN | apply Kept.drew))) (2 : Int) (of_eq_true p157) (of_eq_true q157)), hx158_0⟩ (fun hHeld => ?_); refine with_tabW spec_l26Step.tab28 spec_l26Step.bits28 (fun HT_ HW_ => ?_)
                generalize wc.drew = w85 at HO_0 HK HB hx157_0 hx158_0 hHeld ⊢
                refine pure_ (i := 0) (N := some 166) (v := ?_) (a' := ?_) #[true, false, false, false, false, false, false, false] rfl rfl (any_of HT_.out (by kernel_rfl)) (fun _ _ _ h => h) (Or.inl ⟨by rfl, ?_⟩) ?_ ?_
                rotate_left
                ·intro w'
                 go_simp
                 with_reducible rfl
                rotate_left
                ·simp only [Act.put, zs1, zs2, zs3, i64_w, i32_w]
                 rfl
                refine pure_ (i := 1) (N := some 167) (v := ?_) (a' := ?_) #[true, true, false, false, false, false, false, false] rfl rfl (any_of HT_.out (by kernel_rfl)) (fun _ _ _ h => h) (Or.inl ⟨by rfl, ?_⟩) ?_ ?_
                rotate_left
                ·intro w'
                 go_simp
                 with_reducible rfl
                rotate_left
                ·simp only [Act.put, zs1, zs2, zs3, i64_w, i32_w]
                 rfl
                refine pure_ (i := 3) (N := some 169) (v := ?_) (a' := ?_) #[true, true, false, true, false, false, false, false] rfl rfl (any_of HT_.out (by kernel_rfl)) (fun _ _ _ h => h) (Or.inl ⟨by rfl, ?_⟩) ?_ ?_
                rotate_left
                ·intro w'
                 go_simp
                 with_reducible rfl
                rotate_left
                ·simp only [Act.put, zs1, zs2, zs3, i64_w, i32_w]
                 rfl
                refine pure_ (i := 4) (N := some 170) (v := ?_) (a' := ?_) #[true, true, false, true, true, false, false, false] rfl rfl (any_of HT_.out (by kernel_rfl)) (fun _ _ _ h => h) (Or.inl ⟨by rfl, ?_⟩) ?_ ?_
                rotate_left
                ·intro w'
                 go_simp
                 with_reducible rfl
                rotate_left
                ·simp only [Act.put, zs1, zs2, zs3, i64_w, i32_w]
                 rfl
                refine pure_ (i := 5) (N := some 171) (v := ?_) (a' := ?_) #[true, true, false, true, true, true, false, false] rfl rfl (any_of HT_.out (by kernel_rfl)) (fun _ _ _ h => h) (Or.inl ⟨by rfl, ?_⟩) ?_ ?_
                rotate_left
                ·intro w'
                 go_simp
                 with_reducible rfl
                rotate_left
                ·simp only [Act.put, zs1, zs2, zs3, i64_w, i32_w]
                 rfl
                refine take_ (i := 2) (N := some 168) (v := ?_) (a' := ?_) #[true, true, true, true, true, true, false, false] rfl rfl (take_ofW HT_.out HW_.out (by kernel_rfl)) (fun _ _ _ h => h) (Or.inl ⟨by rfl, ?_⟩) hHeld ?_ ?_
                rotate_left
                ·rintro w' ⟨s0, s1⟩
                 go_simp
                 with_reducible rfl
                rotate_left
                ·simp only [Act.put, zs1, zs2, zs3, i64_w, i32_w]
                 rfl
                refine take_ (i := 6) (N := some 172) (v := ?_) (a' := ?_) #[true, true, true, true, true, true, true, false] rfl rfl (take_ofW HT_.out HW_.out (by kernel_rfl)) (fun _ _ _ h => h) (Or.inl ⟨by rfl, ?_⟩) hHeld ?_ ?_
                rotate_left
                ·rintro w' ⟨s0, s1⟩
                 go_simp
                 with_reducible rfl
                rotate_left
                ·simp only [Act.put, zs1, zs2, zs3, i64_w, i32_w]
                 rfl
                refine pure_ (i := 7) (N := some 173) (v := ?_) (a' := ?_) #[true, true, true, true, true, true, true, true] rfl rfl (any_of HT_.out (by kernel_rfl)) (fun _ _ _ h => h) (Or.inl ⟨by rfl, ?_⟩) ?_ ?_
                rotate_left
                ·intro w'
                 go_simp
                 with_reducible rfl
                rotate_left
                ·simp only [Act.put, zs1, zs2, zs3, i64_w, i32_w]
                 rfl
                refine done_ (done_of HT_.out (by kernel_rfl)) ?_
                have p83 : 0 ≤ ((rd l1 1) : Int) := of_decide_eq_true (by assumption)
                have q83 : ((rd l1 1) : Int) < ((l0.length : Int) : Int) := of_decide_eq_true (by assumption)
                obtain ⟨go83, co83, eo83, gb83, gl83, cl83, HG83⟩ := Kd.R_form HO_0.out (by omega)
                (first | cases eo83 | (injection eo83 with ea_ en_ ec_; (first | subst ea_ | (injection ea_ with ea_; subst ea_)); subst ec_; clear en_))
                have GB83 := zm1 gb83
                have GG83 := zm1 HG83
                clear gb83 gl83 HG83
                have HMgo83 := zm1 (show (P0_ go83 ∨ w.heap.size ≤ go83) from (HO_0.out.1 _ rfl))
                (first | simp only [add_plain] at hx132_0 | skip)
                (first | simp only [add_plain] at hx158_0 | skip)
                obtain ⟨hx83_0, hf83_0⟩ := Kd.R_celln 0 HO_0.out ((rd l1 1) : Int) p83 q83
                replace p83 := eq_true p83
                replace q83 := eq_true q83
                obtain ⟨hy86_, hz86_⟩ := Kd.R_celln 0 HO_0.out ((rd l1 1) : Int) (of_decide_eq_true (by assumption)) (of_decide_eq_true (by assumption))
                have HP86 := Kd.R_putg HO_0.out ((rd l1 1) : Int) (-1)
                try go_wp2_with (first | ((with_reducible refine gate_store (t := 3) (p := 176) rfl ?_); refine store_event (t := 3) (p := 176) (v := ?vo_w87) (w1 := (w85.setCell ⟨go83, ((rd l1 1) : Int).toNat, none⟩ (.int .i64 (-1)))) ?hg ?ho ?hn ?hr ?_; (case ho => rfl); (case hg => rfl); (case hn => rfl); (case hr => first | (go_simp; done) | (go_simp; rfl)); intro w87 hw; have hg : w85.grownBy w87 (some go83) := (by rw [hw]; exact HP86.2); have hp_ : Kd.R (Kd.int .i64) 3 w87 w0.heap.size (fun k_ => (P0_ k_ ∨ w.heap.size ≤ k_)) (.slice (some ⟨go83, 0, none⟩) l0.length co84) y159 := (by rw [hw, Ny159.out]; exact HP86.1); clear HP86; have n0_ := zm1 (hp_); have n1_ := zm1 ((by rw [hw]; exact below_set (HB.out) GB83.out : Below w0.heap.size w0 w87)); have n2_ := zm1 (Kept.of_grown (S := (fun k_ => P0_ k_)) hg (by repeat (first | (with_reducible first | exact HK.out | apply Kept.alloc | apply Kept.drewN | apply Kept.drew) | exact HK.out)) (fun k_ e_ => (HO_0.out.1 k_ e_))); clear HO_0; clear HB; clear HK; have HO_0 := n0_; have HB := n1_; have HK := n2_; clear n0_ n1_ n2_; clear hg hw hp_))
                go_ret
                exact ⟨by first | rfl | (simp [errW_none, errW_some] <;> rfl) | (simp [*, errW_none, errW_some] <;> rfl), by (with_reducible repeat (first | apply zr1 | apply zr2 | apply zr3)); exact HO_0.out, by repeat (first | (with_reducible first | exact HB.out | apply zc1 | apply zc2 | apply zc3) | exact HB.out), by repeat (first | (with_reducible first | exact HK.out | apply Kept.alloc | apply Kept.drewN | apply Kept.drew) | exact HK.out)⟩
               ·rw [if_neg c82] at H
                have c82b0 : ((rd l1 2) == (rd l0 (rd l1 1))) = false := beq_eq_false_iff_ne.mpr c82
                have c82b1 : ((rd l1 2) != (rd l0 (rd l1 1))) = true := bne_iff_ne.mpr c82
                simp only [Option.some.injEq, Prod.mk.injEq] at H
                obtain ⟨rfl, rfl⟩ := H
                have p127 : 0 ≤ (1 : Int) := (by omega)
                have q127 : 1 < (l1.length : Int) := of_decide_eq_true (by assumption)
                obtain ⟨ad127, e127, hx127_0⟩ := Kd.at_int (Kd.C_kept_now HR1.out HK.out) 1 p127 q127
                cases e127
                (try simp only [show (1 : Int).toNat = 1 from rfl, Nat.reduceMul, Nat.reduceEqDiff, Go.Addr.add, ↓reduceIte] at hx127_0)
                have qi127 : (1 < l1.length) = True := eq_true (by omega)
                (try rw [show ((1 : Int)).toNat = 1 from rfl] at hx127_0)
                replace p127 := eq_true p127
                replace q127 := eq_true q127
                have p128 : 0 ≤ (0 : Int) := (by omega)
                have q128 : 0 < (l1.length : Int) := of_decide_eq_true (by assumption)
                obtain ⟨ad128, e128, hx128_0⟩ := Kd.at_int (Kd.C_kept_now HR1.out HK.out) 0 p128 q128
                obtain rfl : ad127 = ad128 := (by injection e128)
                have qi128 : (0 < l1.length) = True := eq_true (by omega)
                (try rw [show ((0 : Int)).toNat = 0 from rfl] at hx128_0)
                (try rw [Addr.add_zero'] at hx128_0)
                replace p128 := eq_true p128
                replace q128 := eq_true q128
                obtain ⟨Ao88, co88, eo88⟩ := Kd.R_slice HO_0.out
                subst eo88
                have p132 : 0 ≤ ((rd l1 1) : Int) := of_decide_eq_true (by assumption)
                have q132 : (rd l1 1) < (l0.length : Int) := of_decide_eq_true (by assumption)
                obtain ⟨ad132, e132, hx132_0⟩ := Kd.at_int (Kd.R_reads' HO_0.out).2.2 (rd l1 1) p132 q132
                cases e132
                replace p132 := eq_true p132
                replace q132 := eq_true q132
                have p133 : 0 ≤ (0 : Int) := (by omega)
                have q133 : 0 < (l1.length : Int) := of_decide_eq_true (by assumption)
                obtain ⟨ad133, e133, hx133_0⟩ := Kd.at_int (Kd.C_kept_now HR1.out HK.out) 0 p133 q133
                obtain rfl : ad127 = ad133 := (by injection e133)
                have qi133 : (0 < l1.length) = True := eq_true (by omega)
                (try rw [show ((0 : Int)).toNat = 0 from rfl] at hx133_0)
                (try rw [Addr.add_zero'] at hx133_0)
                replace p133 := eq_true p133
                replace q133 := eq_true q133
                try go_wp2
                have n0_ := zm1 (Kd.R_drew HO_0.out)
                have n1_ := zm1 (Kept.drew HK.out)
                have n2_ := zm1 (below_drew1 HB.out)
                clear HO_0
                clear HK
                clear HB
                have HO_0 := n0_
                have HK := n1_
                have HB := n2_
                clear n0_ n1_ n2_
                have p157 : 0 ≤ (2 : Int) := (by omega)
                have q157 : 2 < (l1.length : Int) := of_decide_eq_true (by assumption)
                obtain ⟨ad157, e157, hx157_0⟩ := Kd.at_int (Kd.C_kept_now HR1.out HK.out) 2 p157 q157
                have hw157_0 := hx157_0
                (try rw [show ((2 : Int)).toNat = 2 from rfl] at hw157_0)
                (try rw [show 2 * 1 = 2 from rfl] at hw157_0)
                (try simp only [Nat.reduceMul, Nat.reduceEqDiff, Go.Addr.add, ↓reduceIte] at hw157_0)
                obtain rfl : ad127 = ad157 := (by injection e157)
                (try simp only [show (2 : Int).toNat = 2 from rfl, Nat.reduceMul, Nat.reduceEqDiff, Go.Addr.add, ↓reduceIte] at hx157_0)
                have qi157 : (2 < l1.length) = True := eq_true (by omega)
                (try rw [show ((2 : Int)).toNat = 2 from rfl] at hx157_0)
                replace p157 := eq_true p157
                replace q157 := eq_true q157
                have p158 : 0 ≤ ((rd l1 1) : Int) := of_decide_eq_true (by assumption)
                have q158 : (rd l1 1) < (l0.length : Int) := of_decide_eq_true (by assumption)
                obtain ⟨ad158, e158, hx158_0⟩ := Kd.at_int (Kd.R_reads' HO_0.out).2.2 (rd l1 1) p158 q158
                obtain rfl : ad132 = ad158 := (by injection e158)
                replace p158 := eq_true p158
                replace q158 := eq_true q158
                refine start_ (n := 8) (S := fun w' => w'.cell? ⟨ad127.block, ad127.off + 2, none⟩ = some (.int .i64 (rd l1 2)) ∧ w'.cell? (ad132.add ((rd l1 1)).toNat) = some (.int .i64 (rd l0 (rd l1 1)))) (ds := []) #[false, false, false, false, false, false, false, false] (by kernel_rfl) rfl rfl ⟨(Kd.foot_int (HR1.out _ (by repeat (first | exact HK.out | apply Kept.alloc | apply Kept.drewN | apply Kept.drew))) (2 : Int) (of_eq_true p157) (of_eq_true q157)), hx158_0⟩ (fun hHeld => ?_); refine with_tabW spec_l26Step.tab28 spec_l26Step.bits28 (fun HT_ HW_ => ?_)
                generalize wc.drew = w89 at HO_0 HK HB hx157_0 hx158_0 hHeld ⊢
                refine pure_ (i := 0) (N := some 166) (v := ?_) (a' := ?_) #[true, false, false, false, false, false, false, false] rfl rfl (any_of HT_.out (by kernel_rfl)) (fun _ _ _ h => h) (Or.inl ⟨by rfl, ?_⟩) ?_ ?_
                rotate_left
                ·intro w'
                 go_simp
                 with_reducible rfl
                rotate_left
                ·simp only [Act.put, zs1, zs2, zs3, i64_w, i32_w]
                 rfl
                refine pure_ (i := 1) (N := some 167) (v := ?_) (a' := ?_) #[true, true, false, false, false, false, false, false] rfl rfl (any_of HT_.out (by kernel_rfl)) (fun _ _ _ h => h) (Or.inl ⟨by rfl, ?_⟩) ?_ ?_
                rotate_left
                ·intro w'
                 go_simp
                 with_reducible rfl
                rotate_left
                ·simp only [Act.put, zs1, zs2, zs3, i64_w, i32_w]
                 rfl
                refine pure_ (i := 3) (N := some 169) (v := ?_) (a' := ?_) #[true, true, false, true, false, false, false, false] rfl rfl (any_of HT_.out (by kernel_rfl)) (fun _ _ _ h => h) (Or.inl ⟨by rfl, ?_⟩) ?_ ?_
                rotate_left
                ·intro w'
                 go_simp
                 with_reducible rfl
                rotate_left
                ·simp only [Act.put, zs1, zs2, zs3, i64_w, i32_w]
                 rfl
                refine pure_ (i := 4) (N := some 170) (v := ?_) (a' := ?_) #[true, true, false, true, true, false, false, false] rfl rfl (any_of HT_.out (by kernel_rfl)) (fun _ _ _ h => h) (Or.inl ⟨by rfl, ?_⟩) ?_ ?_
                rotate_left
                ·intro w'
                 go_simp
                 with_reducible rfl
                rotate_left
                ·simp only [Act.put, zs1, zs2, zs3, i64_w, i32_w]
                 rfl
                refine pure_ (i := 5) (N := some 171) (v := ?_) (a' := ?_) #[true, true, false, true, true, true, false, false] rfl rfl (any_of HT_.out (by kernel_rfl)) (fun _ _ _ h => h) (Or.inl ⟨by rfl, ?_⟩) ?_ ?_
                rotate_left
                ·intro w'
                 go_simp
                 with_reducible rfl
                rotate_left
                ·simp only [Act.put, zs1, zs2, zs3, i64_w, i32_w]
                 rfl
                refine take_ (i := 2) (N := some 168) (v := ?_) (a' := ?_) #[true, true, true, true, true, true, false, false] rfl rfl (take_ofW HT_.out HW_.out (by kernel_rfl)) (fun _ _ _ h => h) (Or.inl ⟨by rfl, ?_⟩) hHeld ?_ ?_
                rotate_left
                ·rintro w' ⟨s0, s1⟩
                 go_simp
                 with_reducible rfl
                rotate_left
                ·simp only [Act.put, zs1, zs2, zs3, i64_w, i32_w]
                 rfl
                refine take_ (i := 6) (N := some 172) (v := ?_) (a' := ?_) #[true, true, true, true, true, true, true, false] rfl rfl (take_ofW HT_.out HW_.out (by kernel_rfl)) (fun _ _ _ h => h) (Or.inl ⟨by rfl, ?_⟩) hHeld ?_ ?_
                rotate_left
                ·rintro w' ⟨s0, s1⟩
                 go_simp
                 with_reducible rfl
                rotate_left
                ·simp only [Act.put, zs1, zs2, zs3, i64_w, i32_w]
                 rfl
                refine pure_ (i := 7) (N := some 173) (v := ?_) (a' := ?_) #[true, true, true, true, true, true, true, true] rfl rfl (any_of HT_.out (by kernel_rfl)) (fun _ _ _ h => h) (Or.inl ⟨by rfl, ?_⟩) ?_ ?_
                rotate_left
                ·intro w'
                 go_simp
                 with_reducible rfl
                rotate_left
                ·simp only [Act.put, zs1, zs2, zs3, i64_w, i32_w]
                 rfl
                refine done_ (done_of HT_.out (by kernel_rfl)) ?_
                try go_wp2
                go_ret
                exact ⟨by first | rfl | (simp [errW_none, errW_some] <;> rfl) | (simp [*, errW_none, errW_some] <;> rfl), by (with_reducible repeat (first | apply zr1 | apply zr2 | apply zr3)); exact HO_0.out, by repeat (first | (with_reducible first | exact HB.out | apply zc1 | apply zc2 | apply zc3) | exact HB.out), by repeat (first | (with_reducible first | exact HK.out | apply Kept.alloc | apply Kept.drewN | apply Kept.drew) | exact HK.out)⟩
              ·rw [if_neg c81] at H
               exact absurd H (by simp)
             ·rw [if_neg c80] at H
              have c80b0 : ((rd l1 0) == 5) = false := beq_eq_false_iff_ne.mpr c80
              have c80b1 : ((rd l1 0) != 5) = true := bne_iff_ne.mpr c80
              simp only [Option.some.injEq, Prod.mk.injEq] at H
              obtain ⟨rfl, rfl⟩ := H
              have p127 : 0 ≤ (1 : Int) := (by omega)
              have q127 : 1 < (l1.length : Int) := of_decide_eq_true (by assumption)
              obtain ⟨ad127, e127, hx127_0⟩ := Kd.at_int (Kd.C_kept_now HR1.out HK.out) 1 p127 q127
              cases e127
              (try simp only [show (1 : Int).toNat = 1 from rfl, Nat.reduceMul, Nat.reduceEqDiff, Go.Addr.add, ↓reduceIte] at hx127_0)
              have qi127 : (1 < l1.length) = True := eq_true (by omega)
              (try rw [show ((1 : Int)).toNat = 1 from rfl] at hx127_0)
              replace p127 := eq_true p127
              replace q127 := eq_true q127
              have p128 : 0 ≤ (0 : Int) := (by omega)
              have q128 : 0 < (l1.length : Int) := of_decide_eq_true (by assumption)
              obtain ⟨ad128, e128, hx128_0⟩ := Kd.at_int (Kd.C_kept_now HR1.out HK.out) 0 p128 q128
              obtain rfl : ad127 = ad128 := (by injection e128)
              have qi128 : (0 < l1.length) = True := eq_true (by omega)
              (try rw [show ((0 : Int)).toNat = 0 from rfl] at hx128_0)
              (try rw [Addr.add_zero'] at hx128_0)
              replace p128 := eq_true p128
              replace q128 := eq_true q128
              obtain ⟨Ao90, co90, eo90⟩ := Kd.R_slice HO_0.out
              subst eo90
              have p132 : 0 ≤ ((rd l1 1) : Int) := of_decide_eq_true (by assumption)
              have q132 : (rd l1 1) < (l0.length : Int) := of_decide_eq_true (by assumption)
              obtain ⟨ad132, e132, hx132_0⟩ := Kd.at_int (Kd.R_reads' HO_0.out).2.2 (rd l1 1) p132 q132
              cases e132
              replace p132 := eq_true p132
              replace q132 := eq_true q132
              have p133 : 0 ≤ (0 : Int) := (by omega)
              have q133 : 0 < (l1.length : Int) := of_decide_eq_true (by assumption)
              obtain ⟨ad133, e133, hx133_0⟩ := Kd.at_int (Kd.C_kept_now HR1.out HK.out) 0 p133 q133
              obtain rfl : ad127 = ad133 := (by injection e133)
              have qi133 : (0 < l1.length) = True := eq_true (by omega)
              (try rw [show ((0 : Int)).toNat = 0 from rfl] at hx133_0)
              (try rw [Addr.add_zero'] at hx133_0)
              replace p133 := eq_true p133
              replace q133 := eq_true q133
              go_wp2
              go_ret
              exact ⟨by first | rfl | (simp [errW_none, errW_some] <;> rfl) | (simp [*, errW_none, errW_some] <;> rfl), by (with_reducible repeat (first | apply zr1 | apply zr2 | apply zr3)); exact HO_0.out, by repeat (first | (with_reducible first | exact HB.out | apply zc1 | apply zc2 | apply zc3) | exact HB.out), by repeat (first | (with_reducible first | exact HK.out | apply Kept.alloc | apply Kept.drewN | apply Kept.drew) | exact HK.out)⟩
        ·rw [if_neg c29] at H
         exact absurd H (by simp)
       ·rw [if_neg c28] at H
        exact absurd H (by simp)
     ·rw [if_neg c17] at H
      exact absurd H (by simp)
    ·rw [if_neg c16] at H
     exact absurd H (by simp)

end Go.Proofs.Ytpmpcaahbhdiiaa.QFnLedger
