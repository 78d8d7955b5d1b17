-- Printed for this claim by a changed copy of the kit's print (the session's own; own contracts in place of some functions).
import Derived.Test.YtdiphnkkomfmdaaQFnExactBestCutx0
import Derived.Test.YtdiphnkkomfmdaaQFnExactBestCutx3
import Derived.Test.YtdiphnkkomfmdaaQFnExactBestCutx5
namespace Go.Proofs.Ytdiphnkkomfmdaa.QFnExactBestCut
open Go.RowKit Go.Proofs.YtdiphnkkomfmdaaW.PrintWords Go.Proofs.YtdiphnkkomfmdaaW.PrintLast Go.Proofs.YtdiphnkkomfmdaaW.PrintMore
attribute [local go_sem] max2_int min2_int max_two min_two max_three min_three max_four min_four   -- for this text's walks alone
set_option linter.unusedVariables false
set_option linter.unusedSimpArgs false

/-! ### spec_l05Diagonal: function 111 -/
mutual
def spec_l05Diagonal.j0 : Nat → List (S61) → Int → Int → Int → Bool → Option (Bool)
 | 0, _, _, _, _, _ => none
 | k + 1, x0, x1, x2, x7, x34 => if x34 = true then (some false) else (if 0 ≤ x1 then (if x1 < (x0.length : Int) then (if 0 ≤ x2 then (if x2 < (x0.length : Int) then (spec_l05Diagonal.l0 k x0 x1 x2 x7 x0 (x0.length : Int) 0 ((rd_T61 x0 x1).f0) ((rd_T61 x0 x1).f1) ((rd_T61 x0 x2).f0) ((rd_T61 x0 x2).f1)) else (none)) else (none)) else (none)) else (none))
def spec_l05Diagonal.l0 : Nat → List (S61) → Int → Int → Int → List (S61) → Int → Int → Int → Int → Int → Int → Option (Bool)
 | 0, _, _, _, _, _, _, _, _, _, _, _ => none
 | k + 1, x0, x1, x2, x7, x43, x44, x45, x159000, x159001, x161000, x161001 => if x45 < x44 then (if 0 ≤ x45 then (if x45 < (x43.length : Int) then (if x7 = 0 then (none) else (if 0 ≤ (Int.tmod (wrap64 (x45 + 1)) x7) then (if (Int.tmod (wrap64 (x45 + 1)) x7) < (x0.length : Int) then ((spec_l02Meet.f x159000 x159001 x161000 x161001 ((rd_T61 x43 x45).f0) ((rd_T61 x43 x45).f1) ((rd_T61 x0 (Int.tmod (wrap64 (x45 + 1)) x7)).f0) ((rd_T61 x0 (Int.tmod (wrap64 (x45 + 1)) x7)).f1)).bind fun t169 => (if x45 = x1 then (spec_l05Diagonal.j2 k x0 x1 x2 x7 t169 x43 x44 x45 true x159000 x159001 x161000 x161001) else (if x45 = x2 then (spec_l05Diagonal.j2 k x0 x1 x2 x7 t169 x43 x44 x45 true x159000 x159001 x161000 x161001) else (if (Int.tmod (wrap64 (x45 + 1)) x7) = x1 then (spec_l05Diagonal.j2 k x0 x1 x2 x7 t169 x43 x44 x45 true x159000 x159001 x161000 x161001) else (spec_l05Diagonal.j2 k x0 x1 x2 x7 t169 x43 x44 x45 ((Int.tmod (wrap64 (x45 + 1)) x7) == x2) x159000 x159001 x161000 x161001))))) else (none)) else (none))) else (none)) else (none)) else ((spec_l05Double.f k x0).bind fun t161 => ((spec_l03Inside.f k t161 (wrap64 (x159000 + x161000)) (wrap64 (x159001 + x161001))).bind fun t164 => (some t164)))
def spec_l05Diagonal.j2 : Nat → List (S61) → Int → Int → Int → Int → List (S61) → Int → Int → Bool → Int → Int → Int → Int → Option (Bool)
 | 0, _, _, _, _, _, _, _, _, _, _, _, _, _ => none
 | k + 1, x0, x1, x2, x7, x13, x43, x44, x45, x85, x159000, x159001, x161000, x161001 => if x85 = true then (if x13 = 3 then (spec_l05Diagonal.j3 k x0 x1 x2 x7 x43 x44 x45 true x159000 x159001 x161000 x161001) else (spec_l05Diagonal.j3 k x0 x1 x2 x7 x43 x44 x45 (x13 == 2) x159000 x159001 x161000 x161001)) else (if x13 = 0 then (spec_l05Diagonal.l0 k x0 x1 x2 x7 x43 x44 (wrap64 (x45 + 1)) x159000 x159001 x161000 x161001) else (some false))
def spec_l05Diagonal.j3 : Nat → List (S61) → Int → Int → Int → List (S61) → Int → Int → Bool → Int → Int → Int → Int → Option (Bool)
 | 0, _, _, _, _, _, _, _, _, _, _, _, _ => none
 | k + 1, x0, x1, x2, x7, x43, x44, x45, x91, x159000, x159001, x161000, x161001 => if x91 = true then (some false) else (spec_l05Diagonal.l0 k x0 x1 x2 x7 x43 x44 (wrap64 (x45 + 1)) x159000 x159001 x161000 x161001)
end
def spec_l05Diagonal.f (k : Nat) (l0 : List (S61)) (a1 : Int) (a2 : Int) : Option (Bool) := if (l0.length : Int) = 0 then (none) else (if (Int.tmod (wrap64 (a1 + 1)) (l0.length : Int)) = a2 then (spec_l05Diagonal.j0 k l0 a1 a2 (l0.length : Int) true) else (if (Int.tmod (wrap64 (a2 + 1)) (l0.length : Int)) = a1 then (spec_l05Diagonal.j0 k l0 a1 a2 (l0.length : Int) true) else (spec_l05Diagonal.j0 k l0 a1 a2 (l0.length : Int) (a1 == a2))))
theorem spec_l05Diagonal.mono_l : ∀ k, (∀ y0 y1 y2 y3 y4, LeO (spec_l05Diagonal.j0 k y0 y1 y2 y3 y4) (spec_l05Diagonal.j0 (k + 1) y0 y1 y2 y3 y4)) ∧ (∀ y0 y1 y2 y3 y4 y5 y6 y7 y8 y9 y10, LeO (spec_l05Diagonal.l0 k y0 y1 y2 y3 y4 y5 y6 y7 y8 y9 y10) (spec_l05Diagonal.l0 (k + 1) y0 y1 y2 y3 y4 y5 y6 y7 y8 y9 y10)) ∧ (∀ y0 y1 y2 y3 y4 y5 y6 y7 y8 y9 y10 y11 y12, LeO (spec_l05Diagonal.j2 k y0 y1 y2 y3 y4 y5 y6 y7 y8 y9 y10 y11 y12) (spec_l05Diagonal.j2 (k + 1) y0 y1 y2 y3 y4 y5 y6 y7 y8 y9 y10 y11 y12)) ∧ (∀ y0 y1 y2 y3 y4 y5 y6 y7 y8 y9 y10 y11, LeO (spec_l05Diagonal.j3 k y0 y1 y2 y3 y4 y5 y6 y7 y8 y9 y10 y11) (spec_l05Diagonal.j3 (k + 1) y0 y1 y2 y3 y4 y5 y6 y7 y8 y9 y10 y11))
 | 0 => ⟨fun _ _ _ _ _ r h => by simp [spec_l05Diagonal.j0] at h, fun _ _ _ _ _ _ _ _ _ _ _ r h => by simp [spec_l05Diagonal.l0] at h, fun _ _ _ _ _ _ _ _ _ _ _ _ _ r h => by simp [spec_l05Diagonal.j2] at h, fun _ _ _ _ _ _ _ _ _ _ _ _ r h => by simp [spec_l05Diagonal.j3] at h⟩
 | k + 1 => by
  obtain ⟨ih0, ih1, ih2, ih3⟩ := spec_l05Diagonal.mono_l k
  refine ⟨?_, ?_, ?_, ?_⟩
  ·intro y0 y1 y2 y3 y4
   unfold spec_l05Diagonal.j0
   repeat' first
   | (with_reducible exact ih0 _ _ _ _ _)
   | (with_reducible exact ih1 _ _ _ _ _ _ _ _ _ _ _)
   | (with_reducible exact ih2 _ _ _ _ _ _ _ _ _ _ _ _ _)
   | (with_reducible exact ih3 _ _ _ _ _ _ _ _ _ _ _ _)
   | (with_reducible exact spec_l03Inside.mono _ _ _ _)
   | (with_reducible exact spec_l05Double.mono _ _)
   | (with_reducible exact LeO.refl _)
   | (with_reducible exact LeO.none _)
   | (with_reducible refine LeO.ite ?_ ?_)
   | (with_reducible refine LeO.bind ?_ (fun _ => ?_))
   | exact ih0 _ _ _ _ _
   | exact ih1 _ _ _ _ _ _ _ _ _ _ _
   | exact ih2 _ _ _ _ _ _ _ _ _ _ _ _ _
   | exact ih3 _ _ _ _ _ _ _ _ _ _ _ _
   | exact spec_l03Inside.mono _ _ _ _
   | exact spec_l05Double.mono _ _
   | exact LeO.none _
   | refine LeO.ite ?_ ?_
   | refine LeO.bind ?_ (fun _ => ?_)
  ·intro y0 y1 y2 y3 y4 y5 y6 y7 y8 y9 y10
   unfold spec_l05Diagonal.l0
   repeat' first
   | (with_reducible exact ih0 _ _ _ _ _)
   | (with_reducible exact ih1 _ _ _ _ _ _ _ _ _ _ _)
   | (with_reducible exact ih2 _ _ _ _ _ _ _ _ _ _ _ _ _)
   | (with_reducible exact ih3 _ _ _ _ _ _ _ _ _ _ _ _)
   | (with_reducible exact spec_l03Inside.mono _ _ _ _)
   | (with_reducible exact spec_l05Double.mono _ _)
   | (with_reducible exact LeO.refl _)
   | (with_reducible exact LeO.none _)
   | (with_reducible refine LeO.ite ?_ ?_)
   | (with_reducible refine LeO.bind ?_ (fun _ => ?_))
   | exact ih0 _ _ _ _ _
   | exact ih1 _ _ _ _ _ _ _ _ _ _ _
   | exact ih2 _ _ _ _ _ _ _ _ _ _ _ _ _
   | exact ih3 _ _ _ _ _ _ _ _ _ _ _ _
   | exact spec_l03Inside.mono _ _ _ _
   | exact spec_l05Double.mono _ _
   | exact LeO.none _
   | refine LeO.ite ?_ ?_
   | refine LeO.bind ?_ (fun _ => ?_)
  ·intro y0 y1 y2 y3 y4 y5 y6 y7 y8 y9 y10 y11 y12
   unfold spec_l05Diagonal.j2
   repeat' first
   | (with_reducible exact ih0 _ _ _ _ _)
   | (with_reducible exact ih1 _ _ _ _ _ _ _ _ _ _ _)
   | (with_reducible exact ih2 _ _ _ _ _ _ _ _ _ _ _ _ _)
   | (with_reducible exact ih3 _ _ _ _ _ _ _ _ _ _ _ _)
   | (with_reducible exact spec_l03Inside.mono _ _ _ _)
   | (with_reducible exact spec_l05Double.mono _ _)
   | (with_reducible exact LeO.refl _)
   | (with_reducible exact LeO.none _)
   | (with_reducible refine LeO.ite ?_ ?_)
   | (with_reducible refine LeO.bind ?_ (fun _ => ?_))
   | exact ih0 _ _ _ _ _
   | exact ih1 _ _ _ _ _ _ _ _ _ _ _
   | exact ih2 _ _ _ _ _ _ _ _ _ _ _ _ _
   | exact ih3 _ _ _ _ _ _ _ _ _ _ _ _
   | exact spec_l03Inside.mono _ _ _ _
   | exact spec_l05Double.mono _ _
   | exact LeO.none _
   | refine LeO.ite ?_ ?_
   | refine LeO.bind ?_ (fun _ => ?_)
  ·intro y0 y1 y2 y3 y4 y5 y6 y7 y8 y9 y10 y11
   unfold spec_l05Diagonal.j3
   repeat' first
   | (with_reducible exact ih0 _ _ _ _ _)
   | (with_reducible exact ih1 _ _ _ _ _ _ _ _ _ _ _)
   | (with_reducible exact ih2 _ _ _ _ _ _ _ _ _ _ _ _ _)
   | (with_reducible exact ih3 _ _ _ _ _ _ _ _ _ _ _ _)
   | (with_reducible exact spec_l03Inside.mono _ _ _ _)
   | (with_reducible exact spec_l05Double.mono _ _)
   | (with_reducible exact LeO.refl _)
   | (with_reducible exact LeO.none _)
   | (with_reducible refine LeO.ite ?_ ?_)
   | (with_reducible refine LeO.bind ?_ (fun _ => ?_))
   | exact ih0 _ _ _ _ _
   | exact ih1 _ _ _ _ _ _ _ _ _ _ _
   | exact ih2 _ _ _ _ _ _ _ _ _ _ _ _ _
   | exact ih3 _ _ _ _ _ _ _ _ _ _ _ _
   | exact spec_l03Inside.mono _ _ _ _
   | exact spec_l05Double.mono _ _
   | exact LeO.none _
   | refine LeO.ite ?_ ?_
   | refine LeO.bind ?_ (fun _ => ?_)
theorem spec_l05Diagonal.mono : ∀ a0 a1 a2 k, LeO (spec_l05Diagonal.f k a0 a1 a2) (spec_l05Diagonal.f (k + 1) a0 a1 a2) := by
 intro a0 a1 a2 k
 obtain ⟨ih0, ih1, ih2, ih3⟩ := spec_l05Diagonal.mono_l k
 unfold spec_l05Diagonal.f
 repeat' first
   | (with_reducible exact ih0 _ _ _ _ _)
   | (with_reducible exact ih1 _ _ _ _ _ _ _ _ _ _ _)
   | (with_reducible exact ih2 _ _ _ _ _ _ _ _ _ _ _ _ _)
   | (with_reducible exact ih3 _ _ _ _ _ _ _ _ _ _ _ _)
   | (with_reducible exact spec_l03Inside.mono _ _ _ _)
   | (with_reducible exact spec_l05Double.mono _ _)
   | (with_reducible exact LeO.refl _)
   | (with_reducible exact LeO.none _)
   | (with_reducible refine LeO.ite ?_ ?_)
   | (with_reducible refine LeO.bind ?_ (fun _ => ?_))
   | exact ih0 _ _ _ _ _
   | exact ih1 _ _ _ _ _ _ _ _ _ _ _
   | exact ih2 _ _ _ _ _ _ _ _ _ _ _ _ _
   | exact ih3 _ _ _ _ _ _ _ _ _ _ _ _
   | exact spec_l03Inside.mono _ _ _ _
   | exact spec_l05Double.mono _ _
   | exact LeO.none _
   | refine LeO.ite ?_ ?_
   | refine LeO.bind ?_ (fun _ => ?_)
def spec_l05Diagonal.T17 : Bool × List (List Nat × List Nat) := (true, [([], []), ([0], [0]), ([], []), ([2], [2]), ([], []), ([4], [4]), ([3, 5], [3, 5]), ([], []), ([7], [7]), ([], []), ([9], [9]), ([8, 10], [8, 10]), ([6, 11], [6, 11]), ([1, 12, 1], [1, 12]), ([13, 13, 0, 1, 2, 3, 4, 5, 6, 7, 8, 9, 10, 11, 12, 13], [13])])
def spec_l05Diagonal.B17 : List Nat := [0, 1, 0, 4, 0, 16, 60, 0, 128, 0, 512, 1920, 4092, 8191, 16383]
theorem spec_l05Diagonal.tab17 : rtab .any (opsOf Try.f111 17) = spec_l05Diagonal.T17 := by kernel_rfl
theorem spec_l05Diagonal.bits17 : waitsOk spec_l05Diagonal.T17.2 spec_l05Diagonal.B17 = true := by kernel_rfl
set_option maxHeartbeats 8000000 in
set_option maxRecDepth 100000 in
theorem spec_l05Diagonal.calls (k : Nat) (A0 : Option Addr) (c0 : Nat) (l0 : List (S61)) (a1 : Int) (a2 : Int) (r : Bool) (w : World) (hr0 : Kd.C k61 w A0 l0.length l0) (hc0 : l0.length ≤ c0) (h : spec_l05Diagonal.f k l0 a1 a2 = some r) :
  Calls Try.prog 111 #[.slice A0 l0.length c0, .int .i64 a1, .int .i64 a2] w fun e w' => e = .returned (.bool r) ∧ Below w.heap.size w w' := by
 have hu61 := Try.underlying61
 have HR0 := zm1 hr0
 have HC0 := zm1 hc0
 clear hr0 hc0
 have HB := zm1 (Below.refl w.heap.size w)
 have H : (if (l0.length : Int) = 0 then (none) else (if (Int.tmod (wrap64 (a1 + 1)) (l0.length : Int)) = a2 then (spec_l05Diagonal.j0 k l0 a1 a2 (l0.length : Int) true) else (if (Int.tmod (wrap64 (a2 + 1)) (l0.length : Int)) = a1 then (spec_l05Diagonal.j0 k l0 a1 a2 (l0.length : Int) true) else (spec_l05Diagonal.j0 k l0 a1 a2 (l0.length : Int) (a1 == a2))))) = some r := h
 clear h
 have HC4 := zm1 H
 clear H
 go_enter Try.func111, Try.ntmps111
 go_upto_region 2 with (fail)
 go_cut [34] (fun v34 wc => ∃ (kq : Nat) (x34_3 : Bool), v34 = .bool x34_3 ∧ Aside0 (spec_l05Diagonal.j0 kq l0 a1 a2 (l0.length : Int) x34_3 = some r) ∧ Aside0 (kq ≤ k) ∧ Aside0 (Below w.heap.size w wc))
 case first =>
  have H := HC4.out
  clear HC4
  by_cases c5 : (l0.length : Int) = 0
  ·rw [if_pos c5] at H
   exact absurd H (by simp)
  ·rw [if_neg c5] at H
   have c5b0 : ((l0.length : Int) == 0) = false := beq_eq_false_iff_ne.mpr c5
   have c5b1 : ((l0.length : Int) != 0) = true := bne_iff_ne.mpr c5
   have c5b2 : ¬ (l0 = []) := fun h_ => c5 (by rw [h_]; rfl)
   (first | rw [c5b0] | (simp only [i64_w, i32_w]; rw [c5b0]) | skip)
   by_cases c6 : (Int.tmod (wrap64 (a1 + 1)) (l0.length : Int)) = a2
   ·rw [if_pos c6] at H
    have c6b0 : ((Int.tmod (wrap64 (a1 + 1)) (l0.length : Int)) == a2) = true := beq_iff_eq.mpr c6
    have c6b1 : ((Int.tmod (wrap64 (a1 + 1)) (l0.length : Int)) != a2) = false := bne_eq_false_iff_eq.mpr c6
    clear c6
    have H' := zm1 H
    clear H
    go_wp2
    go_meet
    case rel => exact ⟨_, (true), (by first | rfl | (simp; done) | (simp [*]; done)), H', ⟨by first | omega | exact Nat.le_refl _⟩, ⟨by repeat (first | (with_reducible first | exact HB.out | apply zc1 | apply zc2 | apply zc3) | exact HB.out)⟩⟩
   ·rw [if_neg c6] at H
    have c6b0 : ((Int.tmod (wrap64 (a1 + 1)) (l0.length : Int)) == a2) = false := beq_eq_false_iff_ne.mpr c6
    have c6b1 : ((Int.tmod (wrap64 (a1 + 1)) (l0.length : Int)) != a2) = true := bne_iff_ne.mpr c6
    by_cases c7 : (Int.tmod (wrap64 (a2 + 1)) (l0.length : Int)) = a1
    ·rw [if_pos c7] at H
     have c7b0 : ((Int.tmod (wrap64 (a2 + 1)) (l0.length : Int)) == a1) = true := beq_iff_eq.mpr c7
     have c7b1 : ((Int.tmod (wrap64 (a2 + 1)) (l0.length : Int)) != a1) = false := bne_eq_false_iff_eq.mpr c7
     clear c7
     have H' := zm1 H
     clear H
     go_wp2
     go_meet
     case rel => exact ⟨_, (true), (by first | rfl | (simp; done) | (simp [*]; done)), H', ⟨by first | omega | exact Nat.le_refl _⟩, ⟨by repeat (first | (with_reducible first | exact HB.out | apply zc1 | apply zc2 | apply zc3) | exact HB.out)⟩⟩
    ·rw [if_neg c7] at H
     have c7b0 : ((Int.tmod (wrap64 (a2 + 1)) (l0.length : Int)) == a1) = false := beq_eq_false_iff_ne.mpr c7
     have c7b1 : ((Int.tmod (wrap64 (a2 + 1)) (l0.length : Int)) != a1) = true := bne_iff_ne.mpr c7
     have H' := zm1 H
     clear H
     go_wp2
     go_meet
     case rel => exact ⟨_, ((a1 == a2)), (by first | rfl | (simp; done) | (simp [*]; done)), H', ⟨by first | omega | exact Nat.le_refl _⟩, ⟨by repeat (first | (with_reducible first | exact HB.out | apply zc1 | apply zc2 | apply zc3) | exact HB.out)⟩⟩
 case rest =>
  clear HC4
  try clear c1
  try clear p2
  try clear c5
  try clear c5b0
  try clear c5b1
  try clear c5b2
  try clear c6
  try clear c6b0
  try clear c6b1
  try clear p6
  try clear c7
  try clear c7b0
  try clear c7b1
  obtain ⟨kq, x34_3, rfl, HA, HJ3, HB⟩ := hcut
  cases kq with
  | zero => exact absurd HA.out (by simp [spec_l05Diagonal.j0])
  | succ kj3 =>
   have H := HA.out
   clear HA
   simp only [spec_l05Diagonal.j0] at H
   by_cases c8 : x34_3 = true
   ·subst c8
    have H1 : (some false) = some r := by rw [if_pos rfl] at H; exact H
    clear H
    have H := H1
    clear H1
    obtain rfl := Option.some.inj H
    go_wp2
    go_ret
    exact ⟨by first | rfl | (simp [errW_none, errW_some] <;> rfl) | (simp [*, errW_none, errW_some] <;> rfl), by repeat (first | (with_reducible first | exact HB.out | apply zc1 | apply zc2 | apply zc3) | exact HB.out)⟩
   ·replace c8 := Bool.eq_false_iff.mpr c8
    subst c8
    have H1 : (if 0 ≤ a1 then (if a1 < (l0.length : Int) then (if 0 ≤ a2 then (if a2 < (l0.length : Int) then (spec_l05Diagonal.l0 kj3 l0 a1 a2 (l0.length : Int) l0 (l0.length : Int) 0 ((rd_T61 l0 a1).f0) ((rd_T61 l0 a1).f1) ((rd_T61 l0 a2).f0) ((rd_T61 l0 a2).f1)) else (none)) else (none)) else (none)) else (none)) = some r := by rw [if_neg (show ¬ (false = true) by decide)] at H; exact H
    clear H
    have H := H1
    clear H1
    by_cases c9 : 0 ≤ a1
    ·rw [if_pos c9] at H
     have c9b0 : decide (0 ≤ a1) = true := decide_eq_true c9
     clear c9
     by_cases c10 : a1 < (l0.length : Int)
     ·rw [if_pos c10] at H
      have c10b0 : decide (a1 < (l0.length : Int)) = true := decide_eq_true c10
      clear c10
      by_cases c11 : 0 ≤ a2
      ·rw [if_pos c11] at H
       have c11b0 : decide (0 ≤ a2) = true := decide_eq_true c11
       clear c11
       by_cases c12 : a2 < (l0.length : Int)
       ·rw [if_pos c12] at H
        have c12b0 : decide (a2 < (l0.length : Int)) = true := decide_eq_true c12
        clear c12
        have H' := zm1 H
        clear H
        have p157 : 0 ≤ (a1 : Int) := of_decide_eq_true (by assumption)
        have q157 : a1 < (l0.length : Int) := of_decide_eq_true (by assumption)
        obtain ⟨ad157, e157, hx157_0, hx157_1⟩ := at_T61 HR0.out a1 p157 q157
        cases e157
        (try replace hx157_0 := (HB.out.cell (zl hx157_0)).trans hx157_0)
        (try replace hx157_1 := (HB.out.cell (zl hx157_1)).trans hx157_1)
        replace p157 := eq_true p157
        replace q157 := eq_true q157
        go_wp2_with (first | ((with_reducible refine gate_dst (N := 8) rfl ?_); refine box_event ?hg (N := 8) ?hd (cs := #[.int .i64 0, .int .i64 0]) (t := 61) ?hr ?_; (case hd => rfl); (case hg => rfl); (case hr => first | (go_simp; done) | (go_simp; rfl)); intro gb158 hg w13 hbox hb; have n0_ := zm1 (zc6 (by repeat (first | (with_reducible first | exact HB.out | apply zc1 | apply zc2 | apply zc3) | exact HB.out)) hb); have n1_ := zm1 (hbox); have n2_ := zm1 ((by rw [hg]; exact (zc5 (by repeat (first | (with_reducible first | exact HB.out | apply zc1 | apply zc2 | apply zc3) | exact HB.out))) : w.heap.size ≤ gb158)); have n3_ := zm1 ((by rw [hg]; exact (zc5 (by repeat (first | (with_reducible first | exact HB.out | apply zc1 | apply zc2 | apply zc3) | exact HB.out))) : w.heap.size ≤ gb158)); clear HB; have HB := n0_; have BK158 := n1_; have GW158 := n2_; have GE158 := n3_; clear n0_ n1_ n2_ n3_; clear hb hbox hg; have hcz14_0 : w13.cell? ⟨gb158, 0, none⟩ = some (.int .i64 0) := (blk_cell BK158.out 0).trans rfl; have hcz14_1 : w13.cell? ⟨gb158, 1, none⟩ = some (.int .i64 0) := (blk_cell BK158.out 1).trans rfl; have hfz14_0 := blk_frozen BK158.out 0; have hfz14_1 := blk_frozen BK158.out 1; have p159 : 0 ≤ (a2 : Int) := of_decide_eq_true (by assumption); have q159 : a2 < (l0.length : Int) := of_decide_eq_true (by assumption); obtain ⟨ad159, e159, hx159_0, hx159_1⟩ := at_T61 HR0.out a2 p159 q159; obtain rfl : ad157 = ad159 := (by injection e159); have hn159_0 : ad157.block ≠ gb158 := Nat.ne_of_lt (Nat.lt_of_lt_of_le (by have := zl hx159_0; first | rwa [add_block] at this | exact this) GW158.out); have hn159_1 : ad157.block ≠ gb158 := Nat.ne_of_lt (Nat.lt_of_lt_of_le (by have := zl hx159_0; first | rwa [add_block] at this | exact this) GW158.out); (try replace hx159_0 := (HB.out.cell (zl hx159_0)).trans hx159_0); (try replace hx159_1 := (HB.out.cell (zl hx159_1)).trans hx159_1); replace hx159_0 := (cell_far (p := ⟨gb158, 0, none⟩) (by first | (rw [add_block]; exact hn159_0) | (show (Addr.add _ _).block ≠ _; rw [add_block]; exact hn159_0) | exact hn159_0) (.int .i64 ((rd_T61 l0 a1).f0))).trans hx159_0; replace hx159_1 := (cell_far (p := ⟨gb158, 0, none⟩) (by first | (rw [add_block]; exact hn159_0) | (show (Addr.add _ _).block ≠ _; rw [add_block]; exact hn159_0) | exact hn159_0) (.int .i64 ((rd_T61 l0 a1).f0))).trans hx159_1; replace hx159_0 := (cell_far (p := ⟨gb158, 1, none⟩) (by first | (rw [add_block]; exact hn159_1) | (show (Addr.add _ _).block ≠ _; rw [add_block]; exact hn159_1) | exact hn159_1) (.int .i64 ((rd_T61 l0 a1).f1))).trans hx159_0; replace hx159_1 := (cell_far (p := ⟨gb158, 1, none⟩) (by first | (rw [add_block]; exact hn159_1) | (show (Addr.add _ _).block ≠ _; rw [add_block]; exact hn159_1) | exact hn159_1) (.int .i64 ((rd_T61 l0 a1).f1))).trans hx159_1; clear hn159_0; clear hn159_1; replace p159 := eq_true p159; replace q159 := eq_true q159) | ((with_reducible refine gate_dst (N := 9) rfl ?_); refine box_event ?hg (N := 9) ?hd (cs := #[.int .i64 0, .int .i64 0]) (t := 61) ?hr ?_; (case hd => rfl); (case hg => rfl); (case hr => first | (go_simp; done) | (go_simp; rfl)); intro gb160 hg w15 hbox hb; have n0_ := zm1 (zd1 (o := .cells #[.int .i64 ((rd_T61 l0 a1).f0), .int .i64 ((rd_T61 l0 a1).f1)] 61 (0, 0)) (by (with_reducible repeat (first | apply zb1 | apply zb2 | apply zb3)); refine blk_put (cs := #[.int .i64 ((rd_T61 l0 a1).f0), .int .i64 0]) ?_ 1 _ rfl; (with_reducible repeat (first | apply zb1 | apply zb2 | apply zb3)); refine blk_put (cs := #[.int .i64 0, .int .i64 0]) ?_ 0 _ rfl; (with_reducible repeat (first | apply zb1 | apply zb2 | apply zb3)); exact BK158.out) hb); have n1_ := zm1 (zc6 (by repeat (first | (with_reducible first | exact HB.out | apply zc1 | apply zc2 | apply zc3 | refine zc4 ?_ GE158.out) | exact HB.out)) hb); have n2_ := zm1 (hbox); have n3_ := zm1 ((by rw [hg]; exact (zc5 (by repeat (first | (with_reducible first | exact HB.out | apply zc1 | apply zc2 | apply zc3 | refine zc4 ?_ GE158.out) | exact HB.out))) : w.heap.size ≤ gb160)); have n4_ := zm1 ((by rw [hg]; exact (zc5 (by repeat (first | (with_reducible first | exact HB.out | apply zc1 | apply zc2 | apply zc3 | refine zc4 ?_ GE158.out) | exact HB.out))) : w.heap.size ≤ gb160)); have n5_ := zm1 ((by rw [hg]; exact Nat.ne_of_lt (zd2 (o := .cells #[.int .i64 ((rd_T61 l0 a1).f0), .int .i64 ((rd_T61 l0 a1).f1)] 61 (0, 0)) (by (with_reducible repeat (first | apply zb1 | apply zb2 | apply zb3)); refine blk_put (cs := #[.int .i64 ((rd_T61 l0 a1).f0), .int .i64 0]) ?_ 1 _ rfl; (with_reducible repeat (first | apply zb1 | apply zb2 | apply zb3)); refine blk_put (cs := #[.int .i64 0, .int .i64 0]) ?_ 0 _ rfl; (with_reducible repeat (first | apply zb1 | apply zb2 | apply zb3)); exact BK158.out)) : gb158 ≠ gb160)); have n6_ := zm1 ((by rw [hg]; exact Nat.ne_of_gt (zd2 (o := .cells #[.int .i64 ((rd_T61 l0 a1).f0), .int .i64 ((rd_T61 l0 a1).f1)] 61 (0, 0)) (by (with_reducible repeat (first | apply zb1 | apply zb2 | apply zb3)); refine blk_put (cs := #[.int .i64 ((rd_T61 l0 a1).f0), .int .i64 0]) ?_ 1 _ rfl; (with_reducible repeat (first | apply zb1 | apply zb2 | apply zb3)); refine blk_put (cs := #[.int .i64 0, .int .i64 0]) ?_ 0 _ rfl; (with_reducible repeat (first | apply zb1 | apply zb2 | apply zb3)); exact BK158.out)) : gb160 ≠ gb158)); clear BK158; clear HB; have BK158 := n0_; have HB := n1_; have BK160 := n2_; have GW160 := n3_; have GE160 := n4_; have NB158_160 := n5_; have NB160_158 := n6_; clear n0_ n1_ n2_ n3_ n4_ n5_ n6_; clear hb hbox hg; have hnb16 := NB160_158.out; have hnc16 := NB158_160.out; have hcz17_0 : w15.cell? ⟨gb160, 0, none⟩ = some (.int .i64 0) := (blk_cell BK160.out 0).trans rfl; have hcz17_1 : w15.cell? ⟨gb160, 1, none⟩ = some (.int .i64 0) := (blk_cell BK160.out 1).trans rfl; have hfz17_0 := blk_frozen BK160.out 0; have hfz17_1 := blk_frozen BK160.out 1))
        go_loopg [45] kj3 (fun kq v45 w' => ∃ (x45_2 : Int), v45 = .int .i64 x45_2 ∧ Aside0 (spec_l05Diagonal.l0 kq l0 a1 a2 (l0.length : Int) l0 (l0.length : Int) x45_2 ((rd_T61 l0 a1).f0) ((rd_T61 l0 a1).f1) ((rd_T61 l0 a2).f0) ((rd_T61 l0 a2).f1) = some r) ∧ Aside0 (kq ≤ kj3) ∧ Aside0 (w'.heap[gb158]? = some (.cells #[.int .i64 ((rd_T61 l0 a1).f0), .int .i64 ((rd_T61 l0 a1).f1)] 61 (0, 0))) ∧ Aside0 (w'.heap[gb160]? = some (.cells #[.int .i64 ((rd_T61 l0 a2).f0), .int .i64 ((rd_T61 l0 a2).f1)] 61 (0, 0))) ∧ Aside0 (Below w.heap.size w w'))
        case atStart => exact ⟨(0), (by first | rfl | (simp; done) | (simp [*]; done)), H', ⟨Nat.le_refl _⟩, ⟨by (with_reducible repeat (first | apply zb1 | apply zb2 | apply zb3)); refine blk_far ?_ NB158_160.out _; (with_reducible repeat (first | apply zb1 | apply zb2 | apply zb3)); refine blk_far ?_ NB158_160.out _; (with_reducible repeat (first | apply zb1 | apply zb2 | apply zb3)); exact BK158.out⟩, ⟨by (with_reducible repeat (first | apply zb1 | apply zb2 | apply zb3)); refine blk_put (cs := #[.int .i64 ((rd_T61 l0 a2).f0), .int .i64 0]) ?_ 1 _ rfl; (with_reducible repeat (first | apply zb1 | apply zb2 | apply zb3)); refine blk_put (cs := #[.int .i64 0, .int .i64 0]) ?_ 0 _ rfl; (with_reducible repeat (first | apply zb1 | apply zb2 | apply zb3)); exact BK160.out⟩, ⟨by repeat (first | (with_reducible first | exact HB.out | apply zc1 | apply zc2 | apply zc3 | refine zc4 ?_ GE158.out | refine zc4 ?_ GE160.out) | exact HB.out)⟩⟩
        case round =>
         clear H'
         try clear c1
         try clear p1
         try clear q1
         try clear hx1
         try clear p2
         try clear c5
         try clear c5b0
         try clear c5b1
         try clear c5b2
         try clear c6
         try clear c6b0
         try clear c6b1
         try clear p6
         try clear c7
         try clear c7b0
         try clear c7b1
         try clear c8
         try clear c9
         try clear c9b0
         try clear c10
         try clear c10b0
         try clear c11
         try clear c11b0
         try clear c12
         try clear c12b0
         try clear p15
         try clear q15
         try clear hx15
         try clear c16
         try clear hcz14_0
         try clear hcz14_1
         try clear hcz17_0
         try clear hcz17_1
         try clear hfz14_0
         try clear hfz14_1
         try clear hfz17_0
         try clear hfz17_1
         try clear hx157_0
         try clear hx157_1
         try clear hx159_0
         try clear hx159_1
         try clear p157
         try clear p159
         try clear p2
         try clear p6
         try clear q157
         try clear q159
         obtain ⟨x45_2, rfl, HA, HK2, BK158, BK160, HB⟩ := hrel
         cases gk with
         | zero => exact absurd HA.out (by simp [spec_l05Diagonal.l0])
         | succ k2 =>
          have H := HA.out
          clear HA
          simp only [spec_l05Diagonal.l0] at H
          by_cases c18 : x45_2 < (l0.length : Int)
          ·rw [if_pos c18] at H
           have c18b0 : decide (x45_2 < (l0.length : Int)) = true := decide_eq_true c18
           clear c18
           by_cases c19 : 0 ≤ x45_2
           ·rw [if_pos c19] at H
            have c19b0 : decide (0 ≤ x45_2) = true := decide_eq_true c19
            clear c19
            by_cases c20 : x45_2 < (l0.length : Int)
            ·rw [if_pos c20] at H
             have c20b0 : decide (x45_2 < (l0.length : Int)) = true := decide_eq_true c20
             clear c20
             by_cases c21 : (l0.length : Int) = 0
             ·rw [if_pos c21] at H
              exact absurd H (by simp)
             ·rw [if_neg c21] at H
              have c21b0 : ((l0.length : Int) == 0) = false := beq_eq_false_iff_ne.mpr c21
              have c21b1 : ((l0.length : Int) != 0) = true := bne_iff_ne.mpr c21
              have c21b2 : ¬ (l0 = []) := fun h_ => c21 (by rw [h_]; rfl)
              obtain ⟨ji22, hji22⟩ : ∃ j_ : Int, (Int.tmod (wrap64 (x45_2 + 1)) (l0.length : Int)) = j_ := ⟨_, rfl⟩
              replace H : (if 0 ≤ (ji22) then (if (ji22) < (l0.length : Int) then ((spec_l02Meet.f ((rd_T61 l0 a1).f0) ((rd_T61 l0 a1).f1) ((rd_T61 l0 a2).f0) ((rd_T61 l0 a2).f1) ((rd_T61 l0 x45_2).f0) ((rd_T61 l0 x45_2).f1) ((rd_T61 l0 (ji22)).f0) ((rd_T61 l0 (ji22)).f1)).bind fun t169 => (if x45_2 = a1 then (spec_l05Diagonal.j2 k2 l0 a1 a2 (l0.length : Int) t169 l0 (l0.length : Int) x45_2 true ((rd_T61 l0 a1).f0) ((rd_T61 l0 a1).f1) ((rd_T61 l0 a2).f0) ((rd_T61 l0 a2).f1)) else (if x45_2 = a2 then (spec_l05Diagonal.j2 k2 l0 a1 a2 (l0.length : Int) t169 l0 (l0.length : Int) x45_2 true ((rd_T61 l0 a1).f0) ((rd_T61 l0 a1).f1) ((rd_T61 l0 a2).f0) ((rd_T61 l0 a2).f1)) else (if (ji22) = a1 then (spec_l05Diagonal.j2 k2 l0 a1 a2 (l0.length : Int) t169 l0 (l0.length : Int) x45_2 true ((rd_T61 l0 a1).f0) ((rd_T61 l0 a1).f1) ((rd_T61 l0 a2).f0) ((rd_T61 l0 a2).f1)) else (spec_l05Diagonal.j2 k2 l0 a1 a2 (l0.length : Int) t169 l0 (l0.length : Int) x45_2 ((ji22) == a2) ((rd_T61 l0 a1).f0) ((rd_T61 l0 a1).f1) ((rd_T61 l0 a2).f0) ((rd_T61 l0 a2).f1)))))) else (none)) else (none)) = some r := by first | (rw [hji22] at H; exact H) | (simp only [hji22] at H ⊢; exact H)
              by_cases c23 : 0 ≤ (ji22)
              ·rw [if_pos c23] at H
               have c23b0 : decide (0 ≤ (ji22)) = true := decide_eq_true c23
               clear c23
               by_cases c24 : (ji22) < (l0.length : Int)
               ·rw [if_pos c24] at H
                have c24b0 : decide ((ji22) < (l0.length : Int)) = true := decide_eq_true c24
                clear c24
                replace H := Option.bind_eq_some_iff.mp H
                obtain ⟨t169, A250, H⟩ := H
                replace H : (if x45_2 = a1 then (spec_l05Diagonal.j2 k2 l0 a1 a2 (l0.length : Int) t169 l0 (l0.length : Int) x45_2 true ((rd_T61 l0 a1).f0) ((rd_T61 l0 a1).f1) ((rd_T61 l0 a2).f0) ((rd_T61 l0 a2).f1)) else (if x45_2 = a2 then (spec_l05Diagonal.j2 k2 l0 a1 a2 (l0.length : Int) t169 l0 (l0.length : Int) x45_2 true ((rd_T61 l0 a1).f0) ((rd_T61 l0 a1).f1) ((rd_T61 l0 a2).f0) ((rd_T61 l0 a2).f1)) else (if (ji22) = a1 then (spec_l05Diagonal.j2 k2 l0 a1 a2 (l0.length : Int) t169 l0 (l0.length : Int) x45_2 true ((rd_T61 l0 a1).f0) ((rd_T61 l0 a1).f1) ((rd_T61 l0 a2).f0) ((rd_T61 l0 a2).f1)) else (spec_l05Diagonal.j2 k2 l0 a1 a2 (l0.length : Int) t169 l0 (l0.length : Int) x45_2 ((ji22) == a2) ((rd_T61 l0 a1).f0) ((rd_T61 l0 a1).f1) ((rd_T61 l0 a2).f0) ((rd_T61 l0 a2).f1))))) = some r := H
                have A25 := zm1 A250
                clear A250
                have HC26 := zm1 H
                clear H
                have p165 : 0 ≤ (x45_2 : Int) := of_decide_eq_true (by assumption)
                have q165 : x45_2 < (l0.length : Int) := of_decide_eq_true (by assumption)
                obtain ⟨ad165, e165, hx165_0, hx165_1⟩ := at_T61 HR0.out x45_2 p165 q165
                obtain rfl : ad157 = ad165 := (by injection e165)
                (try replace hx165_0 := (HB.out.cell (zl hx165_0)).trans hx165_0)
                (try replace hx165_1 := (HB.out.cell (zl hx165_1)).trans hx165_1)
                replace p165 := eq_true p165
                replace q165 := eq_true q165
                go_upto_region 11 with (first | ((with_reducible refine gate_dst (N := 11) rfl ?_); refine box_event ?hg (N := 11) ?hd (cs := #[.int .i64 0, .int .i64 0]) (t := 61) ?hr ?_; (case hd => rfl); (case hg => rfl); (case hr => first | (go_simp; done) | (go_simp; rfl)); intro gb166 hg w27 hbox hb; have n0_ := zm1 (zd1 (zb4 BK158.out) hb); have n1_ := zm1 (zd1 (zb4 BK160.out) hb); have n2_ := zm1 (zc6 (by repeat (first | (with_reducible first | exact HB.out | apply zc1 | apply zc2 | apply zc3 | refine zc4 ?_ GE158.out | refine zc4 ?_ GE160.out) | exact HB.out)) hb); have n3_ := zm1 (hbox); have n4_ := zm1 ((by rw [hg]; exact (zc5 (by repeat (first | (with_reducible first | exact HB.out | apply zc1 | apply zc2 | apply zc3 | refine zc4 ?_ GE158.out | refine zc4 ?_ GE160.out) | exact HB.out))) : w.heap.size ≤ gb166)); have n5_ := zm1 ((by rw [hg]; exact (zc5 (by repeat (first | (with_reducible first | exact HB.out | apply zc1 | apply zc2 | apply zc3 | refine zc4 ?_ GE158.out | refine zc4 ?_ GE160.out) | exact HB.out))) : w.heap.size ≤ gb166)); have n6_ := zm1 ((by rw [hg]; exact Nat.ne_of_lt (zd2 (zb4 BK158.out)) : gb158 ≠ gb166)); have n7_ := zm1 ((by rw [hg]; exact Nat.ne_of_gt (zd2 (zb4 BK158.out)) : gb166 ≠ gb158)); have n8_ := zm1 ((by rw [hg]; exact Nat.ne_of_lt (zd2 (zb4 BK160.out)) : gb160 ≠ gb166)); have n9_ := zm1 ((by rw [hg]; exact Nat.ne_of_gt (zd2 (zb4 BK160.out)) : gb166 ≠ gb160)); clear BK158; clear BK160; clear HB; have BK158 := n0_; have BK160 := n1_; have HB := n2_; have BK166 := n3_; have GW166 := n4_; have GE166 := n5_; have NB158_166 := n6_; have NB166_158 := n7_; have NB160_166 := n8_; have NB166_160 := n9_; clear n0_ n1_ n2_ n3_ n4_ n5_ n6_ n7_ n8_ n9_; clear hb hbox hg; have hnb28 := NB166_158.out; have hnc28 := NB158_166.out; have hnb29 := NB166_160.out; have hnc29 := NB160_166.out; have hcz30_0 : w27.cell? ⟨gb166, 0, none⟩ = some (.int .i64 0) := (blk_cell BK166.out 0).trans rfl; have hcz30_1 : w27.cell? ⟨gb166, 1, none⟩ = some (.int .i64 0) := (blk_cell BK166.out 1).trans rfl; have hfz30_0 := blk_frozen BK166.out 0; have hfz30_1 := blk_frozen BK166.out 1; have p167 : 0 ≤ ((ji22) : Int) := of_decide_eq_true (by assumption); have q167 : (ji22) < (l0.length : Int) := of_decide_eq_true (by assumption); obtain ⟨ad167, e167, hx167_0, hx167_1⟩ := at_T61 HR0.out (ji22) p167 q167; obtain rfl : ad157 = ad167 := (by injection e167); have hn167_0 : ad157.block ≠ gb166 := Nat.ne_of_lt (Nat.lt_of_lt_of_le (by have := zl hx167_0; first | rwa [add_block] at this | exact this) GW166.out); have hn167_1 : ad157.block ≠ gb166 := Nat.ne_of_lt (Nat.lt_of_lt_of_le (by have := zl hx167_0; first | rwa [add_block] at this | exact this) GW166.out); (try replace hx167_0 := (HB.out.cell (zl hx167_0)).trans hx167_0); (try replace hx167_1 := (HB.out.cell (zl hx167_1)).trans hx167_1); replace hx167_0 := (cell_far (p := ⟨gb166, 0, none⟩) (by first | (rw [add_block]; exact hn167_0) | (show (Addr.add _ _).block ≠ _; rw [add_block]; exact hn167_0) | exact hn167_0) (.int .i64 ((rd_T61 l0 x45_2).f0))).trans hx167_0; replace hx167_1 := (cell_far (p := ⟨gb166, 0, none⟩) (by first | (rw [add_block]; exact hn167_0) | (show (Addr.add _ _).block ≠ _; rw [add_block]; exact hn167_0) | exact hn167_0) (.int .i64 ((rd_T61 l0 x45_2).f0))).trans hx167_1; replace hx167_0 := (cell_far (p := ⟨gb166, 1, none⟩) (by first | (rw [add_block]; exact hn167_1) | (show (Addr.add _ _).block ≠ _; rw [add_block]; exact hn167_1) | exact hn167_1) (.int .i64 ((rd_T61 l0 x45_2).f1))).trans hx167_0; replace hx167_1 := (cell_far (p := ⟨gb166, 1, none⟩) (by first | (rw [add_block]; exact hn167_1) | (show (Addr.add _ _).block ≠ _; rw [add_block]; exact hn167_1) | exact hn167_1) (.int .i64 ((rd_T61 l0 x45_2).f1))).trans hx167_1; clear hn167_0; clear hn167_1; replace p167 := eq_true p167; replace q167 := eq_true q167) | ((with_reducible refine gate_dst (N := 12) rfl ?_); refine box_event ?hg (N := 12) ?hd (cs := #[.int .i64 0, .int .i64 0]) (t := 61) ?hr ?_; (case hd => rfl); (case hg => rfl); (case hr => first | (go_simp; done) | (go_simp; rfl)); intro gb168 hg w31 hbox hb; have n0_ := zm1 (zd1 (o := .cells #[.int .i64 ((rd_T61 l0 a1).f0), .int .i64 ((rd_T61 l0 a1).f1)] 61 (0, 0)) (by (with_reducible repeat (first | apply zb1 | apply zb2 | apply zb3)); refine blk_far ?_ NB158_166.out _; (with_reducible repeat (first | apply zb1 | apply zb2 | apply zb3)); refine blk_far ?_ NB158_166.out _; (with_reducible repeat (first | apply zb1 | apply zb2 | apply zb3)); exact BK158.out) hb); have n1_ := zm1 (zd1 (o := .cells #[.int .i64 ((rd_T61 l0 a2).f0), .int .i64 ((rd_T61 l0 a2).f1)] 61 (0, 0)) (by (with_reducible repeat (first | apply zb1 | apply zb2 | apply zb3)); refine blk_far ?_ NB160_166.out _; (with_reducible repeat (first | apply zb1 | apply zb2 | apply zb3)); refine blk_far ?_ NB160_166.out _; (with_reducible repeat (first | apply zb1 | apply zb2 | apply zb3)); exact BK160.out) hb); have n2_ := zm1 (zd1 (o := .cells #[.int .i64 ((rd_T61 l0 x45_2).f0), .int .i64 ((rd_T61 l0 x45_2).f1)] 61 (0, 0)) (by (with_reducible repeat (first | apply zb1 | apply zb2 | apply zb3)); refine blk_put (cs := #[.int .i64 ((rd_T61 l0 x45_2).f0), .int .i64 0]) ?_ 1 _ rfl; (with_reducible repeat (first | apply zb1 | apply zb2 | apply zb3)); refine blk_put (cs := #[.int .i64 0, .int .i64 0]) ?_ 0 _ rfl; (with_reducible repeat (first | apply zb1 | apply zb2 | apply zb3)); exact BK166.out) hb); have n3_ := zm1 (zc6 (by repeat (first | (with_reducible first | exact HB.out | apply zc1 | apply zc2 | apply zc3 | refine zc4 ?_ GE158.out | refine zc4 ?_ GE160.out | refine zc4 ?_ GE166.out) | exact HB.out)) hb); have n4_ := zm1 (hbox); have n5_ := zm1 ((by rw [hg]; exact (zc5 (by repeat (first | (with_reducible first | exact HB.out | apply zc1 | apply zc2 | apply zc3 | refine zc4 ?_ GE158.out | refine zc4 ?_ GE160.out | refine zc4 ?_ GE166.out) | exact HB.out))) : w.heap.size ≤ gb168)); have n6_ := zm1 ((by rw [hg]; exact (zc5 (by repeat (first | (with_reducible first | exact HB.out | apply zc1 | apply zc2 | apply zc3 | refine zc4 ?_ GE158.out | refine zc4 ?_ GE160.out | refine zc4 ?_ GE166.out) | exact HB.out))) : w.heap.size ≤ gb168)); have n7_ := zm1 ((by rw [hg]; exact Nat.ne_of_lt (zd2 (o := .cells #[.int .i64 ((rd_T61 l0 a1).f0), .int .i64 ((rd_T61 l0 a1).f1)] 61 (0, 0)) (by (with_reducible repeat (first | apply zb1 | apply zb2 | apply zb3)); refine blk_far ?_ NB158_166.out _; (with_reducible repeat (first | apply zb1 | apply zb2 | apply zb3)); refine blk_far ?_ NB158_166.out _; (with_reducible repeat (first | apply zb1 | apply zb2 | apply zb3)); exact BK158.out)) : gb158 ≠ gb168)); have n8_ := zm1 ((by rw [hg]; exact Nat.ne_of_gt (zd2 (o := .cells #[.int .i64 ((rd_T61 l0 a1).f0), .int .i64 ((rd_T61 l0 a1).f1)] 61 (0, 0)) (by (with_reducible repeat (first | apply zb1 | apply zb2 | apply zb3)); refine blk_far ?_ NB158_166.out _; (with_reducible repeat (first | apply zb1 | apply zb2 | apply zb3)); refine blk_far ?_ NB158_166.out _; (with_reducible repeat (first | apply zb1 | apply zb2 | apply zb3)); exact BK158.out)) : gb168 ≠ gb158)); have n9_ := zm1 ((by rw [hg]; exact Nat.ne_of_lt (zd2 (o := .cells #[.int .i64 ((rd_T61 l0 a2).f0), .int .i64 ((rd_T61 l0 a2).f1)] 61 (0, 0)) (by (with_reducible repeat (first | apply zb1 | apply zb2 | apply zb3)); refine blk_far ?_ NB160_166.out _; (with_reducible repeat (first | apply zb1 | apply zb2 | apply zb3)); refine blk_far ?_ NB160_166.out _; (with_reducible repeat (first | apply zb1 | apply zb2 | apply zb3)); exact BK160.out)) : gb160 ≠ gb168)); have n10_ := zm1 ((by rw [hg]; exact Nat.ne_of_gt (zd2 (o := .cells #[.int .i64 ((rd_T61 l0 a2).f0), .int .i64 ((rd_T61 l0 a2).f1)] 61 (0, 0)) (by (with_reducible repeat (first | apply zb1 | apply zb2 | apply zb3)); refine blk_far ?_ NB160_166.out _; (with_reducible repeat (first | apply zb1 | apply zb2 | apply zb3)); refine blk_far ?_ NB160_166.out _; (with_reducible repeat (first | apply zb1 | apply zb2 | apply zb3)); exact BK160.out)) : gb168 ≠ gb160)); have n11_ := zm1 ((by rw [hg]; exact Nat.ne_of_lt (zd2 (o := .cells #[.int .i64 ((rd_T61 l0 x45_2).f0), .int .i64 ((rd_T61 l0 x45_2).f1)] 61 (0, 0)) (by (with_reducible repeat (first | apply zb1 | apply zb2 | apply zb3)); refine blk_put (cs := #[.int .i64 ((rd_T61 l0 x45_2).f0), .int .i64 0]) ?_ 1 _ rfl; (with_reducible repeat (first | apply zb1 | apply zb2 | apply zb3)); refine blk_put (cs := #[.int .i64 0, .int .i64 0]) ?_ 0 _ rfl; (with_reducible repeat (first | apply zb1 | apply zb2 | apply zb3)); exact BK166.out)) : gb166 ≠ gb168)); have n12_ := zm1 ((by rw [hg]; exact Nat.ne_of_gt (zd2 (o := .cells #[.int .i64 ((rd_T61 l0 x45_2).f0), .int .i64 ((rd_T61 l0 x45_2).f1)] 61 (0, 0)) (by (with_reducible repeat (first | apply zb1 | apply zb2 | apply zb3)); refine blk_put (cs := #[.int .i64 ((rd_T61 l0 x45_2).f0), .int .i64 0]) ?_ 1 _ rfl; (with_reducible repeat (first | apply zb1 | apply zb2 | apply zb3)); refine blk_put (cs := #[.int .i64 0, .int .i64 0]) ?_ 0 _ rfl; (with_reducible repeat (first | apply zb1 | apply zb2 | apply zb3)); exact BK166.out)) : gb168 ≠ gb166)); clear BK158; clear BK160; clear BK166; clear HB; have BK158 := n0_; have BK160 := n1_; have BK166 := n2_; have HB := n3_; have BK168 := n4_; have GW168 := n5_; have GE168 := n6_; have NB158_168 := n7_; have NB168_158 := n8_; have NB160_168 := n9_; have NB168_160 := n10_; have NB166_168 := n11_; have NB168_166 := n12_; clear n0_ n1_ n2_ n3_ n4_ n5_ n6_ n7_ n8_ n9_ n10_ n11_ n12_; clear hb hbox hg; have hnb32 := NB168_158.out; have hnc32 := NB158_168.out; have hnb33 := NB168_160.out; have hnc33 := NB160_168.out; have hnb34 := NB168_166.out; have hnc34 := NB166_168.out; have hcz35_0 : w31.cell? ⟨gb168, 0, none⟩ = some (.int .i64 0) := (blk_cell BK168.out 0).trans rfl; have hcz35_1 : w31.cell? ⟨gb168, 1, none⟩ = some (.int .i64 0) := (blk_cell BK168.out 1).trans rfl; have hfz35_0 := blk_frozen BK168.out 0; have hfz35_1 := blk_frozen BK168.out 1; have hnb36 := NB158_160.out; have hnc36 := NB160_158.out; have hcz37_0 : w31.cell? ⟨gb158, 0, none⟩ = some (.int .i64 ((rd_T61 l0 a1).f0)) := (blk_cell BK158.out 0).trans rfl; have hcz37_1 : w31.cell? ⟨gb158, 1, none⟩ = some (.int .i64 ((rd_T61 l0 a1).f1)) := (blk_cell BK158.out 1).trans rfl; have hfz37_0 := blk_frozen BK158.out 0; have hfz37_1 := blk_frozen BK158.out 1; have hcz38_0 : w31.cell? ⟨gb160, 0, none⟩ = some (.int .i64 ((rd_T61 l0 a2).f0)) := (blk_cell BK160.out 0).trans rfl; have hcz38_1 : w31.cell? ⟨gb160, 1, none⟩ = some (.int .i64 ((rd_T61 l0 a2).f1)) := (blk_cell BK160.out 1).trans rfl; have hfz38_0 := blk_frozen BK160.out 0; have hfz38_1 := blk_frozen BK160.out 1; have hcz39_0 : w31.cell? ⟨gb166, 0, none⟩ = some (.int .i64 ((rd_T61 l0 x45_2).f0)) := (blk_cell BK166.out 0).trans rfl; have hcz39_1 : w31.cell? ⟨gb166, 1, none⟩ = some (.int .i64 ((rd_T61 l0 x45_2).f1)) := (blk_cell BK166.out 1).trans rfl; have hfz39_0 := blk_frozen BK166.out 0; have hfz39_1 := blk_frozen BK166.out 1) | ((with_reducible refine gate_callee (f := 125) rfl ?_); refine goesL_ (some 61) rfl rfl Try.func125 (by kernel_rfl) rfl #[.agg #[.int .i64 ((rd_T61 l0 a1).f0), .int .i64 ((rd_T61 l0 a1).f1)], .agg #[.int .i64 ((rd_T61 l0 a2).f0), .int .i64 ((rd_T61 l0 a2).f1)], .agg #[.int .i64 ((rd_T61 l0 x45_2).f0), .int .i64 ((rd_T61 l0 x45_2).f1)], .agg #[.int .i64 ((rd_T61 l0 (ji22)).f0), .int .i64 ((rd_T61 l0 (ji22)).f1)]] rfl (by (try simp only [List.map_toArray, List.map_cons, List.map_nil]); first | done | (simp only [hji22]; rfl) | rfl | (simp only [List.length_drop, List.length_take]; rfl)) ?_; (with_reducible refine (spec_l02Meet.calls ((rd_T61 l0 a1).f0) ((rd_T61 l0 a1).f1) ((rd_T61 l0 a2).f0) ((rd_T61 l0 a2).f1) ((rd_T61 l0 x45_2).f0) ((rd_T61 l0 x45_2).f1) ((rd_T61 l0 (ji22)).f0) ((rd_T61 l0 (ji22)).f1) t169 _ A25.out).mono ?_); rintro e w40 ⟨rfl, hb⟩; refine ⟨_, rfl, ?_⟩; have n0_ := zm1 (zd1 (o := .cells #[.int .i64 ((rd_T61 l0 a1).f0), .int .i64 ((rd_T61 l0 a1).f1)] 61 (0, 0)) (by (with_reducible repeat (first | apply zb1 | apply zb2 | apply zb3)); refine blk_far ?_ NB158_168.out _; (with_reducible repeat (first | apply zb1 | apply zb2 | apply zb3)); refine blk_far ?_ NB158_168.out _; (with_reducible repeat (first | apply zb1 | apply zb2 | apply zb3)); exact BK158.out) hb); have n1_ := zm1 (zd1 (o := .cells #[.int .i64 ((rd_T61 l0 a2).f0), .int .i64 ((rd_T61 l0 a2).f1)] 61 (0, 0)) (by (with_reducible repeat (first | apply zb1 | apply zb2 | apply zb3)); refine blk_far ?_ NB160_168.out _; (with_reducible repeat (first | apply zb1 | apply zb2 | apply zb3)); refine blk_far ?_ NB160_168.out _; (with_reducible repeat (first | apply zb1 | apply zb2 | apply zb3)); exact BK160.out) hb); have n2_ := zm1 (zd1 (o := .cells #[.int .i64 ((rd_T61 l0 x45_2).f0), .int .i64 ((rd_T61 l0 x45_2).f1)] 61 (0, 0)) (by (with_reducible repeat (first | apply zb1 | apply zb2 | apply zb3)); refine blk_far ?_ NB166_168.out _; (with_reducible repeat (first | apply zb1 | apply zb2 | apply zb3)); refine blk_far ?_ NB166_168.out _; (with_reducible repeat (first | apply zb1 | apply zb2 | apply zb3)); exact BK166.out) hb); have n3_ := zm1 (zd1 (o := .cells #[.int .i64 ((rd_T61 l0 (ji22)).f0), .int .i64 ((rd_T61 l0 (ji22)).f1)] 61 (0, 0)) (by (with_reducible repeat (first | apply zb1 | apply zb2 | apply zb3)); refine blk_put (cs := #[.int .i64 ((rd_T61 l0 (ji22)).f0), .int .i64 0]) ?_ 1 _ rfl; (with_reducible repeat (first | apply zb1 | apply zb2 | apply zb3)); refine blk_put (cs := #[.int .i64 0, .int .i64 0]) ?_ 0 _ rfl; (with_reducible repeat (first | apply zb1 | apply zb2 | apply zb3)); exact BK168.out) hb); have n4_ := zm1 (zc6 (by repeat (first | (with_reducible first | exact HB.out | apply zc1 | apply zc2 | apply zc3 | refine zc4 ?_ GE158.out | refine zc4 ?_ GE160.out | refine zc4 ?_ GE166.out | refine zc4 ?_ GE168.out) | exact HB.out)) hb); clear BK158; clear BK160; clear BK166; clear BK168; clear HB; have BK158 := n0_; have BK160 := n1_; have BK166 := n2_; have BK168 := n3_; have HB := n4_; clear n0_ n1_ n2_ n3_ n4_; (try clear hb); (try clear hb2); (try clear hk); (try clear hi)))
                (try simp only [Act.put, zs1, zs2, zs3])
                go_cut [85] (fun v85 wc => ∃ (kq : Nat) (x85_25 : Bool), v85 = .bool x85_25 ∧ Aside0 (spec_l05Diagonal.j2 kq l0 a1 a2 (l0.length : Int) t169 l0 (l0.length : Int) x45_2 x85_25 ((rd_T61 l0 a1).f0) ((rd_T61 l0 a1).f1) ((rd_T61 l0 a2).f0) ((rd_T61 l0 a2).f1) = some r) ∧ Aside0 (kq ≤ k2) ∧ Aside0 (wc.heap[gb158]? = some (.cells #[.int .i64 ((rd_T61 l0 a1).f0), .int .i64 ((rd_T61 l0 a1).f1)] 61 (0, 0))) ∧ Aside0 (wc.heap[gb160]? = some (.cells #[.int .i64 ((rd_T61 l0 a2).f0), .int .i64 ((rd_T61 l0 a2).f1)] 61 (0, 0))) ∧ Aside0 (wc.heap[gb166]? = some (.cells #[.int .i64 ((rd_T61 l0 x45_2).f0), .int .i64 ((rd_T61 l0 x45_2).f1)] 61 (0, 0))) ∧ Aside0 (wc.heap[gb168]? = some (.cells #[.int .i64 ((rd_T61 l0 (ji22)).f0), .int .i64 ((rd_T61 l0 (ji22)).f1)] 61 (0, 0))) ∧ Aside0 (Below w.heap.size w wc))
                case first =>
                 have H := HC26.out
                 clear HC26
                 by_cases c41 : x45_2 = a1
                 ·rw [if_pos c41] at H
                  have c41b0 : (x45_2 == a1) = true := beq_iff_eq.mpr c41
                  have c41b1 : (x45_2 != a1) = false := bne_eq_false_iff_eq.mpr c41
                  clear c41
                  (first | rw [c41b0] | (simp only [i64_w, i32_w]; rw [c41b0]) | skip)
                  have H' := zm1 H
                  clear H
                  go_wp2
                  go_meet
                  case rel => exact ⟨_, (true), (by first | rfl | (simp; done) | (simp [*]; done)), H', ⟨by have := HJ3.out; have := HK2.out; first | omega | exact Nat.le_refl _⟩, ⟨by (with_reducible repeat (first | apply zb1 | apply zb2 | apply zb3)); exact BK158.out⟩, ⟨by (with_reducible repeat (first | apply zb1 | apply zb2 | apply zb3)); exact BK160.out⟩, ⟨by (with_reducible repeat (first | apply zb1 | apply zb2 | apply zb3)); exact BK166.out⟩, ⟨by (with_reducible repeat (first | apply zb1 | apply zb2 | apply zb3)); exact BK168.out⟩, ⟨by repeat (first | (with_reducible first | exact HB.out | apply zc1 | apply zc2 | apply zc3 | refine zc4 ?_ GE158.out | refine zc4 ?_ GE160.out | refine zc4 ?_ GE166.out | refine zc4 ?_ GE168.out) | exact HB.out)⟩⟩
                 ·rw [if_neg c41] at H
                  have c41b0 : (x45_2 == a1) = false := beq_eq_false_iff_ne.mpr c41
                  have c41b1 : (x45_2 != a1) = true := bne_iff_ne.mpr c41
                  (first | rw [c41b0] | (simp only [i64_w, i32_w]; rw [c41b0]) | skip)
                  by_cases c42 : x45_2 = a2
                  ·rw [if_pos c42] at H
                   have c42b0 : (x45_2 == a2) = true := beq_iff_eq.mpr c42
                   have c42b1 : (x45_2 != a2) = false := bne_eq_false_iff_eq.mpr c42
                   clear c42
                   have H' := zm1 H
                   clear H
                   go_wp2
                   go_meet
                   case rel => exact ⟨_, (true), (by first | rfl | (simp; done) | (simp [*]; done)), H', ⟨by have := HJ3.out; have := HK2.out; first | omega | exact Nat.le_refl _⟩, ⟨by (with_reducible repeat (first | apply zb1 | apply zb2 | apply zb3)); exact BK158.out⟩, ⟨by (with_reducible repeat (first | apply zb1 | apply zb2 | apply zb3)); exact BK160.out⟩, ⟨by (with_reducible repeat (first | apply zb1 | apply zb2 | apply zb3)); exact BK166.out⟩, ⟨by (with_reducible repeat (first | apply zb1 | apply zb2 | apply zb3)); exact BK168.out⟩, ⟨by repeat (first | (with_reducible first | exact HB.out | apply zc1 | apply zc2 | apply zc3 | refine zc4 ?_ GE158.out | refine zc4 ?_ GE160.out | refine zc4 ?_ GE166.out | refine zc4 ?_ GE168.out) | exact HB.out)⟩⟩
                  ·rw [if_neg c42] at H
                   have c42b0 : (x45_2 == a2) = false := beq_eq_false_iff_ne.mpr c42
                   have c42b1 : (x45_2 != a2) = true := bne_iff_ne.mpr c42
                   by_cases c43 : (ji22) = a1
                   ·rw [if_pos c43] at H
                    have c43b0 : ((ji22) == a1) = true := beq_iff_eq.mpr c43
                    have c43b1 : ((ji22) != a1) = false := bne_eq_false_iff_eq.mpr c43
                    clear c43
                    have H' := zm1 H
                    clear H
                    go_wp2
                    go_meet
                    case rel => exact ⟨_, (true), (by first | rfl | (simp; done) | (simp [*]; done)), H', ⟨by have := HJ3.out; have := HK2.out; first | omega | exact Nat.le_refl _⟩, ⟨by (with_reducible repeat (first | apply zb1 | apply zb2 | apply zb3)); exact BK158.out⟩, ⟨by (with_reducible repeat (first | apply zb1 | apply zb2 | apply zb3)); exact BK160.out⟩, ⟨by (with_reducible repeat (first | apply zb1 | apply zb2 | apply zb3)); exact BK166.out⟩, ⟨by (with_reducible repeat (first | apply zb1 | apply zb2 | apply zb3)); exact BK168.out⟩, ⟨by repeat (first | (with_reducible first | exact HB.out | apply zc1 | apply zc2 | apply zc3 | refine zc4 ?_ GE158.out | refine zc4 ?_ GE160.out | refine zc4 ?_ GE166.out | refine zc4 ?_ GE168.out) | exact HB.out)⟩⟩
                   ·rw [if_neg c43] at H
                    have c43b0 : ((ji22) == a1) = false := beq_eq_false_iff_ne.mpr c43
                    have c43b1 : ((ji22) != a1) = true := bne_iff_ne.mpr c43
                    have H' := zm1 H
                    clear H
                    go_wp2
                    go_meet
                    case rel => exact ⟨_, (((ji22) == a2)), (by first | rfl | (simp; done) | ((simp only [← hji22] <;> (first | rfl | simp)); done) | (simp [*]; done)), H', ⟨by have := HJ3.out; have := HK2.out; first | omega | exact Nat.le_refl _⟩, ⟨by (with_reducible repeat (first | apply zb1 | apply zb2 | apply zb3)); exact BK158.out⟩, ⟨by (with_reducible repeat (first | apply zb1 | apply zb2 | apply zb3)); exact BK160.out⟩, ⟨by (with_reducible repeat (first | apply zb1 | apply zb2 | apply zb3)); exact BK166.out⟩, ⟨by (with_reducible repeat (first | apply zb1 | apply zb2 | apply zb3)); exact BK168.out⟩, ⟨by repeat (first | (with_reducible first | exact HB.out | apply zc1 | apply zc2 | apply zc3 | refine zc4 ?_ GE158.out | refine zc4 ?_ GE160.out | refine zc4 ?_ GE166.out | refine zc4 ?_ GE168.out) | exact HB.out)⟩⟩
                case rest =>
                 clear HC26
                 try clear c1
                 try clear p1
                 try clear q1
                 try clear hx1
                 try clear c2
                 try clear p2
                 try clear c3
                 try clear c4
                 try clear c5
                 try clear c5b0
                 try clear c5b1
                 try clear c5b2
                 try clear c6
                 try clear c6b0
                 try clear c6b1
                 try clear p6
                 try clear c7
                 try clear c7b0
                 try clear c7b1
                 try clear c8
                 try clear c9
                 try clear c9b0
                 try clear c10
                 try clear c10b0
                 try clear c11
                 try clear c11b0
                 try clear c12
                 try clear c12b0
                 try clear p15
                 try clear q15
                 try clear hx15
                 try clear c16
                 try clear p16
                 try clear q16
                 try clear hx16
                 try clear c18
                 try clear c18b0
                 try clear c19
                 try clear c19b0
                 try clear c20
                 try clear c20b0
                 try clear c21
                 try clear c21b0
                 try clear c21b1
                 try clear c21b2
                 try clear c23
                 try clear c23b0
                 try clear c24
                 try clear c24b0
                 try clear c28
                 try clear c29
                 try clear c32
                 try clear c33
                 try clear c34
                 try clear c36
                 try clear c41
                 try clear c41b0
                 try clear c41b1
                 try clear c42
                 try clear c42b0
                 try clear c42b1
                 try clear c43
                 try clear c43b0
                 try clear c43b1
                 try clear hcz14_0
                 try clear hcz14_1
                 try clear hcz17_0
                 try clear hcz17_1
                 try clear hcz30_0
                 try clear hcz30_1
                 try clear hcz35_0
                 try clear hcz35_1
                 try clear hcz37_0
                 try clear hcz37_1
                 try clear hcz38_0
                 try clear hcz38_1
                 try clear hcz39_0
                 try clear hcz39_1
                 try clear hfz14_0
                 try clear hfz14_1
                 try clear hfz17_0
                 try clear hfz17_1
                 try clear hfz30_0
                 try clear hfz30_1
                 try clear hfz35_0
                 try clear hfz35_1
                 try clear hfz37_0
                 try clear hfz37_1
                 try clear hfz38_0
                 try clear hfz38_1
                 try clear hfz39_0
                 try clear hfz39_1
                 try clear hx157_0
                 try clear hx157_1
                 try clear hx159_0
                 try clear hx159_1
                 try clear hx165_0
                 try clear hx165_1
                 try clear hx167_0
                 try clear hx167_1
                 try clear p1
                 try clear p15
                 try clear p157
                 try clear p159
                 try clear p165
                 try clear p167
                 try clear p2
                 try clear p6
                 try clear q1
                 try clear q15
                 try clear q157
                 try clear q159
                 try clear q165
                 try clear q167
                 obtain ⟨kq, x85_25, rfl, HA, HJ25, BK158, BK160, BK166, BK168, HB⟩ := hcut
                 cases kq with
                 | zero => exact absurd HA.out (by simp [spec_l05Diagonal.j2])
                 | succ kj25 =>
                  have H := HA.out
                  clear HA
                  simp only [spec_l05Diagonal.j2] at H
                  by_cases c44 : x85_25 = true
                  ·subst c44
                   have H1 : (if t169 = 3 then (spec_l05Diagonal.j3 kj25 l0 a1 a2 (l0.length : Int) l0 (l0.length : Int) x45_2 true ((rd_T61 l0 a1).f0) ((rd_T61 l0 a1).f1) ((rd_T61 l0 a2).f0) ((rd_T61 l0 a2).f1)) else (spec_l05Diagonal.j3 kj25 l0 a1 a2 (l0.length : Int) l0 (l0.length : Int) x45_2 (t169 == 2) ((rd_T61 l0 a1).f0) ((rd_T61 l0 a1).f1) ((rd_T61 l0 a2).f0) ((rd_T61 l0 a2).f1))) = some r := by rw [if_pos rfl] at H; exact H
                   clear H
                   have H := H1
                   clear H1
                   have HC45 := zm1 H
                   clear H
                   go_upto_region 12 with (fail)
                   go_cut [91] (fun v91 wc => ∃ (kq : Nat) (x91_44 : Bool), v91 = .bool x91_44 ∧ Aside0 (spec_l05Diagonal.j3 kq l0 a1 a2 (l0.length : Int) l0 (l0.length : Int) x45_2 x91_44 ((rd_T61 l0 a1).f0) ((rd_T61 l0 a1).f1) ((rd_T61 l0 a2).f0) ((rd_T61 l0 a2).f1) = some r) ∧ Aside0 (kq ≤ kj25) ∧ Aside0 (wc.heap[gb158]? = some (.cells #[.int .i64 ((rd_T61 l0 a1).f0), .int .i64 ((rd_T61 l0 a1).f1)] 61 (0, 0))) ∧ Aside0 (wc.heap[gb160]? = some (.cells #[.int .i64 ((rd_T61 l0 a2).f0), .int .i64 ((rd_T61 l0 a2).f1)] 61 (0, 0))) ∧ Aside0 (wc.heap[gb166]? = some (.cells #[.int .i64 ((rd_T61 l0 x45_2).f0), .int .i64 ((rd_T61 l0 x45_2).f1)] 61 (0, 0))) ∧ Aside0 (wc.heap[gb168]? = some (.cells #[.int .i64 ((rd_T61 l0 (ji22)).f0), .int .i64 ((rd_T61 l0 (ji22)).f1)] 61 (0, 0))) ∧ Aside0 (Below w.heap.size w wc))
                   case first =>
                    have H := HC45.out
                    clear HC45
                    by_cases c46 : t169 = 3
                    ·rw [if_pos c46] at H
                     have c46b0 : (t169 == 3) = true := beq_iff_eq.mpr c46
                     have c46b1 : (t169 != 3) = false := bne_eq_false_iff_eq.mpr c46
                     clear c46
                     (first | rw [c46b0] | (simp only [i64_w, i32_w]; rw [c46b0]) | skip)
                     have H' := zm1 H
                     clear H
                     go_wp2
                     go_meet
                     case rel => exact ⟨_, (true), (by first | rfl | (simp; done) | (simp [*]; done)), H', ⟨by have := HJ3.out; have := HK2.out; have := HJ25.out; first | omega | exact Nat.le_refl _⟩, ⟨by (with_reducible repeat (first | apply zb1 | apply zb2 | apply zb3)); exact BK158.out⟩, ⟨by (with_reducible repeat (first | apply zb1 | apply zb2 | apply zb3)); exact BK160.out⟩, ⟨by (with_reducible repeat (first | apply zb1 | apply zb2 | apply zb3)); exact BK166.out⟩, ⟨by (with_reducible repeat (first | apply zb1 | apply zb2 | apply zb3)); exact BK168.out⟩, ⟨by repeat (first | (with_reducible first | exact HB.out | apply zc1 | apply zc2 | apply zc3 | refine zc4 ?_ GE158.out | refine zc4 ?_ GE160.out | refine zc4 ?_ GE166.out | refine zc4 ?_ GE168.out) | exact HB.out)⟩⟩
                    ·rw [if_neg c46] at H
                     have c46b0 : (t169 == 3) = false := beq_eq_false_iff_ne.mpr c46
                     have c46b1 : (t169 != 3) = true := bne_iff_ne.mpr c46
                     (first | rw [c46b0] | (simp only [i64_w, i32_w]; rw [c46b0]) | skip)
                     have H' := zm1 H
                     clear H
                     go_wp2
                     go_meet
                     case rel => exact ⟨_, ((t169 == 2)), (by first | rfl | (simp; done) | (simp [*]; done)), H', ⟨by have := HJ3.out; have := HK2.out; have := HJ25.out; first | omega | exact Nat.le_refl _⟩, ⟨by (with_reducible repeat (first | apply zb1 | apply zb2 | apply zb3)); exact BK158.out⟩, ⟨by (with_reducible repeat (first | apply zb1 | apply zb2 | apply zb3)); exact BK160.out⟩, ⟨by (with_reducible repeat (first | apply zb1 | apply zb2 | apply zb3)); exact BK166.out⟩, ⟨by (with_reducible repeat (first | apply zb1 | apply zb2 | apply zb3)); exact BK168.out⟩, ⟨by repeat (first | (with_reducible first | exact HB.out | apply zc1 | apply zc2 | apply zc3 | refine zc4 ?_ GE158.out | refine zc4 ?_ GE160.out | refine zc4 ?_ GE166.out | refine zc4 ?_ GE168.out) | exact HB.out)⟩⟩
                   case rest =>
                    clear HC45
                    try clear c1
                    try clear p1
                    try clear q1
                    try clear hx1
                    try clear c2
                    try clear p2
                    try clear c3
                    try clear c4
                    try clear c5
                    try clear c5b0
                    try clear c5b1
                    try clear c5b2
                    try clear c6
                    try clear c6b0
                    try clear c6b1
                    try clear p6
                    try clear c7
                    try clear c7b0
                    try clear c7b1
                    try clear c8
                    try clear c9
                    try clear c9b0
                    try clear c10
                    try clear c10b0
                    try clear c11
                    try clear c11b0
                    try clear c12
                    try clear c12b0
                    try clear p15
                    try clear q15
                    try clear hx15
                    try clear c16
                    try clear p16
                    try clear q16
                    try clear hx16
                    try clear c18
                    try clear c18b0
                    try clear c19
                    try clear c19b0
                    try clear c20
                    try clear c20b0
                    try clear c21
                    try clear c21b0
                    try clear c21b1
                    try clear c21b2
                    try clear c23
                    try clear c23b0
                    try clear c24
                    try clear c24b0
                    try clear c28
                    try clear c29
                    try clear c32
                    try clear c33
                    try clear c34
                    try clear c36
                    try clear c41
                    try clear c41b0
                    try clear c41b1
                    try clear c42
                    try clear c42b0
                    try clear c42b1
                    try clear c43
                    try clear c43b0
                    try clear c43b1
                    try clear c44
                    try clear c46
                    try clear c46b0
                    try clear c46b1
                    try clear hcz14_0
                    try clear hcz14_1
                    try clear hcz17_0
                    try clear hcz17_1
                    try clear hcz30_0
                    try clear hcz30_1
                    try clear hcz35_0
                    try clear hcz35_1
                    try clear hcz37_0
                    try clear hcz37_1
                    try clear hcz38_0
                    try clear hcz38_1
                    try clear hcz39_0
                    try clear hcz39_1
                    try clear hfz14_0
                    try clear hfz14_1
                    try clear hfz17_0
                    try clear hfz17_1
                    try clear hfz30_0
                    try clear hfz30_1
                    try clear hfz35_0
                    try clear hfz35_1
                    try clear hfz37_0
                    try clear hfz37_1
                    try clear hfz38_0
                    try clear hfz38_1
                    try clear hfz39_0
                    try clear hfz39_1
                    try clear hx157_0
                    try clear hx157_1
                    try clear hx159_0
                    try clear hx159_1
                    try clear hx165_0
                    try clear hx165_1
                    try clear hx167_0
                    try clear hx167_1
                    try clear p1
                    try clear p15
                    try clear p157
                    try clear p159
                    try clear p16
                    try clear p165
                    try clear p167
                    try clear p2
                    try clear p6
                    try clear q1
                    try clear q15
                    try clear q157
                    try clear q159
                    try clear q16
                    try clear q165
                    try clear q167
                    obtain ⟨kq, x91_44, rfl, HA, HJ44, BK158, BK160, BK166, BK168, HB⟩ := hcut
                    cases kq with
                    | zero => exact absurd HA.out (by simp [spec_l05Diagonal.j3])
                    | succ kj44 =>
                     have H := HA.out
                     clear HA
                     simp only [spec_l05Diagonal.j3] at H
                     by_cases c47 : x91_44 = true
                     ·subst c47
                      have H1 : (some false) = some r := by rw [if_pos rfl] at H; exact H
                      clear H
                      have H := H1
                      clear H1
                      obtain rfl := Option.some.inj H
                      go_wp2
                      go_ret
                      exact ⟨by first | rfl | (simp [errW_none, errW_some] <;> rfl) | (simp only [← hji22]; first | rfl | (simp [errW_none, errW_some] <;> rfl)) | (simp [*, errW_none, errW_some] <;> rfl), by repeat (first | (with_reducible first | exact HB.out | apply zc1 | apply zc2 | apply zc3 | refine zc4 ?_ GE158.out | refine zc4 ?_ GE160.out | refine zc4 ?_ GE166.out | refine zc4 ?_ GE168.out) | exact HB.out)⟩
                     ·replace c47 := Bool.eq_false_iff.mpr c47
                      subst c47
                      have H1 : (spec_l05Diagonal.l0 kj44 l0 a1 a2 (l0.length : Int) l0 (l0.length : Int) (wrap64 (x45_2 + 1)) ((rd_T61 l0 a1).f0) ((rd_T61 l0 a1).f1) ((rd_T61 l0 a2).f0) ((rd_T61 l0 a2).f1)) = some r := by rw [if_neg (show ¬ (false = true) by decide)] at H; exact H
                      clear H
                      have H := H1
                      clear H1
                      have H' := zm1 H
                      clear H
                      go_wp2
                      go_roundg kj44
                      case measure => have := HJ3.out; have := HK2.out; have := HJ25.out; have := HJ44.out; omega
                      case rel => exact ⟨(wrap64 (x45_2 + 1)), (by first | rfl | (simp; done) | (simp [*]; done)), H', ⟨by have := HJ3.out; have := HK2.out; have := HJ25.out; have := HJ44.out; omega⟩, ⟨by (with_reducible repeat (first | apply zb1 | apply zb2 | apply zb3)); exact BK158.out⟩, ⟨by (with_reducible repeat (first | apply zb1 | apply zb2 | apply zb3)); exact BK160.out⟩, ⟨by repeat (first | (with_reducible first | exact HB.out | apply zc1 | apply zc2 | apply zc3 | refine zc4 ?_ GE158.out | refine zc4 ?_ GE160.out | refine zc4 ?_ GE166.out | refine zc4 ?_ GE168.out) | exact HB.out)⟩⟩
                  ·replace c44 := Bool.eq_false_iff.mpr c44
                   subst c44
                   have H1 : (if t169 = 0 then (spec_l05Diagonal.l0 kj25 l0 a1 a2 (l0.length : Int) l0 (l0.length : Int) (wrap64 (x45_2 + 1)) ((rd_T61 l0 a1).f0) ((rd_T61 l0 a1).f1) ((rd_T61 l0 a2).f0) ((rd_T61 l0 a2).f1)) else (some false)) = some r := by rw [if_neg (show ¬ (false = true) by decide)] at H; exact H
                   clear H
                   have H := H1
                   clear H1
                   by_cases c48 : t169 = 0
                   ·rw [if_pos c48] at H
                    have c48b0 : (t169 == 0) = true := beq_iff_eq.mpr c48
                    have c48b1 : (t169 != 0) = false := bne_eq_false_iff_eq.mpr c48
                    clear c48
                    have H' := zm1 H
                    clear H
                    go_wp2
                    go_roundg kj25
                    case measure => have := HJ3.out; have := HK2.out; have := HJ25.out; omega
                    case rel => exact ⟨(wrap64 (x45_2 + 1)), (by first | rfl | (simp; done) | (simp [*]; done)), H', ⟨by have := HJ3.out; have := HK2.out; have := HJ25.out; omega⟩, ⟨by (with_reducible repeat (first | apply zb1 | apply zb2 | apply zb3)); exact BK158.out⟩, ⟨by (with_reducible repeat (first | apply zb1 | apply zb2 | apply zb3)); exact BK160.out⟩, ⟨by repeat (first | (with_reducible first | exact HB.out | apply zc1 | apply zc2 | apply zc3 | refine zc4 ?_ GE158.out | refine zc4 ?_ GE160.out | refine zc4 ?_ GE166.out | refine zc4 ?_ GE168.out) | exact HB.out)⟩⟩
                   ·rw [if_neg c48] at H
                    have c48b0 : (t169 == 0) = false := beq_eq_false_iff_ne.mpr c48
                    have c48b1 : (t169 != 0) = true := bne_iff_ne.mpr c48
                    obtain rfl := Option.some.inj H
                    go_wp2
                    go_ret
                    exact ⟨by first | rfl | (simp [errW_none, errW_some] <;> rfl) | (simp only [← hji22]; first | rfl | (simp [errW_none, errW_some] <;> rfl)) | (simp [*, errW_none, errW_some] <;> rfl), by repeat (first | (with_reducible first | exact HB.out | apply zc1 | apply zc2 | apply zc3 | refine zc4 ?_ GE158.out | refine zc4 ?_ GE160.out | refine zc4 ?_ GE166.out | refine zc4 ?_ GE168.out) | exact HB.out)⟩
               ·rw [if_neg c24] at H
                exact absurd H (by simp)
              ·rw [if_neg c23] at H
               exact absurd H (by simp)
            ·rw [if_neg c20] at H
             exact absurd H (by simp)
           ·rw [if_neg c19] at H
            exact absurd H (by simp)
          ·rw [if_neg c18] at H
           have c18b0 : decide (x45_2 < (l0.length : Int)) = false := decide_eq_false c18
           clear c18
           replace H := Option.bind_eq_some_iff.mp H
           obtain ⟨t161, A490, H⟩ := H
           replace H : ((spec_l03Inside.f k2 t161 (wrap64 (((rd_T61 l0 a1).f0) + ((rd_T61 l0 a2).f0))) (wrap64 (((rd_T61 l0 a1).f1) + ((rd_T61 l0 a2).f1)))).bind fun t164 => (some t164)) = some r := H
           have A49 := zm1 A490
           clear A490
           replace H := Option.bind_eq_some_iff.mp H
           obtain ⟨t164, A500, H⟩ := H
           replace H : (some t164) = some r := H
           have A50 := zm1 A500
           clear A500
           obtain rfl := Option.some.inj H
           try go_wp2
           have n0_ := zm1 (blk_drew BK158.out)
           have n1_ := zm1 (blk_drew BK160.out)
           have n2_ := zm1 (below_drew1 HB.out)
           clear BK158
           clear BK160
           clear HB
           have BK158 := n0_
           have BK160 := n1_
           have HB := n2_
           clear n0_ n1_ n2_
           refine start_ (n := 15) (S := fun w' => w'.cell? ⟨gb158, 0, none⟩ = some (.int .i64 ((rd_T61 l0 a1).f0)) ∧ w'.cell? ⟨gb158, 1, none⟩ = some (.int .i64 ((rd_T61 l0 a1).f1)) ∧ w'.cell? ⟨gb160, 0, none⟩ = some (.int .i64 ((rd_T61 l0 a2).f0)) ∧ w'.cell? ⟨gb160, 1, none⟩ = some (.int .i64 ((rd_T61 l0 a2).f1))) (ds := []) #[false, false, false, false, false, false, false, false, false, false, false, false, false, false, false] (by kernel_rfl) rfl rfl ⟨(blk_cell BK158.out 0).trans rfl, (blk_cell BK158.out 1).trans rfl, (blk_cell BK160.out 0).trans rfl, (blk_cell BK160.out 1).trans rfl⟩ (fun hHeld => ?_); refine with_tabW spec_l05Diagonal.tab17 spec_l05Diagonal.bits17 (fun HT_ HW_ => ?_)
           generalize wr.drew = w51 at BK158 BK160 HB hHeld ⊢
           refine pure_ (i := 0) (N := some 95) (v := ?_) (a' := ?_) #[true, false, false, false, false, false, false, false, false, false, false, false, false, false, false] rfl rfl (any_of HT_.out (by kernel_rfl)) (fun _ _ _ h => h) (Or.inl ⟨by rfl, ?_⟩) ?_ ?_
           rotate_left
           ·intro w'
            go_simp
            with_reducible rfl
           rotate_left
           ·simp only [Act.put, zs1, zs2, zs3, i64_w, i32_w]
            rfl
           refine pure_ (i := 2) (N := some 97) (v := ?_) (a' := ?_) #[true, false, true, false, false, false, false, false, false, false, false, false, false, false, false] rfl rfl (any_of HT_.out (by kernel_rfl)) (fun _ _ _ h => h) (Or.inl ⟨by rfl, ?_⟩) ?_ ?_
           rotate_left
           ·intro w'
            go_simp
            with_reducible rfl
           rotate_left
           ·simp only [Act.put, zs1, zs2, zs3, i64_w, i32_w]
            rfl
           refine pure_ (i := 4) (N := some 99) (v := ?_) (a' := ?_) #[true, false, true, false, true, false, false, false, false, false, false, false, false, false, false] rfl rfl (any_of HT_.out (by kernel_rfl)) (fun _ _ _ h => h) (Or.inl ⟨by rfl, ?_⟩) ?_ ?_
           rotate_left
           ·intro w'
            go_simp
            with_reducible rfl
           rotate_left
           ·simp only [Act.put, zs1, zs2, zs3, i64_w, i32_w]
            rfl
           refine pure_ (i := 7) (N := some 102) (v := ?_) (a' := ?_) #[true, false, true, false, true, false, false, true, false, false, false, false, false, false, false] rfl rfl (any_of HT_.out (by kernel_rfl)) (fun _ _ _ h => h) (Or.inl ⟨by rfl, ?_⟩) ?_ ?_
           rotate_left
           ·intro w'
            go_simp
            with_reducible rfl
           rotate_left
           ·simp only [Act.put, zs1, zs2, zs3, i64_w, i32_w]
            rfl
           refine pure_ (i := 9) (N := some 104) (v := ?_) (a' := ?_) #[true, false, true, false, true, false, false, true, false, true, false, false, false, false, false] rfl rfl (any_of HT_.out (by kernel_rfl)) (fun _ _ _ h => h) (Or.inl ⟨by rfl, ?_⟩) ?_ ?_
           rotate_left
           ·intro w'
            go_simp
            with_reducible rfl
           rotate_left
           ·simp only [Act.put, zs1, zs2, zs3, i64_w, i32_w]
            rfl
           refine take_ (i := 3) (N := some 98) (v := ?_) (a' := ?_) #[true, false, true, true, true, false, false, true, false, true, false, false, false, false, false] rfl rfl (take_ofW HT_.out HW_.out (by kernel_rfl)) (fun _ _ _ h => h) (Or.inl ⟨by rfl, ?_⟩) hHeld ?_ ?_
           rotate_left
           ·rintro w' ⟨s0, s1, s2, s3⟩
            go_simp
            with_reducible rfl
           rotate_left
           ·simp only [Act.put, zs1, zs2, zs3, i64_w, i32_w]
            rfl
           refine take_ (i := 5) (N := some 100) (v := ?_) (a' := ?_) #[true, false, true, true, true, true, false, true, false, true, false, false, false, false, false] rfl rfl (take_ofW HT_.out HW_.out (by kernel_rfl)) (fun _ _ _ h => h) (Or.inl ⟨by rfl, ?_⟩) hHeld ?_ ?_
           rotate_left
           ·rintro w' ⟨s0, s1, s2, s3⟩
            go_simp
            with_reducible rfl
           rotate_left
           ·simp only [Act.put, zs1, zs2, zs3, i64_w, i32_w]
            rfl
           refine pure_ (i := 6) (N := some 101) (v := ?_) (a' := ?_) #[true, false, true, true, true, true, true, true, false, true, false, false, false, false, false] rfl rfl (any_of HT_.out (by kernel_rfl)) (fun _ _ _ h => h) (Or.inl ⟨by rfl, ?_⟩) ?_ ?_
           rotate_left
           ·intro w'
            go_simp
            with_reducible rfl
           rotate_left
           ·simp only [Act.put, zs1, zs2, zs3, i64_w, i32_w]
            rfl
           refine take_ (i := 8) (N := some 103) (v := ?_) (a' := ?_) #[true, false, true, true, true, true, true, true, true, true, false, false, false, false, false] rfl rfl (take_ofW HT_.out HW_.out (by kernel_rfl)) (fun _ _ _ h => h) (Or.inl ⟨by rfl, ?_⟩) hHeld ?_ ?_
           rotate_left
           ·rintro w' ⟨s0, s1, s2, s3⟩
            go_simp
            with_reducible rfl
           rotate_left
           ·simp only [Act.put, zs1, zs2, zs3, i64_w, i32_w]
            rfl
           refine take_ (i := 10) (N := some 105) (v := ?_) (a' := ?_) #[true, false, true, true, true, true, true, true, true, true, true, false, false, false, false] rfl rfl (take_ofW HT_.out HW_.out (by kernel_rfl)) (fun _ _ _ h => h) (Or.inl ⟨by rfl, ?_⟩) hHeld ?_ ?_
           rotate_left
           ·rintro w' ⟨s0, s1, s2, s3⟩
            go_simp
            with_reducible rfl
           rotate_left
           ·simp only [Act.put, zs1, zs2, zs3, i64_w, i32_w]
            rfl
           refine pure_ (i := 11) (N := some 106) (v := ?_) (a' := ?_) #[true, false, true, true, true, true, true, true, true, true, true, true, false, false, false] rfl rfl (any_of HT_.out (by kernel_rfl)) (fun _ _ _ h => h) (Or.inl ⟨by rfl, ?_⟩) ?_ ?_
           rotate_left
           ·intro w'
            go_simp
            with_reducible rfl
           rotate_left
           ·simp only [Act.put, zs1, zs2, zs3, i64_w, i32_w]
            rfl
           refine pure_ (i := 12) (N := some 107) (v := ?_) (a' := ?_) #[true, false, true, true, true, true, true, true, true, true, true, true, true, false, false] rfl rfl (any_of HT_.out (by kernel_rfl)) (fun _ _ _ h => h) (Or.inl ⟨by rfl, ?_⟩) ?_ ?_
           rotate_left
           ·intro w'
            go_simp
            with_reducible rfl
           rotate_left
           ·simp only [Act.put, zs1, zs2, zs3, i64_w, i32_w]
            rfl
           refine one_ (i := 1) (N := some 96) #[true, true, true, true, true, true, true, true, true, true, true, true, true, false, false] rfl rfl (one_of HT_.out (by kernel_rfl)) (by decide) (fun K hK => ?_)
           refine goes_ Try.func127 (by kernel_rfl) rfl #[.slice (some ad157) l0.length c0] (by rfl) rfl rfl (by (try simp only [List.map_toArray, List.map_cons, List.map_nil]); first | done | rfl | (simp only [List.length_drop, List.length_take]; rfl)) ?_
           with_reducible refine (spec_l05Double.calls k2 _ _ l0 t161 _ ?side1 ?side2 A49.out).mono ?_
           (case side1 => repeat (first | exact (Kd.C_below HR0.out HB.out) | (with_reducible refine Kd.C_alloc ?_ _) | (with_reducible refine Kd.C_drewN ?_ _) | (with_reducible refine Kd.C_drew ?_)))
           (case side2 => exact HC0.out)
           rintro e w52 ⟨v162, rfl, ho0, hb⟩
           refine ⟨_, rfl, ?_⟩
           have n0_ := zm1 (Kd.R_lower (Kd.R_newB (Kd.R_newB ho0 (g := gb158) (o := .cells #[.int .i64 ((rd_T61 l0 a1).f0), .int .i64 ((rd_T61 l0 a1).f1)] 61 (0, 0)) (zb4 BK158.out)) (g := gb160) (o := .cells #[.int .i64 ((rd_T61 l0 a2).f0), .int .i64 ((rd_T61 l0 a2).f1)] 61 (0, 0)) (zb4 BK160.out)) (zc5 (by repeat (first | (with_reducible first | exact HB.out | apply zc1 | apply zc2 | apply zc3 | refine zc4 ?_ GE158.out | refine zc4 ?_ GE160.out) | exact HB.out))))
           have n1_ := zm1 (zd1 (zb4 BK158.out) hb)
           have n2_ := zm1 (zd1 (zb4 BK160.out) hb)
           have n3_ := zm1 (zc6 (by repeat (first | (with_reducible first | exact HB.out | apply zc1 | apply zc2 | apply zc3 | refine zc4 ?_ GE158.out | refine zc4 ?_ GE160.out) | exact HB.out)) hb)
           clear BK158
           clear BK160
           clear HB
           have HO163 := n0_
           have BK158 := n1_
           have BK160 := n2_
           have HB := n3_
           clear n0_ n1_ n2_ n3_
           (try clear hb)
           (try clear hb2)
           (try clear hk)
           (try clear hi)
           (try clear ho0)
           obtain ⟨Ao53, co53, eo53⟩ := Kd.R_slice HO163.out
           (first | subst eo53 | (injection eo53 with f1_ f2_ f3_; have f4_ := f1_.symm; have f5_ := f3_.symm; clear f1_ f2_ f3_; subst f4_; subst f5_))
           refine hK.out _ _ ⟨(blk_cell BK158.out 0).trans rfl, (blk_cell BK158.out 1).trans rfl, (blk_cell BK160.out 0).trans rfl, (blk_cell BK160.out 1).trans rfl⟩ (fun hHeld => ?_)
           clear hK K
           refine norm_ (a' := ?_) ?_ ?_
           rotate_left
           ·show Act.put _ (some 96) _ = _
            simp only [Act.put, zs1, zs2, zs3, i64_w, i32_w]
            rfl
           refine one_ (i := 13) (N := some 108) #[true, true, true, true, true, true, true, true, true, true, true, true, true, true, false] rfl rfl (one_of HT_.out (by kernel_rfl)) (by decide) (fun K hK => ?_)
           refine goes_ Try.func126 (by kernel_rfl) rfl #[.slice Ao53 t161.length co53, .agg #[.int .i64 (wrap64 (((rd_T61 l0 a1).f0) + ((rd_T61 l0 a2).f0))), .int .i64 (wrap64 (((rd_T61 l0 a1).f1) + ((rd_T61 l0 a2).f1)))]] (by rfl) rfl rfl (by (try simp only [List.map_toArray, List.map_cons, List.map_nil]); first | done | rfl | (simp only [List.length_drop, List.length_take]; rfl)) ?_
           with_reducible refine (spec_l03Inside.calls k2 _ _ t161 (wrap64 (((rd_T61 l0 a1).f0) + ((rd_T61 l0 a2).f0))) (wrap64 (((rd_T61 l0 a1).f1) + ((rd_T61 l0 a2).f1))) t164 _ ?side1 ?side2 A50.out).mono ?_
           (case side1 => repeat (first | exact (Kd.R_reads' HO163.out).2.2 | (with_reducible refine Kd.C_alloc ?_ _) | (with_reducible refine Kd.C_drewN ?_ _) | (with_reducible refine Kd.C_drew ?_)))
           (case side2 => exact (Kd.R_reads' HO163.out).2.1)
           rintro e w54 ⟨rfl, hb⟩
           refine ⟨_, rfl, ?_⟩
           have n0_ := zm1 (Kd.R_below (by (with_reducible repeat (first | apply zr1 | apply zr2 | apply zr3)); exact HO163.out) hb)
           have n1_ := zm1 (zd1 (zb4 BK158.out) hb)
           have n2_ := zm1 (zd1 (zb4 BK160.out) hb)
           have n3_ := zm1 (zc6 (by repeat (first | (with_reducible first | exact HB.out | apply zc1 | apply zc2 | apply zc3 | refine zc4 ?_ GE158.out | refine zc4 ?_ GE160.out) | exact HB.out)) hb)
           clear HO163
           clear BK158
           clear BK160
           clear HB
           have HO163 := n0_
           have BK158 := n1_
           have BK160 := n2_
           have HB := n3_
           clear n0_ n1_ n2_ n3_
           (try clear hb)
           (try clear hb2)
           (try clear hk)
           (try clear hi)
           refine hK.out _ _ ⟨(blk_cell BK158.out 0).trans rfl, (blk_cell BK158.out 1).trans rfl, (blk_cell BK160.out 0).trans rfl, (blk_cell BK160.out 1).trans rfl⟩ (fun hHeld => ?_)
           clear hK K
           refine norm_ (a' := ?_) ?_ ?_
           rotate_left
           ·show Act.put _ (some 108) _ = _
            simp only [Act.put, zs1, zs2, zs3, i64_w, i32_w]
            rfl
           refine pure_ (i := 14) (N := some 6) (v := ?_) (a' := ?_) #[true, true, true, true, true, true, true, true, true, true, true, true, true, true, true] rfl rfl (any_of HT_.out (by kernel_rfl)) (fun _ _ _ h => h) (Or.inl ⟨by rfl, ?_⟩) ?_ ?_
           rotate_left
           ·intro w'
            go_simp
            with_reducible rfl
           rotate_left
           ·simp only [Act.put, zs1, zs2, zs3, i64_w, i32_w]
            rfl
           refine done_ (done_of HT_.out (by kernel_rfl)) ?_
           try go_wp2
           go_ret
           exact ⟨by first | rfl | (simp [errW_none, errW_some] <;> rfl) | (simp [*, errW_none, errW_some] <;> rfl), by repeat (first | (with_reducible first | exact HB.out | apply zc1 | apply zc2 | apply zc3 | refine zc4 ?_ GE158.out | refine zc4 ?_ GE160.out) | exact HB.out)⟩
       ·rw [if_neg c12] at H
        exact absurd H (by simp)
      ·rw [if_neg c11] at H
       exact absurd H (by simp)
     ·rw [if_neg c10] at H
      exact absurd H (by simp)
    ·rw [if_neg c9] at H
     exact absurd H (by simp)

end Go.Proofs.Ytdiphnkkomfmdaa.QFnExactBestCut
