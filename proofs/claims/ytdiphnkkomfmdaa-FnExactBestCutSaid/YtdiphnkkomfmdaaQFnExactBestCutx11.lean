-- Printed for this claim by a changed copy of the kit's print (the session's own; own contracts in place of some functions).
import Derived.Test.YtdiphnkkomfmdaaQFnExactBestCutx0
import Derived.Test.YtdiphnkkomfmdaaQFnExactBestCutx7
import Derived.Test.YtdiphnkkomfmdaaQFnExactBestCutx9
import Derived.Test.YtdiphnkkomfmdaaQFnExactBestCutx10
namespace Go.Proofs.Ytdiphnkkomfmdaa.QFnExactBestCut
open Go.RowKit Go.Proofs.YtdiphnkkomfmdaaW.PrintWords Go.Proofs.YtdiphnkkomfmdaaW.PrintLast Go.Proofs.YtdiphnkkomfmdaaW.PrintMore
attribute [local go_sem] max2_int min2_int max_two min_two max_three min_three max_four min_four   -- for this text's walks alone
set_option linter.unusedVariables false
set_option linter.unusedSimpArgs false

/-! ### impl_isDiagonal: function 115 -/
mutual
def impl_isDiagonal.j0 : Nat → List (S61) → Int → Int → Int → Bool → Option (Bool)
 | 0, _, _, _, _, _ => none
 | k + 1, x0, x1, x2, x7, x47 => if x47 = true then (some false) else (impl_isDiagonal.l0 k x0 x1 x2 x7 x7 0)
def impl_isDiagonal.l0 : Nat → List (S61) → Int → Int → Int → Int → Int → Option (Bool)
 | 0, _, _, _, _, _, _ => none
 | k + 1, x0, x1, x2, x7, x48, x49 => if x49 < x48 then (if x49 = x1 then (impl_isDiagonal.j2 k x0 x1 x2 x7 x49 0 x48 x49 true) else (if x49 = x2 then (impl_isDiagonal.j2 k x0 x1 x2 x7 x49 0 x48 x49 true) else (if x7 = 0 then (none) else (if (Int.tmod (wrap64 (x49 + 1)) x7) = x1 then (impl_isDiagonal.j2 k x0 x1 x2 x7 x49 0 x48 x49 true) else (impl_isDiagonal.j2 k x0 x1 x2 x7 x49 0 x48 x49 ((Int.tmod (wrap64 (x49 + 1)) x7) == x2)))))) else (impl_isDiagonal.l1 k x0 x1 x2 (([] : List (S61))) x0 (x0.length : Int) 0)
def impl_isDiagonal.j2 : Nat → List (S61) → Int → Int → Int → Int → Int → Int → Int → Bool → Option (Bool)
 | 0, _, _, _, _, _, _, _, _, _ => none
 | k + 1, x0, x1, x2, x7, x8, x9, x48, x49, x75 => if x75 = true then (if 0 ≤ x1 then (if x1 < (x0.length : Int) then (if 0 ≤ x2 then (if x2 < (x0.length : Int) then (if 0 ≤ x8 then (if x8 < (x0.length : Int) then (if x7 = 0 then (none) else (if 0 ≤ (Int.tmod (wrap64 (x8 + 1)) x7) then (if (Int.tmod (wrap64 (x8 + 1)) x7) < (x0.length : Int) then ((impl_meet.f ((rd_T61 x0 x1).f0) ((rd_T61 x0 x1).f1) ((rd_T61 x0 x2).f0) ((rd_T61 x0 x2).f1) ((rd_T61 x0 x8).f0) ((rd_T61 x0 x8).f1) ((rd_T61 x0 (Int.tmod (wrap64 (x8 + 1)) x7)).f0) ((rd_T61 x0 (Int.tmod (wrap64 (x8 + 1)) x7)).f1)).bind fun t222 => (if t222 = 1 then (impl_isDiagonal.l0 k x0 x1 x2 x7 x48 (wrap64 (x49 + 1))) else (some false))) else (none)) else (none))) else (none)) else (none)) else (none)) else (none)) else (none)) else (none)) else (if 0 ≤ x1 then (if x1 < (x0.length : Int) then (if 0 ≤ x2 then (if x2 < (x0.length : Int) then (if 0 ≤ x8 then (if x8 < (x0.length : Int) then (if x7 = 0 then (none) else (if 0 ≤ (Int.tmod (wrap64 (x8 + 1)) x7) then (if (Int.tmod (wrap64 (x8 + 1)) x7) < (x0.length : Int) then ((impl_meet.f ((rd_T61 x0 x1).f0) ((rd_T61 x0 x1).f1) ((rd_T61 x0 x2).f0) ((rd_T61 x0 x2).f1) ((rd_T61 x0 x8).f0) ((rd_T61 x0 x8).f1) ((rd_T61 x0 (Int.tmod (wrap64 (x8 + 1)) x7)).f0) ((rd_T61 x0 (Int.tmod (wrap64 (x8 + 1)) x7)).f1)).bind fun t227 => (if t227 = x9 then (impl_isDiagonal.l0 k x0 x1 x2 x7 x48 (wrap64 (x49 + 1))) else (some false))) else (none)) else (none))) else (none)) else (none)) else (none)) else (none)) else (none)) else (none))
def impl_isDiagonal.l1 : Nat → List (S61) → Int → Int → List (S61) → List (S61) → Int → Int → Option (Bool)
 | 0, _, _, _, _, _, _, _ => none
 | k + 1, x0, x1, x2, x10, x100, x101, x102 => if x102 < x101 then (if 0 ≤ x102 then (if x102 < (x100.length : Int) then (if x10.length < 8796093022208 then (impl_isDiagonal.l1 k x0 x1 x2 (x10 ++ [(⟨wrap64 (2 * ((rd_T61 x100 x102).f0)), wrap64 (2 * ((rd_T61 x100 x102).f1))⟩ : S61)]) x100 x101 (wrap64 (x102 + 1))) else (none)) else (none)) else (none)) else (if 0 ≤ x1 then (if x1 < (x0.length : Int) then (if 0 ≤ x2 then (if x2 < (x0.length : Int) then ((impl_isIn.f k x10 (wrap64 (((rd_T61 x0 x1).f0) + ((rd_T61 x0 x2).f0))) (wrap64 (((rd_T61 x0 x1).f1) + ((rd_T61 x0 x2).f1)))).bind fun t240 => (some t240)) else (none)) else (none)) else (none)) else (none))
end
def impl_isDiagonal.f (k : Nat) (l0 : List (S61)) (a1 : Int) (a2 : Int) : Option (Bool) := (impl_within.f a1 0 (wrap64 ((l0.length : Int) - 1))).bind fun t216 => (if t216 = true then ((impl_within.f a2 0 (wrap64 ((l0.length : Int) - 1))).bind fun t217 => (if t217 = true then (if a1 = a2 then (impl_isDiagonal.j0 k l0 a1 a2 (l0.length : Int) true) else (if (l0.length : Int) = 0 then (none) else (if (Int.tmod (wrap64 (a1 + 1)) (l0.length : Int)) = a2 then (impl_isDiagonal.j0 k l0 a1 a2 (l0.length : Int) true) else (impl_isDiagonal.j0 k l0 a1 a2 (l0.length : Int) ((Int.tmod (wrap64 (a2 + 1)) (l0.length : Int)) == a1))))) else (impl_isDiagonal.j0 k l0 a1 a2 (l0.length : Int) true))) else (impl_isDiagonal.j0 k l0 a1 a2 (l0.length : Int) true))
theorem impl_isDiagonal.mono_l : ∀ k, (∀ y0 y1 y2 y3 y4, LeO (impl_isDiagonal.j0 k y0 y1 y2 y3 y4) (impl_isDiagonal.j0 (k + 1) y0 y1 y2 y3 y4)) ∧ (∀ y0 y1 y2 y3 y4 y5, LeO (impl_isDiagonal.l0 k y0 y1 y2 y3 y4 y5) (impl_isDiagonal.l0 (k + 1) y0 y1 y2 y3 y4 y5)) ∧ (∀ y0 y1 y2 y3 y4 y5 y6 y7 y8, LeO (impl_isDiagonal.j2 k y0 y1 y2 y3 y4 y5 y6 y7 y8) (impl_isDiagonal.j2 (k + 1) y0 y1 y2 y3 y4 y5 y6 y7 y8)) ∧ (∀ y0 y1 y2 y3 y4 y5 y6, LeO (impl_isDiagonal.l1 k y0 y1 y2 y3 y4 y5 y6) (impl_isDiagonal.l1 (k + 1) y0 y1 y2 y3 y4 y5 y6))
 | 0 => ⟨fun _ _ _ _ _ r h => by simp [impl_isDiagonal.j0] at h, fun _ _ _ _ _ _ r h => by simp [impl_isDiagonal.l0] at h, fun _ _ _ _ _ _ _ _ _ r h => by simp [impl_isDiagonal.j2] at h, fun _ _ _ _ _ _ _ r h => by simp [impl_isDiagonal.l1] at h⟩
 | k + 1 => by
  obtain ⟨ih0, ih1, ih2, ih3⟩ := impl_isDiagonal.mono_l k
  refine ⟨?_, ?_, ?_, ?_⟩
  ·intro y0 y1 y2 y3 y4
   unfold impl_isDiagonal.j0
   repeat' first
   | (with_reducible exact ih0 _ _ _ _ _)
   | (with_reducible exact ih1 _ _ _ _ _ _)
   | (with_reducible exact ih2 _ _ _ _ _ _ _ _ _)
   | (with_reducible exact ih3 _ _ _ _ _ _ _)
   | (with_reducible exact impl_isIn.mono _ _ _ _)
   | (with_reducible exact LeO.refl _)
   | (with_reducible exact LeO.none _)
   | (with_reducible refine LeO.ite ?_ ?_)
   | (with_reducible refine LeO.bind ?_ (fun _ => ?_))
   | exact ih0 _ _ _ _ _
   | exact ih1 _ _ _ _ _ _
   | exact ih2 _ _ _ _ _ _ _ _ _
   | exact ih3 _ _ _ _ _ _ _
   | exact impl_isIn.mono _ _ _ _
   | exact LeO.none _
   | refine LeO.ite ?_ ?_
   | refine LeO.bind ?_ (fun _ => ?_)
  ·intro y0 y1 y2 y3 y4 y5
   unfold impl_isDiagonal.l0
   repeat' first
   | (with_reducible exact ih0 _ _ _ _ _)
   | (with_reducible exact ih1 _ _ _ _ _ _)
   | (with_reducible exact ih2 _ _ _ _ _ _ _ _ _)
   | (with_reducible exact ih3 _ _ _ _ _ _ _)
   | (with_reducible exact impl_isIn.mono _ _ _ _)
   | (with_reducible exact LeO.refl _)
   | (with_reducible exact LeO.none _)
   | (with_reducible refine LeO.ite ?_ ?_)
   | (with_reducible refine LeO.bind ?_ (fun _ => ?_))
   | exact ih0 _ _ _ _ _
   | exact ih1 _ _ _ _ _ _
   | exact ih2 _ _ _ _ _ _ _ _ _
   | exact ih3 _ _ _ _ _ _ _
   | exact impl_isIn.mono _ _ _ _
   | exact LeO.none _
   | refine LeO.ite ?_ ?_
   | refine LeO.bind ?_ (fun _ => ?_)
  ·intro y0 y1 y2 y3 y4 y5 y6 y7 y8
   unfold impl_isDiagonal.j2
   repeat' first
   | (with_reducible exact ih0 _ _ _ _ _)
   | (with_reducible exact ih1 _ _ _ _ _ _)
   | (with_reducible exact ih2 _ _ _ _ _ _ _ _ _)
   | (with_reducible exact ih3 _ _ _ _ _ _ _)
   | (with_reducible exact impl_isIn.mono _ _ _ _)
   | (with_reducible exact LeO.refl _)
   | (with_reducible exact LeO.none _)
   | (with_reducible refine LeO.ite ?_ ?_)
   | (with_reducible refine LeO.bind ?_ (fun _ => ?_))
   | exact ih0 _ _ _ _ _
   | exact ih1 _ _ _ _ _ _
   | exact ih2 _ _ _ _ _ _ _ _ _
   | exact ih3 _ _ _ _ _ _ _
   | exact impl_isIn.mono _ _ _ _
   | exact LeO.none _
   | refine LeO.ite ?_ ?_
   | refine LeO.bind ?_ (fun _ => ?_)
  ·intro y0 y1 y2 y3 y4 y5 y6
   unfold impl_isDiagonal.l1
   repeat' first
   | (with_reducible exact ih0 _ _ _ _ _)
   | (with_reducible exact ih1 _ _ _ _ _ _)
   | (with_reducible exact ih2 _ _ _ _ _ _ _ _ _)
   | (with_reducible exact ih3 _ _ _ _ _ _ _)
   | (with_reducible exact impl_isIn.mono _ _ _ _)
   | (with_reducible exact LeO.refl _)
   | (with_reducible exact LeO.none _)
   | (with_reducible refine LeO.ite ?_ ?_)
   | (with_reducible refine LeO.bind ?_ (fun _ => ?_))
   | exact ih0 _ _ _ _ _
   | exact ih1 _ _ _ _ _ _
   | exact ih2 _ _ _ _ _ _ _ _ _
   | exact ih3 _ _ _ _ _ _ _
   | exact impl_isIn.mono _ _ _ _
   | exact LeO.none _
   | refine LeO.ite ?_ ?_
   | refine LeO.bind ?_ (fun _ => ?_)
theorem impl_isDiagonal.mono : ∀ a0 a1 a2 k, LeO (impl_isDiagonal.f k a0 a1 a2) (impl_isDiagonal.f (k + 1) a0 a1 a2) := by
 intro a0 a1 a2 k
 obtain ⟨ih0, ih1, ih2, ih3⟩ := impl_isDiagonal.mono_l k
 unfold impl_isDiagonal.f
 repeat' first
   | (with_reducible exact ih0 _ _ _ _ _)
   | (with_reducible exact ih1 _ _ _ _ _ _)
   | (with_reducible exact ih2 _ _ _ _ _ _ _ _ _)
   | (with_reducible exact ih3 _ _ _ _ _ _ _)
   | (with_reducible exact impl_isIn.mono _ _ _ _)
   | (with_reducible exact LeO.refl _)
   | (with_reducible exact LeO.none _)
   | (with_reducible refine LeO.ite ?_ ?_)
   | (with_reducible refine LeO.bind ?_ (fun _ => ?_))
   | exact ih0 _ _ _ _ _
   | exact ih1 _ _ _ _ _ _
   | exact ih2 _ _ _ _ _ _ _ _ _
   | exact ih3 _ _ _ _ _ _ _
   | exact impl_isIn.mono _ _ _ _
   | exact LeO.none _
   | refine LeO.ite ?_ ?_
   | refine LeO.bind ?_ (fun _ => ?_)
def impl_isDiagonal.T10 : Bool × List (List Nat × List Nat) := (true, [([], []), ([], []), ([0, 1], [0, 1]), ([2], [2]), ([], []), ([], []), ([4, 5], [4, 5]), ([6], [6]), ([], []), ([], []), ([8, 9], [8, 9]), ([10], [10]), ([], []), ([], []), ([13], [13]), ([], []), ([14, 15], [14, 15]), ([12, 16], [12, 16]), ([17], [17]), ([3, 7, 11, 18], [3, 7, 11, 18]), ([], []), ([19, 20], [19, 20])])
def impl_isDiagonal.B10 : List Nat := [0, 0, 3, 7, 0, 0, 48, 112, 0, 0, 768, 1792, 0, 0, 8192, 0, 57344, 126976, 258048, 524287, 0, 2097151]
theorem impl_isDiagonal.tab10 : rtab .any (opsOf Try.f115 10) = impl_isDiagonal.T10 := by kernel_rfl
theorem impl_isDiagonal.bits10 : waitsOk impl_isDiagonal.T10.2 impl_isDiagonal.B10 = true := by kernel_rfl
def impl_isDiagonal.T19 : Bool × List (List Nat × List Nat) := (true, [([], []), ([], []), ([], []), ([1, 2], [1, 2]), ([3], [3]), ([4], [4]), ([], []), ([], []), ([6, 7], [6, 7]), ([8], [8]), ([9], [9]), ([5, 10], [5, 10]), ([], []), ([], []), ([12, 13], [12, 13]), ([14], [14]), ([15], [15]), ([], []), ([], []), ([17, 18], [17, 18]), ([19], [19]), ([20], [20]), ([16, 21], [16, 21]), ([11, 22], [11, 22]), ([0, 23], [0, 23]), ([24, 24, 0, 1, 2, 3, 4, 5, 6, 7, 8, 9, 10, 11, 12, 13, 14, 15, 16, 17, 18, 19, 20, 21, 22, 23, 24], [24])])
def impl_isDiagonal.B19 : List Nat := [0, 0, 0, 6, 14, 30, 0, 0, 192, 448, 960, 2046, 0, 0, 12288, 28672, 61440, 0, 0, 393216, 917504, 1966080, 4190208, 8388606, 16777215, 33554431]
theorem impl_isDiagonal.tab19 : rtab .any (opsOf Try.f115 19) = impl_isDiagonal.T19 := by kernel_rfl
theorem impl_isDiagonal.bits19 : waitsOk impl_isDiagonal.T19.2 impl_isDiagonal.B19 = true := by kernel_rfl
set_option maxHeartbeats 8000000 in
set_option maxRecDepth 100000 in
theorem impl_isDiagonal.calls (k : Nat) (A0 : Option Addr) (c0 : Nat) (l0 : List (S61)) (a1 : Int) (a2 : Int) (r : Bool) (w : World) (hr0 : Kd.C k61 w A0 l0.length l0) (hc0 : l0.length ≤ c0) (h : impl_isDiagonal.f k l0 a1 a2 = some r) :
  Calls Try.prog 115 #[.slice A0 l0.length c0, .int .i64 a1, .int .i64 a2] w fun e w' => e = .returned (.bool r) ∧ Below w.heap.size w w' := by
 have hu61 := Try.underlying61
 have HR0 := zm1 hr0
 have HC0 := zm1 hc0
 clear hr0 hc0
 have HB := zm1 (Below.refl w.heap.size w)
 have H : ((impl_within.f a1 0 (wrap64 ((l0.length : Int) - 1))).bind fun t216 => (if t216 = true then ((impl_within.f a2 0 (wrap64 ((l0.length : Int) - 1))).bind fun t217 => (if t217 = true then (if a1 = a2 then (impl_isDiagonal.j0 k l0 a1 a2 (l0.length : Int) true) else (if (l0.length : Int) = 0 then (none) else (if (Int.tmod (wrap64 (a1 + 1)) (l0.length : Int)) = a2 then (impl_isDiagonal.j0 k l0 a1 a2 (l0.length : Int) true) else (impl_isDiagonal.j0 k l0 a1 a2 (l0.length : Int) ((Int.tmod (wrap64 (a2 + 1)) (l0.length : Int)) == a1))))) else (impl_isDiagonal.j0 k l0 a1 a2 (l0.length : Int) true))) else (impl_isDiagonal.j0 k l0 a1 a2 (l0.length : Int) true))) = some r := h
 clear h
 have HC4 := zm1 H
 clear H
 go_enter Try.func115, Try.ntmps115
 go_upto_region 2 with (fail)
 go_cut [47] (fun v47 wc => ∃ (kq : Nat) (x47_3 : Bool), v47 = .bool x47_3 ∧ Aside0 (impl_isDiagonal.j0 kq l0 a1 a2 (l0.length : Int) x47_3 = some r) ∧ Aside0 (kq ≤ k) ∧ Aside0 (Below w.heap.size w wc))
 case first =>
  have H := HC4.out
  clear HC4
  replace H := Option.bind_eq_some_iff.mp H
  obtain ⟨t216, A50, H⟩ := H
  replace H : (if t216 = true then ((impl_within.f a2 0 (wrap64 ((l0.length : Int) - 1))).bind fun t217 => (if t217 = true then (if a1 = a2 then (impl_isDiagonal.j0 k l0 a1 a2 (l0.length : Int) true) else (if (l0.length : Int) = 0 then (none) else (if (Int.tmod (wrap64 (a1 + 1)) (l0.length : Int)) = a2 then (impl_isDiagonal.j0 k l0 a1 a2 (l0.length : Int) true) else (impl_isDiagonal.j0 k l0 a1 a2 (l0.length : Int) ((Int.tmod (wrap64 (a2 + 1)) (l0.length : Int)) == a1))))) else (impl_isDiagonal.j0 k l0 a1 a2 (l0.length : Int) true))) else (impl_isDiagonal.j0 k l0 a1 a2 (l0.length : Int) true)) = some r := H
  have A5 := zm1 A50
  clear A50
  by_cases c6 : t216 = true
  ·subst c6
   have H1 : ((impl_within.f a2 0 (wrap64 ((l0.length : Int) - 1))).bind fun t217 => (if t217 = true then (if a1 = a2 then (impl_isDiagonal.j0 k l0 a1 a2 (l0.length : Int) true) else (if (l0.length : Int) = 0 then (none) else (if (Int.tmod (wrap64 (a1 + 1)) (l0.length : Int)) = a2 then (impl_isDiagonal.j0 k l0 a1 a2 (l0.length : Int) true) else (impl_isDiagonal.j0 k l0 a1 a2 (l0.length : Int) ((Int.tmod (wrap64 (a2 + 1)) (l0.length : Int)) == a1))))) else (impl_isDiagonal.j0 k l0 a1 a2 (l0.length : Int) true))) = some r := by rw [if_pos rfl] at H; exact H
   clear H
   have H := H1
   clear H1
   replace H := Option.bind_eq_some_iff.mp H
   obtain ⟨t217, A70, H⟩ := H
   replace H : (if t217 = true then (if a1 = a2 then (impl_isDiagonal.j0 k l0 a1 a2 (l0.length : Int) true) else (if (l0.length : Int) = 0 then (none) else (if (Int.tmod (wrap64 (a1 + 1)) (l0.length : Int)) = a2 then (impl_isDiagonal.j0 k l0 a1 a2 (l0.length : Int) true) else (impl_isDiagonal.j0 k l0 a1 a2 (l0.length : Int) ((Int.tmod (wrap64 (a2 + 1)) (l0.length : Int)) == a1))))) else (impl_isDiagonal.j0 k l0 a1 a2 (l0.length : Int) true)) = some r := H
   have A7 := zm1 A70
   clear A70
   by_cases c8 : t217 = true
   ·subst c8
    have H1 : (if a1 = a2 then (impl_isDiagonal.j0 k l0 a1 a2 (l0.length : Int) true) else (if (l0.length : Int) = 0 then (none) else (if (Int.tmod (wrap64 (a1 + 1)) (l0.length : Int)) = a2 then (impl_isDiagonal.j0 k l0 a1 a2 (l0.length : Int) true) else (impl_isDiagonal.j0 k l0 a1 a2 (l0.length : Int) ((Int.tmod (wrap64 (a2 + 1)) (l0.length : Int)) == a1))))) = some r := by rw [if_pos rfl] at H; exact H
    clear H
    have H := H1
    clear H1
    by_cases c9 : a1 = a2
    ·rw [if_pos c9] at H
     have c9b0 : (a1 == a2) = true := beq_iff_eq.mpr c9
     have c9b1 : (a1 != a2) = false := bne_eq_false_iff_eq.mpr c9
     clear c9
     (first | rw [c9b0] | (simp only [i64_w, i32_w]; rw [c9b0]) | skip)
     have H' := zm1 H
     clear H
     go_wp2_with (first | ((with_reducible refine gate_callee (f := 76) rfl ?_); refine goesL_ (some 18) rfl rfl Try.func76 (by kernel_rfl) rfl #[.int .i64 a1, .int .i64 0, .int .i64 (wrap64 ((l0.length : Int) - 1))] rfl (by (try simp only [List.map_toArray, List.map_cons, List.map_nil]); first | done | rfl | (simp only [List.length_drop, List.length_take]; rfl)) ?_; (with_reducible refine (impl_within.calls a1 0 (wrap64 ((l0.length : Int) - 1)) true _ A5.out).mono ?_); rintro e w' ⟨rfl, ⟨nd, rfl⟩⟩; refine ⟨_, rfl, ?_⟩) | (go_at_call 76; (with_reducible refine (impl_within.calls a2 0 (wrap64 ((l0.length : Int) - 1)) true _ A7.out).mono ?_); rintro e w' ⟨rfl, ⟨nd, rfl⟩⟩))
     go_meet
     case rel => exact ⟨_, (true), (by first | rfl | (simp; done) | (simp [*]; done)), H', ⟨by first | omega | exact Nat.le_refl _⟩, ⟨by repeat (first | (with_reducible first | exact HB.out | apply zc1 | apply zc2 | apply zc3) | exact HB.out)⟩⟩
    ·rw [if_neg c9] at H
     have c9b0 : (a1 == a2) = false := beq_eq_false_iff_ne.mpr c9
     have c9b1 : (a1 != a2) = true := bne_iff_ne.mpr c9
     (first | rw [c9b0] | (simp only [i64_w, i32_w]; rw [c9b0]) | skip)
     by_cases c10 : (l0.length : Int) = 0
     ·rw [if_pos c10] at H
      exact absurd H (by simp)
     ·rw [if_neg c10] at H
      have c10b0 : ((l0.length : Int) == 0) = false := beq_eq_false_iff_ne.mpr c10
      have c10b1 : ((l0.length : Int) != 0) = true := bne_iff_ne.mpr c10
      have c10b2 : ¬ (l0 = []) := fun h_ => c10 (by rw [h_]; rfl)
      by_cases c11 : (Int.tmod (wrap64 (a1 + 1)) (l0.length : Int)) = a2
      ·rw [if_pos c11] at H
       have c11b0 : ((Int.tmod (wrap64 (a1 + 1)) (l0.length : Int)) == a2) = true := beq_iff_eq.mpr c11
       have c11b1 : ((Int.tmod (wrap64 (a1 + 1)) (l0.length : Int)) != a2) = false := bne_eq_false_iff_eq.mpr c11
       clear c11
       have H' := zm1 H
       clear H
       go_wp2_with (first | ((with_reducible refine gate_callee (f := 76) rfl ?_); refine goesL_ (some 18) rfl rfl Try.func76 (by kernel_rfl) rfl #[.int .i64 a1, .int .i64 0, .int .i64 (wrap64 ((l0.length : Int) - 1))] rfl (by (try simp only [List.map_toArray, List.map_cons, List.map_nil]); first | done | rfl | (simp only [List.length_drop, List.length_take]; rfl)) ?_; (with_reducible refine (impl_within.calls a1 0 (wrap64 ((l0.length : Int) - 1)) true _ A5.out).mono ?_); rintro e w' ⟨rfl, ⟨nd, rfl⟩⟩; refine ⟨_, rfl, ?_⟩) | (go_at_call 76; (with_reducible refine (impl_within.calls a2 0 (wrap64 ((l0.length : Int) - 1)) true _ A7.out).mono ?_); rintro e w' ⟨rfl, ⟨nd, rfl⟩⟩))
       go_meet
       case rel => exact ⟨_, (true), (by first | rfl | (simp; done) | (simp [*]; done)), H', ⟨by first | omega | exact Nat.le_refl _⟩, ⟨by repeat (first | (with_reducible first | exact HB.out | apply zc1 | apply zc2 | apply zc3) | exact HB.out)⟩⟩
      ·rw [if_neg c11] at H
       have c11b0 : ((Int.tmod (wrap64 (a1 + 1)) (l0.length : Int)) == a2) = false := beq_eq_false_iff_ne.mpr c11
       have c11b1 : ((Int.tmod (wrap64 (a1 + 1)) (l0.length : Int)) != a2) = true := bne_iff_ne.mpr c11
       have H' := zm1 H
       clear H
       go_wp2_with (first | ((with_reducible refine gate_callee (f := 76) rfl ?_); refine goesL_ (some 18) rfl rfl Try.func76 (by kernel_rfl) rfl #[.int .i64 a1, .int .i64 0, .int .i64 (wrap64 ((l0.length : Int) - 1))] rfl (by (try simp only [List.map_toArray, List.map_cons, List.map_nil]); first | done | rfl | (simp only [List.length_drop, List.length_take]; rfl)) ?_; (with_reducible refine (impl_within.calls a1 0 (wrap64 ((l0.length : Int) - 1)) true _ A5.out).mono ?_); rintro e w' ⟨rfl, ⟨nd, rfl⟩⟩; refine ⟨_, rfl, ?_⟩) | (go_at_call 76; (with_reducible refine (impl_within.calls a2 0 (wrap64 ((l0.length : Int) - 1)) true _ A7.out).mono ?_); rintro e w' ⟨rfl, ⟨nd, rfl⟩⟩))
       go_meet
       case rel => exact ⟨_, (((Int.tmod (wrap64 (a2 + 1)) (l0.length : Int)) == a1)), (by first | rfl | (simp; done) | (simp [*]; done)), H', ⟨by first | omega | exact Nat.le_refl _⟩, ⟨by repeat (first | (with_reducible first | exact HB.out | apply zc1 | apply zc2 | apply zc3) | exact HB.out)⟩⟩
   ·replace c8 := Bool.eq_false_iff.mpr c8
    subst c8
    have H1 : (impl_isDiagonal.j0 k l0 a1 a2 (l0.length : Int) true) = some r := by rw [if_neg (show ¬ (false = true) by decide)] at H; exact H
    clear H
    have H := H1
    clear H1
    have H' := zm1 H
    clear H
    go_wp2_with (first | ((with_reducible refine gate_callee (f := 76) rfl ?_); refine goesL_ (some 18) rfl rfl Try.func76 (by kernel_rfl) rfl #[.int .i64 a1, .int .i64 0, .int .i64 (wrap64 ((l0.length : Int) - 1))] rfl (by (try simp only [List.map_toArray, List.map_cons, List.map_nil]); first | done | rfl | (simp only [List.length_drop, List.length_take]; rfl)) ?_; (with_reducible refine (impl_within.calls a1 0 (wrap64 ((l0.length : Int) - 1)) true _ A5.out).mono ?_); rintro e w' ⟨rfl, ⟨nd, rfl⟩⟩; refine ⟨_, rfl, ?_⟩) | (go_at_call 76; (with_reducible refine (impl_within.calls a2 0 (wrap64 ((l0.length : Int) - 1)) false _ A7.out).mono ?_); rintro e w' ⟨rfl, ⟨nd, rfl⟩⟩))
    go_meet
    case rel => exact ⟨_, (true), (by first | rfl | (simp; done) | (simp [*]; done)), H', ⟨by first | omega | exact Nat.le_refl _⟩, ⟨by repeat (first | (with_reducible first | exact HB.out | apply zc1 | apply zc2 | apply zc3) | exact HB.out)⟩⟩
  ·replace c6 := Bool.eq_false_iff.mpr c6
   subst c6
   have H1 : (impl_isDiagonal.j0 k l0 a1 a2 (l0.length : Int) true) = some r := by rw [if_neg (show ¬ (false = true) by decide)] at H; exact H
   clear H
   have H := H1
   clear H1
   have H' := zm1 H
   clear H
   go_wp2_with (first | ((with_reducible refine gate_callee (f := 76) rfl ?_); refine goesL_ (some 18) rfl rfl Try.func76 (by kernel_rfl) rfl #[.int .i64 a1, .int .i64 0, .int .i64 (wrap64 ((l0.length : Int) - 1))] rfl (by (try simp only [List.map_toArray, List.map_cons, List.map_nil]); first | done | rfl | (simp only [List.length_drop, List.length_take]; rfl)) ?_; (with_reducible refine (impl_within.calls a1 0 (wrap64 ((l0.length : Int) - 1)) false _ A5.out).mono ?_); rintro e w' ⟨rfl, ⟨nd, rfl⟩⟩; refine ⟨_, rfl, ?_⟩))
   go_meet
   case rel => exact ⟨_, (true), (by first | rfl | (simp; done) | (simp [*]; done)), H', ⟨by first | omega | exact Nat.le_refl _⟩, ⟨by repeat (first | (with_reducible first | exact HB.out | apply zc1 | apply zc2 | apply zc3) | exact HB.out)⟩⟩
 case rest =>
  clear HC4
  try clear c1
  try clear p2
  try clear c6
  try clear p6
  try clear c7
  try clear c8
  try clear c9
  try clear c9b0
  try clear c9b1
  try clear c10
  try clear c10b0
  try clear c10b1
  try clear c10b2
  try clear c11
  try clear c11b0
  try clear c11b1
  obtain ⟨kq, x47_3, rfl, HA, HJ3, HB⟩ := hcut
  cases kq with
  | zero => exact absurd HA.out (by simp [impl_isDiagonal.j0])
  | succ kj3 =>
   have H := HA.out
   clear HA
   simp only [impl_isDiagonal.j0] at H
   by_cases c12 : x47_3 = true
   ·subst c12
    have H1 : (some false) = some r := by rw [if_pos rfl] at H; exact H
    clear H
    have H := H1
    clear H1
    obtain rfl := Option.some.inj H
    go_wp2
    go_ret
    exact ⟨by first | rfl | (simp [errW_none, errW_some] <;> rfl) | (simp [*, errW_none, errW_some] <;> rfl), by repeat (first | (with_reducible first | exact HB.out | apply zc1 | apply zc2 | apply zc3) | exact HB.out)⟩
   ·replace c12 := Bool.eq_false_iff.mpr c12
    subst c12
    have H1 : (impl_isDiagonal.l0 kj3 l0 a1 a2 (l0.length : Int) (l0.length : Int) 0) = some r := by rw [if_neg (show ¬ (false = true) by decide)] at H; exact H
    clear H
    have H := H1
    clear H1
    have H' := zm1 H
    clear H
    go_wp2
    go_loopg [49] kj3 (fun kq v49 w' => ∃ (x49_2 : Int), v49 = .int .i64 x49_2 ∧ Aside0 (impl_isDiagonal.l0 kq l0 a1 a2 (l0.length : Int) (l0.length : Int) x49_2 = some r) ∧ Aside0 (kq ≤ kj3) ∧ Aside0 (Below w.heap.size w w'))
    case atStart => exact ⟨(0), (by first | rfl | (simp; done) | (simp [*]; done)), H', ⟨Nat.le_refl _⟩, ⟨by repeat (first | (with_reducible first | exact HB.out | apply zc1 | apply zc2 | apply zc3) | exact HB.out)⟩⟩
    case round =>
     clear H'
     try clear c1
     try clear p2
     try clear c6
     try clear p6
     try clear c7
     try clear c8
     try clear c9
     try clear c9b0
     try clear c9b1
     try clear c10
     try clear c10b0
     try clear c10b1
     try clear c10b2
     try clear c11
     try clear c11b0
     try clear c11b1
     try clear c12
     try clear p2
     try clear p6
     obtain ⟨x49_2, rfl, HA, HK2, HB⟩ := hrel
     cases gk with
     | zero => exact absurd HA.out (by simp [impl_isDiagonal.l0])
     | succ k2 =>
      have H := HA.out
      clear HA
      simp only [impl_isDiagonal.l0] at H
      by_cases c13 : x49_2 < (l0.length : Int)
      ·rw [if_pos c13] at H
       have c13b0 : decide (x49_2 < (l0.length : Int)) = true := decide_eq_true c13
       clear c13
       have HC14 := zm1 H
       clear H
       go_upto_region 8 with (fail)
       go_cut [75] (fun v75 wc => ∃ (kq : Nat) (x75_13 : Bool), v75 = .bool x75_13 ∧ Aside0 (impl_isDiagonal.j2 kq l0 a1 a2 (l0.length : Int) x49_2 0 (l0.length : Int) x49_2 x75_13 = some r) ∧ Aside0 (kq ≤ k2) ∧ Aside0 (Below w.heap.size w wc))
       case first =>
        have H := HC14.out
        clear HC14
        by_cases c15 : x49_2 = a1
        ·rw [if_pos c15] at H
         have c15b0 : (x49_2 == a1) = true := beq_iff_eq.mpr c15
         have c15b1 : (x49_2 != a1) = false := bne_eq_false_iff_eq.mpr c15
         clear c15
         (first | rw [c15b0] | (simp only [i64_w, i32_w]; rw [c15b0]) | skip)
         have H' := zm1 H
         clear H
         go_wp2
         go_meet
         case rel => exact ⟨_, (true), (by first | rfl | (simp; done) | (simp [*]; done)), H', ⟨by have := HJ3.out; have := HK2.out; first | omega | exact Nat.le_refl _⟩, ⟨by repeat (first | (with_reducible first | exact HB.out | apply zc1 | apply zc2 | apply zc3) | exact HB.out)⟩⟩
        ·rw [if_neg c15] at H
         have c15b0 : (x49_2 == a1) = false := beq_eq_false_iff_ne.mpr c15
         have c15b1 : (x49_2 != a1) = true := bne_iff_ne.mpr c15
         (first | rw [c15b0] | (simp only [i64_w, i32_w]; rw [c15b0]) | skip)
         by_cases c16 : x49_2 = a2
         ·rw [if_pos c16] at H
          have c16b0 : (x49_2 == a2) = true := beq_iff_eq.mpr c16
          have c16b1 : (x49_2 != a2) = false := bne_eq_false_iff_eq.mpr c16
          clear c16
          have H' := zm1 H
          clear H
          go_wp2
          go_meet
          case rel => exact ⟨_, (true), (by first | rfl | (simp; done) | (simp [*]; done)), H', ⟨by have := HJ3.out; have := HK2.out; first | omega | exact Nat.le_refl _⟩, ⟨by repeat (first | (with_reducible first | exact HB.out | apply zc1 | apply zc2 | apply zc3) | exact HB.out)⟩⟩
         ·rw [if_neg c16] at H
          have c16b0 : (x49_2 == a2) = false := beq_eq_false_iff_ne.mpr c16
          have c16b1 : (x49_2 != a2) = true := bne_iff_ne.mpr c16
          by_cases c17 : (l0.length : Int) = 0
          ·rw [if_pos c17] at H
           exact absurd H (by simp)
          ·rw [if_neg c17] at H
           have c17b0 : ((l0.length : Int) == 0) = false := beq_eq_false_iff_ne.mpr c17
           have c17b1 : ((l0.length : Int) != 0) = true := bne_iff_ne.mpr c17
           have c17b2 : ¬ (l0 = []) := fun h_ => c17 (by rw [h_]; rfl)
           by_cases c18 : (Int.tmod (wrap64 (x49_2 + 1)) (l0.length : Int)) = a1
           ·rw [if_pos c18] at H
            have c18b0 : ((Int.tmod (wrap64 (x49_2 + 1)) (l0.length : Int)) == a1) = true := beq_iff_eq.mpr c18
            have c18b1 : ((Int.tmod (wrap64 (x49_2 + 1)) (l0.length : Int)) != a1) = false := bne_eq_false_iff_eq.mpr c18
            clear c18
            have H' := zm1 H
            clear H
            go_wp2
            go_meet
            case rel => exact ⟨_, (true), (by first | rfl | (simp; done) | (simp [*]; done)), H', ⟨by have := HJ3.out; have := HK2.out; first | omega | exact Nat.le_refl _⟩, ⟨by repeat (first | (with_reducible first | exact HB.out | apply zc1 | apply zc2 | apply zc3) | exact HB.out)⟩⟩
           ·rw [if_neg c18] at H
            have c18b0 : ((Int.tmod (wrap64 (x49_2 + 1)) (l0.length : Int)) == a1) = false := beq_eq_false_iff_ne.mpr c18
            have c18b1 : ((Int.tmod (wrap64 (x49_2 + 1)) (l0.length : Int)) != a1) = true := bne_iff_ne.mpr c18
            have H' := zm1 H
            clear H
            go_wp2
            go_meet
            case rel => exact ⟨_, (((Int.tmod (wrap64 (x49_2 + 1)) (l0.length : Int)) == a2)), (by first | rfl | (simp; done) | (simp [*]; done)), H', ⟨by have := HJ3.out; have := HK2.out; first | omega | exact Nat.le_refl _⟩, ⟨by repeat (first | (with_reducible first | exact HB.out | apply zc1 | apply zc2 | apply zc3) | exact HB.out)⟩⟩
       case rest =>
        clear HC14
        try clear c1
        try clear p2
        try clear c6
        try clear p6
        try clear c7
        try clear c8
        try clear c9
        try clear c9b0
        try clear c9b1
        try clear c10
        try clear c10b0
        try clear c10b1
        try clear c10b2
        try clear c11
        try clear c11b0
        try clear c11b1
        try clear c12
        try clear c13
        try clear c13b0
        try clear c15
        try clear c15b0
        try clear c15b1
        try clear c16
        try clear c16b0
        try clear c16b1
        try clear c17
        try clear c17b0
        try clear c17b1
        try clear c17b2
        try clear c18
        try clear c18b0
        try clear c18b1
        try clear p2
        try clear p6
        obtain ⟨kq, x75_13, rfl, HA, HJ13, HB⟩ := hcut
        cases kq with
        | zero => exact absurd HA.out (by simp [impl_isDiagonal.j2])
        | succ kj13 =>
         have H := HA.out
         clear HA
         simp only [impl_isDiagonal.j2] at H
         by_cases c19 : x75_13 = true
         ·subst c19
          have H1 : (if 0 ≤ a1 then (if a1 < (l0.length : Int) then (if 0 ≤ a2 then (if a2 < (l0.length : Int) then (if 0 ≤ x49_2 then (if x49_2 < (l0.length : Int) then (if (l0.length : Int) = 0 then (none) else (if 0 ≤ (Int.tmod (wrap64 (x49_2 + 1)) (l0.length : Int)) then (if (Int.tmod (wrap64 (x49_2 + 1)) (l0.length : Int)) < (l0.length : Int) then ((impl_meet.f ((rd_T61 l0 a1).f0) ((rd_T61 l0 a1).f1) ((rd_T61 l0 a2).f0) ((rd_T61 l0 a2).f1) ((rd_T61 l0 x49_2).f0) ((rd_T61 l0 x49_2).f1) ((rd_T61 l0 (Int.tmod (wrap64 (x49_2 + 1)) (l0.length : Int))).f0) ((rd_T61 l0 (Int.tmod (wrap64 (x49_2 + 1)) (l0.length : Int))).f1)).bind fun t222 => (if t222 = 1 then (impl_isDiagonal.l0 kj13 l0 a1 a2 (l0.length : Int) (l0.length : Int) (wrap64 (x49_2 + 1))) else (some false))) else (none)) else (none))) else (none)) else (none)) else (none)) else (none)) else (none)) else (none)) = some r := by rw [if_pos rfl] at H; exact H
          clear H
          have H := H1
          clear H1
          by_cases c20 : 0 ≤ a1
          ·rw [if_pos c20] at H
           have c20b0 : decide (0 ≤ a1) = true := decide_eq_true c20
           clear c20
           by_cases c21 : a1 < (l0.length : Int)
           ·rw [if_pos c21] at H
            have c21b0 : decide (a1 < (l0.length : Int)) = true := decide_eq_true c21
            clear c21
            by_cases c22 : 0 ≤ a2
            ·rw [if_pos c22] at H
             have c22b0 : decide (0 ≤ a2) = true := decide_eq_true c22
             clear c22
             by_cases c23 : a2 < (l0.length : Int)
             ·rw [if_pos c23] at H
              have c23b0 : decide (a2 < (l0.length : Int)) = true := decide_eq_true c23
              clear c23
              by_cases c24 : 0 ≤ x49_2
              ·rw [if_pos c24] at H
               have c24b0 : decide (0 ≤ x49_2) = true := decide_eq_true c24
               clear c24
               by_cases c25 : x49_2 < (l0.length : Int)
               ·rw [if_pos c25] at H
                have c25b0 : decide (x49_2 < (l0.length : Int)) = true := decide_eq_true c25
                clear c25
                by_cases c26 : (l0.length : Int) = 0
                ·rw [if_pos c26] at H
                 exact absurd H (by simp)
                ·rw [if_neg c26] at H
                 have c26b0 : ((l0.length : Int) == 0) = false := beq_eq_false_iff_ne.mpr c26
                 have c26b1 : ((l0.length : Int) != 0) = true := bne_iff_ne.mpr c26
                 have c26b2 : ¬ (l0 = []) := fun h_ => c26 (by rw [h_]; rfl)
                 obtain ⟨ji27, hji27⟩ : ∃ j_ : Int, (Int.tmod (wrap64 (x49_2 + 1)) (l0.length : Int)) = j_ := ⟨_, rfl⟩
                 replace H : (if 0 ≤ (ji27) then (if (ji27) < (l0.length : Int) then ((impl_meet.f ((rd_T61 l0 a1).f0) ((rd_T61 l0 a1).f1) ((rd_T61 l0 a2).f0) ((rd_T61 l0 a2).f1) ((rd_T61 l0 x49_2).f0) ((rd_T61 l0 x49_2).f1) ((rd_T61 l0 (ji27)).f0) ((rd_T61 l0 (ji27)).f1)).bind fun t222 => (if t222 = 1 then (impl_isDiagonal.l0 kj13 l0 a1 a2 (l0.length : Int) (l0.length : Int) (wrap64 (x49_2 + 1))) else (some false))) else (none)) else (none)) = some r := by first | (rw [hji27] at H; exact H) | (simp only [hji27] at H ⊢; exact H)
                 by_cases c28 : 0 ≤ (ji27)
                 ·rw [if_pos c28] at H
                  have c28b0 : decide (0 ≤ (ji27)) = true := decide_eq_true c28
                  clear c28
                  by_cases c29 : (ji27) < (l0.length : Int)
                  ·rw [if_pos c29] at H
                   have c29b0 : decide ((ji27) < (l0.length : Int)) = true := decide_eq_true c29
                   clear c29
                   replace H := Option.bind_eq_some_iff.mp H
                   obtain ⟨t222, A300, H⟩ := H
                   replace H : (if t222 = 1 then (impl_isDiagonal.l0 kj13 l0 a1 a2 (l0.length : Int) (l0.length : Int) (wrap64 (x49_2 + 1))) else (some false)) = some r := H
                   have A30 := zm1 A300
                   clear A300
                   by_cases c31 : t222 = 1
                   ·rw [if_pos c31] at H
                    have c31b0 : (t222 == 1) = true := beq_iff_eq.mpr c31
                    have c31b1 : (t222 != 1) = false := bne_eq_false_iff_eq.mpr c31
                    clear c31
                    have H' := zm1 H
                    clear H
                    try go_wp2
                    have n0_ := zm1 (below_drew1 HB.out)
                    clear HB
                    have HB := n0_
                    clear n0_
                    have p218 : 0 ≤ (a1 : Int) := of_decide_eq_true (by assumption)
                    have q218 : a1 < (l0.length : Int) := of_decide_eq_true (by assumption)
                    obtain ⟨ad218, e218, hx218_0, hx218_1⟩ := at_T61 HR0.out a1 p218 q218
                    have hw218_1 := hx218_1
                    have hw218_0 := hx218_0
                    cases e218
                    (try replace hx218_0 := (HB.out.cell (zl hx218_0)).trans hx218_0)
                    (try replace hx218_1 := (HB.out.cell (zl hx218_1)).trans hx218_1)
                    replace p218 := eq_true p218
                    replace q218 := eq_true q218
                    have p219 : 0 ≤ (a2 : Int) := of_decide_eq_true (by assumption)
                    have q219 : a2 < (l0.length : Int) := of_decide_eq_true (by assumption)
                    obtain ⟨ad219, e219, hx219_0, hx219_1⟩ := at_T61 HR0.out a2 p219 q219
                    have hw219_1 := hx219_1
                    have hw219_0 := hx219_0
                    obtain rfl : ad218 = ad219 := (by injection e219)
                    (try replace hx219_0 := (HB.out.cell (zl hx219_0)).trans hx219_0)
                    (try replace hx219_1 := (HB.out.cell (zl hx219_1)).trans hx219_1)
                    replace p219 := eq_true p219
                    replace q219 := eq_true q219
                    have p220 : 0 ≤ (x49_2 : Int) := of_decide_eq_true (by assumption)
                    have q220 : x49_2 < (l0.length : Int) := of_decide_eq_true (by assumption)
                    obtain ⟨ad220, e220, hx220_0, hx220_1⟩ := at_T61 HR0.out x49_2 p220 q220
                    have hw220_1 := hx220_1
                    have hw220_0 := hx220_0
                    obtain rfl : ad218 = ad220 := (by injection e220)
                    (try replace hx220_0 := (HB.out.cell (zl hx220_0)).trans hx220_0)
                    (try replace hx220_1 := (HB.out.cell (zl hx220_1)).trans hx220_1)
                    replace p220 := eq_true p220
                    replace q220 := eq_true q220
                    have p221 : 0 ≤ ((ji27) : Int) := of_decide_eq_true (by assumption)
                    have q221 : (ji27) < (l0.length : Int) := of_decide_eq_true (by assumption)
                    obtain ⟨ad221, e221, hx221_0, hx221_1⟩ := at_T61 HR0.out (ji27) p221 q221
                    have hw221_1 := hx221_1
                    have hw221_0 := hx221_0
                    obtain rfl : ad218 = ad221 := (by injection e221)
                    (try replace hx221_0 := (HB.out.cell (zl hx221_0)).trans hx221_0)
                    (try replace hx221_1 := (HB.out.cell (zl hx221_1)).trans hx221_1)
                    replace p221 := eq_true p221
                    replace q221 := eq_true q221
                    refine start_ (n := 22) (S := fun w' => w'.cell? (ad218.add ((a1).toNat * 2)) = some (.int .i64 ((rd_T61 l0 a1).f0)) ∧ w'.cell? ⟨(ad218.add ((a1).toNat * 2)).block, (ad218.add ((a1).toNat * 2)).off + 1, none⟩ = some (.int .i64 ((rd_T61 l0 a1).f1)) ∧ w'.cell? (ad218.add ((a2).toNat * 2)) = some (.int .i64 ((rd_T61 l0 a2).f0)) ∧ w'.cell? ⟨(ad218.add ((a2).toNat * 2)).block, (ad218.add ((a2).toNat * 2)).off + 1, none⟩ = some (.int .i64 ((rd_T61 l0 a2).f1)) ∧ w'.cell? (ad218.add ((x49_2).toNat * 2)) = some (.int .i64 ((rd_T61 l0 x49_2).f0)) ∧ w'.cell? ⟨(ad218.add ((x49_2).toNat * 2)).block, (ad218.add ((x49_2).toNat * 2)).off + 1, none⟩ = some (.int .i64 ((rd_T61 l0 x49_2).f1)) ∧ w'.cell? (ad218.add (((ji27)).toNat * 2)) = some (.int .i64 ((rd_T61 l0 (ji27)).f0)) ∧ w'.cell? ⟨(ad218.add (((ji27)).toNat * 2)).block, (ad218.add (((ji27)).toNat * 2)).off + 1, none⟩ = some (.int .i64 ((rd_T61 l0 (ji27)).f1))) (ds := []) #[false, false, false, false, false, false, false, false, false, false, false, false, false, false, false, false, false, false, false, false, false, false] (by kernel_rfl) rfl rfl ⟨((HB.out.cell (zl hw218_0)).trans hw218_0), ((HB.out.cell (zl hw218_1)).trans hw218_1), ((HB.out.cell (zl hw219_0)).trans hw219_0), ((HB.out.cell (zl hw219_1)).trans hw219_1), ((HB.out.cell (zl hw220_0)).trans hw220_0), ((HB.out.cell (zl hw220_1)).trans hw220_1), ((HB.out.cell (zl hw221_0)).trans hw221_0), ((HB.out.cell (zl hw221_1)).trans hw221_1)⟩ (fun hHeld => ?_); refine with_tabW impl_isDiagonal.tab10 impl_isDiagonal.bits10 (fun HT_ HW_ => ?_)
                    generalize wc.drew = w32 at HB hx218_0 hx218_1 hx219_0 hx219_1 hx220_0 hx220_1 hx221_0 hx221_1 hHeld ⊢
                    refine pure_ (i := 0) (N := some 76) (v := ?_) (a' := ?_) #[true, false, false, false, false, false, false, false, false, false, false, false, false, false, false, false, false, false, false, false, false, false] rfl rfl (any_of HT_.out (by kernel_rfl)) (fun _ _ _ h => h) (Or.inl ⟨by rfl, ?_⟩) ?_ ?_
                    rotate_left
                    ·intro w'
                     go_simp
                     with_reducible rfl
                    rotate_left
                    ·simp only [Act.put, zs1, zs2, zs3, i64_w, i32_w]
                     rfl
                    refine pure_ (i := 1) (N := some 77) (v := ?_) (a' := ?_) #[true, true, false, false, false, false, false, false, false, false, false, false, false, false, false, false, false, false, false, false, false, false] rfl rfl (any_of HT_.out (by kernel_rfl)) (fun _ _ _ h => h) (Or.inl ⟨by rfl, ?_⟩) ?_ ?_
                    rotate_left
                    ·intro w'
                     go_simp
                     with_reducible rfl
                    rotate_left
                    ·simp only [Act.put, zs1, zs2, zs3, i64_w, i32_w]
                     rfl
                    refine pure_ (i := 2) (N := some 78) (v := ?_) (a' := ?_) #[true, true, true, false, false, false, false, false, false, false, false, false, false, false, false, false, false, false, false, false, false, false] rfl rfl (any_of HT_.out (by kernel_rfl)) (fun _ _ _ h => h) (Or.inl ⟨by rfl, ?_⟩) ?_ ?_
                    rotate_left
                    ·intro w'
                     go_simp
                     with_reducible rfl
                    rotate_left
                    ·simp only [Act.put, zs1, zs2, zs3, i64_w, i32_w]
                     rfl
                    refine pure_ (i := 4) (N := some 80) (v := ?_) (a' := ?_) #[true, true, true, false, true, false, false, false, false, false, false, false, false, false, false, false, false, false, false, false, false, false] rfl rfl (any_of HT_.out (by kernel_rfl)) (fun _ _ _ h => h) (Or.inl ⟨by rfl, ?_⟩) ?_ ?_
                    rotate_left
                    ·intro w'
                     go_simp
                     with_reducible rfl
                    rotate_left
                    ·simp only [Act.put, zs1, zs2, zs3, i64_w, i32_w]
                     rfl
                    refine pure_ (i := 5) (N := some 81) (v := ?_) (a' := ?_) #[true, true, true, false, true, true, false, false, false, false, false, false, false, false, false, false, false, false, false, false, false, false] rfl rfl (any_of HT_.out (by kernel_rfl)) (fun _ _ _ h => h) (Or.inl ⟨by rfl, ?_⟩) ?_ ?_
                    rotate_left
                    ·intro w'
                     go_simp
                     with_reducible rfl
                    rotate_left
                    ·simp only [Act.put, zs1, zs2, zs3, i64_w, i32_w]
                     rfl
                    refine pure_ (i := 6) (N := some 82) (v := ?_) (a' := ?_) #[true, true, true, false, true, true, true, false, false, false, false, false, false, false, false, false, false, false, false, false, false, false] rfl rfl (any_of HT_.out (by kernel_rfl)) (fun _ _ _ h => h) (Or.inl ⟨by rfl, ?_⟩) ?_ ?_
                    rotate_left
                    ·intro w'
                     go_simp
                     with_reducible rfl
                    rotate_left
                    ·simp only [Act.put, zs1, zs2, zs3, i64_w, i32_w]
                     rfl
                    refine pure_ (i := 8) (N := some 84) (v := ?_) (a' := ?_) #[true, true, true, false, true, true, true, false, true, false, false, false, false, false, false, false, false, false, false, false, false, false] rfl rfl (any_of HT_.out (by kernel_rfl)) (fun _ _ _ h => h) (Or.inl ⟨by rfl, ?_⟩) ?_ ?_
                    rotate_left
                    ·intro w'
                     go_simp
                     with_reducible rfl
                    rotate_left
                    ·simp only [Act.put, zs1, zs2, zs3, i64_w, i32_w]
                     rfl
                    refine pure_ (i := 9) (N := some 85) (v := ?_) (a' := ?_) #[true, true, true, false, true, true, true, false, true, true, false, false, false, false, false, false, false, false, false, false, false, false] rfl rfl (any_of HT_.out (by kernel_rfl)) (fun _ _ _ h => h) (Or.inl ⟨by rfl, ?_⟩) ?_ ?_
                    rotate_left
                    ·intro w'
                     go_simp
                     with_reducible rfl
                    rotate_left
                    ·simp only [Act.put, zs1, zs2, zs3, i64_w, i32_w]
                     rfl
                    refine pure_ (i := 10) (N := some 86) (v := ?_) (a' := ?_) #[true, true, true, false, true, true, true, false, true, true, true, false, false, false, false, false, false, false, false, false, false, false] rfl rfl (any_of HT_.out (by kernel_rfl)) (fun _ _ _ h => h) (Or.inl ⟨by rfl, ?_⟩) ?_ ?_
                    rotate_left
                    ·intro w'
                     go_simp
                     with_reducible rfl
                    rotate_left
                    ·simp only [Act.put, zs1, zs2, zs3, i64_w, i32_w]
                     rfl
                    refine pure_ (i := 12) (N := some 88) (v := ?_) (a' := ?_) #[true, true, true, false, true, true, true, false, true, true, true, false, true, false, false, false, false, false, false, false, false, false] rfl rfl (any_of HT_.out (by kernel_rfl)) (fun _ _ _ h => h) (Or.inl ⟨by rfl, ?_⟩) ?_ ?_
                    rotate_left
                    ·intro w'
                     go_simp
                     with_reducible rfl
                    rotate_left
                    ·simp only [Act.put, zs1, zs2, zs3, i64_w, i32_w]
                     rfl
                    refine pure_ (i := 13) (N := some 89) (v := ?_) (a' := ?_) #[true, true, true, false, true, true, true, false, true, true, true, false, true, true, false, false, false, false, false, false, false, false] rfl rfl (any_of HT_.out (by kernel_rfl)) (fun _ _ _ h => h) (Or.inl ⟨by rfl, ?_⟩) ?_ ?_
                    rotate_left
                    ·intro w'
                     go_simp
                     with_reducible rfl
                    rotate_left
                    ·simp only [Act.put, zs1, zs2, zs3, i64_w, i32_w]
                     rfl
                    refine pure_ (i := 14) (N := some 90) (v := ?_) (a' := ?_) #[true, true, true, false, true, true, true, false, true, true, true, false, true, true, true, false, false, false, false, false, false, false] rfl rfl (any_of HT_.out (by kernel_rfl)) (fun _ _ _ h => h) (Or.inl ⟨by rfl, ?_⟩) ?_ ?_
                    rotate_left
                    ·intro w'
                     go_simp
                     with_reducible rfl
                    rotate_left
                    ·simp only [Act.put, zs1, zs2, zs3, i64_w, i32_w]
                     rfl
                    refine pure_ (i := 15) (N := some 91) (v := ?_) (a' := ?_) #[true, true, true, false, true, true, true, false, true, true, true, false, true, true, true, true, false, false, false, false, false, false] rfl rfl (any_of HT_.out (by kernel_rfl)) (fun _ _ _ h => h) (Or.inl ⟨by rfl, ?_⟩) ?_ ?_
                    rotate_left
                    ·intro w'
                     go_simp
                     with_reducible rfl
                    rotate_left
                    ·simp only [Act.put, zs1, zs2, zs3, i64_w, i32_w]
                     rfl
                    refine pure_ (i := 16) (N := some 92) (v := ?_) (a' := ?_) #[true, true, true, false, true, true, true, false, true, true, true, false, true, true, true, true, true, false, false, false, false, false] rfl rfl (any_of HT_.out (by kernel_rfl)) (fun _ _ _ h => h) (Or.inl ⟨by rfl, ?_⟩) ?_ ?_
                    rotate_left
                    ·intro w'
                     go_simp
                     with_reducible rfl
                    rotate_left
                    ·simp only [Act.put, zs1, zs2, zs3, i64_w, i32_w]
                     rfl
                    refine pure_ (i := 17) (N := some 93) (v := ?_) (a' := ?_) #[true, true, true, false, true, true, true, false, true, true, true, false, true, true, true, true, true, true, false, false, false, false] rfl rfl (any_of HT_.out (by kernel_rfl)) (fun _ _ _ h => h) (Or.inl ⟨by rfl, ?_⟩) ?_ ?_
                    rotate_left
                    ·intro w'
                     go_simp
                     with_reducible rfl
                    rotate_left
                    ·simp only [Act.put, zs1, zs2, zs3, i64_w, i32_w]
                     rfl
                    refine pure_ (i := 20) (N := some 96) (v := ?_) (a' := ?_) #[true, true, true, false, true, true, true, false, true, true, true, false, true, true, true, true, true, true, false, false, true, false] rfl rfl (any_of HT_.out (by kernel_rfl)) (fun _ _ _ h => h) (Or.inl ⟨by rfl, ?_⟩) ?_ ?_
                    rotate_left
                    ·intro w'
                     go_simp
                     with_reducible rfl
                    rotate_left
                    ·simp only [Act.put, zs1, zs2, zs3, i64_w, i32_w]
                     rfl
                    refine take_ (i := 3) (N := some 79) (v := ?_) (a' := ?_) #[true, true, true, true, true, true, true, false, true, true, true, false, true, true, true, true, true, true, false, false, true, false] rfl rfl (take_ofW HT_.out HW_.out (by kernel_rfl)) (fun _ _ _ h => h) (Or.inl ⟨by rfl, ?_⟩) hHeld ?_ ?_
                    rotate_left
                    ·rintro w' ⟨s0, s1, s2, s3, s4, s5, s6, s7⟩
                     go_simp
                     with_reducible rfl
                    rotate_left
                    ·simp only [Act.put, zs1, zs2, zs3, i64_w, i32_w]
                     rfl
                    refine take_ (i := 7) (N := some 83) (v := ?_) (a' := ?_) #[true, true, true, true, true, true, true, true, true, true, true, false, true, true, true, true, true, true, false, false, true, false] rfl rfl (take_ofW HT_.out HW_.out (by kernel_rfl)) (fun _ _ _ h => h) (Or.inl ⟨by rfl, ?_⟩) hHeld ?_ ?_
                    rotate_left
                    ·rintro w' ⟨s0, s1, s2, s3, s4, s5, s6, s7⟩
                     go_simp
                     with_reducible rfl
                    rotate_left
                    ·simp only [Act.put, zs1, zs2, zs3, i64_w, i32_w]
                     rfl
                    refine take_ (i := 11) (N := some 87) (v := ?_) (a' := ?_) #[true, true, true, true, true, true, true, true, true, true, true, true, true, true, true, true, true, true, false, false, true, false] rfl rfl (take_ofW HT_.out HW_.out (by kernel_rfl)) (fun _ _ _ h => h) (Or.inl ⟨by rfl, ?_⟩) hHeld ?_ ?_
                    rotate_left
                    ·rintro w' ⟨s0, s1, s2, s3, s4, s5, s6, s7⟩
                     go_simp
                     with_reducible rfl
                    rotate_left
                    ·simp only [Act.put, zs1, zs2, zs3, i64_w, i32_w]
                     rfl
                    refine take_ (i := 18) (N := some 94) (v := ?_) (a' := ?_) #[true, true, true, true, true, true, true, true, true, true, true, true, true, true, true, true, true, true, true, false, true, false] rfl rfl (take_ofW HT_.out HW_.out (by kernel_rfl)) (fun _ _ _ h => h) (Or.inl ⟨by rfl, ?_⟩) hHeld ?_ ?_
                    rotate_left
                    ·rintro w' ⟨s0, s1, s2, s3, s4, s5, s6, s7⟩
                     go_simp
                     with_reducible rfl
                    rotate_left
                    ·simp only [Act.put, zs1, zs2, zs3, i64_w, i32_w]
                     rfl
                    refine one_ (i := 19) (N := some 95) #[true, true, true, true, true, true, true, true, true, true, true, true, true, true, true, true, true, true, true, true, true, false] rfl rfl (one_of HT_.out (by kernel_rfl)) (by decide) (fun K hK => ?_)
                    refine goes_ Try.func114 (by kernel_rfl) rfl #[.agg #[.int .i64 ((rd_T61 l0 a1).f0), .int .i64 ((rd_T61 l0 a1).f1)], .agg #[.int .i64 ((rd_T61 l0 a2).f0), .int .i64 ((rd_T61 l0 a2).f1)], .agg #[.int .i64 ((rd_T61 l0 x49_2).f0), .int .i64 ((rd_T61 l0 x49_2).f1)], .agg #[.int .i64 ((rd_T61 l0 (ji27)).f0), .int .i64 ((rd_T61 l0 (ji27)).f1)]] (by rfl) rfl rfl (by (try simp only [List.map_toArray, List.map_cons, List.map_nil]); first | done | (simp only [hji27]; rfl) | rfl | (simp only [List.length_drop, List.length_take]; rfl)) ?_
                    with_reducible refine (impl_meet.calls ((rd_T61 l0 a1).f0) ((rd_T61 l0 a1).f1) ((rd_T61 l0 a2).f0) ((rd_T61 l0 a2).f1) ((rd_T61 l0 x49_2).f0) ((rd_T61 l0 x49_2).f1) ((rd_T61 l0 (ji27)).f0) ((rd_T61 l0 (ji27)).f1) t222 _ A30.out).mono ?_
                    rintro e w33 ⟨rfl, hb⟩
                    refine ⟨_, rfl, ?_⟩
                    have n0_ := zm1 (zc6 (by repeat (first | (with_reducible first | exact HB.out | apply zc1 | apply zc2 | apply zc3) | exact HB.out)) hb)
                    clear HB
                    have HB := n0_
                    clear n0_
                    (try clear hb)
                    (try clear hb2)
                    (try clear hk)
                    (try clear hi)
                    refine hK.out _ _ ⟨((HB.out.cell (zl hw218_0)).trans hw218_0), ((HB.out.cell (zl hw218_1)).trans hw218_1), ((HB.out.cell (zl hw219_0)).trans hw219_0), ((HB.out.cell (zl hw219_1)).trans hw219_1), ((HB.out.cell (zl hw220_0)).trans hw220_0), ((HB.out.cell (zl hw220_1)).trans hw220_1), ((HB.out.cell (zl hw221_0)).trans hw221_0), ((HB.out.cell (zl hw221_1)).trans hw221_1)⟩ (fun hHeld => ?_)
                    clear hK K
                    refine norm_ (a' := ?_) ?_ ?_
                    rotate_left
                    ·show Act.put _ (some 95) _ = _
                     simp only [Act.put, zs1, zs2, zs3, i64_w, i32_w]
                     rfl
                    refine pure_ (i := 21) (N := some 97) (v := ?_) (a' := ?_) #[true, true, true, true, true, true, true, true, true, true, true, true, true, true, true, true, true, true, true, true, true, true] rfl rfl (any_of HT_.out (by kernel_rfl)) (fun _ _ _ h => h) (Or.inl ⟨by rfl, ?_⟩) ?_ ?_
                    rotate_left
                    ·intro w'
                     go_simp
                     with_reducible rfl
                    rotate_left
                    ·simp only [Act.put, zs1, zs2, zs3, i64_w, i32_w]
                     rfl
                    refine done_ (done_of HT_.out (by kernel_rfl)) ?_
                    try go_wp2
                    go_roundg kj13
                    case measure => have := HJ3.out; have := HK2.out; have := HJ13.out; omega
                    case rel => exact ⟨(wrap64 (x49_2 + 1)), (by first | rfl | (simp; done) | (simp [*]; done)), H', ⟨by have := HJ3.out; have := HK2.out; have := HJ13.out; omega⟩, ⟨by repeat (first | (with_reducible first | exact HB.out | apply zc1 | apply zc2 | apply zc3) | exact HB.out)⟩⟩
                   ·rw [if_neg c31] at H
                    have c31b0 : (t222 == 1) = false := beq_eq_false_iff_ne.mpr c31
                    have c31b1 : (t222 != 1) = true := bne_iff_ne.mpr c31
                    obtain rfl := Option.some.inj H
                    try go_wp2
                    have n0_ := zm1 (below_drew1 HB.out)
                    clear HB
                    have HB := n0_
                    clear n0_
                    have p218 : 0 ≤ (a1 : Int) := of_decide_eq_true (by assumption)
                    have q218 : a1 < (l0.length : Int) := of_decide_eq_true (by assumption)
                    obtain ⟨ad218, e218, hx218_0, hx218_1⟩ := at_T61 HR0.out a1 p218 q218
                    have hw218_1 := hx218_1
                    have hw218_0 := hx218_0
                    cases e218
                    (try replace hx218_0 := (HB.out.cell (zl hx218_0)).trans hx218_0)
                    (try replace hx218_1 := (HB.out.cell (zl hx218_1)).trans hx218_1)
                    replace p218 := eq_true p218
                    replace q218 := eq_true q218
                    have p219 : 0 ≤ (a2 : Int) := of_decide_eq_true (by assumption)
                    have q219 : a2 < (l0.length : Int) := of_decide_eq_true (by assumption)
                    obtain ⟨ad219, e219, hx219_0, hx219_1⟩ := at_T61 HR0.out a2 p219 q219
                    have hw219_1 := hx219_1
                    have hw219_0 := hx219_0
                    obtain rfl : ad218 = ad219 := (by injection e219)
                    (try replace hx219_0 := (HB.out.cell (zl hx219_0)).trans hx219_0)
                    (try replace hx219_1 := (HB.out.cell (zl hx219_1)).trans hx219_1)
                    replace p219 := eq_true p219
                    replace q219 := eq_true q219
                    have p220 : 0 ≤ (x49_2 : Int) := of_decide_eq_true (by assumption)
                    have q220 : x49_2 < (l0.length : Int) := of_decide_eq_true (by assumption)
                    obtain ⟨ad220, e220, hx220_0, hx220_1⟩ := at_T61 HR0.out x49_2 p220 q220
                    have hw220_1 := hx220_1
                    have hw220_0 := hx220_0
                    obtain rfl : ad218 = ad220 := (by injection e220)
                    (try replace hx220_0 := (HB.out.cell (zl hx220_0)).trans hx220_0)
                    (try replace hx220_1 := (HB.out.cell (zl hx220_1)).trans hx220_1)
                    replace p220 := eq_true p220
                    replace q220 := eq_true q220
                    have p221 : 0 ≤ ((ji27) : Int) := of_decide_eq_true (by assumption)
                    have q221 : (ji27) < (l0.length : Int) := of_decide_eq_true (by assumption)
                    obtain ⟨ad221, e221, hx221_0, hx221_1⟩ := at_T61 HR0.out (ji27) p221 q221
                    have hw221_1 := hx221_1
                    have hw221_0 := hx221_0
                    obtain rfl : ad218 = ad221 := (by injection e221)
                    (try replace hx221_0 := (HB.out.cell (zl hx221_0)).trans hx221_0)
                    (try replace hx221_1 := (HB.out.cell (zl hx221_1)).trans hx221_1)
                    replace p221 := eq_true p221
                    replace q221 := eq_true q221
                    refine start_ (n := 22) (S := fun w' => w'.cell? (ad218.add ((a1).toNat * 2)) = some (.int .i64 ((rd_T61 l0 a1).f0)) ∧ w'.cell? ⟨(ad218.add ((a1).toNat * 2)).block, (ad218.add ((a1).toNat * 2)).off + 1, none⟩ = some (.int .i64 ((rd_T61 l0 a1).f1)) ∧ w'.cell? (ad218.add ((a2).toNat * 2)) = some (.int .i64 ((rd_T61 l0 a2).f0)) ∧ w'.cell? ⟨(ad218.add ((a2).toNat * 2)).block, (ad218.add ((a2).toNat * 2)).off + 1, none⟩ = some (.int .i64 ((rd_T61 l0 a2).f1)) ∧ w'.cell? (ad218.add ((x49_2).toNat * 2)) = some (.int .i64 ((rd_T61 l0 x49_2).f0)) ∧ w'.cell? ⟨(ad218.add ((x49_2).toNat * 2)).block, (ad218.add ((x49_2).toNat * 2)).off + 1, none⟩ = some (.int .i64 ((rd_T61 l0 x49_2).f1)) ∧ w'.cell? (ad218.add (((ji27)).toNat * 2)) = some (.int .i64 ((rd_T61 l0 (ji27)).f0)) ∧ w'.cell? ⟨(ad218.add (((ji27)).toNat * 2)).block, (ad218.add (((ji27)).toNat * 2)).off + 1, none⟩ = some (.int .i64 ((rd_T61 l0 (ji27)).f1))) (ds := []) #[false, false, false, false, false, false, false, false, false, false, false, false, false, false, false, false, false, false, false, false, false, false] (by kernel_rfl) rfl rfl ⟨((HB.out.cell (zl hw218_0)).trans hw218_0), ((HB.out.cell (zl hw218_1)).trans hw218_1), ((HB.out.cell (zl hw219_0)).trans hw219_0), ((HB.out.cell (zl hw219_1)).trans hw219_1), ((HB.out.cell (zl hw220_0)).trans hw220_0), ((HB.out.cell (zl hw220_1)).trans hw220_1), ((HB.out.cell (zl hw221_0)).trans hw221_0), ((HB.out.cell (zl hw221_1)).trans hw221_1)⟩ (fun hHeld => ?_); refine with_tabW impl_isDiagonal.tab10 impl_isDiagonal.bits10 (fun HT_ HW_ => ?_)
                    generalize wc.drew = w34 at HB hx218_0 hx218_1 hx219_0 hx219_1 hx220_0 hx220_1 hx221_0 hx221_1 hHeld ⊢
                    refine pure_ (i := 0) (N := some 76) (v := ?_) (a' := ?_) #[true, false, false, false, false, false, false, false, false, false, false, false, false, false, false, false, false, false, false, false, false, false] rfl rfl (any_of HT_.out (by kernel_rfl)) (fun _ _ _ h => h) (Or.inl ⟨by rfl, ?_⟩) ?_ ?_
                    rotate_left
                    ·intro w'
                     go_simp
                     with_reducible rfl
                    rotate_left
                    ·simp only [Act.put, zs1, zs2, zs3, i64_w, i32_w]
                     rfl
                    refine pure_ (i := 1) (N := some 77) (v := ?_) (a' := ?_) #[true, true, false, false, false, false, false, false, false, false, false, false, false, false, false, false, false, false, false, false, false, false] rfl rfl (any_of HT_.out (by kernel_rfl)) (fun _ _ _ h => h) (Or.inl ⟨by rfl, ?_⟩) ?_ ?_
                    rotate_left
                    ·intro w'
                     go_simp
                     with_reducible rfl
                    rotate_left
                    ·simp only [Act.put, zs1, zs2, zs3, i64_w, i32_w]
                     rfl
                    refine pure_ (i := 2) (N := some 78) (v := ?_) (a' := ?_) #[true, true, true, false, false, false, false, false, false, false, false, false, false, false, false, false, false, false, false, false, false, false] rfl rfl (any_of HT_.out (by kernel_rfl)) (fun _ _ _ h => h) (Or.inl ⟨by rfl, ?_⟩) ?_ ?_
                    rotate_left
                    ·intro w'
                     go_simp
                     with_reducible rfl
                    rotate_left
                    ·simp only [Act.put, zs1, zs2, zs3, i64_w, i32_w]
                     rfl
                    refine pure_ (i := 4) (N := some 80) (v := ?_) (a' := ?_) #[true, true, true, false, true, false, false, false, false, false, false, false, false, false, false, false, false, false, false, false, false, false] rfl rfl (any_of HT_.out (by kernel_rfl)) (fun _ _ _ h => h) (Or.inl ⟨by rfl, ?_⟩) ?_ ?_
                    rotate_left
                    ·intro w'
                     go_simp
                     with_reducible rfl
                    rotate_left
                    ·simp only [Act.put, zs1, zs2, zs3, i64_w, i32_w]
                     rfl
                    refine pure_ (i := 5) (N := some 81) (v := ?_) (a' := ?_) #[true, true, true, false, true, true, false, false, false, false, false, false, false, false, false, false, false, false, false, false, false, false] rfl rfl (any_of HT_.out (by kernel_rfl)) (fun _ _ _ h => h) (Or.inl ⟨by rfl, ?_⟩) ?_ ?_
                    rotate_left
                    ·intro w'
                     go_simp
                     with_reducible rfl
                    rotate_left
                    ·simp only [Act.put, zs1, zs2, zs3, i64_w, i32_w]
                     rfl
                    refine pure_ (i := 6) (N := some 82) (v := ?_) (a' := ?_) #[true, true, true, false, true, true, true, false, false, false, false, false, false, false, false, false, false, false, false, false, false, false] rfl rfl (any_of HT_.out (by kernel_rfl)) (fun _ _ _ h => h) (Or.inl ⟨by rfl, ?_⟩) ?_ ?_
                    rotate_left
                    ·intro w'
                     go_simp
                     with_reducible rfl
                    rotate_left
                    ·simp only [Act.put, zs1, zs2, zs3, i64_w, i32_w]
                     rfl
                    refine pure_ (i := 8) (N := some 84) (v := ?_) (a' := ?_) #[true, true, true, false, true, true, true, false, true, false, false, false, false, false, false, false, false, false, false, false, false, false] rfl rfl (any_of HT_.out (by kernel_rfl)) (fun _ _ _ h => h) (Or.inl ⟨by rfl, ?_⟩) ?_ ?_
                    rotate_left
                    ·intro w'
                     go_simp
                     with_reducible rfl
                    rotate_left
                    ·simp only [Act.put, zs1, zs2, zs3, i64_w, i32_w]
                     rfl
                    refine pure_ (i := 9) (N := some 85) (v := ?_) (a' := ?_) #[true, true, true, false, true, true, true, false, true, true, false, false, false, false, false, false, false, false, false, false, false, false] rfl rfl (any_of HT_.out (by kernel_rfl)) (fun _ _ _ h => h) (Or.inl ⟨by rfl, ?_⟩) ?_ ?_
                    rotate_left
                    ·intro w'
                     go_simp
                     with_reducible rfl
                    rotate_left
                    ·simp only [Act.put, zs1, zs2, zs3, i64_w, i32_w]
                     rfl
                    refine pure_ (i := 10) (N := some 86) (v := ?_) (a' := ?_) #[true, true, true, false, true, true, true, false, true, true, true, false, false, false, false, false, false, false, false, false, false, false] rfl rfl (any_of HT_.out (by kernel_rfl)) (fun _ _ _ h => h) (Or.inl ⟨by rfl, ?_⟩) ?_ ?_
                    rotate_left
                    ·intro w'
                     go_simp
                     with_reducible rfl
                    rotate_left
                    ·simp only [Act.put, zs1, zs2, zs3, i64_w, i32_w]
                     rfl
                    refine pure_ (i := 12) (N := some 88) (v := ?_) (a' := ?_) #[true, true, true, false, true, true, true, false, true, true, true, false, true, false, false, false, false, false, false, false, false, false] rfl rfl (any_of HT_.out (by kernel_rfl)) (fun _ _ _ h => h) (Or.inl ⟨by rfl, ?_⟩) ?_ ?_
                    rotate_left
                    ·intro w'
                     go_simp
                     with_reducible rfl
                    rotate_left
                    ·simp only [Act.put, zs1, zs2, zs3, i64_w, i32_w]
                     rfl
                    refine pure_ (i := 13) (N := some 89) (v := ?_) (a' := ?_) #[true, true, true, false, true, true, true, false, true, true, true, false, true, true, false, false, false, false, false, false, false, false] rfl rfl (any_of HT_.out (by kernel_rfl)) (fun _ _ _ h => h) (Or.inl ⟨by rfl, ?_⟩) ?_ ?_
                    rotate_left
                    ·intro w'
                     go_simp
                     with_reducible rfl
                    rotate_left
                    ·simp only [Act.put, zs1, zs2, zs3, i64_w, i32_w]
                     rfl
                    refine pure_ (i := 14) (N := some 90) (v := ?_) (a' := ?_) #[true, true, true, false, true, true, true, false, true, true, true, false, true, true, true, false, false, false, false, false, false, false] rfl rfl (any_of HT_.out (by kernel_rfl)) (fun _ _ _ h => h) (Or.inl ⟨by rfl, ?_⟩) ?_ ?_
                    rotate_left
                    ·intro w'
                     go_simp
                     with_reducible rfl
                    rotate_left
                    ·simp only [Act.put, zs1, zs2, zs3, i64_w, i32_w]
                     rfl
                    refine pure_ (i := 15) (N := some 91) (v := ?_) (a' := ?_) #[true, true, true, false, true, true, true, false, true, true, true, false, true, true, true, true, false, false, false, false, false, false] rfl rfl (any_of HT_.out (by kernel_rfl)) (fun _ _ _ h => h) (Or.inl ⟨by rfl, ?_⟩) ?_ ?_
                    rotate_left
                    ·intro w'
                     go_simp
                     with_reducible rfl
                    rotate_left
                    ·simp only [Act.put, zs1, zs2, zs3, i64_w, i32_w]
                     rfl
                    refine pure_ (i := 16) (N := some 92) (v := ?_) (a' := ?_) #[true, true, true, false, true, true, true, false, true, true, true, false, true, true, true, true, true, false, false, false, false, false] rfl rfl (any_of HT_.out (by kernel_rfl)) (fun _ _ _ h => h) (Or.inl ⟨by rfl, ?_⟩) ?_ ?_
                    rotate_left
                    ·intro w'
                     go_simp
                     with_reducible rfl
                    rotate_left
                    ·simp only [Act.put, zs1, zs2, zs3, i64_w, i32_w]
                     rfl
                    refine pure_ (i := 17) (N := some 93) (v := ?_) (a' := ?_) #[true, true, true, false, true, true, true, false, true, true, true, false, true, true, true, true, true, true, false, false, false, false] rfl rfl (any_of HT_.out (by kernel_rfl)) (fun _ _ _ h => h) (Or.inl ⟨by rfl, ?_⟩) ?_ ?_
                    rotate_left
                    ·intro w'
                     go_simp
                     with_reducible rfl
                    rotate_left
                    ·simp only [Act.put, zs1, zs2, zs3, i64_w, i32_w]
                     rfl
                    refine pure_ (i := 20) (N := some 96) (v := ?_) (a' := ?_) #[true, true, true, false, true, true, true, false, true, true, true, false, true, true, true, true, true, true, false, false, true, false] rfl rfl (any_of HT_.out (by kernel_rfl)) (fun _ _ _ h => h) (Or.inl ⟨by rfl, ?_⟩) ?_ ?_
                    rotate_left
                    ·intro w'
                     go_simp
                     with_reducible rfl
                    rotate_left
                    ·simp only [Act.put, zs1, zs2, zs3, i64_w, i32_w]
                     rfl
                    refine take_ (i := 3) (N := some 79) (v := ?_) (a' := ?_) #[true, true, true, true, true, true, true, false, true, true, true, false, true, true, true, true, true, true, false, false, true, false] rfl rfl (take_ofW HT_.out HW_.out (by kernel_rfl)) (fun _ _ _ h => h) (Or.inl ⟨by rfl, ?_⟩) hHeld ?_ ?_
                    rotate_left
                    ·rintro w' ⟨s0, s1, s2, s3, s4, s5, s6, s7⟩
                     go_simp
                     with_reducible rfl
                    rotate_left
                    ·simp only [Act.put, zs1, zs2, zs3, i64_w, i32_w]
                     rfl
                    refine take_ (i := 7) (N := some 83) (v := ?_) (a' := ?_) #[true, true, true, true, true, true, true, true, true, true, true, false, true, true, true, true, true, true, false, false, true, false] rfl rfl (take_ofW HT_.out HW_.out (by kernel_rfl)) (fun _ _ _ h => h) (Or.inl ⟨by rfl, ?_⟩) hHeld ?_ ?_
                    rotate_left
                    ·rintro w' ⟨s0, s1, s2, s3, s4, s5, s6, s7⟩
                     go_simp
                     with_reducible rfl
                    rotate_left
                    ·simp only [Act.put, zs1, zs2, zs3, i64_w, i32_w]
                     rfl
                    refine take_ (i := 11) (N := some 87) (v := ?_) (a' := ?_) #[true, true, true, true, true, true, true, true, true, true, true, true, true, true, true, true, true, true, false, false, true, false] rfl rfl (take_ofW HT_.out HW_.out (by kernel_rfl)) (fun _ _ _ h => h) (Or.inl ⟨by rfl, ?_⟩) hHeld ?_ ?_
                    rotate_left
                    ·rintro w' ⟨s0, s1, s2, s3, s4, s5, s6, s7⟩
                     go_simp
                     with_reducible rfl
                    rotate_left
                    ·simp only [Act.put, zs1, zs2, zs3, i64_w, i32_w]
                     rfl
                    refine take_ (i := 18) (N := some 94) (v := ?_) (a' := ?_) #[true, true, true, true, true, true, true, true, true, true, true, true, true, true, true, true, true, true, true, false, true, false] rfl rfl (take_ofW HT_.out HW_.out (by kernel_rfl)) (fun _ _ _ h => h) (Or.inl ⟨by rfl, ?_⟩) hHeld ?_ ?_
                    rotate_left
                    ·rintro w' ⟨s0, s1, s2, s3, s4, s5, s6, s7⟩
                     go_simp
                     with_reducible rfl
                    rotate_left
                    ·simp only [Act.put, zs1, zs2, zs3, i64_w, i32_w]
                     rfl
                    refine one_ (i := 19) (N := some 95) #[true, true, true, true, true, true, true, true, true, true, true, true, true, true, true, true, true, true, true, true, true, false] rfl rfl (one_of HT_.out (by kernel_rfl)) (by decide) (fun K hK => ?_)
                    refine goes_ Try.func114 (by kernel_rfl) rfl #[.agg #[.int .i64 ((rd_T61 l0 a1).f0), .int .i64 ((rd_T61 l0 a1).f1)], .agg #[.int .i64 ((rd_T61 l0 a2).f0), .int .i64 ((rd_T61 l0 a2).f1)], .agg #[.int .i64 ((rd_T61 l0 x49_2).f0), .int .i64 ((rd_T61 l0 x49_2).f1)], .agg #[.int .i64 ((rd_T61 l0 (ji27)).f0), .int .i64 ((rd_T61 l0 (ji27)).f1)]] (by rfl) rfl rfl (by (try simp only [List.map_toArray, List.map_cons, List.map_nil]); first | done | (simp only [hji27]; rfl) | rfl | (simp only [List.length_drop, List.length_take]; rfl)) ?_
                    with_reducible refine (impl_meet.calls ((rd_T61 l0 a1).f0) ((rd_T61 l0 a1).f1) ((rd_T61 l0 a2).f0) ((rd_T61 l0 a2).f1) ((rd_T61 l0 x49_2).f0) ((rd_T61 l0 x49_2).f1) ((rd_T61 l0 (ji27)).f0) ((rd_T61 l0 (ji27)).f1) t222 _ A30.out).mono ?_
                    rintro e w35 ⟨rfl, hb⟩
                    refine ⟨_, rfl, ?_⟩
                    have n0_ := zm1 (zc6 (by repeat (first | (with_reducible first | exact HB.out | apply zc1 | apply zc2 | apply zc3) | exact HB.out)) hb)
                    clear HB
                    have HB := n0_
                    clear n0_
                    (try clear hb)
                    (try clear hb2)
                    (try clear hk)
                    (try clear hi)
                    refine hK.out _ _ ⟨((HB.out.cell (zl hw218_0)).trans hw218_0), ((HB.out.cell (zl hw218_1)).trans hw218_1), ((HB.out.cell (zl hw219_0)).trans hw219_0), ((HB.out.cell (zl hw219_1)).trans hw219_1), ((HB.out.cell (zl hw220_0)).trans hw220_0), ((HB.out.cell (zl hw220_1)).trans hw220_1), ((HB.out.cell (zl hw221_0)).trans hw221_0), ((HB.out.cell (zl hw221_1)).trans hw221_1)⟩ (fun hHeld => ?_)
                    clear hK K
                    refine norm_ (a' := ?_) ?_ ?_
                    rotate_left
                    ·show Act.put _ (some 95) _ = _
                     simp only [Act.put, zs1, zs2, zs3, i64_w, i32_w]
                     rfl
                    refine pure_ (i := 21) (N := some 97) (v := ?_) (a' := ?_) #[true, true, true, true, true, true, true, true, true, true, true, true, true, true, true, true, true, true, true, true, true, true] rfl rfl (any_of HT_.out (by kernel_rfl)) (fun _ _ _ h => h) (Or.inl ⟨by rfl, ?_⟩) ?_ ?_
                    rotate_left
                    ·intro w'
                     go_simp
                     with_reducible rfl
                    rotate_left
                    ·simp only [Act.put, zs1, zs2, zs3, i64_w, i32_w]
                     rfl
                    refine done_ (done_of HT_.out (by kernel_rfl)) ?_
                    try go_wp2
                    go_ret
                    exact ⟨by first | rfl | (simp [errW_none, errW_some] <;> rfl) | (simp only [← hji27]; first | rfl | (simp [errW_none, errW_some] <;> rfl)) | (simp [*, errW_none, errW_some] <;> rfl), by repeat (first | (with_reducible first | exact HB.out | apply zc1 | apply zc2 | apply zc3) | exact HB.out)⟩
                  ·rw [if_neg c29] at H
                   exact absurd H (by simp)
                 ·rw [if_neg c28] at H
                  exact absurd H (by simp)
               ·rw [if_neg c25] at H
                exact absurd H (by simp)
              ·rw [if_neg c24] at H
               exact absurd H (by simp)
             ·rw [if_neg c23] at H
              exact absurd H (by simp)
            ·rw [if_neg c22] at H
             exact absurd H (by simp)
           ·rw [if_neg c21] at H
            exact absurd H (by simp)
          ·rw [if_neg c20] at H
           exact absurd H (by simp)
         ·replace c19 := Bool.eq_false_iff.mpr c19
          subst c19
          have H1 : (if 0 ≤ a1 then (if a1 < (l0.length : Int) then (if 0 ≤ a2 then (if a2 < (l0.length : Int) then (if 0 ≤ x49_2 then (if x49_2 < (l0.length : Int) then (if (l0.length : Int) = 0 then (none) else (if 0 ≤ (Int.tmod (wrap64 (x49_2 + 1)) (l0.length : Int)) then (if (Int.tmod (wrap64 (x49_2 + 1)) (l0.length : Int)) < (l0.length : Int) then ((impl_meet.f ((rd_T61 l0 a1).f0) ((rd_T61 l0 a1).f1) ((rd_T61 l0 a2).f0) ((rd_T61 l0 a2).f1) ((rd_T61 l0 x49_2).f0) ((rd_T61 l0 x49_2).f1) ((rd_T61 l0 (Int.tmod (wrap64 (x49_2 + 1)) (l0.length : Int))).f0) ((rd_T61 l0 (Int.tmod (wrap64 (x49_2 + 1)) (l0.length : Int))).f1)).bind fun t227 => (if t227 = 0 then (impl_isDiagonal.l0 kj13 l0 a1 a2 (l0.length : Int) (l0.length : Int) (wrap64 (x49_2 + 1))) else (some false))) else (none)) else (none))) else (none)) else (none)) else (none)) else (none)) else (none)) else (none)) = some r := by rw [if_neg (show ¬ (false = true) by decide)] at H; exact H
          clear H
          have H := H1
          clear H1
          by_cases c36 : 0 ≤ a1
          ·rw [if_pos c36] at H
           have c36b0 : decide (0 ≤ a1) = true := decide_eq_true c36
           clear c36
           by_cases c37 : a1 < (l0.length : Int)
           ·rw [if_pos c37] at H
            have c37b0 : decide (a1 < (l0.length : Int)) = true := decide_eq_true c37
            clear c37
            by_cases c38 : 0 ≤ a2
            ·rw [if_pos c38] at H
             have c38b0 : decide (0 ≤ a2) = true := decide_eq_true c38
             clear c38
             by_cases c39 : a2 < (l0.length : Int)
             ·rw [if_pos c39] at H
              have c39b0 : decide (a2 < (l0.length : Int)) = true := decide_eq_true c39
              clear c39
              by_cases c40 : 0 ≤ x49_2
              ·rw [if_pos c40] at H
               have c40b0 : decide (0 ≤ x49_2) = true := decide_eq_true c40
               clear c40
               by_cases c41 : x49_2 < (l0.length : Int)
               ·rw [if_pos c41] at H
                have c41b0 : decide (x49_2 < (l0.length : Int)) = true := decide_eq_true c41
                clear c41
                by_cases c42 : (l0.length : Int) = 0
                ·rw [if_pos c42] at H
                 exact absurd H (by simp)
                ·rw [if_neg c42] at H
                 have c42b0 : ((l0.length : Int) == 0) = false := beq_eq_false_iff_ne.mpr c42
                 have c42b1 : ((l0.length : Int) != 0) = true := bne_iff_ne.mpr c42
                 have c42b2 : ¬ (l0 = []) := fun h_ => c42 (by rw [h_]; rfl)
                 obtain ⟨ji43, hji43⟩ : ∃ j_ : Int, (Int.tmod (wrap64 (x49_2 + 1)) (l0.length : Int)) = j_ := ⟨_, rfl⟩
                 replace H : (if 0 ≤ (ji43) then (if (ji43) < (l0.length : Int) then ((impl_meet.f ((rd_T61 l0 a1).f0) ((rd_T61 l0 a1).f1) ((rd_T61 l0 a2).f0) ((rd_T61 l0 a2).f1) ((rd_T61 l0 x49_2).f0) ((rd_T61 l0 x49_2).f1) ((rd_T61 l0 (ji43)).f0) ((rd_T61 l0 (ji43)).f1)).bind fun t227 => (if t227 = 0 then (impl_isDiagonal.l0 kj13 l0 a1 a2 (l0.length : Int) (l0.length : Int) (wrap64 (x49_2 + 1))) else (some false))) else (none)) else (none)) = some r := by first | (rw [hji43] at H; exact H) | (simp only [hji43] at H ⊢; exact H)
                 by_cases c44 : 0 ≤ (ji43)
                 ·rw [if_pos c44] at H
                  have c44b0 : decide (0 ≤ (ji43)) = true := decide_eq_true c44
                  clear c44
                  by_cases c45 : (ji43) < (l0.length : Int)
                  ·rw [if_pos c45] at H
                   have c45b0 : decide ((ji43) < (l0.length : Int)) = true := decide_eq_true c45
                   clear c45
                   replace H := Option.bind_eq_some_iff.mp H
                   obtain ⟨t227, A460, H⟩ := H
                   replace H : (if t227 = 0 then (impl_isDiagonal.l0 kj13 l0 a1 a2 (l0.length : Int) (l0.length : Int) (wrap64 (x49_2 + 1))) else (some false)) = some r := H
                   have A46 := zm1 A460
                   clear A460
                   by_cases c47 : t227 = 0
                   ·rw [if_pos c47] at H
                    have c47b0 : (t227 == 0) = true := beq_iff_eq.mpr c47
                    have c47b1 : (t227 != 0) = false := bne_eq_false_iff_eq.mpr c47
                    clear c47
                    have H' := zm1 H
                    clear H
                    try go_wp2
                    have n0_ := zm1 (below_drew1 HB.out)
                    clear HB
                    have HB := n0_
                    clear n0_
                    have p223 : 0 ≤ (a1 : Int) := of_decide_eq_true (by assumption)
                    have q223 : a1 < (l0.length : Int) := of_decide_eq_true (by assumption)
                    obtain ⟨ad223, e223, hx223_0, hx223_1⟩ := at_T61 HR0.out a1 p223 q223
                    have hw223_1 := hx223_1
                    have hw223_0 := hx223_0
                    cases e223
                    (try replace hx223_0 := (HB.out.cell (zl hx223_0)).trans hx223_0)
                    (try replace hx223_1 := (HB.out.cell (zl hx223_1)).trans hx223_1)
                    replace p223 := eq_true p223
                    replace q223 := eq_true q223
                    have p224 : 0 ≤ (a2 : Int) := of_decide_eq_true (by assumption)
                    have q224 : a2 < (l0.length : Int) := of_decide_eq_true (by assumption)
                    obtain ⟨ad224, e224, hx224_0, hx224_1⟩ := at_T61 HR0.out a2 p224 q224
                    have hw224_1 := hx224_1
                    have hw224_0 := hx224_0
                    obtain rfl : ad223 = ad224 := (by injection e224)
                    (try replace hx224_0 := (HB.out.cell (zl hx224_0)).trans hx224_0)
                    (try replace hx224_1 := (HB.out.cell (zl hx224_1)).trans hx224_1)
                    replace p224 := eq_true p224
                    replace q224 := eq_true q224
                    have p225 : 0 ≤ (x49_2 : Int) := of_decide_eq_true (by assumption)
                    have q225 : x49_2 < (l0.length : Int) := of_decide_eq_true (by assumption)
                    obtain ⟨ad225, e225, hx225_0, hx225_1⟩ := at_T61 HR0.out x49_2 p225 q225
                    have hw225_1 := hx225_1
                    have hw225_0 := hx225_0
                    obtain rfl : ad223 = ad225 := (by injection e225)
                    (try replace hx225_0 := (HB.out.cell (zl hx225_0)).trans hx225_0)
                    (try replace hx225_1 := (HB.out.cell (zl hx225_1)).trans hx225_1)
                    replace p225 := eq_true p225
                    replace q225 := eq_true q225
                    have p226 : 0 ≤ ((ji43) : Int) := of_decide_eq_true (by assumption)
                    have q226 : (ji43) < (l0.length : Int) := of_decide_eq_true (by assumption)
                    obtain ⟨ad226, e226, hx226_0, hx226_1⟩ := at_T61 HR0.out (ji43) p226 q226
                    have hw226_1 := hx226_1
                    have hw226_0 := hx226_0
                    obtain rfl : ad223 = ad226 := (by injection e226)
                    (try replace hx226_0 := (HB.out.cell (zl hx226_0)).trans hx226_0)
                    (try replace hx226_1 := (HB.out.cell (zl hx226_1)).trans hx226_1)
                    replace p226 := eq_true p226
                    replace q226 := eq_true q226
                    refine start_ (n := 22) (S := fun w' => w'.cell? (ad223.add ((a1).toNat * 2)) = some (.int .i64 ((rd_T61 l0 a1).f0)) ∧ w'.cell? ⟨(ad223.add ((a1).toNat * 2)).block, (ad223.add ((a1).toNat * 2)).off + 1, none⟩ = some (.int .i64 ((rd_T61 l0 a1).f1)) ∧ w'.cell? (ad223.add ((a2).toNat * 2)) = some (.int .i64 ((rd_T61 l0 a2).f0)) ∧ w'.cell? ⟨(ad223.add ((a2).toNat * 2)).block, (ad223.add ((a2).toNat * 2)).off + 1, none⟩ = some (.int .i64 ((rd_T61 l0 a2).f1)) ∧ w'.cell? (ad223.add ((x49_2).toNat * 2)) = some (.int .i64 ((rd_T61 l0 x49_2).f0)) ∧ w'.cell? ⟨(ad223.add ((x49_2).toNat * 2)).block, (ad223.add ((x49_2).toNat * 2)).off + 1, none⟩ = some (.int .i64 ((rd_T61 l0 x49_2).f1)) ∧ w'.cell? (ad223.add (((ji43)).toNat * 2)) = some (.int .i64 ((rd_T61 l0 (ji43)).f0)) ∧ w'.cell? ⟨(ad223.add (((ji43)).toNat * 2)).block, (ad223.add (((ji43)).toNat * 2)).off + 1, none⟩ = some (.int .i64 ((rd_T61 l0 (ji43)).f1))) (ds := []) #[false, false, false, false, false, false, false, false, false, false, false, false, false, false, false, false, false, false, false, false, false, false] (by kernel_rfl) rfl rfl ⟨((HB.out.cell (zl hw223_0)).trans hw223_0), ((HB.out.cell (zl hw223_1)).trans hw223_1), ((HB.out.cell (zl hw224_0)).trans hw224_0), ((HB.out.cell (zl hw224_1)).trans hw224_1), ((HB.out.cell (zl hw225_0)).trans hw225_0), ((HB.out.cell (zl hw225_1)).trans hw225_1), ((HB.out.cell (zl hw226_0)).trans hw226_0), ((HB.out.cell (zl hw226_1)).trans hw226_1)⟩ (fun hHeld => ?_); refine with_tabW impl_isDiagonal.tab10 impl_isDiagonal.bits10 (fun HT_ HW_ => ?_)
                    generalize wc.drew = w48 at HB hx223_0 hx223_1 hx224_0 hx224_1 hx225_0 hx225_1 hx226_0 hx226_1 hHeld ⊢
                    refine pure_ (i := 0) (N := some 76) (v := ?_) (a' := ?_) #[true, false, false, false, false, false, false, false, false, false, false, false, false, false, false, false, false, false, false, false, false, false] rfl rfl (any_of HT_.out (by kernel_rfl)) (fun _ _ _ h => h) (Or.inl ⟨by rfl, ?_⟩) ?_ ?_
                    rotate_left
                    ·intro w'
                     go_simp
                     with_reducible rfl
                    rotate_left
                    ·simp only [Act.put, zs1, zs2, zs3, i64_w, i32_w]
                     rfl
                    refine pure_ (i := 1) (N := some 77) (v := ?_) (a' := ?_) #[true, true, false, false, false, false, false, false, false, false, false, false, false, false, false, false, false, false, false, false, false, false] rfl rfl (any_of HT_.out (by kernel_rfl)) (fun _ _ _ h => h) (Or.inl ⟨by rfl, ?_⟩) ?_ ?_
                    rotate_left
                    ·intro w'
                     go_simp
                     with_reducible rfl
                    rotate_left
                    ·simp only [Act.put, zs1, zs2, zs3, i64_w, i32_w]
                     rfl
                    refine pure_ (i := 2) (N := some 78) (v := ?_) (a' := ?_) #[true, true, true, false, false, false, false, false, false, false, false, false, false, false, false, false, false, false, false, false, false, false] rfl rfl (any_of HT_.out (by kernel_rfl)) (fun _ _ _ h => h) (Or.inl ⟨by rfl, ?_⟩) ?_ ?_
                    rotate_left
                    ·intro w'
                     go_simp
                     with_reducible rfl
                    rotate_left
                    ·simp only [Act.put, zs1, zs2, zs3, i64_w, i32_w]
                     rfl
                    refine pure_ (i := 4) (N := some 80) (v := ?_) (a' := ?_) #[true, true, true, false, true, false, false, false, false, false, false, false, false, false, false, false, false, false, false, false, false, false] rfl rfl (any_of HT_.out (by kernel_rfl)) (fun _ _ _ h => h) (Or.inl ⟨by rfl, ?_⟩) ?_ ?_
                    rotate_left
                    ·intro w'
                     go_simp
                     with_reducible rfl
                    rotate_left
                    ·simp only [Act.put, zs1, zs2, zs3, i64_w, i32_w]
                     rfl
                    refine pure_ (i := 5) (N := some 81) (v := ?_) (a' := ?_) #[true, true, true, false, true, true, false, false, false, false, false, false, false, false, false, false, false, false, false, false, false, false] rfl rfl (any_of HT_.out (by kernel_rfl)) (fun _ _ _ h => h) (Or.inl ⟨by rfl, ?_⟩) ?_ ?_
                    rotate_left
                    ·intro w'
                     go_simp
                     with_reducible rfl
                    rotate_left
                    ·simp only [Act.put, zs1, zs2, zs3, i64_w, i32_w]
                     rfl
                    refine pure_ (i := 6) (N := some 82) (v := ?_) (a' := ?_) #[true, true, true, false, true, true, true, false, false, false, false, false, false, false, false, false, false, false, false, false, false, false] rfl rfl (any_of HT_.out (by kernel_rfl)) (fun _ _ _ h => h) (Or.inl ⟨by rfl, ?_⟩) ?_ ?_
                    rotate_left
                    ·intro w'
                     go_simp
                     with_reducible rfl
                    rotate_left
                    ·simp only [Act.put, zs1, zs2, zs3, i64_w, i32_w]
                     rfl
                    refine pure_ (i := 8) (N := some 84) (v := ?_) (a' := ?_) #[true, true, true, false, true, true, true, false, true, false, false, false, false, false, false, false, false, false, false, false, false, false] rfl rfl (any_of HT_.out (by kernel_rfl)) (fun _ _ _ h => h) (Or.inl ⟨by rfl, ?_⟩) ?_ ?_
                    rotate_left
                    ·intro w'
                     go_simp
                     with_reducible rfl
                    rotate_left
                    ·simp only [Act.put, zs1, zs2, zs3, i64_w, i32_w]
                     rfl
                    refine pure_ (i := 9) (N := some 85) (v := ?_) (a' := ?_) #[true, true, true, false, true, true, true, false, true, true, false, false, false, false, false, false, false, false, false, false, false, false] rfl rfl (any_of HT_.out (by kernel_rfl)) (fun _ _ _ h => h) (Or.inl ⟨by rfl, ?_⟩) ?_ ?_
                    rotate_left
                    ·intro w'
                     go_simp
                     with_reducible rfl
                    rotate_left
                    ·simp only [Act.put, zs1, zs2, zs3, i64_w, i32_w]
                     rfl
                    refine pure_ (i := 10) (N := some 86) (v := ?_) (a' := ?_) #[true, true, true, false, true, true, true, false, true, true, true, false, false, false, false, false, false, false, false, false, false, false] rfl rfl (any_of HT_.out (by kernel_rfl)) (fun _ _ _ h => h) (Or.inl ⟨by rfl, ?_⟩) ?_ ?_
                    rotate_left
                    ·intro w'
                     go_simp
                     with_reducible rfl
                    rotate_left
                    ·simp only [Act.put, zs1, zs2, zs3, i64_w, i32_w]
                     rfl
                    refine pure_ (i := 12) (N := some 88) (v := ?_) (a' := ?_) #[true, true, true, false, true, true, true, false, true, true, true, false, true, false, false, false, false, false, false, false, false, false] rfl rfl (any_of HT_.out (by kernel_rfl)) (fun _ _ _ h => h) (Or.inl ⟨by rfl, ?_⟩) ?_ ?_
                    rotate_left
                    ·intro w'
                     go_simp
                     with_reducible rfl
                    rotate_left
                    ·simp only [Act.put, zs1, zs2, zs3, i64_w, i32_w]
                     rfl
                    refine pure_ (i := 13) (N := some 89) (v := ?_) (a' := ?_) #[true, true, true, false, true, true, true, false, true, true, true, false, true, true, false, false, false, false, false, false, false, false] rfl rfl (any_of HT_.out (by kernel_rfl)) (fun _ _ _ h => h) (Or.inl ⟨by rfl, ?_⟩) ?_ ?_
                    rotate_left
                    ·intro w'
                     go_simp
                     with_reducible rfl
                    rotate_left
                    ·simp only [Act.put, zs1, zs2, zs3, i64_w, i32_w]
                     rfl
                    refine pure_ (i := 14) (N := some 90) (v := ?_) (a' := ?_) #[true, true, true, false, true, true, true, false, true, true, true, false, true, true, true, false, false, false, false, false, false, false] rfl rfl (any_of HT_.out (by kernel_rfl)) (fun _ _ _ h => h) (Or.inl ⟨by rfl, ?_⟩) ?_ ?_
                    rotate_left
                    ·intro w'
                     go_simp
                     with_reducible rfl
                    rotate_left
                    ·simp only [Act.put, zs1, zs2, zs3, i64_w, i32_w]
                     rfl
                    refine pure_ (i := 15) (N := some 91) (v := ?_) (a' := ?_) #[true, true, true, false, true, true, true, false, true, true, true, false, true, true, true, true, false, false, false, false, false, false] rfl rfl (any_of HT_.out (by kernel_rfl)) (fun _ _ _ h => h) (Or.inl ⟨by rfl, ?_⟩) ?_ ?_
                    rotate_left
                    ·intro w'
                     go_simp
                     with_reducible rfl
                    rotate_left
                    ·simp only [Act.put, zs1, zs2, zs3, i64_w, i32_w]
                     rfl
                    refine pure_ (i := 16) (N := some 92) (v := ?_) (a' := ?_) #[true, true, true, false, true, true, true, false, true, true, true, false, true, true, true, true, true, false, false, false, false, false] rfl rfl (any_of HT_.out (by kernel_rfl)) (fun _ _ _ h => h) (Or.inl ⟨by rfl, ?_⟩) ?_ ?_
                    rotate_left
                    ·intro w'
                     go_simp
                     with_reducible rfl
                    rotate_left
                    ·simp only [Act.put, zs1, zs2, zs3, i64_w, i32_w]
                     rfl
                    refine pure_ (i := 17) (N := some 93) (v := ?_) (a' := ?_) #[true, true, true, false, true, true, true, false, true, true, true, false, true, true, true, true, true, true, false, false, false, false] rfl rfl (any_of HT_.out (by kernel_rfl)) (fun _ _ _ h => h) (Or.inl ⟨by rfl, ?_⟩) ?_ ?_
                    rotate_left
                    ·intro w'
                     go_simp
                     with_reducible rfl
                    rotate_left
                    ·simp only [Act.put, zs1, zs2, zs3, i64_w, i32_w]
                     rfl
                    refine pure_ (i := 20) (N := some 96) (v := ?_) (a' := ?_) #[true, true, true, false, true, true, true, false, true, true, true, false, true, true, true, true, true, true, false, false, true, false] rfl rfl (any_of HT_.out (by kernel_rfl)) (fun _ _ _ h => h) (Or.inl ⟨by rfl, ?_⟩) ?_ ?_
                    rotate_left
                    ·intro w'
                     go_simp
                     with_reducible rfl
                    rotate_left
                    ·simp only [Act.put, zs1, zs2, zs3, i64_w, i32_w]
                     rfl
                    refine take_ (i := 3) (N := some 79) (v := ?_) (a' := ?_) #[true, true, true, true, true, true, true, false, true, true, true, false, true, true, true, true, true, true, false, false, true, false] rfl rfl (take_ofW HT_.out HW_.out (by kernel_rfl)) (fun _ _ _ h => h) (Or.inl ⟨by rfl, ?_⟩) hHeld ?_ ?_
                    rotate_left
                    ·rintro w' ⟨s0, s1, s2, s3, s4, s5, s6, s7⟩
                     go_simp
                     with_reducible rfl
                    rotate_left
                    ·simp only [Act.put, zs1, zs2, zs3, i64_w, i32_w]
                     rfl
                    refine take_ (i := 7) (N := some 83) (v := ?_) (a' := ?_) #[true, true, true, true, true, true, true, true, true, true, true, false, true, true, true, true, true, true, false, false, true, false] rfl rfl (take_ofW HT_.out HW_.out (by kernel_rfl)) (fun _ _ _ h => h) (Or.inl ⟨by rfl, ?_⟩) hHeld ?_ ?_
                    rotate_left
                    ·rintro w' ⟨s0, s1, s2, s3, s4, s5, s6, s7⟩
                     go_simp
                     with_reducible rfl
                    rotate_left
                    ·simp only [Act.put, zs1, zs2, zs3, i64_w, i32_w]
                     rfl
                    refine take_ (i := 11) (N := some 87) (v := ?_) (a' := ?_) #[true, true, true, true, true, true, true, true, true, true, true, true, true, true, true, true, true, true, false, false, true, false] rfl rfl (take_ofW HT_.out HW_.out (by kernel_rfl)) (fun _ _ _ h => h) (Or.inl ⟨by rfl, ?_⟩) hHeld ?_ ?_
                    rotate_left
                    ·rintro w' ⟨s0, s1, s2, s3, s4, s5, s6, s7⟩
                     go_simp
                     with_reducible rfl
                    rotate_left
                    ·simp only [Act.put, zs1, zs2, zs3, i64_w, i32_w]
                     rfl
                    refine take_ (i := 18) (N := some 94) (v := ?_) (a' := ?_) #[true, true, true, true, true, true, true, true, true, true, true, true, true, true, true, true, true, true, true, false, true, false] rfl rfl (take_ofW HT_.out HW_.out (by kernel_rfl)) (fun _ _ _ h => h) (Or.inl ⟨by rfl, ?_⟩) hHeld ?_ ?_
                    rotate_left
                    ·rintro w' ⟨s0, s1, s2, s3, s4, s5, s6, s7⟩
                     go_simp
                     with_reducible rfl
                    rotate_left
                    ·simp only [Act.put, zs1, zs2, zs3, i64_w, i32_w]
                     rfl
                    refine one_ (i := 19) (N := some 95) #[true, true, true, true, true, true, true, true, true, true, true, true, true, true, true, true, true, true, true, true, true, false] rfl rfl (one_of HT_.out (by kernel_rfl)) (by decide) (fun K hK => ?_)
                    refine goes_ Try.func114 (by kernel_rfl) rfl #[.agg #[.int .i64 ((rd_T61 l0 a1).f0), .int .i64 ((rd_T61 l0 a1).f1)], .agg #[.int .i64 ((rd_T61 l0 a2).f0), .int .i64 ((rd_T61 l0 a2).f1)], .agg #[.int .i64 ((rd_T61 l0 x49_2).f0), .int .i64 ((rd_T61 l0 x49_2).f1)], .agg #[.int .i64 ((rd_T61 l0 (ji43)).f0), .int .i64 ((rd_T61 l0 (ji43)).f1)]] (by rfl) rfl rfl (by (try simp only [List.map_toArray, List.map_cons, List.map_nil]); first | done | (simp only [hji43]; rfl) | rfl | (simp only [List.length_drop, List.length_take]; rfl)) ?_
                    with_reducible refine (impl_meet.calls ((rd_T61 l0 a1).f0) ((rd_T61 l0 a1).f1) ((rd_T61 l0 a2).f0) ((rd_T61 l0 a2).f1) ((rd_T61 l0 x49_2).f0) ((rd_T61 l0 x49_2).f1) ((rd_T61 l0 (ji43)).f0) ((rd_T61 l0 (ji43)).f1) t227 _ A46.out).mono ?_
                    rintro e w49 ⟨rfl, hb⟩
                    refine ⟨_, rfl, ?_⟩
                    have n0_ := zm1 (zc6 (by repeat (first | (with_reducible first | exact HB.out | apply zc1 | apply zc2 | apply zc3) | exact HB.out)) hb)
                    clear HB
                    have HB := n0_
                    clear n0_
                    (try clear hb)
                    (try clear hb2)
                    (try clear hk)
                    (try clear hi)
                    refine hK.out _ _ ⟨((HB.out.cell (zl hw223_0)).trans hw223_0), ((HB.out.cell (zl hw223_1)).trans hw223_1), ((HB.out.cell (zl hw224_0)).trans hw224_0), ((HB.out.cell (zl hw224_1)).trans hw224_1), ((HB.out.cell (zl hw225_0)).trans hw225_0), ((HB.out.cell (zl hw225_1)).trans hw225_1), ((HB.out.cell (zl hw226_0)).trans hw226_0), ((HB.out.cell (zl hw226_1)).trans hw226_1)⟩ (fun hHeld => ?_)
                    clear hK K
                    refine norm_ (a' := ?_) ?_ ?_
                    rotate_left
                    ·show Act.put _ (some 95) _ = _
                     simp only [Act.put, zs1, zs2, zs3, i64_w, i32_w]
                     rfl
                    refine pure_ (i := 21) (N := some 97) (v := ?_) (a' := ?_) #[true, true, true, true, true, true, true, true, true, true, true, true, true, true, true, true, true, true, true, true, true, true] rfl rfl (any_of HT_.out (by kernel_rfl)) (fun _ _ _ h => h) (Or.inl ⟨by rfl, ?_⟩) ?_ ?_
                    rotate_left
                    ·intro w'
                     go_simp
                     with_reducible rfl
                    rotate_left
                    ·simp only [Act.put, zs1, zs2, zs3, i64_w, i32_w]
                     rfl
                    refine done_ (done_of HT_.out (by kernel_rfl)) ?_
                    try go_wp2
                    go_roundg kj13
                    case measure => have := HJ3.out; have := HK2.out; have := HJ13.out; omega
                    case rel => exact ⟨(wrap64 (x49_2 + 1)), (by first | rfl | (simp; done) | (simp [*]; done)), H', ⟨by have := HJ3.out; have := HK2.out; have := HJ13.out; omega⟩, ⟨by repeat (first | (with_reducible first | exact HB.out | apply zc1 | apply zc2 | apply zc3) | exact HB.out)⟩⟩
                   ·rw [if_neg c47] at H
                    have c47b0 : (t227 == 0) = false := beq_eq_false_iff_ne.mpr c47
                    have c47b1 : (t227 != 0) = true := bne_iff_ne.mpr c47
                    obtain rfl := Option.some.inj H
                    try go_wp2
                    have n0_ := zm1 (below_drew1 HB.out)
                    clear HB
                    have HB := n0_
                    clear n0_
                    have p223 : 0 ≤ (a1 : Int) := of_decide_eq_true (by assumption)
                    have q223 : a1 < (l0.length : Int) := of_decide_eq_true (by assumption)
                    obtain ⟨ad223, e223, hx223_0, hx223_1⟩ := at_T61 HR0.out a1 p223 q223
                    have hw223_1 := hx223_1
                    have hw223_0 := hx223_0
                    cases e223
                    (try replace hx223_0 := (HB.out.cell (zl hx223_0)).trans hx223_0)
                    (try replace hx223_1 := (HB.out.cell (zl hx223_1)).trans hx223_1)
                    replace p223 := eq_true p223
                    replace q223 := eq_true q223
                    have p224 : 0 ≤ (a2 : Int) := of_decide_eq_true (by assumption)
                    have q224 : a2 < (l0.length : Int) := of_decide_eq_true (by assumption)
                    obtain ⟨ad224, e224, hx224_0, hx224_1⟩ := at_T61 HR0.out a2 p224 q224
                    have hw224_1 := hx224_1
                    have hw224_0 := hx224_0
                    obtain rfl : ad223 = ad224 := (by injection e224)
                    (try replace hx224_0 := (HB.out.cell (zl hx224_0)).trans hx224_0)
                    (try replace hx224_1 := (HB.out.cell (zl hx224_1)).trans hx224_1)
                    replace p224 := eq_true p224
                    replace q224 := eq_true q224
                    have p225 : 0 ≤ (x49_2 : Int) := of_decide_eq_true (by assumption)
                    have q225 : x49_2 < (l0.length : Int) := of_decide_eq_true (by assumption)
                    obtain ⟨ad225, e225, hx225_0, hx225_1⟩ := at_T61 HR0.out x49_2 p225 q225
                    have hw225_1 := hx225_1
                    have hw225_0 := hx225_0
                    obtain rfl : ad223 = ad225 := (by injection e225)
                    (try replace hx225_0 := (HB.out.cell (zl hx225_0)).trans hx225_0)
                    (try replace hx225_1 := (HB.out.cell (zl hx225_1)).trans hx225_1)
                    replace p225 := eq_true p225
                    replace q225 := eq_true q225
                    have p226 : 0 ≤ ((ji43) : Int) := of_decide_eq_true (by assumption)
                    have q226 : (ji43) < (l0.length : Int) := of_decide_eq_true (by assumption)
                    obtain ⟨ad226, e226, hx226_0, hx226_1⟩ := at_T61 HR0.out (ji43) p226 q226
                    have hw226_1 := hx226_1
                    have hw226_0 := hx226_0
                    obtain rfl : ad223 = ad226 := (by injection e226)
                    (try replace hx226_0 := (HB.out.cell (zl hx226_0)).trans hx226_0)
                    (try replace hx226_1 := (HB.out.cell (zl hx226_1)).trans hx226_1)
                    replace p226 := eq_true p226
                    replace q226 := eq_true q226
                    refine start_ (n := 22) (S := fun w' => w'.cell? (ad223.add ((a1).toNat * 2)) = some (.int .i64 ((rd_T61 l0 a1).f0)) ∧ w'.cell? ⟨(ad223.add ((a1).toNat * 2)).block, (ad223.add ((a1).toNat * 2)).off + 1, none⟩ = some (.int .i64 ((rd_T61 l0 a1).f1)) ∧ w'.cell? (ad223.add ((a2).toNat * 2)) = some (.int .i64 ((rd_T61 l0 a2).f0)) ∧ w'.cell? ⟨(ad223.add ((a2).toNat * 2)).block, (ad223.add ((a2).toNat * 2)).off + 1, none⟩ = some (.int .i64 ((rd_T61 l0 a2).f1)) ∧ w'.cell? (ad223.add ((x49_2).toNat * 2)) = some (.int .i64 ((rd_T61 l0 x49_2).f0)) ∧ w'.cell? ⟨(ad223.add ((x49_2).toNat * 2)).block, (ad223.add ((x49_2).toNat * 2)).off + 1, none⟩ = some (.int .i64 ((rd_T61 l0 x49_2).f1)) ∧ w'.cell? (ad223.add (((ji43)).toNat * 2)) = some (.int .i64 ((rd_T61 l0 (ji43)).f0)) ∧ w'.cell? ⟨(ad223.add (((ji43)).toNat * 2)).block, (ad223.add (((ji43)).toNat * 2)).off + 1, none⟩ = some (.int .i64 ((rd_T61 l0 (ji43)).f1))) (ds := []) #[false, false, false, false, false, false, false, false, false, false, false, false, false, false, false, false, false, false, false, false, false, false] (by kernel_rfl) rfl rfl ⟨((HB.out.cell (zl hw223_0)).trans hw223_0), ((HB.out.cell (zl hw223_1)).trans hw223_1), ((HB.out.cell (zl hw224_0)).trans hw224_0), ((HB.out.cell (zl hw224_1)).trans hw224_1), ((HB.out.cell (zl hw225_0)).trans hw225_0), ((HB.out.cell (zl hw225_1)).trans hw225_1), ((HB.out.cell (zl hw226_0)).trans hw226_0), ((HB.out.cell (zl hw226_1)).trans hw226_1)⟩ (fun hHeld => ?_); refine with_tabW impl_isDiagonal.tab10 impl_isDiagonal.bits10 (fun HT_ HW_ => ?_)
                    generalize wc.drew = w50 at HB hx223_0 hx223_1 hx224_0 hx224_1 hx225_0 hx225_1 hx226_0 hx226_1 hHeld ⊢
                    refine pure_ (i := 0) (N := some 76) (v := ?_) (a' := ?_) #[true, false, false, false, false, false, false, false, false, false, false, false, false, false, false, false, false, false, false, false, false, false] rfl rfl (any_of HT_.out (by kernel_rfl)) (fun _ _ _ h => h) (Or.inl ⟨by rfl, ?_⟩) ?_ ?_
                    rotate_left
                    ·intro w'
                     go_simp
                     with_reducible rfl
                    rotate_left
                    ·simp only [Act.put, zs1, zs2, zs3, i64_w, i32_w]
                     rfl
                    refine pure_ (i := 1) (N := some 77) (v := ?_) (a' := ?_) #[true, true, false, false, false, false, false, false, false, false, false, false, false, false, false, false, false, false, false, false, false, false] rfl rfl (any_of HT_.out (by kernel_rfl)) (fun _ _ _ h => h) (Or.inl ⟨by rfl, ?_⟩) ?_ ?_
                    rotate_left
                    ·intro w'
                     go_simp
                     with_reducible rfl
                    rotate_left
                    ·simp only [Act.put, zs1, zs2, zs3, i64_w, i32_w]
                     rfl
                    refine pure_ (i := 2) (N := some 78) (v := ?_) (a' := ?_) #[true, true, true, false, false, false, false, false, false, false, false, false, false, false, false, false, false, false, false, false, false, false] rfl rfl (any_of HT_.out (by kernel_rfl)) (fun _ _ _ h => h) (Or.inl ⟨by rfl, ?_⟩) ?_ ?_
                    rotate_left
                    ·intro w'
                     go_simp
                     with_reducible rfl
                    rotate_left
                    ·simp only [Act.put, zs1, zs2, zs3, i64_w, i32_w]
                     rfl
                    refine pure_ (i := 4) (N := some 80) (v := ?_) (a' := ?_) #[true, true, true, false, true, false, false, false, false, false, false, false, false, false, false, false, false, false, false, false, false, false] rfl rfl (any_of HT_.out (by kernel_rfl)) (fun _ _ _ h => h) (Or.inl ⟨by rfl, ?_⟩) ?_ ?_
                    rotate_left
                    ·intro w'
                     go_simp
                     with_reducible rfl
                    rotate_left
                    ·simp only [Act.put, zs1, zs2, zs3, i64_w, i32_w]
                     rfl
                    refine pure_ (i := 5) (N := some 81) (v := ?_) (a' := ?_) #[true, true, true, false, true, true, false, false, false, false, false, false, false, false, false, false, false, false, false, false, false, false] rfl rfl (any_of HT_.out (by kernel_rfl)) (fun _ _ _ h => h) (Or.inl ⟨by rfl, ?_⟩) ?_ ?_
                    rotate_left
                    ·intro w'
                     go_simp
                     with_reducible rfl
                    rotate_left
                    ·simp only [Act.put, zs1, zs2, zs3, i64_w, i32_w]
                     rfl
                    refine pure_ (i := 6) (N := some 82) (v := ?_) (a' := ?_) #[true, true, true, false, true, true, true, false, false, false, false, false, false, false, false, false, false, false, false, false, false, false] rfl rfl (any_of HT_.out (by kernel_rfl)) (fun _ _ _ h => h) (Or.inl ⟨by rfl, ?_⟩) ?_ ?_
                    rotate_left
                    ·intro w'
                     go_simp
                     with_reducible rfl
                    rotate_left
                    ·simp only [Act.put, zs1, zs2, zs3, i64_w, i32_w]
                     rfl
                    refine pure_ (i := 8) (N := some 84) (v := ?_) (a' := ?_) #[true, true, true, false, true, true, true, false, true, false, false, false, false, false, false, false, false, false, false, false, false, false] rfl rfl (any_of HT_.out (by kernel_rfl)) (fun _ _ _ h => h) (Or.inl ⟨by rfl, ?_⟩) ?_ ?_
                    rotate_left
                    ·intro w'
                     go_simp
                     with_reducible rfl
                    rotate_left
                    ·simp only [Act.put, zs1, zs2, zs3, i64_w, i32_w]
                     rfl
                    refine pure_ (i := 9) (N := some 85) (v := ?_) (a' := ?_) #[true, true, true, false, true, true, true, false, true, true, false, false, false, false, false, false, false, false, false, false, false, false] rfl rfl (any_of HT_.out (by kernel_rfl)) (fun _ _ _ h => h) (Or.inl ⟨by rfl, ?_⟩) ?_ ?_
                    rotate_left
                    ·intro w'
                     go_simp
                     with_reducible rfl
                    rotate_left
                    ·simp only [Act.put, zs1, zs2, zs3, i64_w, i32_w]
                     rfl
                    refine pure_ (i := 10) (N := some 86) (v := ?_) (a' := ?_) #[true, true, true, false, true, true, true, false, true, true, true, false, false, false, false, false, false, false, false, false, false, false] rfl rfl (any_of HT_.out (by kernel_rfl)) (fun _ _ _ h => h) (Or.inl ⟨by rfl, ?_⟩) ?_ ?_
                    rotate_left
                    ·intro w'
                     go_simp
                     with_reducible rfl
                    rotate_left
                    ·simp only [Act.put, zs1, zs2, zs3, i64_w, i32_w]
                     rfl
                    refine pure_ (i := 12) (N := some 88) (v := ?_) (a' := ?_) #[true, true, true, false, true, true, true, false, true, true, true, false, true, false, false, false, false, false, false, false, false, false] rfl rfl (any_of HT_.out (by kernel_rfl)) (fun _ _ _ h => h) (Or.inl ⟨by rfl, ?_⟩) ?_ ?_
                    rotate_left
                    ·intro w'
                     go_simp
                     with_reducible rfl
                    rotate_left
                    ·simp only [Act.put, zs1, zs2, zs3, i64_w, i32_w]
                     rfl
                    refine pure_ (i := 13) (N := some 89) (v := ?_) (a' := ?_) #[true, true, true, false, true, true, true, false, true, true, true, false, true, true, false, false, false, false, false, false, false, false] rfl rfl (any_of HT_.out (by kernel_rfl)) (fun _ _ _ h => h) (Or.inl ⟨by rfl, ?_⟩) ?_ ?_
                    rotate_left
                    ·intro w'
                     go_simp
                     with_reducible rfl
                    rotate_left
                    ·simp only [Act.put, zs1, zs2, zs3, i64_w, i32_w]
                     rfl
                    refine pure_ (i := 14) (N := some 90) (v := ?_) (a' := ?_) #[true, true, true, false, true, true, true, false, true, true, true, false, true, true, true, false, false, false, false, false, false, false] rfl rfl (any_of HT_.out (by kernel_rfl)) (fun _ _ _ h => h) (Or.inl ⟨by rfl, ?_⟩) ?_ ?_
                    rotate_left
                    ·intro w'
                     go_simp
                     with_reducible rfl
                    rotate_left
                    ·simp only [Act.put, zs1, zs2, zs3, i64_w, i32_w]
                     rfl
                    refine pure_ (i := 15) (N := some 91) (v := ?_) (a' := ?_) #[true, true, true, false, true, true, true, false, true, true, true, false, true, true, true, true, false, false, false, false, false, false] rfl rfl (any_of HT_.out (by kernel_rfl)) (fun _ _ _ h => h) (Or.inl ⟨by rfl, ?_⟩) ?_ ?_
                    rotate_left
                    ·intro w'
                     go_simp
                     with_reducible rfl
                    rotate_left
                    ·simp only [Act.put, zs1, zs2, zs3, i64_w, i32_w]
                     rfl
                    refine pure_ (i := 16) (N := some 92) (v := ?_) (a' := ?_) #[true, true, true, false, true, true, true, false, true, true, true, false, true, true, true, true, true, false, false, false, false, false] rfl rfl (any_of HT_.out (by kernel_rfl)) (fun _ _ _ h => h) (Or.inl ⟨by rfl, ?_⟩) ?_ ?_
                    rotate_left
                    ·intro w'
                     go_simp
                     with_reducible rfl
                    rotate_left
                    ·simp only [Act.put, zs1, zs2, zs3, i64_w, i32_w]
                     rfl
                    refine pure_ (i := 17) (N := some 93) (v := ?_) (a' := ?_) #[true, true, true, false, true, true, true, false, true, true, true, false, true, true, true, true, true, true, false, false, false, false] rfl rfl (any_of HT_.out (by kernel_rfl)) (fun _ _ _ h => h) (Or.inl ⟨by rfl, ?_⟩) ?_ ?_
                    rotate_left
                    ·intro w'
                     go_simp
                     with_reducible rfl
                    rotate_left
                    ·simp only [Act.put, zs1, zs2, zs3, i64_w, i32_w]
                     rfl
                    refine pure_ (i := 20) (N := some 96) (v := ?_) (a' := ?_) #[true, true, true, false, true, true, true, false, true, true, true, false, true, true, true, true, true, true, false, false, true, false] rfl rfl (any_of HT_.out (by kernel_rfl)) (fun _ _ _ h => h) (Or.inl ⟨by rfl, ?_⟩) ?_ ?_
                    rotate_left
                    ·intro w'
                     go_simp
                     with_reducible rfl
                    rotate_left
                    ·simp only [Act.put, zs1, zs2, zs3, i64_w, i32_w]
                     rfl
                    refine take_ (i := 3) (N := some 79) (v := ?_) (a' := ?_) #[true, true, true, true, true, true, true, false, true, true, true, false, true, true, true, true, true, true, false, false, true, false] rfl rfl (take_ofW HT_.out HW_.out (by kernel_rfl)) (fun _ _ _ h => h) (Or.inl ⟨by rfl, ?_⟩) hHeld ?_ ?_
                    rotate_left
                    ·rintro w' ⟨s0, s1, s2, s3, s4, s5, s6, s7⟩
                     go_simp
                     with_reducible rfl
                    rotate_left
                    ·simp only [Act.put, zs1, zs2, zs3, i64_w, i32_w]
                     rfl
                    refine take_ (i := 7) (N := some 83) (v := ?_) (a' := ?_) #[true, true, true, true, true, true, true, true, true, true, true, false, true, true, true, true, true, true, false, false, true, false] rfl rfl (take_ofW HT_.out HW_.out (by kernel_rfl)) (fun _ _ _ h => h) (Or.inl ⟨by rfl, ?_⟩) hHeld ?_ ?_
                    rotate_left
                    ·rintro w' ⟨s0, s1, s2, s3, s4, s5, s6, s7⟩
                     go_simp
                     with_reducible rfl
                    rotate_left
                    ·simp only [Act.put, zs1, zs2, zs3, i64_w, i32_w]
                     rfl
                    refine take_ (i := 11) (N := some 87) (v := ?_) (a' := ?_) #[true, true, true, true, true, true, true, true, true, true, true, true, true, true, true, true, true, true, false, false, true, false] rfl rfl (take_ofW HT_.out HW_.out (by kernel_rfl)) (fun _ _ _ h => h) (Or.inl ⟨by rfl, ?_⟩) hHeld ?_ ?_
                    rotate_left
                    ·rintro w' ⟨s0, s1, s2, s3, s4, s5, s6, s7⟩
                     go_simp
                     with_reducible rfl
                    rotate_left
                    ·simp only [Act.put, zs1, zs2, zs3, i64_w, i32_w]
                     rfl
                    refine take_ (i := 18) (N := some 94) (v := ?_) (a' := ?_) #[true, true, true, true, true, true, true, true, true, true, true, true, true, true, true, true, true, true, true, false, true, false] rfl rfl (take_ofW HT_.out HW_.out (by kernel_rfl)) (fun _ _ _ h => h) (Or.inl ⟨by rfl, ?_⟩) hHeld ?_ ?_
                    rotate_left
                    ·rintro w' ⟨s0, s1, s2, s3, s4, s5, s6, s7⟩
                     go_simp
                     with_reducible rfl
                    rotate_left
                    ·simp only [Act.put, zs1, zs2, zs3, i64_w, i32_w]
                     rfl
                    refine one_ (i := 19) (N := some 95) #[true, true, true, true, true, true, true, true, true, true, true, true, true, true, true, true, true, true, true, true, true, false] rfl rfl (one_of HT_.out (by kernel_rfl)) (by decide) (fun K hK => ?_)
                    refine goes_ Try.func114 (by kernel_rfl) rfl #[.agg #[.int .i64 ((rd_T61 l0 a1).f0), .int .i64 ((rd_T61 l0 a1).f1)], .agg #[.int .i64 ((rd_T61 l0 a2).f0), .int .i64 ((rd_T61 l0 a2).f1)], .agg #[.int .i64 ((rd_T61 l0 x49_2).f0), .int .i64 ((rd_T61 l0 x49_2).f1)], .agg #[.int .i64 ((rd_T61 l0 (ji43)).f0), .int .i64 ((rd_T61 l0 (ji43)).f1)]] (by rfl) rfl rfl (by (try simp only [List.map_toArray, List.map_cons, List.map_nil]); first | done | (simp only [hji43]; rfl) | rfl | (simp only [List.length_drop, List.length_take]; rfl)) ?_
                    with_reducible refine (impl_meet.calls ((rd_T61 l0 a1).f0) ((rd_T61 l0 a1).f1) ((rd_T61 l0 a2).f0) ((rd_T61 l0 a2).f1) ((rd_T61 l0 x49_2).f0) ((rd_T61 l0 x49_2).f1) ((rd_T61 l0 (ji43)).f0) ((rd_T61 l0 (ji43)).f1) t227 _ A46.out).mono ?_
                    rintro e w51 ⟨rfl, hb⟩
                    refine ⟨_, rfl, ?_⟩
                    have n0_ := zm1 (zc6 (by repeat (first | (with_reducible first | exact HB.out | apply zc1 | apply zc2 | apply zc3) | exact HB.out)) hb)
                    clear HB
                    have HB := n0_
                    clear n0_
                    (try clear hb)
                    (try clear hb2)
                    (try clear hk)
                    (try clear hi)
                    refine hK.out _ _ ⟨((HB.out.cell (zl hw223_0)).trans hw223_0), ((HB.out.cell (zl hw223_1)).trans hw223_1), ((HB.out.cell (zl hw224_0)).trans hw224_0), ((HB.out.cell (zl hw224_1)).trans hw224_1), ((HB.out.cell (zl hw225_0)).trans hw225_0), ((HB.out.cell (zl hw225_1)).trans hw225_1), ((HB.out.cell (zl hw226_0)).trans hw226_0), ((HB.out.cell (zl hw226_1)).trans hw226_1)⟩ (fun hHeld => ?_)
                    clear hK K
                    refine norm_ (a' := ?_) ?_ ?_
                    rotate_left
                    ·show Act.put _ (some 95) _ = _
                     simp only [Act.put, zs1, zs2, zs3, i64_w, i32_w]
                     rfl
                    refine pure_ (i := 21) (N := some 97) (v := ?_) (a' := ?_) #[true, true, true, true, true, true, true, true, true, true, true, true, true, true, true, true, true, true, true, true, true, true] rfl rfl (any_of HT_.out (by kernel_rfl)) (fun _ _ _ h => h) (Or.inl ⟨by rfl, ?_⟩) ?_ ?_
                    rotate_left
                    ·intro w'
                     go_simp
                     with_reducible rfl
                    rotate_left
                    ·simp only [Act.put, zs1, zs2, zs3, i64_w, i32_w]
                     rfl
                    refine done_ (done_of HT_.out (by kernel_rfl)) ?_
                    try go_wp2
                    go_ret
                    exact ⟨by first | rfl | (simp [errW_none, errW_some] <;> rfl) | (simp only [← hji43]; first | rfl | (simp [errW_none, errW_some] <;> rfl)) | (simp [*, errW_none, errW_some] <;> rfl), by repeat (first | (with_reducible first | exact HB.out | apply zc1 | apply zc2 | apply zc3) | exact HB.out)⟩
                  ·rw [if_neg c45] at H
                   exact absurd H (by simp)
                 ·rw [if_neg c44] at H
                  exact absurd H (by simp)
               ·rw [if_neg c41] at H
                exact absurd H (by simp)
              ·rw [if_neg c40] at H
               exact absurd H (by simp)
             ·rw [if_neg c39] at H
              exact absurd H (by simp)
            ·rw [if_neg c38] at H
             exact absurd H (by simp)
           ·rw [if_neg c37] at H
            exact absurd H (by simp)
          ·rw [if_neg c36] at H
           exact absurd H (by simp)
      ·rw [if_neg c13] at H
       have c13b0 : decide (x49_2 < (l0.length : Int)) = false := decide_eq_false c13
       clear c13
       obtain ⟨y228, hy228⟩ : ∃ y_ : List (S61), y_ = (([] : List (S61))) := ⟨_, rfl⟩
       replace H : (impl_isDiagonal.l1 k2 l0 a1 a2 y228 l0 (l0.length : Int) 0) = some r := by first | (rw [hy228]; with_reducible exact H) | (have H2_ := (Option.bind_some _ _).symm.trans H; rw [hy228]; with_reducible exact H2_) | (have H2_ := (Option.bind_some _ _).symm.trans H; with_reducible exact H2_) | with_reducible exact H | (rw [hy228]; exact H) | exact H
       have Ny228 := zm1 hy228
       clear hy228
       have H' := zm1 H
       clear H
       go_wp2_with (first | ((with_reducible refine gate_dst (N := 99) rfl ?_); refine Kd.R_lit k61 _ 61 ?hg (N := 99) ?hd (xs := ([] : List (S61))) (inner := []) (ok := fun _ => True) (okp := fun _ => True) ?hr ?hp (fun _ hk => hk) trivial (Below.refl _ _) (Nat.le_refl _) (by simp) ?_; (case hd => rfl); (case hg => rfl); (case hr => first | (go_simp; done) | (go_simp; rfl)); (case hp => exact (Reps.none _ _)); intro v229 w52 ho53 hb hg_ hnew_; clear hg_ hnew_; (first | rw [← Ny228.out] at ho53 | (simp only [Int.reduceToNat] at ho53; rw [← Ny228.out] at ho53)); have n0_ := zm1 (Kd.R_lower ho53 (zc5 (by repeat (first | (with_reducible first | exact HB.out | apply zc1 | apply zc2 | apply zc3) | exact HB.out)))); have n1_ := zm1 (zc6 (by repeat (first | (with_reducible first | exact HB.out | apply zc1 | apply zc2 | apply zc3) | exact HB.out)) hb); clear HB; have HO230 := n0_; have HB := n1_; clear n0_ n1_; clear hb ho53))
       go_loopg [10, 102] k2 (fun kq v10 v102 w' => ∃ (x10_3 : List (S61)) (x102_3 : Int), v102 = .int .i64 x102_3 ∧ Aside0 (impl_isDiagonal.l1 kq l0 a1 a2 x10_3 l0 (l0.length : Int) x102_3 = some r) ∧ Aside0 (kq ≤ k2) ∧ Aside0 (Kd.R k61 61 w' w.heap.size (fun _ => True) v10 x10_3) ∧ Aside0 (Below w.heap.size w w'))
       case atStart => exact ⟨(y228), (0), (by first | rfl | (simp; done) | (simp [*]; done)), H', ⟨Nat.le_refl _⟩, ⟨by (with_reducible repeat (first | apply zr1 | apply zr2 | apply zr3)); exact HO230.out⟩, ⟨by repeat (first | (with_reducible first | exact HB.out | apply zc1 | apply zc2 | apply zc3) | exact HB.out)⟩⟩
       case round =>
        clear H'
        try clear c1
        try clear c2
        try clear p2
        try clear q2
        try clear hx2
        try clear c3
        try clear c4
        try clear p6
        try clear c11
        try clear c13
        try clear c13b0
        try clear c19
        try clear c20
        try clear c21
        try clear c22
        try clear p22
        try clear q22
        try clear hx22
        try clear c23
        try clear c24
        try clear c25
        try clear c28
        try clear c29
        try clear c36
        try clear c36b0
        try clear c37
        try clear c37b0
        try clear c38
        try clear c38b0
        try clear c39
        try clear c39b0
        try clear c40
        try clear c40b0
        try clear c41
        try clear c41b0
        try clear c42
        try clear c42b0
        try clear c42b1
        try clear c42b2
        try clear c44
        try clear c44b0
        try clear c45
        try clear c45b0
        try clear c47
        try clear c47b0
        try clear c47b1
        try clear hx223_0
        try clear hx223_1
        try clear hx224_0
        try clear hx224_1
        try clear hx225_0
        try clear hx225_1
        try clear hx226_0
        try clear hx226_1
        try clear p223
        try clear p224
        try clear p225
        try clear p226
        try clear q223
        try clear q224
        try clear q225
        try clear q226
        obtain ⟨x10_3, x102_3, rfl, HA, HK3, HO_10, HB⟩ := hrel
        cases gk with
        | zero => exact absurd HA.out (by simp [impl_isDiagonal.l1])
        | succ k3 =>
         have H := HA.out
         clear HA
         simp only [impl_isDiagonal.l1] at H
         by_cases c54 : x102_3 < (l0.length : Int)
         ·rw [if_pos c54] at H
          have c54b0 : decide (x102_3 < (l0.length : Int)) = true := decide_eq_true c54
          clear c54
          by_cases c55 : 0 ≤ x102_3
          ·rw [if_pos c55] at H
           have c55b0 : decide (0 ≤ x102_3) = true := decide_eq_true c55
           clear c55
           by_cases c56 : x102_3 < (l0.length : Int)
           ·rw [if_pos c56] at H
            have c56b0 : decide (x102_3 < (l0.length : Int)) = true := decide_eq_true c56
            clear c56
            by_cases c57 : x10_3.length < 8796093022208
            ·rw [if_pos c57] at H
             have LMc57 := zm1 c57
             clear c57
             obtain ⟨y233, hy233⟩ : ∃ y_ : List (S61), y_ = (x10_3 ++ [(⟨wrap64 (2 * ((rd_T61 l0 x102_3).f0)), wrap64 (2 * ((rd_T61 l0 x102_3).f1))⟩ : S61)]) := ⟨_, rfl⟩
             replace H : (impl_isDiagonal.l1 k3 l0 a1 a2 y233 l0 (l0.length : Int) (wrap64 (x102_3 + 1))) = some r := by first | (rw [hy233]; with_reducible exact H) | (have H2_ := (Option.bind_some _ _).symm.trans H; rw [hy233]; with_reducible exact H2_) | (have H2_ := (Option.bind_some _ _).symm.trans H; with_reducible exact H2_) | with_reducible exact H | (rw [hy233]; exact H) | exact H
             have Ny233 := zm1 hy233
             clear hy233
             have H' := zm1 H
             clear H
             have p231 : 0 ≤ (x102_3 : Int) := of_decide_eq_true (by assumption)
             have q231 : x102_3 < (l0.length : Int) := of_decide_eq_true (by assumption)
             obtain ⟨ad231, e231, hx231_0, hx231_1⟩ := at_T61 HR0.out x102_3 p231 q231
             cases e231
             (try replace hx231_0 := (HB.out.cell (zl hx231_0)).trans hx231_0)
             (try replace hx231_1 := (HB.out.cell (zl hx231_1)).trans hx231_1)
             replace p231 := eq_true p231
             replace q231 := eq_true q231
             go_wp2_with (first | ((with_reducible refine gate_dst (N := 12) rfl ?_); refine box_event ?hg (N := 12) ?hd (cs := #[.int .i64 0, .int .i64 0]) (t := 61) ?hr ?_; (case hd => rfl); (case hg => rfl); (case hr => first | (go_simp; done) | (go_simp; rfl)); intro gb232 hg w58 hbox hb; have n0_ := zm1 (Kd.R_below (Kd.R_elderB (by (with_reducible repeat (first | apply zr1 | apply zr2 | apply zr3)); exact HO_10.out) gb232 (Nat.le_of_eq hg.symm)) hb); have n1_ := zm1 (zc6 (by repeat (first | (with_reducible first | exact HB.out | apply zc1 | apply zc2 | apply zc3) | exact HB.out)) hb); have n2_ := zm1 (hbox); have n3_ := zm1 ((by rw [hg]; exact (zc5 (by repeat (first | (with_reducible first | exact HB.out | apply zc1 | apply zc2 | apply zc3) | exact HB.out))) : w.heap.size ≤ gb232)); have n4_ := zm1 ((by rw [hg]; exact (zc5 (by repeat (first | (with_reducible first | exact HB.out | apply zc1 | apply zc2 | apply zc3) | exact HB.out))) : w.heap.size ≤ gb232)); clear HO_10; clear HB; have HO_10 := n0_; have HB := n1_; have BK232 := n2_; have GW232 := n3_; have GE232 := n4_; clear n0_ n1_ n2_ n3_ n4_; clear hb hbox hg; have hcz59_0 : w58.cell? ⟨gb232, 0, none⟩ = some (.int .i64 0) := (blk_cell BK232.out 0).trans rfl; have hcz59_1 : w58.cell? ⟨gb232, 1, none⟩ = some (.int .i64 0) := (blk_cell BK232.out 1).trans rfl; have hfz59_0 := blk_frozen BK232.out 0; have hfz59_1 := blk_frozen BK232.out 1) | ((with_reducible refine gate_builtin (b := .append) (xs := #[.tmp 106, .tmp 114]) rfl ?_); at_builtin; refine Kd.R_append k61 (w0 := w) w.heap.size rfl (.tmp 106) (.tmp 114) 25 61 (.agg #[(.int .i64 0), (.int .i64 0)]) 16 rfl Try.underlying25 info61 rfl (by decide) (by omega) u10 x10_3 (⟨wrap64 (2 * ((rd_T61 l0 x102_3).f0)), wrap64 (2 * ((rd_T61 l0 x102_3).f1))⟩ : S61) [.int .i64 (wrap64 (2 * ((rd_T61 l0 x102_3).f0))), .int .i64 (wrap64 (2 * ((rd_T61 l0 x102_3).f1)))] (fun k_ => k_ ≠ gb232) (fun _ => False) rfl (by first | (go_simp; done) | (go_simp; rfl)) ?aP (fun _ hk => hk.elim) ?aF ?aO ?aB ?aS ?aL ?_; (case aP => exact k61_mkM _ _ _ (⟨wrap64 (2 * ((rd_T61 l0 x102_3).f0)), wrap64 (2 * ((rd_T61 l0 x102_3).f1))⟩ : S61)); (case aB => exact (by repeat (first | (with_reducible first | exact HB.out | apply zc1 | apply zc2 | apply zc3 | refine zc4 ?_ GE232.out) | exact HB.out))); (case aF => exact (fun k_ hk => Kd.freshB (g := gb232) (o := .cells #[.int .i64 ((rd_T61 l0 x102_3).f0), .int .i64 ((rd_T61 l0 x102_3).f1)] 61 (0, 0)) (by (with_reducible repeat (first | apply zb1 | apply zb2 | apply zb3)); refine blk_put (cs := #[.int .i64 ((rd_T61 l0 x102_3).f0), .int .i64 0]) ?_ 1 _ rfl; (with_reducible repeat (first | apply zb1 | apply zb2 | apply zb3)); refine blk_put (cs := #[.int .i64 0, .int .i64 0]) ?_ 0 _ rfl; (with_reducible repeat (first | apply zb1 | apply zb2 | apply zb3)); exact BK232.out) k_ hk)); (case aO => exact (by (with_reducible repeat (first | apply zr1 | apply zr2 | apply zr3)); exact Kd.R_mono (Kd.R_far (p := ⟨gb232, 1, none⟩) (Kd.R_far (p := ⟨gb232, 0, none⟩) (Kd.R_mono HO_10.out (fun k_ hk => (⟨hk, hk.2⟩ : _ ∧ k_ ≠ gb232))) (fun _ hk => hk.2) (.int .i64 ((rd_T61 l0 x102_3).f0))) (fun _ hk => hk.2) (.int .i64 ((rd_T61 l0 x102_3).f1))) (fun _ hk => hk.1.2))); (case aS => exact (zc5 (by repeat (first | (with_reducible first | exact HB.out | apply zc1 | apply zc2 | apply zc3 | refine zc4 ?_ GE232.out) | exact HB.out)))); (case aL => have := LMc57.out; omega); intro v234 w60 ho hb hg hat; rw [← Ny233.out] at ho; have n0_ := zm1 (blk_grown (g := gb232) (o := .cells #[.int .i64 ((rd_T61 l0 x102_3).f0), .int .i64 ((rd_T61 l0 x102_3).f1)] 61 (0, 0)) (by (with_reducible repeat (first | apply zb1 | apply zb2 | apply zb3)); refine blk_put (cs := #[.int .i64 ((rd_T61 l0 x102_3).f0), .int .i64 0]) ?_ 1 _ rfl; (with_reducible repeat (first | apply zb1 | apply zb2 | apply zb3)); refine blk_put (cs := #[.int .i64 0, .int .i64 0]) ?_ 0 _ rfl; (with_reducible repeat (first | apply zb1 | apply zb2 | apply zb3)); exact BK232.out) hg (Kd.R_away HO_10.out (fun _ hk => hk.2))); have n1_ := zm1 (hb); have n2_ := zm1 (ho); clear BK232; clear HB; clear HO_10; have BK232 := n0_; have HB := n1_; have HO235 := n2_; clear n0_ n1_ n2_; clear ho hb hg hat))
             go_roundg k3
             case measure => have := HJ3.out; have := HK2.out; have := HK3.out; omega
             case rel => exact ⟨(y233), (wrap64 (x102_3 + 1)), (by first | rfl | (simp; done) | (simp [*]; done)), H', ⟨by have := HJ3.out; have := HK2.out; have := HK3.out; omega⟩, ⟨by (with_reducible repeat (first | apply zr1 | apply zr2 | apply zr3)); exact Kd.R_mono HO235.out (fun _ hk => trivial)⟩, ⟨by repeat (first | (with_reducible first | exact HB.out | apply zc1 | apply zc2 | apply zc3 | refine zc4 ?_ GE232.out) | exact HB.out)⟩⟩
            ·rw [if_neg c57] at H
             exact absurd H (by simp)
           ·rw [if_neg c56] at H
            exact absurd H (by simp)
          ·rw [if_neg c55] at H
           exact absurd H (by simp)
         ·rw [if_neg c54] at H
          have c54b0 : decide (x102_3 < (l0.length : Int)) = false := decide_eq_false c54
          clear c54
          by_cases c61 : 0 ≤ a1
          ·rw [if_pos c61] at H
           have c61b0 : decide (0 ≤ a1) = true := decide_eq_true c61
           clear c61
           by_cases c62 : a1 < (l0.length : Int)
           ·rw [if_pos c62] at H
            have c62b0 : decide (a1 < (l0.length : Int)) = true := decide_eq_true c62
            clear c62
            by_cases c63 : 0 ≤ a2
            ·rw [if_pos c63] at H
             have c63b0 : decide (0 ≤ a2) = true := decide_eq_true c63
             clear c63
             by_cases c64 : a2 < (l0.length : Int)
             ·rw [if_pos c64] at H
              have c64b0 : decide (a2 < (l0.length : Int)) = true := decide_eq_true c64
              clear c64
              replace H := Option.bind_eq_some_iff.mp H
              obtain ⟨t240, A650, H⟩ := H
              replace H : (some t240) = some r := H
              have A65 := zm1 A650
              clear A650
              obtain rfl := Option.some.inj H
              try go_wp2
              have n0_ := zm1 (Kd.R_drew HO_10.out)
              have n1_ := zm1 (below_drew1 HB.out)
              clear HO_10
              clear HB
              have HO_10 := n0_
              have HB := n1_
              clear n0_ n1_
              have p236 : 0 ≤ (a1 : Int) := of_decide_eq_true (by assumption)
              have q236 : a1 < (l0.length : Int) := of_decide_eq_true (by assumption)
              obtain ⟨ad236, e236, hx236_0, hx236_1⟩ := at_T61 HR0.out a1 p236 q236
              have hw236_1 := hx236_1
              have hw236_0 := hx236_0
              cases e236
              (try replace hx236_0 := (HB.out.cell (zl hx236_0)).trans hx236_0)
              (try replace hx236_1 := (HB.out.cell (zl hx236_1)).trans hx236_1)
              replace p236 := eq_true p236
              replace q236 := eq_true q236
              have p237 : 0 ≤ (a2 : Int) := of_decide_eq_true (by assumption)
              have q237 : a2 < (l0.length : Int) := of_decide_eq_true (by assumption)
              obtain ⟨ad237, e237, hx237_0, hx237_1⟩ := at_T61 HR0.out a2 p237 q237
              have hw237_1 := hx237_1
              have hw237_0 := hx237_0
              obtain rfl : ad236 = ad237 := (by injection e237)
              (try replace hx237_0 := (HB.out.cell (zl hx237_0)).trans hx237_0)
              (try replace hx237_1 := (HB.out.cell (zl hx237_1)).trans hx237_1)
              replace p237 := eq_true p237
              replace q237 := eq_true q237
              have p238 : 0 ≤ (a1 : Int) := of_decide_eq_true (by assumption)
              have q238 : a1 < (l0.length : Int) := of_decide_eq_true (by assumption)
              obtain ⟨ad238, e238, hx238_0, hx238_1⟩ := at_T61 HR0.out a1 p238 q238
              have hw238_1 := hx238_1
              have hw238_0 := hx238_0
              obtain rfl : ad236 = ad238 := (by injection e238)
              (try replace hx238_0 := (HB.out.cell (zl hx238_0)).trans hx238_0)
              (try replace hx238_1 := (HB.out.cell (zl hx238_1)).trans hx238_1)
              replace p238 := eq_true p238
              replace q238 := eq_true q238
              have p239 : 0 ≤ (a2 : Int) := of_decide_eq_true (by assumption)
              have q239 : a2 < (l0.length : Int) := of_decide_eq_true (by assumption)
              obtain ⟨ad239, e239, hx239_0, hx239_1⟩ := at_T61 HR0.out a2 p239 q239
              have hw239_1 := hx239_1
              have hw239_0 := hx239_0
              obtain rfl : ad236 = ad239 := (by injection e239)
              (try replace hx239_0 := (HB.out.cell (zl hx239_0)).trans hx239_0)
              (try replace hx239_1 := (HB.out.cell (zl hx239_1)).trans hx239_1)
              replace p239 := eq_true p239
              replace q239 := eq_true q239
              obtain ⟨Ao67, co67, eo67⟩ := Kd.R_slice HO_10.out
              (first | subst eo67 | (injection eo67 with f1_ f2_ f3_; have f4_ := f1_.symm; have f5_ := f3_.symm; clear f1_ f2_ f3_; subst f4_; subst f5_))
              refine start_ (n := 26) (S := fun w' => w'.cell? (ad236.add ((a1).toNat * 2)) = some (.int .i64 ((rd_T61 l0 a1).f0)) ∧ w'.cell? ⟨(ad236.add ((a1).toNat * 2)).block, (ad236.add ((a1).toNat * 2)).off + 1, none⟩ = some (.int .i64 ((rd_T61 l0 a1).f1)) ∧ w'.cell? (ad236.add ((a2).toNat * 2)) = some (.int .i64 ((rd_T61 l0 a2).f0)) ∧ w'.cell? ⟨(ad236.add ((a2).toNat * 2)).block, (ad236.add ((a2).toNat * 2)).off + 1, none⟩ = some (.int .i64 ((rd_T61 l0 a2).f1)) ∧ w'.cell? (ad236.add ((a1).toNat * 2)) = some (.int .i64 ((rd_T61 l0 a1).f0)) ∧ w'.cell? ⟨(ad236.add ((a1).toNat * 2)).block, (ad236.add ((a1).toNat * 2)).off + 1, none⟩ = some (.int .i64 ((rd_T61 l0 a1).f1)) ∧ w'.cell? (ad236.add ((a2).toNat * 2)) = some (.int .i64 ((rd_T61 l0 a2).f0)) ∧ w'.cell? ⟨(ad236.add ((a2).toNat * 2)).block, (ad236.add ((a2).toNat * 2)).off + 1, none⟩ = some (.int .i64 ((rd_T61 l0 a2).f1))) (ds := []) #[false, false, false, false, false, false, false, false, false, false, false, false, false, false, false, false, false, false, false, false, false, false, false, false, false, false] (by kernel_rfl) rfl rfl ⟨((HB.out.cell (zl hw236_0)).trans hw236_0), ((HB.out.cell (zl hw236_1)).trans hw236_1), ((HB.out.cell (zl hw237_0)).trans hw237_0), ((HB.out.cell (zl hw237_1)).trans hw237_1), ((HB.out.cell (zl hw238_0)).trans hw238_0), ((HB.out.cell (zl hw238_1)).trans hw238_1), ((HB.out.cell (zl hw239_0)).trans hw239_0), ((HB.out.cell (zl hw239_1)).trans hw239_1)⟩ (fun hHeld => ?_); refine with_tabW impl_isDiagonal.tab19 impl_isDiagonal.bits19 (fun HT_ HW_ => ?_)
              generalize wr.drew = w66 at HO_10 HB hx236_0 hx236_1 hx237_0 hx237_1 hx238_0 hx238_1 hx239_0 hx239_1 hHeld ⊢
              refine pure_ (i := 0) (N := some 117) (v := ?_) (a' := ?_) #[true, false, false, false, false, false, false, false, false, false, false, false, false, false, false, false, false, false, false, false, false, false, false, false, false, false] rfl rfl (any_of HT_.out (by kernel_rfl)) (fun _ _ _ h => h) (Or.inl ⟨by rfl, ?_⟩) ?_ ?_
              rotate_left
              ·intro w'
               go_simp
               with_reducible rfl
              rotate_left
              ·simp only [Act.put, zs1, zs2, zs3, i64_w, i32_w]
               rfl
              refine pure_ (i := 1) (N := some 118) (v := ?_) (a' := ?_) #[true, true, false, false, false, false, false, false, false, false, false, false, false, false, false, false, false, false, false, false, false, false, false, false, false, false] rfl rfl (any_of HT_.out (by kernel_rfl)) (fun _ _ _ h => h) (Or.inl ⟨by rfl, ?_⟩) ?_ ?_
              rotate_left
              ·intro w'
               go_simp
               with_reducible rfl
              rotate_left
              ·simp only [Act.put, zs1, zs2, zs3, i64_w, i32_w]
               rfl
              refine pure_ (i := 2) (N := some 119) (v := ?_) (a' := ?_) #[true, true, true, false, false, false, false, false, false, false, false, false, false, false, false, false, false, false, false, false, false, false, false, false, false, false] rfl rfl (any_of HT_.out (by kernel_rfl)) (fun _ _ _ h => h) (Or.inl ⟨by rfl, ?_⟩) ?_ ?_
              rotate_left
              ·intro w'
               go_simp
               with_reducible rfl
              rotate_left
              ·simp only [Act.put, zs1, zs2, zs3, i64_w, i32_w]
               rfl
              refine pure_ (i := 3) (N := some 120) (v := ?_) (a' := ?_) #[true, true, true, true, false, false, false, false, false, false, false, false, false, false, false, false, false, false, false, false, false, false, false, false, false, false] rfl rfl (any_of HT_.out (by kernel_rfl)) (fun _ _ _ h => h) (Or.inl ⟨by rfl, ?_⟩) ?_ ?_
              rotate_left
              ·intro w'
               go_simp
               with_reducible rfl
              rotate_left
              ·simp only [Act.put, zs1, zs2, zs3, i64_w, i32_w]
               rfl
              refine pure_ (i := 4) (N := some 121) (v := ?_) (a' := ?_) #[true, true, true, true, true, false, false, false, false, false, false, false, false, false, false, false, false, false, false, false, false, false, false, false, false, false] rfl rfl (any_of HT_.out (by kernel_rfl)) (fun _ _ _ h => h) (Or.inl ⟨by rfl, ?_⟩) ?_ ?_
              rotate_left
              ·intro w'
               go_simp
               with_reducible rfl
              rotate_left
              ·simp only [Act.put, zs1, zs2, zs3, i64_w, i32_w]
               rfl
              refine pure_ (i := 6) (N := some 123) (v := ?_) (a' := ?_) #[true, true, true, true, true, false, true, false, false, false, false, false, false, false, false, false, false, false, false, false, false, false, false, false, false, false] rfl rfl (any_of HT_.out (by kernel_rfl)) (fun _ _ _ h => h) (Or.inl ⟨by rfl, ?_⟩) ?_ ?_
              rotate_left
              ·intro w'
               go_simp
               with_reducible rfl
              rotate_left
              ·simp only [Act.put, zs1, zs2, zs3, i64_w, i32_w]
               rfl
              refine pure_ (i := 7) (N := some 124) (v := ?_) (a' := ?_) #[true, true, true, true, true, false, true, true, false, false, false, false, false, false, false, false, false, false, false, false, false, false, false, false, false, false] rfl rfl (any_of HT_.out (by kernel_rfl)) (fun _ _ _ h => h) (Or.inl ⟨by rfl, ?_⟩) ?_ ?_
              rotate_left
              ·intro w'
               go_simp
               with_reducible rfl
              rotate_left
              ·simp only [Act.put, zs1, zs2, zs3, i64_w, i32_w]
               rfl
              refine pure_ (i := 8) (N := some 125) (v := ?_) (a' := ?_) #[true, true, true, true, true, false, true, true, true, false, false, false, false, false, false, false, false, false, false, false, false, false, false, false, false, false] rfl rfl (any_of HT_.out (by kernel_rfl)) (fun _ _ _ h => h) (Or.inl ⟨by rfl, ?_⟩) ?_ ?_
              rotate_left
              ·intro w'
               go_simp
               with_reducible rfl
              rotate_left
              ·simp only [Act.put, zs1, zs2, zs3, i64_w, i32_w]
               rfl
              refine pure_ (i := 9) (N := some 126) (v := ?_) (a' := ?_) #[true, true, true, true, true, false, true, true, true, true, false, false, false, false, false, false, false, false, false, false, false, false, false, false, false, false] rfl rfl (any_of HT_.out (by kernel_rfl)) (fun _ _ _ h => h) (Or.inl ⟨by rfl, ?_⟩) ?_ ?_
              rotate_left
              ·intro w'
               go_simp
               with_reducible rfl
              rotate_left
              ·simp only [Act.put, zs1, zs2, zs3, i64_w, i32_w]
               rfl
              refine pure_ (i := 12) (N := some 129) (v := ?_) (a' := ?_) #[true, true, true, true, true, false, true, true, true, true, false, false, true, false, false, false, false, false, false, false, false, false, false, false, false, false] rfl rfl (any_of HT_.out (by kernel_rfl)) (fun _ _ _ h => h) (Or.inl ⟨by rfl, ?_⟩) ?_ ?_
              rotate_left
              ·intro w'
               go_simp
               with_reducible rfl
              rotate_left
              ·simp only [Act.put, zs1, zs2, zs3, i64_w, i32_w]
               rfl
              refine pure_ (i := 13) (N := some 130) (v := ?_) (a' := ?_) #[true, true, true, true, true, false, true, true, true, true, false, false, true, true, false, false, false, false, false, false, false, false, false, false, false, false] rfl rfl (any_of HT_.out (by kernel_rfl)) (fun _ _ _ h => h) (Or.inl ⟨by rfl, ?_⟩) ?_ ?_
              rotate_left
              ·intro w'
               go_simp
               with_reducible rfl
              rotate_left
              ·simp only [Act.put, zs1, zs2, zs3, i64_w, i32_w]
               rfl
              refine pure_ (i := 14) (N := some 131) (v := ?_) (a' := ?_) #[true, true, true, true, true, false, true, true, true, true, false, false, true, true, true, false, false, false, false, false, false, false, false, false, false, false] rfl rfl (any_of HT_.out (by kernel_rfl)) (fun _ _ _ h => h) (Or.inl ⟨by rfl, ?_⟩) ?_ ?_
              rotate_left
              ·intro w'
               go_simp
               with_reducible rfl
              rotate_left
              ·simp only [Act.put, zs1, zs2, zs3, i64_w, i32_w]
               rfl
              refine pure_ (i := 15) (N := some 132) (v := ?_) (a' := ?_) #[true, true, true, true, true, false, true, true, true, true, false, false, true, true, true, true, false, false, false, false, false, false, false, false, false, false] rfl rfl (any_of HT_.out (by kernel_rfl)) (fun _ _ _ h => h) (Or.inl ⟨by rfl, ?_⟩) ?_ ?_
              rotate_left
              ·intro w'
               go_simp
               with_reducible rfl
              rotate_left
              ·simp only [Act.put, zs1, zs2, zs3, i64_w, i32_w]
               rfl
              refine pure_ (i := 17) (N := some 134) (v := ?_) (a' := ?_) #[true, true, true, true, true, false, true, true, true, true, false, false, true, true, true, true, false, true, false, false, false, false, false, false, false, false] rfl rfl (any_of HT_.out (by kernel_rfl)) (fun _ _ _ h => h) (Or.inl ⟨by rfl, ?_⟩) ?_ ?_
              rotate_left
              ·intro w'
               go_simp
               with_reducible rfl
              rotate_left
              ·simp only [Act.put, zs1, zs2, zs3, i64_w, i32_w]
               rfl
              refine pure_ (i := 18) (N := some 135) (v := ?_) (a' := ?_) #[true, true, true, true, true, false, true, true, true, true, false, false, true, true, true, true, false, true, true, false, false, false, false, false, false, false] rfl rfl (any_of HT_.out (by kernel_rfl)) (fun _ _ _ h => h) (Or.inl ⟨by rfl, ?_⟩) ?_ ?_
              rotate_left
              ·intro w'
               go_simp
               with_reducible rfl
              rotate_left
              ·simp only [Act.put, zs1, zs2, zs3, i64_w, i32_w]
               rfl
              refine pure_ (i := 19) (N := some 136) (v := ?_) (a' := ?_) #[true, true, true, true, true, false, true, true, true, true, false, false, true, true, true, true, false, true, true, true, false, false, false, false, false, false] rfl rfl (any_of HT_.out (by kernel_rfl)) (fun _ _ _ h => h) (Or.inl ⟨by rfl, ?_⟩) ?_ ?_
              rotate_left
              ·intro w'
               go_simp
               with_reducible rfl
              rotate_left
              ·simp only [Act.put, zs1, zs2, zs3, i64_w, i32_w]
               rfl
              refine pure_ (i := 20) (N := some 137) (v := ?_) (a' := ?_) #[true, true, true, true, true, false, true, true, true, true, false, false, true, true, true, true, false, true, true, true, true, false, false, false, false, false] rfl rfl (any_of HT_.out (by kernel_rfl)) (fun _ _ _ h => h) (Or.inl ⟨by rfl, ?_⟩) ?_ ?_
              rotate_left
              ·intro w'
               go_simp
               with_reducible rfl
              rotate_left
              ·simp only [Act.put, zs1, zs2, zs3, i64_w, i32_w]
               rfl
              refine take_ (i := 5) (N := some 122) (v := ?_) (a' := ?_) #[true, true, true, true, true, true, true, true, true, true, false, false, true, true, true, true, false, true, true, true, true, false, false, false, false, false] rfl rfl (take_ofW HT_.out HW_.out (by kernel_rfl)) (fun _ _ _ h => h) (Or.inl ⟨by rfl, ?_⟩) hHeld ?_ ?_
              rotate_left
              ·rintro w' ⟨s0, s1, s2, s3, s4, s5, s6, s7⟩
               go_simp
               with_reducible rfl
              rotate_left
              ·simp only [Act.put, zs1, zs2, zs3, i64_w, i32_w]
               rfl
              refine take_ (i := 10) (N := some 127) (v := ?_) (a' := ?_) #[true, true, true, true, true, true, true, true, true, true, true, false, true, true, true, true, false, true, true, true, true, false, false, false, false, false] rfl rfl (take_ofW HT_.out HW_.out (by kernel_rfl)) (fun _ _ _ h => h) (Or.inl ⟨by rfl, ?_⟩) hHeld ?_ ?_
              rotate_left
              ·rintro w' ⟨s0, s1, s2, s3, s4, s5, s6, s7⟩
               go_simp
               with_reducible rfl
              rotate_left
              ·simp only [Act.put, zs1, zs2, zs3, i64_w, i32_w]
               rfl
              refine pure_ (i := 11) (N := some 128) (v := ?_) (a' := ?_) #[true, true, true, true, true, true, true, true, true, true, true, true, true, true, true, true, false, true, true, true, true, false, false, false, false, false] rfl rfl (any_of HT_.out (by kernel_rfl)) (fun _ _ _ h => h) (Or.inl ⟨by rfl, ?_⟩) ?_ ?_
              rotate_left
              ·intro w'
               go_simp
               with_reducible rfl
              rotate_left
              ·simp only [Act.put, zs1, zs2, zs3, i64_w, i32_w]
               rfl
              refine take_ (i := 16) (N := some 133) (v := ?_) (a' := ?_) #[true, true, true, true, true, true, true, true, true, true, true, true, true, true, true, true, true, true, true, true, true, false, false, false, false, false] rfl rfl (take_ofW HT_.out HW_.out (by kernel_rfl)) (fun _ _ _ h => h) (Or.inl ⟨by rfl, ?_⟩) hHeld ?_ ?_
              rotate_left
              ·rintro w' ⟨s0, s1, s2, s3, s4, s5, s6, s7⟩
               go_simp
               with_reducible rfl
              rotate_left
              ·simp only [Act.put, zs1, zs2, zs3, i64_w, i32_w]
               rfl
              refine take_ (i := 21) (N := some 138) (v := ?_) (a' := ?_) #[true, true, true, true, true, true, true, true, true, true, true, true, true, true, true, true, true, true, true, true, true, true, false, false, false, false] rfl rfl (take_ofW HT_.out HW_.out (by kernel_rfl)) (fun _ _ _ h => h) (Or.inl ⟨by rfl, ?_⟩) hHeld ?_ ?_
              rotate_left
              ·rintro w' ⟨s0, s1, s2, s3, s4, s5, s6, s7⟩
               go_simp
               with_reducible rfl
              rotate_left
              ·simp only [Act.put, zs1, zs2, zs3, i64_w, i32_w]
               rfl
              refine pure_ (i := 22) (N := some 139) (v := ?_) (a' := ?_) #[true, true, true, true, true, true, true, true, true, true, true, true, true, true, true, true, true, true, true, true, true, true, true, false, false, false] rfl rfl (any_of HT_.out (by kernel_rfl)) (fun _ _ _ h => h) (Or.inl ⟨by rfl, ?_⟩) ?_ ?_
              rotate_left
              ·intro w'
               go_simp
               with_reducible rfl
              rotate_left
              ·simp only [Act.put, zs1, zs2, zs3, i64_w, i32_w]
               rfl
              refine pure_ (i := 23) (N := some 140) (v := ?_) (a' := ?_) #[true, true, true, true, true, true, true, true, true, true, true, true, true, true, true, true, true, true, true, true, true, true, true, true, false, false] rfl rfl (any_of HT_.out (by kernel_rfl)) (fun _ _ _ h => h) (Or.inl ⟨by rfl, ?_⟩) ?_ ?_
              rotate_left
              ·intro w'
               go_simp
               with_reducible rfl
              rotate_left
              ·simp only [Act.put, zs1, zs2, zs3, i64_w, i32_w]
               rfl
              refine one_ (i := 24) (N := some 141) #[true, true, true, true, true, true, true, true, true, true, true, true, true, true, true, true, true, true, true, true, true, true, true, true, true, false] rfl rfl (one_of HT_.out (by kernel_rfl)) (by decide) (fun K hK => ?_)
              refine goes_ Try.func130 (by kernel_rfl) rfl #[.slice Ao67 x10_3.length co67, .agg #[.int .i64 (wrap64 (((rd_T61 l0 a1).f0) + ((rd_T61 l0 a2).f0))), .int .i64 (wrap64 (((rd_T61 l0 a1).f1) + ((rd_T61 l0 a2).f1)))]] (by rfl) rfl rfl (by (try simp only [List.map_toArray, List.map_cons, List.map_nil]); first | done | rfl | (simp only [List.length_drop, List.length_take]; rfl)) ?_
              with_reducible refine (impl_isIn.calls k3 _ _ x10_3 (wrap64 (((rd_T61 l0 a1).f0) + ((rd_T61 l0 a2).f0))) (wrap64 (((rd_T61 l0 a1).f1) + ((rd_T61 l0 a2).f1))) t240 _ ?side1 ?side2 A65.out).mono ?_
              (case side1 => repeat (first | exact (Kd.R_reads' HO_10.out).2.2 | (with_reducible refine Kd.C_alloc ?_ _) | (with_reducible refine Kd.C_drewN ?_ _) | (with_reducible refine Kd.C_drew ?_)))
              (case side2 => exact (Kd.R_reads' HO_10.out).2.1)
              rintro e w68 ⟨rfl, hb⟩
              refine ⟨_, rfl, ?_⟩
              have n0_ := zm1 (Kd.R_below (by (with_reducible repeat (first | apply zr1 | apply zr2 | apply zr3)); exact HO_10.out) hb)
              have n1_ := zm1 (zc6 (by repeat (first | (with_reducible first | exact HB.out | apply zc1 | apply zc2 | apply zc3) | exact HB.out)) hb)
              clear HO_10
              clear HB
              have HO_10 := n0_
              have HB := n1_
              clear n0_ n1_
              (try clear hb)
              (try clear hb2)
              (try clear hk)
              (try clear hi)
              refine hK.out _ _ ⟨((HB.out.cell (zl hw236_0)).trans hw236_0), ((HB.out.cell (zl hw236_1)).trans hw236_1), ((HB.out.cell (zl hw237_0)).trans hw237_0), ((HB.out.cell (zl hw237_1)).trans hw237_1), ((HB.out.cell (zl hw238_0)).trans hw238_0), ((HB.out.cell (zl hw238_1)).trans hw238_1), ((HB.out.cell (zl hw239_0)).trans hw239_0), ((HB.out.cell (zl hw239_1)).trans hw239_1)⟩ (fun hHeld => ?_)
              clear hK K
              refine norm_ (a' := ?_) ?_ ?_
              rotate_left
              ·show Act.put _ (some 141) _ = _
               simp only [Act.put, zs1, zs2, zs3, i64_w, i32_w]
               rfl
              refine pure_ (i := 25) (N := some 6) (v := ?_) (a' := ?_) #[true, true, true, true, true, true, true, true, true, true, true, true, true, true, true, true, true, true, true, true, true, true, true, true, true, true] rfl rfl (any_of HT_.out (by kernel_rfl)) (fun _ _ _ h => h) (Or.inl ⟨by rfl, ?_⟩) ?_ ?_
              rotate_left
              ·intro w'
               go_simp
               with_reducible rfl
              rotate_left
              ·simp only [Act.put, zs1, zs2, zs3, i64_w, i32_w]
               rfl
              refine done_ (done_of HT_.out (by kernel_rfl)) ?_
              try go_wp2
              go_ret
              exact ⟨by first | rfl | (simp [errW_none, errW_some] <;> rfl) | (simp [*, errW_none, errW_some] <;> rfl), by repeat (first | (with_reducible first | exact HB.out | apply zc1 | apply zc2 | apply zc3) | exact HB.out)⟩
             ·rw [if_neg c64] at H
              exact absurd H (by simp)
            ·rw [if_neg c63] at H
             exact absurd H (by simp)
           ·rw [if_neg c62] at H
            exact absurd H (by simp)
          ·rw [if_neg c61] at H
           exact absurd H (by simp)

end Go.Proofs.Ytdiphnkkomfmdaa.QFnExactBestCut
