-- Printed for this claim by a changed copy of the kit's print (the session's own; own contracts in place of some functions).
import Derived.Test.YtndlmckfacegeaaDoorQFnExactSquareLinex0
import Derived.Test.YtndlmckfacegeaaDoorQFnExactSquareLinex1
import Derived.Test.YtndlmckfacegeaaDoorQFnExactSquareLinex2
namespace Go.Proofs.YtndlmckfacegeaaDoor.QFnExactSquareLine
open Go.RowKit Go.Proofs.YtndlmckfacegeaaDoorW.PrintWords Go.Proofs.YtndlmckfacegeaaDoorW.PrintLast Go.Proofs.YtndlmckfacegeaaDoorW.PrintMore
attribute [local go_sem] max2_int min2_int max_two min_two max_three min_three max_four min_four   -- for this text's walks alone
set_option linter.unusedVariables false
set_option linter.unusedSimpArgs false

/-! ### spec_FewestSquares: function 38 -/
mutual
def spec_FewestSquares.j0 : Nat → Int → Int → Bool → Option (Int)
  | 0, _, _, _ => none
  | k + 1, x0, x1, x20 => if x20 = true then (some (-1)) else (if 0 ≤ (wrap64 ((wrap64 ((mx x0 x1) + 1)) * (wrap64 ((mx x0 x1) + 1)))) then (if (wrap64 ((wrap64 ((mx x0 x1) + 1)) * (wrap64 ((mx x0 x1) + 1))) : Int).toNat ≤ 35184372088832 then (spec_FewestSquares.l0 k x0 x1 (mx x0 x1) (List.replicate (wrap64 ((wrap64 ((mx x0 x1) + 1)) * (wrap64 ((mx x0 x1) + 1))) : Int).toNat 0) 2) else (none)) else (none))
def spec_FewestSquares.l0 : Nat → Int → Int → Int → List Int → Int → Option (Int)
  | 0, _, _, _, _, _ => none
  | k + 1, x0, x1, x5, x6, x7 => if x7 ≤ (wrap64 (2 * x5)) then (spec_FewestSquares.l1 k x0 x1 x5 x6 x7 (mx 1 (wrap64 (x7 - x5)))) else (if 0 ≤ (wrap64 ((wrap64 (x0 * (wrap64 (x5 + 1)))) + x1)) then (if (wrap64 ((wrap64 (x0 * (wrap64 (x5 + 1)))) + x1)) < (x6.length : Int) then (some (rd x6 (wrap64 ((wrap64 (x0 * (wrap64 (x5 + 1)))) + x1)))) else (none)) else (none))
def spec_FewestSquares.l1 : Nat → Int → Int → Int → List Int → Int → Int → Option (Int)
  | 0, _, _, _, _, _, _ => none
  | k + 1, x0, x1, x5, x6, x7, x8 => if x8 ≤ (mn x5 (wrap64 (x7 - 1))) then (if x8 = (wrap64 (x7 - x8)) then (spec_FewestSquares.j3 k x0 x1 x5 x6 x7 x8 (wrap64 (x7 - x8)) 1) else (spec_FewestSquares.j3 k x0 x1 x5 x6 x7 x8 (wrap64 (x7 - x8)) (wrap64 (x8 * (wrap64 (x7 - x8)))))) else (spec_FewestSquares.l0 k x0 x1 x5 x6 (wrap64 (x7 + 1)))
def spec_FewestSquares.j3 : Nat → Int → Int → Int → List Int → Int → Int → Int → Int → Option (Int)
  | 0, _, _, _, _, _, _, _, _ => none
  | k + 1, x0, x1, x5, x6, x7, x8, x9, x10 => spec_FewestSquares.l2 k x0 x1 x5 x6 x7 x8 x9 x10 1
def spec_FewestSquares.l2 : Nat → Int → Int → Int → List Int → Int → Int → Int → Int → Int → Option (Int)
  | 0, _, _, _, _, _, _, _, _, _ => none
  | k + 1, x0, x1, x5, x6, x7, x8, x9, x10, x11 => if x11 < x8 then (if 0 ≤ (wrap64 ((wrap64 (x11 * (wrap64 (x5 + 1)))) + x9)) then (if (wrap64 ((wrap64 (x11 * (wrap64 (x5 + 1)))) + x9)) < (x6.length : Int) then (if 0 ≤ (wrap64 ((wrap64 ((wrap64 (x8 - x11)) * (wrap64 (x5 + 1)))) + x9)) then (if (wrap64 ((wrap64 ((wrap64 (x8 - x11)) * (wrap64 (x5 + 1)))) + x9)) < (x6.length : Int) then (spec_FewestSquares.l2 k x0 x1 x5 x6 x7 x8 x9 (mn x10 (wrap64 ((rd x6 (wrap64 ((wrap64 (x11 * (wrap64 (x5 + 1)))) + x9))) + (rd x6 (wrap64 ((wrap64 ((wrap64 (x8 - x11)) * (wrap64 (x5 + 1)))) + x9)))))) (wrap64 (x11 + 1))) else (none)) else (none)) else (none)) else (none)) else (spec_FewestSquares.l3 k x0 x1 x5 x6 x7 x8 x9 x10 1)
def spec_FewestSquares.l3 : Nat → Int → Int → Int → List Int → Int → Int → Int → Int → Int → Option (Int)
  | 0, _, _, _, _, _, _, _, _, _ => none
  | k + 1, x0, x1, x5, x6, x7, x8, x9, x10, x12 => if x12 < x9 then (if 0 ≤ (wrap64 ((wrap64 (x8 * (wrap64 (x5 + 1)))) + x12)) then (if (wrap64 ((wrap64 (x8 * (wrap64 (x5 + 1)))) + x12)) < (x6.length : Int) then (if 0 ≤ (wrap64 ((wrap64 ((wrap64 (x8 * (wrap64 (x5 + 1)))) + x9)) - x12)) then (if (wrap64 ((wrap64 ((wrap64 (x8 * (wrap64 (x5 + 1)))) + x9)) - x12)) < (x6.length : Int) then (spec_FewestSquares.l3 k x0 x1 x5 x6 x7 x8 x9 (mn x10 (wrap64 ((rd x6 (wrap64 ((wrap64 (x8 * (wrap64 (x5 + 1)))) + x12))) + (rd x6 (wrap64 ((wrap64 ((wrap64 (x8 * (wrap64 (x5 + 1)))) + x9)) - x12)))))) (wrap64 (x12 + 1))) else (none)) else (none)) else (none)) else (none)) else (if 0 ≤ (wrap64 ((wrap64 (x8 * (wrap64 (x5 + 1)))) + x9)) then (if (wrap64 ((wrap64 (x8 * (wrap64 (x5 + 1)))) + x9)) < (x6.length : Int) then (spec_FewestSquares.l1 k x0 x1 x5 (x6.set ((wrap64 ((wrap64 (x8 * (wrap64 (x5 + 1)))) + x9)) : Int).toNat x10) x7 (wrap64 (x8 + 1))) else (none)) else (none))
end
def spec_FewestSquares.f (k : Nat) (a0 : Int) (a1 : Int) : Option (Int) := (spec_l01In.f a0 1 30).bind fun t132 => (if t132 = true then ((spec_l01In.f a1 1 30).bind fun t133 => (spec_FewestSquares.j0 k a0 a1 (!t133))) else (spec_FewestSquares.j0 k a0 a1 true))
theorem spec_FewestSquares.mono_l : ∀ k, (∀ y0 y1 y2, LeO (spec_FewestSquares.j0 k y0 y1 y2) (spec_FewestSquares.j0 (k + 1) y0 y1 y2)) ∧ (∀ y0 y1 y2 y3 y4, LeO (spec_FewestSquares.l0 k y0 y1 y2 y3 y4) (spec_FewestSquares.l0 (k + 1) y0 y1 y2 y3 y4)) ∧ (∀ y0 y1 y2 y3 y4 y5, LeO (spec_FewestSquares.l1 k y0 y1 y2 y3 y4 y5) (spec_FewestSquares.l1 (k + 1) y0 y1 y2 y3 y4 y5)) ∧ (∀ y0 y1 y2 y3 y4 y5 y6 y7, LeO (spec_FewestSquares.j3 k y0 y1 y2 y3 y4 y5 y6 y7) (spec_FewestSquares.j3 (k + 1) y0 y1 y2 y3 y4 y5 y6 y7)) ∧ (∀ y0 y1 y2 y3 y4 y5 y6 y7 y8, LeO (spec_FewestSquares.l2 k y0 y1 y2 y3 y4 y5 y6 y7 y8) (spec_FewestSquares.l2 (k + 1) y0 y1 y2 y3 y4 y5 y6 y7 y8)) ∧ (∀ y0 y1 y2 y3 y4 y5 y6 y7 y8, LeO (spec_FewestSquares.l3 k y0 y1 y2 y3 y4 y5 y6 y7 y8) (spec_FewestSquares.l3 (k + 1) y0 y1 y2 y3 y4 y5 y6 y7 y8))
  | 0 => ⟨fun _ _ _ r h => by simp [spec_FewestSquares.j0] at h, fun _ _ _ _ _ r h => by simp [spec_FewestSquares.l0] at h, fun _ _ _ _ _ _ r h => by simp [spec_FewestSquares.l1] at h, fun _ _ _ _ _ _ _ _ r h => by simp [spec_FewestSquares.j3] at h, fun _ _ _ _ _ _ _ _ _ r h => by simp [spec_FewestSquares.l2] at h, fun _ _ _ _ _ _ _ _ _ r h => by simp [spec_FewestSquares.l3] at h⟩
  | k + 1 => by
    obtain ⟨ih0, ih1, ih2, ih3, ih4, ih5⟩ := spec_FewestSquares.mono_l k
    refine ⟨?_, ?_, ?_, ?_, ?_, ?_⟩
    · intro y0 y1 y2
      unfold spec_FewestSquares.j0
      repeat' first
      | (with_reducible exact ih0 _ _ _)
      | (with_reducible exact ih1 _ _ _ _ _)
      | (with_reducible exact ih2 _ _ _ _ _ _)
      | (with_reducible exact ih3 _ _ _ _ _ _ _ _)
      | (with_reducible exact ih4 _ _ _ _ _ _ _ _ _)
      | (with_reducible exact ih5 _ _ _ _ _ _ _ _ _)
      | (with_reducible exact LeO.refl _)
      | (with_reducible exact LeO.none _)
      | (with_reducible refine LeO.ite ?_ ?_)
      | (with_reducible refine LeO.bind ?_ (fun _ => ?_))
      | exact ih0 _ _ _
      | exact ih1 _ _ _ _ _
      | exact ih2 _ _ _ _ _ _
      | exact ih3 _ _ _ _ _ _ _ _
      | exact ih4 _ _ _ _ _ _ _ _ _
      | exact ih5 _ _ _ _ _ _ _ _ _
      | exact LeO.none _
      | refine LeO.ite ?_ ?_
      | refine LeO.bind ?_ (fun _ => ?_)
    · intro y0 y1 y2 y3 y4
      unfold spec_FewestSquares.l0
      repeat' first
      | (with_reducible exact ih0 _ _ _)
      | (with_reducible exact ih1 _ _ _ _ _)
      | (with_reducible exact ih2 _ _ _ _ _ _)
      | (with_reducible exact ih3 _ _ _ _ _ _ _ _)
      | (with_reducible exact ih4 _ _ _ _ _ _ _ _ _)
      | (with_reducible exact ih5 _ _ _ _ _ _ _ _ _)
      | (with_reducible exact LeO.refl _)
      | (with_reducible exact LeO.none _)
      | (with_reducible refine LeO.ite ?_ ?_)
      | (with_reducible refine LeO.bind ?_ (fun _ => ?_))
      | exact ih0 _ _ _
      | exact ih1 _ _ _ _ _
      | exact ih2 _ _ _ _ _ _
      | exact ih3 _ _ _ _ _ _ _ _
      | exact ih4 _ _ _ _ _ _ _ _ _
      | exact ih5 _ _ _ _ _ _ _ _ _
      | exact LeO.none _
      | refine LeO.ite ?_ ?_
      | refine LeO.bind ?_ (fun _ => ?_)
    · intro y0 y1 y2 y3 y4 y5
      unfold spec_FewestSquares.l1
      repeat' first
      | (with_reducible exact ih0 _ _ _)
      | (with_reducible exact ih1 _ _ _ _ _)
      | (with_reducible exact ih2 _ _ _ _ _ _)
      | (with_reducible exact ih3 _ _ _ _ _ _ _ _)
      | (with_reducible exact ih4 _ _ _ _ _ _ _ _ _)
      | (with_reducible exact ih5 _ _ _ _ _ _ _ _ _)
      | (with_reducible exact LeO.refl _)
      | (with_reducible exact LeO.none _)
      | (with_reducible refine LeO.ite ?_ ?_)
      | (with_reducible refine LeO.bind ?_ (fun _ => ?_))
      | exact ih0 _ _ _
      | exact ih1 _ _ _ _ _
      | exact ih2 _ _ _ _ _ _
      | exact ih3 _ _ _ _ _ _ _ _
      | exact ih4 _ _ _ _ _ _ _ _ _
      | exact ih5 _ _ _ _ _ _ _ _ _
      | exact LeO.none _
      | refine LeO.ite ?_ ?_
      | refine LeO.bind ?_ (fun _ => ?_)
    · intro y0 y1 y2 y3 y4 y5 y6 y7
      unfold spec_FewestSquares.j3
      repeat' first
      | (with_reducible exact ih0 _ _ _)
      | (with_reducible exact ih1 _ _ _ _ _)
      | (with_reducible exact ih2 _ _ _ _ _ _)
      | (with_reducible exact ih3 _ _ _ _ _ _ _ _)
      | (with_reducible exact ih4 _ _ _ _ _ _ _ _ _)
      | (with_reducible exact ih5 _ _ _ _ _ _ _ _ _)
      | (with_reducible exact LeO.refl _)
      | (with_reducible exact LeO.none _)
      | (with_reducible refine LeO.ite ?_ ?_)
      | (with_reducible refine LeO.bind ?_ (fun _ => ?_))
      | exact ih0 _ _ _
      | exact ih1 _ _ _ _ _
      | exact ih2 _ _ _ _ _ _
      | exact ih3 _ _ _ _ _ _ _ _
      | exact ih4 _ _ _ _ _ _ _ _ _
      | exact ih5 _ _ _ _ _ _ _ _ _
      | exact LeO.none _
      | refine LeO.ite ?_ ?_
      | refine LeO.bind ?_ (fun _ => ?_)
    · intro y0 y1 y2 y3 y4 y5 y6 y7 y8
      unfold spec_FewestSquares.l2
      repeat' first
      | (with_reducible exact ih0 _ _ _)
      | (with_reducible exact ih1 _ _ _ _ _)
      | (with_reducible exact ih2 _ _ _ _ _ _)
      | (with_reducible exact ih3 _ _ _ _ _ _ _ _)
      | (with_reducible exact ih4 _ _ _ _ _ _ _ _ _)
      | (with_reducible exact ih5 _ _ _ _ _ _ _ _ _)
      | (with_reducible exact LeO.refl _)
      | (with_reducible exact LeO.none _)
      | (with_reducible refine LeO.ite ?_ ?_)
      | (with_reducible refine LeO.bind ?_ (fun _ => ?_))
      | exact ih0 _ _ _
      | exact ih1 _ _ _ _ _
      | exact ih2 _ _ _ _ _ _
      | exact ih3 _ _ _ _ _ _ _ _
      | exact ih4 _ _ _ _ _ _ _ _ _
      | exact ih5 _ _ _ _ _ _ _ _ _
      | exact LeO.none _
      | refine LeO.ite ?_ ?_
      | refine LeO.bind ?_ (fun _ => ?_)
    · intro y0 y1 y2 y3 y4 y5 y6 y7 y8
      unfold spec_FewestSquares.l3
      repeat' first
      | (with_reducible exact ih0 _ _ _)
      | (with_reducible exact ih1 _ _ _ _ _)
      | (with_reducible exact ih2 _ _ _ _ _ _)
      | (with_reducible exact ih3 _ _ _ _ _ _ _ _)
      | (with_reducible exact ih4 _ _ _ _ _ _ _ _ _)
      | (with_reducible exact ih5 _ _ _ _ _ _ _ _ _)
      | (with_reducible exact LeO.refl _)
      | (with_reducible exact LeO.none _)
      | (with_reducible refine LeO.ite ?_ ?_)
      | (with_reducible refine LeO.bind ?_ (fun _ => ?_))
      | exact ih0 _ _ _
      | exact ih1 _ _ _ _ _
      | exact ih2 _ _ _ _ _ _
      | exact ih3 _ _ _ _ _ _ _ _
      | exact ih4 _ _ _ _ _ _ _ _ _
      | exact ih5 _ _ _ _ _ _ _ _ _
      | exact LeO.none _
      | refine LeO.ite ?_ ?_
      | refine LeO.bind ?_ (fun _ => ?_)
theorem spec_FewestSquares.mono : ∀ a0 a1 k, LeO (spec_FewestSquares.f k a0 a1) (spec_FewestSquares.f (k + 1) a0 a1) := by
  intro a0 a1 k
  obtain ⟨ih0, ih1, ih2, ih3, ih4, ih5⟩ := spec_FewestSquares.mono_l k
  unfold spec_FewestSquares.f
  repeat' first
      | (with_reducible exact ih0 _ _ _)
      | (with_reducible exact ih1 _ _ _ _ _)
      | (with_reducible exact ih2 _ _ _ _ _ _)
      | (with_reducible exact ih3 _ _ _ _ _ _ _ _)
      | (with_reducible exact ih4 _ _ _ _ _ _ _ _ _)
      | (with_reducible exact ih5 _ _ _ _ _ _ _ _ _)
      | (with_reducible exact LeO.refl _)
      | (with_reducible exact LeO.none _)
      | (with_reducible refine LeO.ite ?_ ?_)
      | (with_reducible refine LeO.bind ?_ (fun _ => ?_))
      | exact ih0 _ _ _
      | exact ih1 _ _ _ _ _
      | exact ih2 _ _ _ _ _ _
      | exact ih3 _ _ _ _ _ _ _ _
      | exact ih4 _ _ _ _ _ _ _ _ _
      | exact ih5 _ _ _ _ _ _ _ _ _
      | exact LeO.none _
      | refine LeO.ite ?_ ?_
      | refine LeO.bind ?_ (fun _ => ?_)
set_option maxHeartbeats 8000000 in
set_option maxRecDepth 100000 in
theorem spec_FewestSquares.calls (k : Nat) (a0 : Int) (a1 : Int) (r : Int) (w : World) (h : spec_FewestSquares.f k a0 a1 = some r) :
    Calls Tryd.prog 38 #[.int .i64 a0, .int .i64 a1] w fun e w' => e = .returned (.int .i64 r) ∧ Below w.heap.size w w' := by
  have HB := Aside0.mk (Below.refl w.heap.size w)
  have H : ((spec_l01In.f a0 1 30).bind fun t132 => (if t132 = true then ((spec_l01In.f a1 1 30).bind fun t133 => (spec_FewestSquares.j0 k a0 a1 (!t133))) else (spec_FewestSquares.j0 k a0 a1 true))) = some r := h
  clear h
  have HC3 := Aside0.mk H
  clear H
  go_enter Tryd.func38, Tryd.ntmps38
  go_upto_region 1 with (fail)
  repeat (go_quiet (fail); go_upto_region 1 with (fail))
  go_cut [20] (fun v20 wc => ∃ (kq : Nat) (x20_2 : Bool), v20 = .bool x20_2 ∧ Aside0 (spec_FewestSquares.j0 kq a0 a1 x20_2 = some r) ∧ Aside0 (kq ≤ k) ∧ Aside0 (Below w.heap.size w wc))
  case first =>
    have H := HC3.out
    clear HC3
    replace H := Option.bind_eq_some_iff.mp H
    obtain ⟨t132, A40, H⟩ := H
    replace H : (if t132 = true then ((spec_l01In.f a1 1 30).bind fun t133 => (spec_FewestSquares.j0 k a0 a1 (!t133))) else (spec_FewestSquares.j0 k a0 a1 true)) = some r := H
    have A4 := Aside0.mk A40
    clear A40
    by_cases c5 : t132 = true
    · subst c5
      have H1 : ((spec_l01In.f a1 1 30).bind fun t133 => (spec_FewestSquares.j0 k a0 a1 (!t133))) = some r := by rw [if_pos rfl] at H; exact H
      clear H
      have H := H1
      clear H1
      replace H := Option.bind_eq_some_iff.mp H
      obtain ⟨t133, A60, H⟩ := H
      replace H : (spec_FewestSquares.j0 k a0 a1 (!t133)) = some r := H
      have A6 := Aside0.mk A60
      clear A60
      have H' := Aside0.mk H
      clear H
      go_wp2_with (first | (go_at_call 71; (with_reducible refine (spec_l01In.calls a0 1 30 true _ A4.out).mono ?_); rintro e w' ⟨rfl, ⟨nd, rfl⟩⟩; (try first | exact ⟨rfl, _, World.drewN_drewN _ _ _⟩ | exact ⟨rfl, _, Eq.trans (World.drewN_drewN _ _ _) (congrArg (World.drewN _) (Nat.add_assoc _ _ _))⟩)) | (go_at_call 71; (with_reducible refine (spec_l01In.calls a1 1 30 t133 _ A6.out).mono ?_); rintro e w' ⟨rfl, ⟨nd, rfl⟩⟩; (try first | exact ⟨rfl, _, World.drewN_drewN _ _ _⟩ | exact ⟨rfl, _, Eq.trans (World.drewN_drewN _ _ _) (congrArg (World.drewN _) (Nat.add_assoc _ _ _))⟩)))
      repeat (go_quiet (first | (go_at_call 71; (with_reducible refine (spec_l01In.calls a0 1 30 true _ A4.out).mono ?_); rintro e w' ⟨rfl, ⟨nd, rfl⟩⟩; (try first | exact ⟨rfl, _, World.drewN_drewN _ _ _⟩ | exact ⟨rfl, _, Eq.trans (World.drewN_drewN _ _ _) (congrArg (World.drewN _) (Nat.add_assoc _ _ _))⟩)) | (go_at_call 71; (with_reducible refine (spec_l01In.calls a1 1 30 t133 _ A6.out).mono ?_); rintro e w' ⟨rfl, ⟨nd, rfl⟩⟩; (try first | exact ⟨rfl, _, World.drewN_drewN _ _ _⟩ | exact ⟨rfl, _, Eq.trans (World.drewN_drewN _ _ _) (congrArg (World.drewN _) (Nat.add_assoc _ _ _))⟩))); try go_wp2_with (first | (go_at_call 71; (with_reducible refine (spec_l01In.calls a0 1 30 true _ A4.out).mono ?_); rintro e w' ⟨rfl, ⟨nd, rfl⟩⟩; (try first | exact ⟨rfl, _, World.drewN_drewN _ _ _⟩ | exact ⟨rfl, _, Eq.trans (World.drewN_drewN _ _ _) (congrArg (World.drewN _) (Nat.add_assoc _ _ _))⟩)) | (go_at_call 71; (with_reducible refine (spec_l01In.calls a1 1 30 t133 _ A6.out).mono ?_); rintro e w' ⟨rfl, ⟨nd, rfl⟩⟩; (try first | exact ⟨rfl, _, World.drewN_drewN _ _ _⟩ | exact ⟨rfl, _, Eq.trans (World.drewN_drewN _ _ _) (congrArg (World.drewN _) (Nat.add_assoc _ _ _))⟩))))
      go_meet
      case rel => exact ⟨_, (!t133), (by first | rfl | (simp; done) | (simp [*]; done)), H', ⟨by first | omega | exact Nat.le_refl _⟩, ⟨by repeat (first | (with_reducible first | exact HB.out | apply below_alloc | apply pw_below_drewN | apply below_drew1) | exact HB.out)⟩⟩
    · replace c5 := Bool.eq_false_iff.mpr c5
      subst c5
      have H1 : (spec_FewestSquares.j0 k a0 a1 true) = some r := by rw [if_neg (show ¬ (false = true) by decide)] at H; exact H
      clear H
      have H := H1
      clear H1
      have H' := Aside0.mk H
      clear H
      go_wp2_with (first | (go_at_call 71; (with_reducible refine (spec_l01In.calls a0 1 30 false _ A4.out).mono ?_); rintro e w' ⟨rfl, ⟨nd, rfl⟩⟩; (try first | exact ⟨rfl, _, World.drewN_drewN _ _ _⟩ | exact ⟨rfl, _, Eq.trans (World.drewN_drewN _ _ _) (congrArg (World.drewN _) (Nat.add_assoc _ _ _))⟩)))
      repeat (go_quiet (first | (go_at_call 71; (with_reducible refine (spec_l01In.calls a0 1 30 false _ A4.out).mono ?_); rintro e w' ⟨rfl, ⟨nd, rfl⟩⟩; (try first | exact ⟨rfl, _, World.drewN_drewN _ _ _⟩ | exact ⟨rfl, _, Eq.trans (World.drewN_drewN _ _ _) (congrArg (World.drewN _) (Nat.add_assoc _ _ _))⟩))); try go_wp2_with (first | (go_at_call 71; (with_reducible refine (spec_l01In.calls a0 1 30 false _ A4.out).mono ?_); rintro e w' ⟨rfl, ⟨nd, rfl⟩⟩; (try first | exact ⟨rfl, _, World.drewN_drewN _ _ _⟩ | exact ⟨rfl, _, Eq.trans (World.drewN_drewN _ _ _) (congrArg (World.drewN _) (Nat.add_assoc _ _ _))⟩))))
      go_meet
      case rel => exact ⟨_, (true), (by first | rfl | (simp; done) | (simp [*]; done)), H', ⟨by first | omega | exact Nat.le_refl _⟩, ⟨by repeat (first | (with_reducible first | exact HB.out | apply below_alloc | apply pw_below_drewN | apply below_drew1) | exact HB.out)⟩⟩
  case rest =>
    clear HC3
    try clear p2
    try clear c3
    try clear c5
    obtain ⟨kq, x20_2, rfl, HA, HJ2, HB⟩ := hcut
    cases kq with
    | zero => exact absurd HA.out (by simp [spec_FewestSquares.j0])
    | succ kj2 =>
      have H := HA.out
      clear HA
      simp only [spec_FewestSquares.j0] at H
      by_cases c7 : x20_2 = true
      · subst c7
        have H1 : (some (-1)) = some r := by rw [if_pos rfl] at H; exact H
        clear H
        have H := H1
        clear H1
        obtain rfl := Option.some.inj H
        go_wp2
        repeat (go_quiet (fail); try go_wp2)
        go_ret
        exact ⟨by first | rfl | (simp [errW_none, errW_some] <;> rfl) | (simp [*, errW_none, errW_some] <;> rfl), by repeat (first | (with_reducible first | exact HB.out | apply below_alloc | apply pw_below_drewN | apply below_drew1) | exact HB.out)⟩
      · replace c7 := Bool.eq_false_iff.mpr c7
        subst c7
        have H1 : (if 0 ≤ (wrap64 ((wrap64 ((mx a0 a1) + 1)) * (wrap64 ((mx a0 a1) + 1)))) then (if (wrap64 ((wrap64 ((mx a0 a1) + 1)) * (wrap64 ((mx a0 a1) + 1))) : Int).toNat ≤ 35184372088832 then (spec_FewestSquares.l0 kj2 a0 a1 (mx a0 a1) (List.replicate (wrap64 ((wrap64 ((mx a0 a1) + 1)) * (wrap64 ((mx a0 a1) + 1))) : Int).toNat 0) 2) else (none)) else (none)) = some r := by rw [if_neg (show ¬ (false = true) by decide)] at H; exact H
        clear H
        have H := H1
        clear H1
        obtain ⟨ji8, hji8⟩ : ∃ j_ : Int, (mx a0 a1) = j_ := ⟨_, rfl⟩
        replace H : (if 0 ≤ (wrap64 ((wrap64 ((ji8) + 1)) * (wrap64 ((ji8) + 1)))) then (if (wrap64 ((wrap64 ((ji8) + 1)) * (wrap64 ((ji8) + 1))) : Int).toNat ≤ 35184372088832 then (spec_FewestSquares.l0 kj2 a0 a1 ji8 (List.replicate (wrap64 ((wrap64 ((ji8) + 1)) * (wrap64 ((ji8) + 1))) : Int).toNat 0) 2) else (none)) else (none)) = some r := by first | (rw [hji8] at H; exact H) | (simp only [hji8] at H ⊢; exact H)
        have hji8_ : (if a0 < a1 then a1 else a0) = ji8 := hji8
        obtain ⟨ji9, hji9⟩ : ∃ j_ : Int, (wrap64 ((wrap64 ((ji8) + 1)) * (wrap64 ((ji8) + 1)))) = j_ := ⟨_, rfl⟩
        replace H : (if 0 ≤ (ji9) then (if (ji9 : Int).toNat ≤ 35184372088832 then (spec_FewestSquares.l0 kj2 a0 a1 ji8 (List.replicate (ji9 : Int).toNat 0) 2) else (none)) else (none)) = some r := by first | (rw [hji9] at H; exact H) | (simp only [hji9] at H ⊢; exact H)
        have hji9w : (IntKind.i64.wrap ((wrap64 ((ji8) + 1)) * (wrap64 ((ji8) + 1)))) = ji9 := (i64_w _).trans hji9
        by_cases c10 : 0 ≤ (ji9)
        · rw [if_pos c10] at H
          have c10b0 := eq_true c10
          have c10b1 : decide (0 ≤ (ji9)) = true := decide_eq_true c10
          clear c10
          by_cases c11 : (ji9 : Int).toNat ≤ 35184372088832
          · rw [if_pos c11] at H
            have c11b0 := eq_true c11
            have c11b1 : decide ((ji9 : Int).toNat ≤ 35184372088832) = true := decide_eq_true c11
            clear c11
            obtain ⟨y134, hy134⟩ : ∃ y_ : List Int, y_ = (List.replicate (ji9 : Int).toNat 0) := ⟨_, rfl⟩
            replace H : (spec_FewestSquares.l0 kj2 a0 a1 ji8 y134 2) = some r := by first | (rw [hy134]; with_reducible exact H) | (have H2_ := (Option.bind_some _ _).symm.trans H; rw [hy134]; with_reducible exact H2_) | (have H2_ := (Option.bind_some _ _).symm.trans H; with_reducible exact H2_) | with_reducible exact H | (rw [hy134]; exact H) | exact H
            have Ny134 := Aside0.mk hy134
            clear hy134
            have H' := Aside0.mk H
            clear H
            go_wp2_with (first | ((with_reducible refine gate_dst (N := 29) rfl ?_); refine Kd.R_make (Kd.int .i64) _ 3 rfl (N := 29) rfl 30 _ _ rfl ji9 rfl rfl Tryd.underlying30 (.int .i64 0) 8 info3 rfl (by decide) (by omega) 0 (ok := fun _ => True) (okp := fun _ => True) rfl (fun _ hk => hk) trivial (of_decide_eq_true (by first | (with_reducible assumption) | assumption)) (Nat.le_trans (Nat.mul_le_mul_right _ (of_decide_eq_true (by first | (with_reducible assumption) | assumption) : ji9.toNat ≤ 35184372088832)) (by omega)) (Below.refl _ _) (Nat.le_refl _) ?_; intro v135 w12 ho13 hb hg_ hnew_; clear hg_ hnew_; (first | rw [← Ny134.out] at ho13 | (simp only [Int.reduceToNat] at ho13; rw [← Ny134.out] at ho13)); have n0_ := Aside0.mk (Kd.R_lower ho13 (below_size (by repeat (first | (with_reducible first | exact HB.out | apply below_alloc | apply pw_below_drewN | apply below_drew1) | exact HB.out)))); have n1_ := Aside0.mk (below_step (by repeat (first | (with_reducible first | exact HB.out | apply below_alloc | apply pw_below_drewN | apply below_drew1) | exact HB.out)) hb); clear HB; have HO136 := n0_; have HB := n1_; clear n0_ n1_; clear hb ho13))
            repeat (go_quiet (first | ((with_reducible refine gate_dst (N := 29) rfl ?_); refine Kd.R_make (Kd.int .i64) _ 3 rfl (N := 29) rfl 30 _ _ rfl ji9 rfl rfl Tryd.underlying30 (.int .i64 0) 8 info3 rfl (by decide) (by omega) 0 (ok := fun _ => True) (okp := fun _ => True) rfl (fun _ hk => hk) trivial (of_decide_eq_true (by first | (with_reducible assumption) | assumption)) (Nat.le_trans (Nat.mul_le_mul_right _ (of_decide_eq_true (by first | (with_reducible assumption) | assumption) : ji9.toNat ≤ 35184372088832)) (by omega)) (Below.refl _ _) (Nat.le_refl _) ?_; intro v135 w12 ho13 hb hg_ hnew_; clear hg_ hnew_; (first | rw [← Ny134.out] at ho13 | (simp only [Int.reduceToNat] at ho13; rw [← Ny134.out] at ho13)); have n0_ := Aside0.mk (Kd.R_lower ho13 (below_size (by repeat (first | (with_reducible first | exact HB.out | apply below_alloc | apply pw_below_drewN | apply below_drew1) | exact HB.out)))); have n1_ := Aside0.mk (below_step (by repeat (first | (with_reducible first | exact HB.out | apply below_alloc | apply pw_below_drewN | apply below_drew1) | exact HB.out)) hb); clear HB; have HO136 := n0_; have HB := n1_; clear n0_ n1_; clear hb ho13)); try go_wp2_with (first | ((with_reducible refine gate_dst (N := 29) rfl ?_); refine Kd.R_make (Kd.int .i64) _ 3 rfl (N := 29) rfl 30 _ _ rfl ji9 rfl rfl Tryd.underlying30 (.int .i64 0) 8 info3 rfl (by decide) (by omega) 0 (ok := fun _ => True) (okp := fun _ => True) rfl (fun _ hk => hk) trivial (of_decide_eq_true (by first | (with_reducible assumption) | assumption)) (Nat.le_trans (Nat.mul_le_mul_right _ (of_decide_eq_true (by first | (with_reducible assumption) | assumption) : ji9.toNat ≤ 35184372088832)) (by omega)) (Below.refl _ _) (Nat.le_refl _) ?_; intro v135 w12 ho13 hb hg_ hnew_; clear hg_ hnew_; (first | rw [← Ny134.out] at ho13 | (simp only [Int.reduceToNat] at ho13; rw [← Ny134.out] at ho13)); have n0_ := Aside0.mk (Kd.R_lower ho13 (below_size (by repeat (first | (with_reducible first | exact HB.out | apply below_alloc | apply pw_below_drewN | apply below_drew1) | exact HB.out)))); have n1_ := Aside0.mk (below_step (by repeat (first | (with_reducible first | exact HB.out | apply below_alloc | apply pw_below_drewN | apply below_drew1) | exact HB.out)) hb); clear HB; have HO136 := n0_; have HB := n1_; clear n0_ n1_; clear hb ho13)))
            go_loopg [7] kj2 (fun kq v7 w' => ∃ (x6_2 : List Int) (x7_2 : Int), v7 = .int .i64 x7_2 ∧ Aside0 (spec_FewestSquares.l0 kq a0 a1 ji8 x6_2 x7_2 = some r) ∧ Aside0 (kq ≤ kj2) ∧ Aside0 (Kd.R (Kd.int .i64) 3 w' w.heap.size (fun _ => True) v135 x6_2) ∧ Aside0 (Below w.heap.size w w'))
            case atStart => exact ⟨(y134), (2), (by first | rfl | (simp; done) | (simp [*]; done)), H', ⟨Nat.le_refl _⟩, ⟨by (with_reducible repeat (first | apply Kd.R_alloc | apply Kd.R_drewN | apply Kd.R_drew)); exact HO136.out⟩, ⟨by repeat (first | (with_reducible first | exact HB.out | apply below_alloc | apply pw_below_drewN | apply below_drew1) | exact HB.out)⟩⟩
            case round =>
              clear H'
              try clear c1
              try clear p2
              try clear c3
              try clear c5
              try clear p6
              try clear c7
              try clear c10
              try clear c10b0
              try clear c10b1
              try clear c11
              try clear c11b0
              try clear c11b1
              try clear p2
              obtain ⟨x6_2, x7_2, rfl, HA, HK2, HO_6, HB⟩ := hrel
              cases gk with
              | zero => exact absurd HA.out (by simp [spec_FewestSquares.l0])
              | succ k2 =>
                have H := HA.out
                clear HA
                simp only [spec_FewestSquares.l0] at H
                by_cases c14 : x7_2 ≤ (wrap64 (2 * ji8))
                · rw [if_pos c14] at H
                  have c14b0 : decide (x7_2 ≤ (wrap64 (2 * ji8))) = true := decide_eq_true c14
                  clear c14
                  obtain ⟨ji15, hji15⟩ : ∃ j_ : Int, (mx 1 (wrap64 (x7_2 - ji8))) = j_ := ⟨_, rfl⟩
                  replace H : (spec_FewestSquares.l1 k2 a0 a1 ji8 x6_2 x7_2 ji15) = some r := by first | (rw [hji15] at H; exact H) | (simp only [hji15] at H ⊢; exact H)
                  have hji15_ : (if 1 < (wrap64 (x7_2 - ji8)) then (wrap64 (x7_2 - ji8)) else 1) = ji15 := hji15
                  have H' := Aside0.mk H
                  clear H
                  go_wp2
                  repeat (go_quiet (fail); try go_wp2)
                  go_loopg [8] k2 (fun kq v8 w' => ∃ (x6_3 : List Int) (x8_3 : Int), v8 = .int .i64 x8_3 ∧ Aside0 (spec_FewestSquares.l1 kq a0 a1 ji8 x6_3 x7_2 x8_3 = some r) ∧ Aside0 (kq ≤ k2) ∧ Aside0 (Kd.R (Kd.int .i64) 3 w' w.heap.size (fun _ => True) v135 x6_3) ∧ Aside0 (Below w.heap.size w w'))
                  case atStart => exact ⟨(x6_2), (ji15), (by first | rfl | (simp; done) | ((simp only [← hji15] <;> (first | rfl | simp)); done) | (simp [*]; done)), H', ⟨Nat.le_refl _⟩, ⟨by (with_reducible repeat (first | apply Kd.R_alloc | apply Kd.R_drewN | apply Kd.R_drew)); exact HO_6.out⟩, ⟨by repeat (first | (with_reducible first | exact HB.out | apply below_alloc | apply pw_below_drewN | apply below_drew1) | exact HB.out)⟩⟩
                  case round =>
                    clear H'
                    try clear c1
                    try clear p2
                    try clear c3
                    try clear c5
                    try clear p6
                    try clear c7
                    try clear c10
                    try clear c10b0
                    try clear c10b1
                    try clear c11
                    try clear c11b0
                    try clear c11b1
                    try clear c14
                    try clear c14b0
                    try clear p2
                    try clear p6
                    obtain ⟨x6_3, x8_3, rfl, HA, HK3, HO_6, HB⟩ := hrel
                    cases gk with
                    | zero => exact absurd HA.out (by simp [spec_FewestSquares.l1])
                    | succ k3 =>
                      have H := HA.out
                      clear HA
                      simp only [spec_FewestSquares.l1] at H
                      obtain ⟨ji16, hji16⟩ : ∃ j_ : Int, (mn ji8 (wrap64 (x7_2 - 1))) = j_ := ⟨_, rfl⟩
                      replace H : (if x8_3 ≤ (ji16) then (if x8_3 = (wrap64 (x7_2 - x8_3)) then (spec_FewestSquares.j3 k3 a0 a1 ji8 x6_3 x7_2 x8_3 (wrap64 (x7_2 - x8_3)) 1) else (spec_FewestSquares.j3 k3 a0 a1 ji8 x6_3 x7_2 x8_3 (wrap64 (x7_2 - x8_3)) (wrap64 (x8_3 * (wrap64 (x7_2 - x8_3)))))) else (spec_FewestSquares.l0 k3 a0 a1 ji8 x6_3 (wrap64 (x7_2 + 1)))) = some r := by first | (rw [hji16] at H; exact H) | (simp only [hji16] at H ⊢; exact H)
                      have hji16_ : (if (wrap64 (x7_2 - 1)) < ji8 then (wrap64 (x7_2 - 1)) else ji8) = ji16 := hji16
                      by_cases c17 : x8_3 ≤ (ji16)
                      · rw [if_pos c17] at H
                        have c17b0 : decide (x8_3 ≤ (ji16)) = true := decide_eq_true c17
                        clear c17
                        have HC18 := Aside0.mk H
                        clear H
                        go_upto_if 56 with (fail)
                        repeat (go_quiet (fail); go_upto_if 56 with (fail))
                        go_cut [10] (fun v10 wc => ∃ (kq : Nat) (x10_17 : Int), v10 = .int .i64 x10_17 ∧ Aside0 (spec_FewestSquares.j3 kq a0 a1 ji8 x6_3 x7_2 x8_3 (wrap64 (x7_2 - x8_3)) x10_17 = some r) ∧ Aside0 (kq ≤ k3) ∧ Aside0 (Kd.R (Kd.int .i64) 3 wc w.heap.size (fun _ => True) v135 x6_3) ∧ Aside0 (Below w.heap.size w wc))
                        case first =>
                          have H := HC18.out
                          clear HC18
                          by_cases c19 : x8_3 = (wrap64 (x7_2 - x8_3))
                          · rw [if_pos c19] at H
                            have c19b0 : (x8_3 == (wrap64 (x7_2 - x8_3))) = true := beq_iff_eq.mpr c19
                            have c19b1 : (x8_3 != (wrap64 (x7_2 - x8_3))) = false := bne_eq_false_iff_eq.mpr c19
                            clear c19
                            (first | rw [c19b0] | (simp only [i64_w, i32_w]; rw [c19b0]) | skip)
                            have H' := Aside0.mk H
                            clear H
                            go_wp2
                            repeat (go_quiet (fail); try go_wp2)
                            go_meet
                            case rel => exact ⟨_, (1), (by first | rfl | (simp; done) | (simp [*]; done)), H', ⟨by have := HJ2.out; have := HK2.out; have := HK3.out; first | omega | exact Nat.le_refl _⟩, ⟨by (with_reducible repeat (first | apply Kd.R_alloc | apply Kd.R_drewN | apply Kd.R_drew)); exact HO_6.out⟩, ⟨by repeat (first | (with_reducible first | exact HB.out | apply below_alloc | apply pw_below_drewN | apply below_drew1) | exact HB.out)⟩⟩
                          · rw [if_neg c19] at H
                            have c19b0 : (x8_3 == (wrap64 (x7_2 - x8_3))) = false := beq_eq_false_iff_ne.mpr c19
                            have c19b1 : (x8_3 != (wrap64 (x7_2 - x8_3))) = true := bne_iff_ne.mpr c19
                            (first | rw [c19b0] | (simp only [i64_w, i32_w]; rw [c19b0]) | skip)
                            have H' := Aside0.mk H
                            clear H
                            go_wp2
                            repeat (go_quiet (fail); try go_wp2)
                            go_meet
                            case rel => exact ⟨_, (wrap64 (x8_3 * (wrap64 (x7_2 - x8_3)))), (by first | rfl | (simp; done) | (simp [*]; done)), H', ⟨by have := HJ2.out; have := HK2.out; have := HK3.out; first | omega | exact Nat.le_refl _⟩, ⟨by (with_reducible repeat (first | apply Kd.R_alloc | apply Kd.R_drewN | apply Kd.R_drew)); exact HO_6.out⟩, ⟨by repeat (first | (with_reducible first | exact HB.out | apply below_alloc | apply pw_below_drewN | apply below_drew1) | exact HB.out)⟩⟩
                        case rest =>
                          clear HC18
                          try clear c1
                          try clear p2
                          try clear c3
                          try clear c5
                          try clear p6
                          try clear c7
                          try clear c10
                          try clear c10b0
                          try clear c10b1
                          try clear c11
                          try clear c11b0
                          try clear c11b1
                          try clear c14
                          try clear c14b0
                          try clear c17
                          try clear c17b0
                          try clear c19
                          try clear c19b0
                          try clear c19b1
                          try clear p2
                          try clear p6
                          obtain ⟨kq, x10_17, rfl, HA, HJ17, HO_6, HB⟩ := hcut
                          cases kq with
                          | zero => exact absurd HA.out (by simp [spec_FewestSquares.j3])
                          | succ kj17 =>
                            have H := HA.out
                            clear HA
                            simp only [spec_FewestSquares.j3] at H
                            have H' := Aside0.mk H
                            clear H
                            go_wp2
                            repeat (go_quiet (fail); try go_wp2)
                            go_loopg [10, 11] kj17 (fun kq v10 v11 w' => ∃ (x10_5 : Int) (x11_5 : Int), v10 = .int .i64 x10_5 ∧ v11 = .int .i64 x11_5 ∧ Aside0 (spec_FewestSquares.l2 kq a0 a1 ji8 x6_3 x7_2 x8_3 (wrap64 (x7_2 - x8_3)) x10_5 x11_5 = some r) ∧ Aside0 (kq ≤ kj17) ∧ Aside0 (Kd.R (Kd.int .i64) 3 w' w.heap.size (fun _ => True) v135 x6_3) ∧ Aside0 (Below w.heap.size w w'))
                            case atStart => exact ⟨(x10_17), (1), (by first | rfl | (simp; done) | (simp [*]; done)), (by first | rfl | (simp; done) | (simp [*]; done)), H', ⟨Nat.le_refl _⟩, ⟨by (with_reducible repeat (first | apply Kd.R_alloc | apply Kd.R_drewN | apply Kd.R_drew)); exact HO_6.out⟩, ⟨by repeat (first | (with_reducible first | exact HB.out | apply below_alloc | apply pw_below_drewN | apply below_drew1) | exact HB.out)⟩⟩
                            case round =>
                              clear H'
                              try clear c1
                              try clear p2
                              try clear c3
                              try clear c5
                              try clear p6
                              try clear c7
                              try clear c10
                              try clear c10b0
                              try clear c10b1
                              try clear c11
                              try clear c11b0
                              try clear c11b1
                              try clear c14
                              try clear c14b0
                              try clear c17
                              try clear c17b0
                              try clear c19
                              try clear c19b0
                              try clear c19b1
                              try clear p2
                              try clear p6
                              obtain ⟨x10_5, x11_5, rfl, rfl, HA, HK5, HO_6, HB⟩ := hrel
                              cases gk with
                              | zero => exact absurd HA.out (by simp [spec_FewestSquares.l2])
                              | succ k5 =>
                                have H := HA.out
                                clear HA
                                simp only [spec_FewestSquares.l2] at H
                                by_cases c20 : x11_5 < x8_3
                                · rw [if_pos c20] at H
                                  have c20b0 : decide (x11_5 < x8_3) = true := decide_eq_true c20
                                  clear c20
                                  obtain ⟨ji21, hji21⟩ : ∃ j_ : Int, (wrap64 ((wrap64 (x11_5 * (wrap64 (ji8 + 1)))) + (wrap64 (x7_2 - x8_3)))) = j_ := ⟨_, rfl⟩
                                  replace H : (if 0 ≤ (ji21) then (if (ji21) < (x6_3.length : Int) then (if 0 ≤ (wrap64 ((wrap64 ((wrap64 (x8_3 - x11_5)) * (wrap64 (ji8 + 1)))) + (wrap64 (x7_2 - x8_3)))) then (if (wrap64 ((wrap64 ((wrap64 (x8_3 - x11_5)) * (wrap64 (ji8 + 1)))) + (wrap64 (x7_2 - x8_3)))) < (x6_3.length : Int) then (spec_FewestSquares.l2 k5 a0 a1 ji8 x6_3 x7_2 x8_3 (wrap64 (x7_2 - x8_3)) (mn x10_5 (wrap64 ((rd x6_3 (ji21)) + (rd x6_3 (wrap64 ((wrap64 ((wrap64 (x8_3 - x11_5)) * (wrap64 (ji8 + 1)))) + (wrap64 (x7_2 - x8_3)))))))) (wrap64 (x11_5 + 1))) else (none)) else (none)) else (none)) else (none)) = some r := by first | (rw [hji21] at H; exact H) | (simp only [hji21] at H ⊢; exact H)
                                  have hji21w : (IntKind.i64.wrap ((wrap64 (x11_5 * (wrap64 (ji8 + 1)))) + (wrap64 (x7_2 - x8_3)))) = ji21 := (i64_w _).trans hji21
                                  by_cases c22 : 0 ≤ (ji21)
                                  · rw [if_pos c22] at H
                                    have c22b0 : decide (0 ≤ (ji21)) = true := decide_eq_true c22
                                    clear c22
                                    by_cases c23 : (ji21) < (x6_3.length : Int)
                                    · rw [if_pos c23] at H
                                      have c23b0 : decide ((ji21) < (x6_3.length : Int)) = true := decide_eq_true c23
                                      clear c23
                                      obtain ⟨ji24, hji24⟩ : ∃ j_ : Int, (wrap64 ((wrap64 ((wrap64 (x8_3 - x11_5)) * (wrap64 (ji8 + 1)))) + (wrap64 (x7_2 - x8_3)))) = j_ := ⟨_, rfl⟩
                                      replace H : (if 0 ≤ (ji24) then (if (ji24) < (x6_3.length : Int) then (spec_FewestSquares.l2 k5 a0 a1 ji8 x6_3 x7_2 x8_3 (wrap64 (x7_2 - x8_3)) (mn x10_5 (wrap64 ((rd x6_3 (ji21)) + (rd x6_3 (ji24))))) (wrap64 (x11_5 + 1))) else (none)) else (none)) = some r := by first | (rw [hji24] at H; exact H) | (simp only [hji24] at H ⊢; exact H)
                                      have hji24w : (IntKind.i64.wrap ((wrap64 ((wrap64 (x8_3 - x11_5)) * (wrap64 (ji8 + 1)))) + (wrap64 (x7_2 - x8_3)))) = ji24 := (i64_w _).trans hji24
                                      by_cases c25 : 0 ≤ (ji24)
                                      · rw [if_pos c25] at H
                                        have c25b0 : decide (0 ≤ (ji24)) = true := decide_eq_true c25
                                        clear c25
                                        by_cases c26 : (ji24) < (x6_3.length : Int)
                                        · rw [if_pos c26] at H
                                          have c26b0 : decide ((ji24) < (x6_3.length : Int)) = true := decide_eq_true c26
                                          clear c26
                                          obtain ⟨ji27, hji27⟩ : ∃ j_ : Int, (mn x10_5 (wrap64 ((rd x6_3 (ji21)) + (rd x6_3 (ji24))))) = j_ := ⟨_, rfl⟩
                                          replace H : (spec_FewestSquares.l2 k5 a0 a1 ji8 x6_3 x7_2 x8_3 (wrap64 (x7_2 - x8_3)) ji27 (wrap64 (x11_5 + 1))) = some r := by first | (rw [hji27] at H; exact H) | (simp only [hji27] at H ⊢; exact H)
                                          have hji27_ : (if (wrap64 ((rd x6_3 (ji21)) + (rd x6_3 (ji24)))) < x10_5 then (wrap64 ((rd x6_3 (ji21)) + (rd x6_3 (ji24)))) else x10_5) = ji27 := hji27
                                          have H' := Aside0.mk H
                                          clear H
                                          obtain ⟨Ao28, co28, eo28⟩ := Kd.R_slice HO_6.out
                                          subst eo28
                                          have p138 : 0 ≤ ((ji21) : Int) := of_decide_eq_true (by first | (with_reducible assumption) | assumption)
                                          have q138 : (ji21) < (x6_3.length : Int) := of_decide_eq_true (by first | (with_reducible assumption) | assumption)
                                          obtain ⟨ad138, e138, hx138_0⟩ := Kd.at_int (Kd.R_reads' HO_6.out).2.2 (ji21) p138 q138
                                          cases e138
                                          replace p138 := eq_true p138
                                          replace q138 := eq_true q138
                                          have p139 : 0 ≤ ((ji24) : Int) := of_decide_eq_true (by first | (with_reducible assumption) | assumption)
                                          have q139 : (ji24) < (x6_3.length : Int) := of_decide_eq_true (by first | (with_reducible assumption) | assumption)
                                          obtain ⟨ad139, e139, hx139_0⟩ := Kd.at_int (Kd.R_reads' HO_6.out).2.2 (ji24) p139 q139
                                          obtain rfl : ad138 = ad139 := (by injection e139)
                                          replace p139 := eq_true p139
                                          replace q139 := eq_true q139
                                          go_wp2
                                          repeat (go_quiet (fail); try go_wp2)
                                          go_roundg k5
                                          case measure => have := HJ2.out; have := HK2.out; have := HK3.out; have := HJ17.out; have := HK5.out; omega
                                          case rel => exact ⟨(ji27), (wrap64 (x11_5 + 1)), (by first | rfl | (simp; done) | ((simp only [← hji27] <;> (first | rfl | simp)); done) | (simp [*]; done)), (by first | rfl | (simp; done) | (simp [*]; done)), H', ⟨by have := HJ2.out; have := HK2.out; have := HK3.out; have := HJ17.out; have := HK5.out; omega⟩, ⟨by (with_reducible repeat (first | apply Kd.R_alloc | apply Kd.R_drewN | apply Kd.R_drew)); exact HO_6.out⟩, ⟨by repeat (first | (with_reducible first | exact HB.out | apply below_alloc | apply pw_below_drewN | apply below_drew1) | exact HB.out)⟩⟩
                                        · rw [if_neg c26] at H
                                          exact absurd H (by simp)
                                      · rw [if_neg c25] at H
                                        exact absurd H (by simp)
                                    · rw [if_neg c23] at H
                                      exact absurd H (by simp)
                                  · rw [if_neg c22] at H
                                    exact absurd H (by simp)
                                · rw [if_neg c20] at H
                                  have c20b0 : decide (x11_5 < x8_3) = false := decide_eq_false c20
                                  clear c20
                                  have H' := Aside0.mk H
                                  clear H
                                  go_wp2
                                  repeat (go_quiet (fail); try go_wp2)
                                  go_loopg [10, 12] k5 (fun kq v10 v12 w' => ∃ (x10_6 : Int) (x12_6 : Int), v10 = .int .i64 x10_6 ∧ v12 = .int .i64 x12_6 ∧ Aside0 (spec_FewestSquares.l3 kq a0 a1 ji8 x6_3 x7_2 x8_3 (wrap64 (x7_2 - x8_3)) x10_6 x12_6 = some r) ∧ Aside0 (kq ≤ k5) ∧ Aside0 (Kd.R (Kd.int .i64) 3 w' w.heap.size (fun _ => True) v135 x6_3) ∧ Aside0 (Below w.heap.size w w'))
                                  case atStart => exact ⟨(x10_5), (1), (by first | rfl | (simp; done) | (simp [*]; done)), (by first | rfl | (simp; done) | (simp [*]; done)), H', ⟨Nat.le_refl _⟩, ⟨by (with_reducible repeat (first | apply Kd.R_alloc | apply Kd.R_drewN | apply Kd.R_drew)); exact HO_6.out⟩, ⟨by repeat (first | (with_reducible first | exact HB.out | apply below_alloc | apply pw_below_drewN | apply below_drew1) | exact HB.out)⟩⟩
                                  case round =>
                                    clear H'
                                    try clear c1
                                    try clear p1
                                    try clear q1
                                    try clear hx1
                                    try clear c2
                                    try clear p2
                                    try clear c3
                                    try clear c5
                                    try clear p6
                                    try clear c7
                                    try clear c10
                                    try clear c10b0
                                    try clear c10b1
                                    try clear c11
                                    try clear c11b0
                                    try clear c11b1
                                    try clear p13
                                    try clear q13
                                    try clear hx13
                                    try clear c14
                                    try clear c14b0
                                    try clear c17
                                    try clear c17b0
                                    try clear c19
                                    try clear c19b0
                                    try clear c19b1
                                    try clear c20
                                    try clear c20b0
                                    try clear c22
                                    try clear c22b0
                                    try clear c23
                                    try clear c23b0
                                    try clear c25
                                    try clear c25b0
                                    try clear c26
                                    try clear c26b0
                                    try clear hx138_0
                                    try clear hx139_0
                                    try clear p138
                                    try clear p139
                                    try clear p2
                                    try clear p6
                                    try clear q138
                                    try clear q139
                                    obtain ⟨x10_6, x12_6, rfl, rfl, HA, HK6, HO_6, HB⟩ := hrel
                                    cases gk with
                                    | zero => exact absurd HA.out (by simp [spec_FewestSquares.l3])
                                    | succ k6 =>
                                      have H := HA.out
                                      clear HA
                                      simp only [spec_FewestSquares.l3] at H
                                      by_cases c29 : x12_6 < (wrap64 (x7_2 - x8_3))
                                      · rw [if_pos c29] at H
                                        have c29b0 : decide (x12_6 < (wrap64 (x7_2 - x8_3))) = true := decide_eq_true c29
                                        clear c29
                                        obtain ⟨ji30, hji30⟩ : ∃ j_ : Int, (wrap64 ((wrap64 (x8_3 * (wrap64 (ji8 + 1)))) + x12_6)) = j_ := ⟨_, rfl⟩
                                        replace H : (if 0 ≤ (ji30) then (if (ji30) < (x6_3.length : Int) then (if 0 ≤ (wrap64 ((wrap64 ((wrap64 (x8_3 * (wrap64 (ji8 + 1)))) + (wrap64 (x7_2 - x8_3)))) - x12_6)) then (if (wrap64 ((wrap64 ((wrap64 (x8_3 * (wrap64 (ji8 + 1)))) + (wrap64 (x7_2 - x8_3)))) - x12_6)) < (x6_3.length : Int) then (spec_FewestSquares.l3 k6 a0 a1 ji8 x6_3 x7_2 x8_3 (wrap64 (x7_2 - x8_3)) (mn x10_6 (wrap64 ((rd x6_3 (ji30)) + (rd x6_3 (wrap64 ((wrap64 ((wrap64 (x8_3 * (wrap64 (ji8 + 1)))) + (wrap64 (x7_2 - x8_3)))) - x12_6)))))) (wrap64 (x12_6 + 1))) else (none)) else (none)) else (none)) else (none)) = some r := by first | (rw [hji30] at H; exact H) | (simp only [hji30] at H ⊢; exact H)
                                        have hji30w : (IntKind.i64.wrap ((wrap64 (x8_3 * (wrap64 (ji8 + 1)))) + x12_6)) = ji30 := (i64_w _).trans hji30
                                        by_cases c31 : 0 ≤ (ji30)
                                        · rw [if_pos c31] at H
                                          have c31b0 : decide (0 ≤ (ji30)) = true := decide_eq_true c31
                                          clear c31
                                          by_cases c32 : (ji30) < (x6_3.length : Int)
                                          · rw [if_pos c32] at H
                                            have c32b0 : decide ((ji30) < (x6_3.length : Int)) = true := decide_eq_true c32
                                            clear c32
                                            obtain ⟨ji33, hji33⟩ : ∃ j_ : Int, (wrap64 ((wrap64 ((wrap64 (x8_3 * (wrap64 (ji8 + 1)))) + (wrap64 (x7_2 - x8_3)))) - x12_6)) = j_ := ⟨_, rfl⟩
                                            replace H : (if 0 ≤ (ji33) then (if (ji33) < (x6_3.length : Int) then (spec_FewestSquares.l3 k6 a0 a1 ji8 x6_3 x7_2 x8_3 (wrap64 (x7_2 - x8_3)) (mn x10_6 (wrap64 ((rd x6_3 (ji30)) + (rd x6_3 (ji33))))) (wrap64 (x12_6 + 1))) else (none)) else (none)) = some r := by first | (rw [hji33] at H; exact H) | (simp only [hji33] at H ⊢; exact H)
                                            have hji33w : (IntKind.i64.wrap ((wrap64 ((wrap64 (x8_3 * (wrap64 (ji8 + 1)))) + (wrap64 (x7_2 - x8_3)))) - x12_6)) = ji33 := (i64_w _).trans hji33
                                            by_cases c34 : 0 ≤ (ji33)
                                            · rw [if_pos c34] at H
                                              have c34b0 : decide (0 ≤ (ji33)) = true := decide_eq_true c34
                                              clear c34
                                              by_cases c35 : (ji33) < (x6_3.length : Int)
                                              · rw [if_pos c35] at H
                                                have c35b0 : decide ((ji33) < (x6_3.length : Int)) = true := decide_eq_true c35
                                                clear c35
                                                obtain ⟨ji36, hji36⟩ : ∃ j_ : Int, (mn x10_6 (wrap64 ((rd x6_3 (ji30)) + (rd x6_3 (ji33))))) = j_ := ⟨_, rfl⟩
                                                replace H : (spec_FewestSquares.l3 k6 a0 a1 ji8 x6_3 x7_2 x8_3 (wrap64 (x7_2 - x8_3)) ji36 (wrap64 (x12_6 + 1))) = some r := by first | (rw [hji36] at H; exact H) | (simp only [hji36] at H ⊢; exact H)
                                                have hji36_ : (if (wrap64 ((rd x6_3 (ji30)) + (rd x6_3 (ji33)))) < x10_6 then (wrap64 ((rd x6_3 (ji30)) + (rd x6_3 (ji33)))) else x10_6) = ji36 := hji36
                                                have H' := Aside0.mk H
                                                clear H
                                                obtain ⟨Ao37, co37, eo37⟩ := Kd.R_slice HO_6.out
                                                subst eo37
                                                have p140 : 0 ≤ ((ji30) : Int) := of_decide_eq_true (by first | (with_reducible assumption) | assumption)
                                                have q140 : (ji30) < (x6_3.length : Int) := of_decide_eq_true (by first | (with_reducible assumption) | assumption)
                                                obtain ⟨ad140, e140, hx140_0⟩ := Kd.at_int (Kd.R_reads' HO_6.out).2.2 (ji30) p140 q140
                                                cases e140
                                                replace p140 := eq_true p140
                                                replace q140 := eq_true q140
                                                have p141 : 0 ≤ ((ji33) : Int) := of_decide_eq_true (by first | (with_reducible assumption) | assumption)
                                                have q141 : (ji33) < (x6_3.length : Int) := of_decide_eq_true (by first | (with_reducible assumption) | assumption)
                                                obtain ⟨ad141, e141, hx141_0⟩ := Kd.at_int (Kd.R_reads' HO_6.out).2.2 (ji33) p141 q141
                                                obtain rfl : ad140 = ad141 := (by injection e141)
                                                replace p141 := eq_true p141
                                                replace q141 := eq_true q141
                                                go_wp2
                                                repeat (go_quiet (fail); try go_wp2)
                                                go_roundg k6
                                                case measure => have := HJ2.out; have := HK2.out; have := HK3.out; have := HJ17.out; have := HK5.out; have := HK6.out; omega
                                                case rel => exact ⟨(ji36), (wrap64 (x12_6 + 1)), (by first | rfl | (simp; done) | ((simp only [← hji36] <;> (first | rfl | simp)); done) | (simp [*]; done)), (by first | rfl | (simp; done) | (simp [*]; done)), H', ⟨by have := HJ2.out; have := HK2.out; have := HK3.out; have := HJ17.out; have := HK5.out; have := HK6.out; omega⟩, ⟨by (with_reducible repeat (first | apply Kd.R_alloc | apply Kd.R_drewN | apply Kd.R_drew)); exact HO_6.out⟩, ⟨by repeat (first | (with_reducible first | exact HB.out | apply below_alloc | apply pw_below_drewN | apply below_drew1) | exact HB.out)⟩⟩
                                              · rw [if_neg c35] at H
                                                exact absurd H (by simp)
                                            · rw [if_neg c34] at H
                                              exact absurd H (by simp)
                                          · rw [if_neg c32] at H
                                            exact absurd H (by simp)
                                        · rw [if_neg c31] at H
                                          exact absurd H (by simp)
                                      · rw [if_neg c29] at H
                                        have c29b0 : decide (x12_6 < (wrap64 (x7_2 - x8_3))) = false := decide_eq_false c29
                                        clear c29
                                        obtain ⟨ji38, hji38⟩ : ∃ j_ : Int, (wrap64 ((wrap64 (x8_3 * (wrap64 (ji8 + 1)))) + (wrap64 (x7_2 - x8_3)))) = j_ := ⟨_, rfl⟩
                                        replace H : (if 0 ≤ (ji38) then (if (ji38) < (x6_3.length : Int) then (spec_FewestSquares.l1 k6 a0 a1 ji8 (x6_3.set ((ji38) : Int).toNat x10_6) x7_2 (wrap64 (x8_3 + 1))) else (none)) else (none)) = some r := by first | (rw [hji38] at H; exact H) | (simp only [hji38] at H ⊢; exact H)
                                        have hji38w : (IntKind.i64.wrap ((wrap64 (x8_3 * (wrap64 (ji8 + 1)))) + (wrap64 (x7_2 - x8_3)))) = ji38 := (i64_w _).trans hji38
                                        by_cases c39 : 0 ≤ (ji38)
                                        · rw [if_pos c39] at H
                                          have c39b0 : decide (0 ≤ (ji38)) = true := decide_eq_true c39
                                          clear c39
                                          by_cases c40 : (ji38) < (x6_3.length : Int)
                                          · rw [if_pos c40] at H
                                            have c40b0 : decide ((ji38) < (x6_3.length : Int)) = true := decide_eq_true c40
                                            clear c40
                                            obtain ⟨y142, hy142⟩ : ∃ y_ : List Int, y_ = (x6_3.set ((ji38) : Int).toNat x10_6) := ⟨_, rfl⟩
                                            replace H : (spec_FewestSquares.l1 k6 a0 a1 ji8 y142 x7_2 (wrap64 (x8_3 + 1))) = some r := by first | (rw [hy142]; with_reducible exact H) | (have H2_ := (Option.bind_some _ _).symm.trans H; rw [hy142]; with_reducible exact H2_) | (have H2_ := (Option.bind_some _ _).symm.trans H; with_reducible exact H2_) | with_reducible exact H | (rw [hy142]; exact H) | exact H
                                            have Ny142 := Aside0.mk hy142
                                            clear hy142
                                            have H' := Aside0.mk H
                                            clear H
                                            have p41 : 0 ≤ ((ji38) : Int) := of_decide_eq_true (by first | (with_reducible assumption) | assumption)
                                            have q41 : ((ji38) : Int) < ((x6_3.length : Int) : Int) := of_decide_eq_true (by first | (with_reducible assumption) | assumption)
                                            obtain ⟨go41, co41, eo41, gb41, gl41, cl41, HG41⟩ := Kd.R_form HO_6.out (by omega)
                                            (first | cases eo41 | (injection eo41 with ea_ en_ ec_; (first | subst ea_ | (injection ea_ with ea_; subst ea_)); subst ec_; clear en_))
                                            have GB41 := Aside0.mk gb41
                                            have GG41 := Aside0.mk HG41
                                            clear gb41 gl41 HG41
                                            obtain ⟨hx41_0, hf41_0⟩ := Kd.R_celln 0 HO_6.out ((ji38) : Int) p41 q41
                                            replace p41 := eq_true p41
                                            replace q41 := eq_true q41
                                            have HP42 := Kd.R_putg HO_6.out ((ji38) : Int) x10_6
                                            go_wp2_with (first | ((with_reducible refine gate_store (t := 3) (p := 121) rfl ?_); (try (rw [drewN_self wr]; generalize hq_ : World.drewN wr _ = wr; have n0_ := Aside0.mk (Kd.R_at hq_ HO_6.out); have n1_ := Aside0.mk (below_at hq_ HB.out); clear hq_ HO_6 HB; have HO_6 := n0_; have HB := n1_; clear n0_ n1_; (try (have HP42 := Kd.R_putg HO_6.out ((ji38) : Int) x10_6)))); refine store_event (t := 3) (p := 121) (v := ?vo_w43) (w1 := (wr.setCell ⟨go41, ((ji38) : Int).toNat, none⟩ (.int .i64 x10_6))) ?hg ?ho ?hn ?hr ?_; (case ho => rfl); (case hg => rfl); (case hn => rfl); (case hr => first | (go_simp; done) | (go_simp; rfl)); intro w43 hw; have hg : wr.grownBy w43 (some go41) := (by rw [hw]; exact HP42.2); have hp_ : Kd.R (Kd.int .i64) 3 w43 w.heap.size (fun _ => True) (.slice (some ⟨go41, 0, none⟩) x6_3.length co41) y142 := (by rw [hw, Ny142.out]; exact HP42.1); clear HP42; have n0_ := Aside0.mk (hp_); have n1_ := Aside0.mk ((by rw [hw]; exact below_set (HB.out) GB41.out : Below w.heap.size w w43)); clear HO_6; clear HB; have HO_6 := n0_; have HB := n1_; clear n0_ n1_; clear hg hw hp_))
                                            repeat (go_quiet (first | ((with_reducible refine gate_store (t := 3) (p := 121) rfl ?_); (try (rw [drewN_self wr]; generalize hq_ : World.drewN wr _ = wr; have n0_ := Aside0.mk (Kd.R_at hq_ HO_6.out); have n1_ := Aside0.mk (below_at hq_ HB.out); clear hq_ HO_6 HB; have HO_6 := n0_; have HB := n1_; clear n0_ n1_; (try (have HP42 := Kd.R_putg HO_6.out ((ji38) : Int) x10_6)))); refine store_event (t := 3) (p := 121) (v := ?vo_w43) (w1 := (wr.setCell ⟨go41, ((ji38) : Int).toNat, none⟩ (.int .i64 x10_6))) ?hg ?ho ?hn ?hr ?_; (case ho => rfl); (case hg => rfl); (case hn => rfl); (case hr => first | (go_simp; done) | (go_simp; rfl)); intro w43 hw; have hg : wr.grownBy w43 (some go41) := (by rw [hw]; exact HP42.2); have hp_ : Kd.R (Kd.int .i64) 3 w43 w.heap.size (fun _ => True) (.slice (some ⟨go41, 0, none⟩) x6_3.length co41) y142 := (by rw [hw, Ny142.out]; exact HP42.1); clear HP42; have n0_ := Aside0.mk (hp_); have n1_ := Aside0.mk ((by rw [hw]; exact below_set (HB.out) GB41.out : Below w.heap.size w w43)); clear HO_6; clear HB; have HO_6 := n0_; have HB := n1_; clear n0_ n1_; clear hg hw hp_)); try go_wp2_with (first | ((with_reducible refine gate_store (t := 3) (p := 121) rfl ?_); (try (rw [drewN_self wr]; generalize hq_ : World.drewN wr _ = wr; have n0_ := Aside0.mk (Kd.R_at hq_ HO_6.out); have n1_ := Aside0.mk (below_at hq_ HB.out); clear hq_ HO_6 HB; have HO_6 := n0_; have HB := n1_; clear n0_ n1_; (try (have HP42 := Kd.R_putg HO_6.out ((ji38) : Int) x10_6)))); refine store_event (t := 3) (p := 121) (v := ?vo_w43) (w1 := (wr.setCell ⟨go41, ((ji38) : Int).toNat, none⟩ (.int .i64 x10_6))) ?hg ?ho ?hn ?hr ?_; (case ho => rfl); (case hg => rfl); (case hn => rfl); (case hr => first | (go_simp; done) | (go_simp; rfl)); intro w43 hw; have hg : wr.grownBy w43 (some go41) := (by rw [hw]; exact HP42.2); have hp_ : Kd.R (Kd.int .i64) 3 w43 w.heap.size (fun _ => True) (.slice (some ⟨go41, 0, none⟩) x6_3.length co41) y142 := (by rw [hw, Ny142.out]; exact HP42.1); clear HP42; have n0_ := Aside0.mk (hp_); have n1_ := Aside0.mk ((by rw [hw]; exact below_set (HB.out) GB41.out : Below w.heap.size w w43)); clear HO_6; clear HB; have HO_6 := n0_; have HB := n1_; clear n0_ n1_; clear hg hw hp_)))
                                            go_roundg k6
                                            case measure => have := HJ2.out; have := HK2.out; have := HK3.out; have := HJ17.out; have := HK5.out; have := HK6.out; omega
                                            case rel => exact ⟨(y142), (wrap64 (x8_3 + 1)), (by first | rfl | (simp; done) | (simp [*]; done)), H', ⟨by have := HJ2.out; have := HK2.out; have := HK3.out; have := HJ17.out; have := HK5.out; have := HK6.out; omega⟩, ⟨by (with_reducible repeat (first | apply Kd.R_alloc | apply Kd.R_drewN | apply Kd.R_drew)); exact HO_6.out⟩, ⟨by repeat (first | (with_reducible first | exact HB.out | apply below_alloc | apply pw_below_drewN | apply below_drew1) | exact HB.out)⟩⟩
                                          · rw [if_neg c40] at H
                                            exact absurd H (by simp)
                                        · rw [if_neg c39] at H
                                          exact absurd H (by simp)
                      · rw [if_neg c17] at H
                        have c17b0 : decide (x8_3 ≤ (ji16)) = false := decide_eq_false c17
                        clear c17
                        have H' := Aside0.mk H
                        clear H
                        go_wp2
                        repeat (go_quiet (fail); try go_wp2)
                        go_roundg k3
                        case measure => have := HJ2.out; have := HK2.out; have := HK3.out; omega
                        case rel => exact ⟨(x6_3), (wrap64 (x7_2 + 1)), (by first | rfl | (simp; done) | (simp [*]; done)), H', ⟨by have := HJ2.out; have := HK2.out; have := HK3.out; omega⟩, ⟨by (with_reducible repeat (first | apply Kd.R_alloc | apply Kd.R_drewN | apply Kd.R_drew)); exact HO_6.out⟩, ⟨by repeat (first | (with_reducible first | exact HB.out | apply below_alloc | apply pw_below_drewN | apply below_drew1) | exact HB.out)⟩⟩
                · rw [if_neg c14] at H
                  have c14b0 : decide (x7_2 ≤ (wrap64 (2 * ji8))) = false := decide_eq_false c14
                  clear c14
                  obtain ⟨ji44, hji44⟩ : ∃ j_ : Int, (wrap64 ((wrap64 (a0 * (wrap64 (ji8 + 1)))) + a1)) = j_ := ⟨_, rfl⟩
                  replace H : (if 0 ≤ (ji44) then (if (ji44) < (x6_2.length : Int) then (some (rd x6_2 (ji44))) else (none)) else (none)) = some r := by first | (rw [hji44] at H; exact H) | (simp only [hji44] at H ⊢; exact H)
                  have hji44w : (IntKind.i64.wrap ((wrap64 (a0 * (wrap64 (ji8 + 1)))) + a1)) = ji44 := (i64_w _).trans hji44
                  by_cases c45 : 0 ≤ (ji44)
                  · rw [if_pos c45] at H
                    have c45b0 : decide (0 ≤ (ji44)) = true := decide_eq_true c45
                    clear c45
                    by_cases c46 : (ji44) < (x6_2.length : Int)
                    · rw [if_pos c46] at H
                      have c46b0 : decide ((ji44) < (x6_2.length : Int)) = true := decide_eq_true c46
                      clear c46
                      obtain rfl := Option.some.inj H
                      obtain ⟨Ao47, co47, eo47⟩ := Kd.R_slice HO_6.out
                      subst eo47
                      have p137 : 0 ≤ ((ji44) : Int) := of_decide_eq_true (by first | (with_reducible assumption) | assumption)
                      have q137 : (ji44) < (x6_2.length : Int) := of_decide_eq_true (by first | (with_reducible assumption) | assumption)
                      obtain ⟨ad137, e137, hx137_0⟩ := Kd.at_int (Kd.R_reads' HO_6.out).2.2 (ji44) p137 q137
                      cases e137
                      replace p137 := eq_true p137
                      replace q137 := eq_true q137
                      go_wp2
                      repeat (go_quiet (fail); try go_wp2)
                      go_ret
                      exact ⟨by first | rfl | (simp [errW_none, errW_some] <;> rfl) | (simp only [← hji8, ← hji9, ← hji44]; first | rfl | (simp [errW_none, errW_some] <;> rfl)) | (simp [*, errW_none, errW_some] <;> rfl), by repeat (first | (with_reducible first | exact HB.out | apply below_alloc | apply pw_below_drewN | apply below_drew1) | exact HB.out)⟩
                    · rw [if_neg c46] at H
                      exact absurd H (by simp)
                  · rw [if_neg c45] at H
                    exact absurd H (by simp)
          · rw [if_neg c11] at H
            exact absurd H (by simp)
        · rw [if_neg c10] at H
          exact absurd H (by simp)

/-! ### spec_SquareLine: function 14 -/
def spec_SquareLine.f (k : Nat) (a0 : Int) (a1 : Int) : Option (ByteArray) := (spec_QuotientsOf.f k a0 a1).bind fun t143 => (if (t143.length : Int) = 0 then (some (⟨#[110, 111, 110, 101]⟩ : ByteArray)) else ((spec_FormatNumbers.f k t143).bind fun t146 => (if 7 + t146.size ≤ 9223372036854775807 then ((spec_FewestSquares.f k a0 a1).bind fun t147 => (if t147 < 0 then (some ((⟨#[103, 114, 101, 101, 100, 121, 32]⟩ : ByteArray) ++ t146)) else (if ((⟨#[103, 114, 101, 101, 100, 121, 32]⟩ : ByteArray) ++ t146).size + 8 ≤ 9223372036854775807 then ((spec_FormatInt.f k t147).bind fun t148 => (if (((⟨#[103, 114, 101, 101, 100, 121, 32]⟩ : ByteArray) ++ t146) ++ (⟨#[32, 102, 101, 119, 101, 115, 116, 32]⟩ : ByteArray)).size + t148.size ≤ 9223372036854775807 then (some ((((⟨#[103, 114, 101, 101, 100, 121, 32]⟩ : ByteArray) ++ t146) ++ (⟨#[32, 102, 101, 119, 101, 115, 116, 32]⟩ : ByteArray)) ++ t148)) else (none))) else (none)))) else (none))))
theorem spec_SquareLine.mono : ∀ a0 a1 k, LeO (spec_SquareLine.f k a0 a1) (spec_SquareLine.f (k + 1) a0 a1) := by
  intro a0 a1 k
  unfold spec_SquareLine.f
  repeat' first
      | (with_reducible exact spec_FewestSquares.mono _ _ _)
      | (with_reducible exact spec_FormatInt.mono _ _)
      | (with_reducible exact spec_FormatNumbers.mono _ _)
      | (with_reducible exact spec_QuotientsOf.mono _ _ _)
      | (with_reducible exact LeO.refl _)
      | (with_reducible exact LeO.none _)
      | (with_reducible refine LeO.ite ?_ ?_)
      | (with_reducible refine LeO.bind ?_ (fun _ => ?_))
      | exact spec_FewestSquares.mono _ _ _
      | exact spec_FormatInt.mono _ _
      | exact spec_FormatNumbers.mono _ _
      | exact spec_QuotientsOf.mono _ _ _
      | exact LeO.none _
      | refine LeO.ite ?_ ?_
      | refine LeO.bind ?_ (fun _ => ?_)
set_option maxHeartbeats 8000000 in
set_option maxRecDepth 100000 in
theorem spec_SquareLine.calls (k : Nat) (a0 : Int) (a1 : Int) (r : ByteArray) (w : World) (h : spec_SquareLine.f k a0 a1 = some r) :
    Calls Tryd.prog 14 #[.int .i64 a0, .int .i64 a1] w fun e w' => e = .returned (.string r) ∧ Below w.heap.size w w' := by
  have HB := Aside0.mk (Below.refl w.heap.size w)
  have H : ((spec_QuotientsOf.f k a0 a1).bind fun t143 => (if (t143.length : Int) = 0 then (some (⟨#[110, 111, 110, 101]⟩ : ByteArray)) else ((spec_FormatNumbers.f k t143).bind fun t146 => (if 7 + t146.size ≤ 9223372036854775807 then ((spec_FewestSquares.f k a0 a1).bind fun t147 => (if t147 < 0 then (some ((⟨#[103, 114, 101, 101, 100, 121, 32]⟩ : ByteArray) ++ t146)) else (if ((⟨#[103, 114, 101, 101, 100, 121, 32]⟩ : ByteArray) ++ t146).size + 8 ≤ 9223372036854775807 then ((spec_FormatInt.f k t147).bind fun t148 => (if (((⟨#[103, 114, 101, 101, 100, 121, 32]⟩ : ByteArray) ++ t146) ++ (⟨#[32, 102, 101, 119, 101, 115, 116, 32]⟩ : ByteArray)).size + t148.size ≤ 9223372036854775807 then (some ((((⟨#[103, 114, 101, 101, 100, 121, 32]⟩ : ByteArray) ++ t146) ++ (⟨#[32, 102, 101, 119, 101, 115, 116, 32]⟩ : ByteArray)) ++ t148)) else (none))) else (none)))) else (none))))) = some r := h
  clear h
  replace H := Option.bind_eq_some_iff.mp H
  obtain ⟨t143, A30, H⟩ := H
  replace H : (if (t143.length : Int) = 0 then (some (⟨#[110, 111, 110, 101]⟩ : ByteArray)) else ((spec_FormatNumbers.f k t143).bind fun t146 => (if 7 + t146.size ≤ 9223372036854775807 then ((spec_FewestSquares.f k a0 a1).bind fun t147 => (if t147 < 0 then (some ((⟨#[103, 114, 101, 101, 100, 121, 32]⟩ : ByteArray) ++ t146)) else (if ((⟨#[103, 114, 101, 101, 100, 121, 32]⟩ : ByteArray) ++ t146).size + 8 ≤ 9223372036854775807 then ((spec_FormatInt.f k t147).bind fun t148 => (if (((⟨#[103, 114, 101, 101, 100, 121, 32]⟩ : ByteArray) ++ t146) ++ (⟨#[32, 102, 101, 119, 101, 115, 116, 32]⟩ : ByteArray)).size + t148.size ≤ 9223372036854775807 then (some ((((⟨#[103, 114, 101, 101, 100, 121, 32]⟩ : ByteArray) ++ t146) ++ (⟨#[32, 102, 101, 119, 101, 115, 116, 32]⟩ : ByteArray)) ++ t148)) else (none))) else (none)))) else (none)))) = some r := H
  have A3 := Aside0.mk A30
  clear A30
  by_cases c4 : (t143.length : Int) = 0
  · rw [if_pos c4] at H
    have c4b0 : ((t143.length : Int) == 0) = true := beq_iff_eq.mpr c4
    have c4b1 : ((t143.length : Int) != 0) = false := bne_eq_false_iff_eq.mpr c4
    clear c4
    obtain rfl := Option.some.inj H
    go_enter Tryd.func14, Tryd.ntmps14
    go_wp2_with (first | ((with_reducible refine gate_callee (f := 36) rfl ?_); refine goesL_ (some 10) rfl rfl Tryd.func36 (by kernel_rfl) rfl #[.int .i64 a0, .int .i64 a1] rfl (by (try simp only [List.map_toArray, List.map_cons, List.map_nil]); first | done | rfl | (simp only [List.length_drop, List.length_take]; rfl)) ?_; (with_reducible refine (spec_QuotientsOf.calls k a0 a1 t143 _ A3.out).mono ?_); rintro e w5 ⟨v144, rfl, ho0, hb⟩; refine ⟨_, rfl, ?_⟩; have n0_ := Aside0.mk (Kd.R_lower ho0 (below_size (by repeat (first | (with_reducible first | exact HB.out | apply below_alloc | apply pw_below_drewN | apply below_drew1) | exact HB.out)))); have n1_ := Aside0.mk (below_step (by repeat (first | (with_reducible first | exact HB.out | apply below_alloc | apply pw_below_drewN | apply below_drew1) | exact HB.out)) hb); clear HB; have HO145 := n0_; have HB := n1_; clear n0_ n1_; (try clear hb); (try clear hb2); (try clear hk); (try clear hi); (try clear ho0); obtain ⟨Ao6, co6, eo6⟩ := Kd.R_slice HO145.out; subst eo6))
    go_ret
    exact ⟨by first | rfl | (simp [errW_none, errW_some] <;> rfl) | (simp [*, errW_none, errW_some] <;> rfl), by repeat (first | (with_reducible first | exact HB.out | apply below_alloc | apply pw_below_drewN | apply below_drew1) | exact HB.out)⟩
  · rw [if_neg c4] at H
    have c4b0 : ((t143.length : Int) == 0) = false := beq_eq_false_iff_ne.mpr c4
    have c4b1 : ((t143.length : Int) != 0) = true := bne_iff_ne.mpr c4
    have c4b2 : ¬ (t143 = []) := fun h_ => c4 (by rw [h_]; rfl)
    replace H := Option.bind_eq_some_iff.mp H
    obtain ⟨t146, A70, H⟩ := H
    replace H : (if 7 + t146.size ≤ 9223372036854775807 then ((spec_FewestSquares.f k a0 a1).bind fun t147 => (if t147 < 0 then (some ((⟨#[103, 114, 101, 101, 100, 121, 32]⟩ : ByteArray) ++ t146)) else (if ((⟨#[103, 114, 101, 101, 100, 121, 32]⟩ : ByteArray) ++ t146).size + 8 ≤ 9223372036854775807 then ((spec_FormatInt.f k t147).bind fun t148 => (if (((⟨#[103, 114, 101, 101, 100, 121, 32]⟩ : ByteArray) ++ t146) ++ (⟨#[32, 102, 101, 119, 101, 115, 116, 32]⟩ : ByteArray)).size + t148.size ≤ 9223372036854775807 then (some ((((⟨#[103, 114, 101, 101, 100, 121, 32]⟩ : ByteArray) ++ t146) ++ (⟨#[32, 102, 101, 119, 101, 115, 116, 32]⟩ : ByteArray)) ++ t148)) else (none))) else (none)))) else (none)) = some r := H
    have A7 := Aside0.mk A70
    clear A70
    by_cases c8 : 7 + t146.size ≤ 9223372036854775807
    · rw [if_pos c8] at H
      have c8b0 := eq_true c8
      have c8b1 : decide (7 + t146.size ≤ 9223372036854775807) = true := decide_eq_true c8
      try have c8b2 : (9223372036854775807 < 7 + t146.size) = False := eq_false (Nat.not_lt.2 c8)
      replace H := Option.bind_eq_some_iff.mp H
      obtain ⟨t147, A90, H⟩ := H
      replace H : (if t147 < 0 then (some ((⟨#[103, 114, 101, 101, 100, 121, 32]⟩ : ByteArray) ++ t146)) else (if ((⟨#[103, 114, 101, 101, 100, 121, 32]⟩ : ByteArray) ++ t146).size + 8 ≤ 9223372036854775807 then ((spec_FormatInt.f k t147).bind fun t148 => (if (((⟨#[103, 114, 101, 101, 100, 121, 32]⟩ : ByteArray) ++ t146) ++ (⟨#[32, 102, 101, 119, 101, 115, 116, 32]⟩ : ByteArray)).size + t148.size ≤ 9223372036854775807 then (some ((((⟨#[103, 114, 101, 101, 100, 121, 32]⟩ : ByteArray) ++ t146) ++ (⟨#[32, 102, 101, 119, 101, 115, 116, 32]⟩ : ByteArray)) ++ t148)) else (none))) else (none))) = some r := H
      have A9 := Aside0.mk A90
      clear A90
      by_cases c10 : t147 < 0
      · rw [if_pos c10] at H
        have c10b0 : decide (t147 < 0) = true := decide_eq_true c10
        clear c10
        obtain rfl := Option.some.inj H
        go_enter Tryd.func14, Tryd.ntmps14
        go_wp2_with (first | ((with_reducible refine gate_callee (f := 36) rfl ?_); refine goesL_ (some 10) rfl rfl Tryd.func36 (by kernel_rfl) rfl #[.int .i64 a0, .int .i64 a1] rfl (by (try simp only [List.map_toArray, List.map_cons, List.map_nil]); first | done | rfl | (simp only [List.length_drop, List.length_take]; rfl)) ?_; (with_reducible refine (spec_QuotientsOf.calls k a0 a1 t143 _ A3.out).mono ?_); rintro e w11 ⟨v144, rfl, ho0, hb⟩; refine ⟨_, rfl, ?_⟩; have n0_ := Aside0.mk (Kd.R_lower ho0 (below_size (by repeat (first | (with_reducible first | exact HB.out | apply below_alloc | apply pw_below_drewN | apply below_drew1) | exact HB.out)))); have n1_ := Aside0.mk (below_step (by repeat (first | (with_reducible first | exact HB.out | apply below_alloc | apply pw_below_drewN | apply below_drew1) | exact HB.out)) hb); clear HB; have HO145 := n0_; have HB := n1_; clear n0_ n1_; (try clear hb); (try clear hb2); (try clear hk); (try clear hi); (try clear ho0); obtain ⟨Ao12, co12, eo12⟩ := Kd.R_slice HO145.out; subst eo12) | ((with_reducible refine gate_callee (f := 37) rfl ?_); refine goesL_ (some 15) rfl rfl Tryd.func37 (by kernel_rfl) rfl #[.slice Ao12 t143.length co12] rfl (by (try simp only [List.map_toArray, List.map_cons, List.map_nil]); first | done | rfl | (simp only [List.length_drop, List.length_take]; rfl)) ?_; (with_reducible refine (spec_FormatNumbers.calls k _ _ t143 t146 _ ?side1 ?side2 A7.out).mono ?_); (case side1 => repeat (first | exact (Kd.R_reads' HO145.out).2.2 | (with_reducible refine Kd.C_alloc ?_ _) | (with_reducible refine Kd.C_drewN ?_ _) | (with_reducible refine Kd.C_drew ?_))); (case side2 => exact (Kd.R_reads' HO145.out).2.1); rintro e w13 ⟨rfl, hb⟩; refine ⟨_, rfl, ?_⟩; have n0_ := Aside0.mk (Kd.R_below (by (with_reducible repeat (first | apply Kd.R_alloc | apply Kd.R_drewN | apply Kd.R_drew)); exact HO145.out) hb); have n1_ := Aside0.mk (below_step (by repeat (first | (with_reducible first | exact HB.out | apply below_alloc | apply pw_below_drewN | apply below_drew1) | exact HB.out)) hb); clear HO145; clear HB; have HO145 := n0_; have HB := n1_; clear n0_ n1_; (try clear hb); (try clear hb2); (try clear hk); (try clear hi)) | ((with_reducible refine gate_callee (f := 38) rfl ?_); refine goesL_ (some 19) rfl rfl Tryd.func38 (by kernel_rfl) rfl #[.int .i64 a0, .int .i64 a1] rfl (by (try simp only [List.map_toArray, List.map_cons, List.map_nil]); first | done | rfl | (simp only [List.length_drop, List.length_take]; rfl)) ?_; (with_reducible refine (spec_FewestSquares.calls k a0 a1 t147 _ A9.out).mono ?_); rintro e w14 ⟨rfl, hb⟩; refine ⟨_, rfl, ?_⟩; have n0_ := Aside0.mk (Kd.R_below (by (with_reducible repeat (first | apply Kd.R_alloc | apply Kd.R_drewN | apply Kd.R_drew)); exact HO145.out) hb); have n1_ := Aside0.mk (below_step (by repeat (first | (with_reducible first | exact HB.out | apply below_alloc | apply pw_below_drewN | apply below_drew1) | exact HB.out)) hb); clear HO145; clear HB; have HO145 := n0_; have HB := n1_; clear n0_ n1_; (try clear hb); (try clear hb2); (try clear hk); (try clear hi)))
        go_ret
        exact ⟨by first | rfl | (simp [errW_none, errW_some] <;> rfl) | (simp [*, errW_none, errW_some] <;> rfl), by repeat (first | (with_reducible first | exact HB.out | apply below_alloc | apply pw_below_drewN | apply below_drew1) | exact HB.out)⟩
      · rw [if_neg c10] at H
        have c10b0 : decide (t147 < 0) = false := decide_eq_false c10
        clear c10
        by_cases c15 : ((⟨#[103, 114, 101, 101, 100, 121, 32]⟩ : ByteArray) ++ t146).size + 8 ≤ 9223372036854775807
        · rw [if_pos c15] at H
          have c15b0 := eq_true c15
          have c15b1 : decide (((⟨#[103, 114, 101, 101, 100, 121, 32]⟩ : ByteArray) ++ t146).size + 8 ≤ 9223372036854775807) = true := decide_eq_true c15
          try have c15b2 : (9223372036854775807 < ((⟨#[103, 114, 101, 101, 100, 121, 32]⟩ : ByteArray) ++ t146).size + 8) = False := eq_false (Nat.not_lt.2 c15)
          try have c15b3 : (9223372036854775807 < 7 + t146.size + 8) = False := eq_false (by have h_ := c15; simp only [ByteArray.size_append, (show (⟨#[103, 114, 101, 101, 100, 121, 32]⟩ : ByteArray).size = 7 from rfl)] at h_; omega)
          replace H := Option.bind_eq_some_iff.mp H
          obtain ⟨t148, A160, H⟩ := H
          replace H : (if (((⟨#[103, 114, 101, 101, 100, 121, 32]⟩ : ByteArray) ++ t146) ++ (⟨#[32, 102, 101, 119, 101, 115, 116, 32]⟩ : ByteArray)).size + t148.size ≤ 9223372036854775807 then (some ((((⟨#[103, 114, 101, 101, 100, 121, 32]⟩ : ByteArray) ++ t146) ++ (⟨#[32, 102, 101, 119, 101, 115, 116, 32]⟩ : ByteArray)) ++ t148)) else (none)) = some r := H
          have A16 := Aside0.mk A160
          clear A160
          by_cases c17 : (((⟨#[103, 114, 101, 101, 100, 121, 32]⟩ : ByteArray) ++ t146) ++ (⟨#[32, 102, 101, 119, 101, 115, 116, 32]⟩ : ByteArray)).size + t148.size ≤ 9223372036854775807
          · rw [if_pos c17] at H
            have c17b0 := eq_true c17
            have c17b1 : decide ((((⟨#[103, 114, 101, 101, 100, 121, 32]⟩ : ByteArray) ++ t146) ++ (⟨#[32, 102, 101, 119, 101, 115, 116, 32]⟩ : ByteArray)).size + t148.size ≤ 9223372036854775807) = true := decide_eq_true c17
            try have c17b2 : (9223372036854775807 < (((⟨#[103, 114, 101, 101, 100, 121, 32]⟩ : ByteArray) ++ t146) ++ (⟨#[32, 102, 101, 119, 101, 115, 116, 32]⟩ : ByteArray)).size + t148.size) = False := eq_false (Nat.not_lt.2 c17)
            try have c17b3 : (9223372036854775807 < 7 + t146.size + 8 + t148.size) = False := eq_false (by have h_ := c17; simp only [ByteArray.size_append, (show (⟨#[103, 114, 101, 101, 100, 121, 32]⟩ : ByteArray).size = 7 from rfl), (show (⟨#[32, 102, 101, 119, 101, 115, 116, 32]⟩ : ByteArray).size = 8 from rfl)] at h_; omega)
            obtain rfl := Option.some.inj H
            go_enter Tryd.func14, Tryd.ntmps14
            go_wp2_with (first | ((with_reducible refine gate_callee (f := 36) rfl ?_); refine goesL_ (some 10) rfl rfl Tryd.func36 (by kernel_rfl) rfl #[.int .i64 a0, .int .i64 a1] rfl (by (try simp only [List.map_toArray, List.map_cons, List.map_nil]); first | done | rfl | (simp only [List.length_drop, List.length_take]; rfl)) ?_; (with_reducible refine (spec_QuotientsOf.calls k a0 a1 t143 _ A3.out).mono ?_); rintro e w18 ⟨v144, rfl, ho0, hb⟩; refine ⟨_, rfl, ?_⟩; have n0_ := Aside0.mk (Kd.R_lower ho0 (below_size (by repeat (first | (with_reducible first | exact HB.out | apply below_alloc | apply pw_below_drewN | apply below_drew1) | exact HB.out)))); have n1_ := Aside0.mk (below_step (by repeat (first | (with_reducible first | exact HB.out | apply below_alloc | apply pw_below_drewN | apply below_drew1) | exact HB.out)) hb); clear HB; have HO145 := n0_; have HB := n1_; clear n0_ n1_; (try clear hb); (try clear hb2); (try clear hk); (try clear hi); (try clear ho0); obtain ⟨Ao19, co19, eo19⟩ := Kd.R_slice HO145.out; subst eo19) | ((with_reducible refine gate_callee (f := 37) rfl ?_); refine goesL_ (some 15) rfl rfl Tryd.func37 (by kernel_rfl) rfl #[.slice Ao19 t143.length co19] rfl (by (try simp only [List.map_toArray, List.map_cons, List.map_nil]); first | done | rfl | (simp only [List.length_drop, List.length_take]; rfl)) ?_; (with_reducible refine (spec_FormatNumbers.calls k _ _ t143 t146 _ ?side1 ?side2 A7.out).mono ?_); (case side1 => repeat (first | exact (Kd.R_reads' HO145.out).2.2 | (with_reducible refine Kd.C_alloc ?_ _) | (with_reducible refine Kd.C_drewN ?_ _) | (with_reducible refine Kd.C_drew ?_))); (case side2 => exact (Kd.R_reads' HO145.out).2.1); rintro e w20 ⟨rfl, hb⟩; refine ⟨_, rfl, ?_⟩; have n0_ := Aside0.mk (Kd.R_below (by (with_reducible repeat (first | apply Kd.R_alloc | apply Kd.R_drewN | apply Kd.R_drew)); exact HO145.out) hb); have n1_ := Aside0.mk (below_step (by repeat (first | (with_reducible first | exact HB.out | apply below_alloc | apply pw_below_drewN | apply below_drew1) | exact HB.out)) hb); clear HO145; clear HB; have HO145 := n0_; have HB := n1_; clear n0_ n1_; (try clear hb); (try clear hb2); (try clear hk); (try clear hi)) | ((with_reducible refine gate_callee (f := 38) rfl ?_); refine goesL_ (some 19) rfl rfl Tryd.func38 (by kernel_rfl) rfl #[.int .i64 a0, .int .i64 a1] rfl (by (try simp only [List.map_toArray, List.map_cons, List.map_nil]); first | done | rfl | (simp only [List.length_drop, List.length_take]; rfl)) ?_; (with_reducible refine (spec_FewestSquares.calls k a0 a1 t147 _ A9.out).mono ?_); rintro e w21 ⟨rfl, hb⟩; refine ⟨_, rfl, ?_⟩; have n0_ := Aside0.mk (Kd.R_below (by (with_reducible repeat (first | apply Kd.R_alloc | apply Kd.R_drewN | apply Kd.R_drew)); exact HO145.out) hb); have n1_ := Aside0.mk (below_step (by repeat (first | (with_reducible first | exact HB.out | apply below_alloc | apply pw_below_drewN | apply below_drew1) | exact HB.out)) hb); clear HO145; clear HB; have HO145 := n0_; have HB := n1_; clear n0_ n1_; (try clear hb); (try clear hb2); (try clear hk); (try clear hi)) | ((with_reducible refine gate_callee (f := 31) rfl ?_); refine goesL_ (some 26) rfl rfl Tryd.func31 (by kernel_rfl) rfl #[.int .i64 t147] rfl (by (try simp only [List.map_toArray, List.map_cons, List.map_nil]); first | done | rfl | (simp only [List.length_drop, List.length_take]; rfl)) ?_; (with_reducible refine (spec_FormatInt.calls k t147 t148 _ A16.out).mono ?_); rintro e w22 ⟨rfl, hb⟩; refine ⟨_, rfl, ?_⟩; have n0_ := Aside0.mk (Kd.R_below (by (with_reducible repeat (first | apply Kd.R_alloc | apply Kd.R_drewN | apply Kd.R_drew)); exact HO145.out) hb); have n1_ := Aside0.mk (below_step (by repeat (first | (with_reducible first | exact HB.out | apply below_alloc | apply pw_below_drewN | apply below_drew1) | exact HB.out)) hb); clear HO145; clear HB; have HO145 := n0_; have HB := n1_; clear n0_ n1_; (try clear hb); (try clear hb2); (try clear hk); (try clear hi)))
            go_ret
            exact ⟨by first | rfl | (simp [errW_none, errW_some] <;> rfl) | (simp [*, errW_none, errW_some] <;> rfl), by repeat (first | (with_reducible first | exact HB.out | apply below_alloc | apply pw_below_drewN | apply below_drew1) | exact HB.out)⟩
          · rw [if_neg c17] at H
            exact absurd H (by simp)
        · rw [if_neg c15] at H
          exact absurd H (by simp)
    · rw [if_neg c8] at H
      exact absurd H (by simp)

-- NOT PRINTED: function 104 (strconv_Itoa_104)

-- NOT PRINTED: function 68 (strconv_Itoa_68)

end Go.Proofs.YtndlmckfacegeaaDoor.QFnExactSquareLine
