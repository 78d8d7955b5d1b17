-- Printed for this claim by a changed copy of the kit's print (the session's own; own contracts in place of some functions).
import Derived.Test.YtcjliekgkilkoaaQFnExactCheapestAtx0
import Derived.Test.YtcjliekgkilkoaaQFnExactCheapestAtx1
namespace Go.Proofs.Ytcjliekgkilkoaa.QFnExactCheapestAt
open Go.RowKit Go.Proofs.YtcjliekgkilkoaaW.PrintWords Go.Proofs.YtcjliekgkilkoaaW.PrintLast Go.Proofs.YtcjliekgkilkoaaW.PrintMore
attribute [local go_sem] max2_int min2_int max_two min_two max_three min_three max_four min_four   -- for this text's walks alone
set_option linter.unusedVariables false
set_option linter.unusedSimpArgs false

/-! ### spec_StepListOk: function 18 -/
mutual
def spec_StepListOk.l0 : Nat → List (List Int) → List (List Int) → Int → Int → Option (Bool)
  | 0, _, _, _, _ => none
  | k + 1, x0, x9, x10, x11 => if x11 < x10 then (if 0 ≤ x11 then (if x11 < (x9.length : Int) then (if ((rd_L1 x9 x11).length : Int) = 2 then (if 0 < ((rd_L1 x9 x11).length : Int) then ((spec_l01In.f (rd (rd_L1 x9 x11) 0) 0 100000).bind fun t108 => (if t108 = true then (if 1 < ((rd_L1 x9 x11).length : Int) then ((spec_l01In.f (rd (rd_L1 x9 x11) 1) 0 1000).bind fun t110 => (if t110 = true then (if x11 = 0 then (spec_StepListOk.j1 k x0 x11 (rd_L1 x9 x11) x9 x10 x11 ((rd (rd_L1 x9 x11) 0) != 0)) else (spec_StepListOk.j1 k x0 x11 (rd_L1 x9 x11) x9 x10 x11 false)) else (spec_StepListOk.j1 k x0 x11 (rd_L1 x9 x11) x9 x10 x11 true))) else (none)) else (spec_StepListOk.j1 k x0 x11 (rd_L1 x9 x11) x9 x10 x11 true))) else (none)) else (spec_StepListOk.j1 k x0 x11 (rd_L1 x9 x11) x9 x10 x11 true)) else (none)) else (none)) else (some true)
def spec_StepListOk.j1 : Nat → List (List Int) → Int → List Int → List (List Int) → Int → Int → Bool → Option (Bool)
  | 0, _, _, _, _, _, _, _ => none
  | k + 1, x0, x3, x4, x9, x10, x11, x42 => if x42 = true then (some false) else (if x3 > 0 then (if 0 < (x4.length : Int) then (if 0 ≤ (wrap64 (x3 - 1)) then (if (wrap64 (x3 - 1)) < (x0.length : Int) then (if 0 < ((rd_L1 x0 (wrap64 (x3 - 1))).length : Int) then (if (rd x4 0) ≤ (rd (rd_L1 x0 (wrap64 (x3 - 1))) 0) then (some false) else (if 1 < (x4.length : Int) then (if 1 < ((rd_L1 x0 (wrap64 (x3 - 1))).length : Int) then (if (rd x4 1) > (rd (rd_L1 x0 (wrap64 (x3 - 1))) 1) then (some false) else (spec_StepListOk.l0 k x0 x9 x10 (wrap64 (x11 + 1)))) else (none)) else (none))) else (none)) else (none)) else (none)) else (none)) else (spec_StepListOk.l0 k x0 x9 x10 (wrap64 (x11 + 1))))
end
def spec_StepListOk.f (k : Nat) (l0 : List (List Int)) : Option (Bool) := (spec_l01In.f (l0.length : Int) 1 6).bind fun t105 => (if t105 = true then (spec_StepListOk.l0 k l0 l0 (l0.length : Int) 0) else (some false))
theorem spec_StepListOk.mono_l : ∀ k, (∀ y0 y1 y2 y3, LeO (spec_StepListOk.l0 k y0 y1 y2 y3) (spec_StepListOk.l0 (k + 1) y0 y1 y2 y3)) ∧ (∀ y0 y1 y2 y3 y4 y5 y6, LeO (spec_StepListOk.j1 k y0 y1 y2 y3 y4 y5 y6) (spec_StepListOk.j1 (k + 1) y0 y1 y2 y3 y4 y5 y6))
  | 0 => ⟨fun _ _ _ _ r h => by simp [spec_StepListOk.l0] at h, fun _ _ _ _ _ _ _ r h => by simp [spec_StepListOk.j1] at h⟩
  | k + 1 => by
    obtain ⟨ih0, ih1⟩ := spec_StepListOk.mono_l k
    refine ⟨?_, ?_⟩
    · intro y0 y1 y2 y3
      unfold spec_StepListOk.l0
      repeat' first
      | (with_reducible exact ih0 _ _ _ _)
      | (with_reducible exact ih1 _ _ _ _ _ _ _)
      | (with_reducible exact LeO.refl _)
      | (with_reducible exact LeO.none _)
      | (with_reducible refine LeO.ite ?_ ?_)
      | (with_reducible refine LeO.bind ?_ (fun _ => ?_))
      | exact ih0 _ _ _ _
      | exact ih1 _ _ _ _ _ _ _
      | exact LeO.none _
      | refine LeO.ite ?_ ?_
      | refine LeO.bind ?_ (fun _ => ?_)
    · intro y0 y1 y2 y3 y4 y5 y6
      unfold spec_StepListOk.j1
      repeat' first
      | (with_reducible exact ih0 _ _ _ _)
      | (with_reducible exact ih1 _ _ _ _ _ _ _)
      | (with_reducible exact LeO.refl _)
      | (with_reducible exact LeO.none _)
      | (with_reducible refine LeO.ite ?_ ?_)
      | (with_reducible refine LeO.bind ?_ (fun _ => ?_))
      | exact ih0 _ _ _ _
      | exact ih1 _ _ _ _ _ _ _
      | exact LeO.none _
      | refine LeO.ite ?_ ?_
      | refine LeO.bind ?_ (fun _ => ?_)
theorem spec_StepListOk.mono : ∀ a0 k, LeO (spec_StepListOk.f k a0) (spec_StepListOk.f (k + 1) a0) := by
  intro a0 k
  obtain ⟨ih0, ih1⟩ := spec_StepListOk.mono_l k
  unfold spec_StepListOk.f
  repeat' first
      | (with_reducible exact ih0 _ _ _ _)
      | (with_reducible exact ih1 _ _ _ _ _ _ _)
      | (with_reducible exact LeO.refl _)
      | (with_reducible exact LeO.none _)
      | (with_reducible refine LeO.ite ?_ ?_)
      | (with_reducible refine LeO.bind ?_ (fun _ => ?_))
      | exact ih0 _ _ _ _
      | exact ih1 _ _ _ _ _ _ _
      | exact LeO.none _
      | refine LeO.ite ?_ ?_
      | refine LeO.bind ?_ (fun _ => ?_)
set_option maxHeartbeats 8000000 in
set_option maxRecDepth 100000 in
theorem spec_StepListOk.calls (k : Nat) (A0 : Option Addr) (c0 : Nat) (l0 : List (List Int)) (r : Bool) (w : World) (hr0 : Kd.C (Kd.slice 3 (Kd.int .i64)) w A0 l0.length l0) (hc0 : l0.length ≤ c0) (h : spec_StepListOk.f k l0 = some r) :
    Calls Try.prog 18 #[.slice A0 l0.length c0] w fun e w' => e = .returned (.bool r) ∧ Drawn0 w w' := by
  have HR0 := Aside0.mk hr0
  have HC0 := Aside0.mk hc0
  clear hr0 hc0
  have H : ((spec_l01In.f (l0.length : Int) 1 6).bind fun t105 => (if t105 = true then (spec_StepListOk.l0 k l0 l0 (l0.length : Int) 0) else (some false))) = some r := h
  clear h
  replace H := Option.bind_eq_some_iff.mp H
  obtain ⟨t105, A20, H⟩ := H
  replace H : (if t105 = true then (spec_StepListOk.l0 k l0 l0 (l0.length : Int) 0) else (some false)) = some r := H
  have A2 := Aside0.mk A20
  clear A20
  by_cases c3 : t105 = true
  · subst c3
    have H1 : (spec_StepListOk.l0 k l0 l0 (l0.length : Int) 0) = some r := by rw [if_pos rfl] at H; exact H
    clear H
    have H := H1
    clear H1
    have H' := Aside0.mk H
    clear H
    go_enter Try.func18, Try.ntmps18
    go_wp2_with (first | (go_at_call 59; (with_reducible refine (spec_l01In.calls (l0.length : Int) 1 6 true _ A2.out).mono ?_); rintro e w' ⟨rfl, ⟨nd, rfl⟩⟩; (try first | exact ⟨rfl, _, World.drewN_drewN _ _ _⟩ | exact ⟨rfl, _, Eq.trans (World.drewN_drewN _ _ _) (congrArg (World.drewN _) (Nat.add_assoc _ _ _))⟩)))
    repeat (go_quiet (first | (go_at_call 59; (with_reducible refine (spec_l01In.calls (l0.length : Int) 1 6 true _ A2.out).mono ?_); rintro e w' ⟨rfl, ⟨nd, rfl⟩⟩; (try first | exact ⟨rfl, _, World.drewN_drewN _ _ _⟩ | exact ⟨rfl, _, Eq.trans (World.drewN_drewN _ _ _) (congrArg (World.drewN _) (Nat.add_assoc _ _ _))⟩))); try go_wp2_with (first | (go_at_call 59; (with_reducible refine (spec_l01In.calls (l0.length : Int) 1 6 true _ A2.out).mono ?_); rintro e w' ⟨rfl, ⟨nd, rfl⟩⟩; (try first | exact ⟨rfl, _, World.drewN_drewN _ _ _⟩ | exact ⟨rfl, _, Eq.trans (World.drewN_drewN _ _ _) (congrArg (World.drewN _) (Nat.add_assoc _ _ _))⟩))))
    go_loopg [11] k (fun kq v11 w' => ∃ (x11_1 : Int), v11 = .int .i64 x11_1 ∧ Aside0 (spec_StepListOk.l0 kq l0 l0 (l0.length : Int) x11_1 = some r) ∧ Aside0 (kq ≤ k) ∧ Drawn0 w w')
    case atStart => exact ⟨(0), (by first | rfl | (simp; done) | (simp [*]; done)), H', ⟨Nat.le_refl _⟩, by repeat (first | exact Drawn0.refl _ | apply Drawn0.step)⟩
    case round =>
      clear H'
      try clear c1
      try clear p2
      try clear c3
      obtain ⟨x11_1, rfl, HA, HK1, ⟨m1, rfl⟩⟩ := hrel
      cases gk with
      | zero => exact absurd HA.out (by simp [spec_StepListOk.l0])
      | succ k1 =>
        have H := HA.out
        clear HA
        simp only [spec_StepListOk.l0] at H
        by_cases c4 : x11_1 < (l0.length : Int)
        · rw [if_pos c4] at H
          have c4b0 : decide (x11_1 < (l0.length : Int)) = true := decide_eq_true c4
          clear c4
          by_cases c5 : 0 ≤ x11_1
          · rw [if_pos c5] at H
            have c5b0 : decide (0 ≤ x11_1) = true := decide_eq_true c5
            clear c5
            by_cases c6 : x11_1 < (l0.length : Int)
            · rw [if_pos c6] at H
              have c6b0 : decide (x11_1 < (l0.length : Int)) = true := decide_eq_true c6
              clear c6
              have HC7 := Aside0.mk H
              clear H
              have p106 : 0 ≤ (x11_1 : Int) := of_decide_eq_true (by first | (with_reducible assumption) | assumption)
              have q106 : x11_1 < (l0.length : Int) := of_decide_eq_true (by first | (with_reducible assumption) | assumption)
              obtain ⟨ad106, A106_0, c106_0, e106, hx106_0, hl106_0, hi106_0⟩ := at_L1 HR0.out x11_1 p106 q106
              cases e106
              have HR106_0 := Aside0.mk hi106_0
              have HC106_0 := Aside0.mk hl106_0
              clear hi106_0 hl106_0
              replace p106 := eq_true p106
              replace q106 := eq_true q106
              go_upto_region 6 with (fail)
              repeat (go_quiet (fail); go_upto_region 6 with (fail))
              go_cut [42] (fun v42 wc => ∃ (kq : Nat) (x42_6 : Bool), v42 = .bool x42_6 ∧ Aside0 (spec_StepListOk.j1 kq l0 x11_1 (rd_L1 l0 x11_1) l0 (l0.length : Int) x11_1 x42_6 = some r) ∧ Aside0 (kq ≤ k1) ∧ Drawn0 w wc)
              case first =>
                have H := HC7.out
                clear HC7
                by_cases c8 : ((rd_L1 l0 x11_1).length : Int) = 2
                · rw [if_pos c8] at H
                  have c8b0 : (((rd_L1 l0 x11_1).length : Int) == 2) = true := beq_iff_eq.mpr c8
                  have c8b1 : (((rd_L1 l0 x11_1).length : Int) != 2) = false := bne_eq_false_iff_eq.mpr c8
                  clear c8
                  (first | rw [c8b0] | (simp only [i64_w, i32_w]; rw [c8b0]) | skip)
                  by_cases c9 : 0 < ((rd_L1 l0 x11_1).length : Int)
                  · rw [if_pos c9] at H
                    have c9b0 : decide (0 < ((rd_L1 l0 x11_1).length : Int)) = true := decide_eq_true c9
                    have c9b1 : decide (0 < (rd_L1 l0 x11_1).length) = true := decide_eq_true (by omega)
                    clear c9
                    replace H := Option.bind_eq_some_iff.mp H
                    obtain ⟨t108, A100, H⟩ := H
                    replace H : (if t108 = true then (if 1 < ((rd_L1 l0 x11_1).length : Int) then ((spec_l01In.f (rd (rd_L1 l0 x11_1) 1) 0 1000).bind fun t110 => (if t110 = true then (if x11_1 = 0 then (spec_StepListOk.j1 k1 l0 x11_1 (rd_L1 l0 x11_1) l0 (l0.length : Int) x11_1 ((rd (rd_L1 l0 x11_1) 0) != 0)) else (spec_StepListOk.j1 k1 l0 x11_1 (rd_L1 l0 x11_1) l0 (l0.length : Int) x11_1 false)) else (spec_StepListOk.j1 k1 l0 x11_1 (rd_L1 l0 x11_1) l0 (l0.length : Int) x11_1 true))) else (none)) else (spec_StepListOk.j1 k1 l0 x11_1 (rd_L1 l0 x11_1) l0 (l0.length : Int) x11_1 true)) = some r := H
                    have A10 := Aside0.mk A100
                    clear A100
                    by_cases c11 : t108 = true
                    · subst c11
                      have H1 : (if 1 < ((rd_L1 l0 x11_1).length : Int) then ((spec_l01In.f (rd (rd_L1 l0 x11_1) 1) 0 1000).bind fun t110 => (if t110 = true then (if x11_1 = 0 then (spec_StepListOk.j1 k1 l0 x11_1 (rd_L1 l0 x11_1) l0 (l0.length : Int) x11_1 ((rd (rd_L1 l0 x11_1) 0) != 0)) else (spec_StepListOk.j1 k1 l0 x11_1 (rd_L1 l0 x11_1) l0 (l0.length : Int) x11_1 false)) else (spec_StepListOk.j1 k1 l0 x11_1 (rd_L1 l0 x11_1) l0 (l0.length : Int) x11_1 true))) else (none)) = some r := by rw [if_pos rfl] at H; exact H
                      clear H
                      have H := H1
                      clear H1
                      by_cases c12 : 1 < ((rd_L1 l0 x11_1).length : Int)
                      · rw [if_pos c12] at H
                        have c12b0 : decide (1 < ((rd_L1 l0 x11_1).length : Int)) = true := decide_eq_true c12
                        have c12b1 : decide (1 < (rd_L1 l0 x11_1).length) = true := decide_eq_true (by omega)
                        clear c12
                        replace H := Option.bind_eq_some_iff.mp H
                        obtain ⟨t110, A130, H⟩ := H
                        replace H : (if t110 = true then (if x11_1 = 0 then (spec_StepListOk.j1 k1 l0 x11_1 (rd_L1 l0 x11_1) l0 (l0.length : Int) x11_1 ((rd (rd_L1 l0 x11_1) 0) != 0)) else (spec_StepListOk.j1 k1 l0 x11_1 (rd_L1 l0 x11_1) l0 (l0.length : Int) x11_1 false)) else (spec_StepListOk.j1 k1 l0 x11_1 (rd_L1 l0 x11_1) l0 (l0.length : Int) x11_1 true)) = some r := H
                        have A13 := Aside0.mk A130
                        clear A130
                        by_cases c14 : t110 = true
                        · subst c14
                          have H1 : (if x11_1 = 0 then (spec_StepListOk.j1 k1 l0 x11_1 (rd_L1 l0 x11_1) l0 (l0.length : Int) x11_1 ((rd (rd_L1 l0 x11_1) 0) != 0)) else (spec_StepListOk.j1 k1 l0 x11_1 (rd_L1 l0 x11_1) l0 (l0.length : Int) x11_1 false)) = some r := by rw [if_pos rfl] at H; exact H
                          clear H
                          have H := H1
                          clear H1
                          by_cases c15 : x11_1 = 0
                          · rw [if_pos c15] at H
                            have c15b0 : (x11_1 == 0) = true := beq_iff_eq.mpr c15
                            have c15b1 : (x11_1 != 0) = false := bne_eq_false_iff_eq.mpr c15
                            clear c15
                            have H' := Aside0.mk H
                            clear H
                            have p107 : 0 ≤ (0 : Int) := (by omega)
                            have q107 : 0 < ((rd_L1 l0 x11_1).length : Int) := of_decide_eq_true (by first | (with_reducible assumption) | assumption)
                            obtain ⟨ad107, e107, hx107_0⟩ := Kd.at_int HR106_0.out 0 p107 q107
                            cases e107
                            have qi107 : (0 < (rd_L1 l0 x11_1).length) = True := eq_true (by omega)
                            (try rw [show ((0 : Int)).toNat = 0 from rfl] at hx107_0)
                            (try rw [Addr.add_zero'] at hx107_0)
                            replace p107 := eq_true p107
                            replace q107 := eq_true q107
                            go_wp2_with (first | (go_at_call 59; (with_reducible refine (spec_l01In.calls (rd (rd_L1 l0 x11_1) 0) 0 100000 true _ A10.out).mono ?_); rintro e w' ⟨rfl, ⟨nd, rfl⟩⟩; (try first | exact ⟨rfl, _, World.drewN_drewN _ _ _⟩ | exact ⟨rfl, _, Eq.trans (World.drewN_drewN _ _ _) (congrArg (World.drewN _) (Nat.add_assoc _ _ _))⟩); have p109 : 0 ≤ (1 : Int) := (by omega); have q109 : 1 < ((rd_L1 l0 x11_1).length : Int) := of_decide_eq_true (by first | (with_reducible assumption) | assumption); obtain ⟨ad109, e109, hx109_0⟩ := Kd.at_int HR106_0.out 1 p109 q109; obtain rfl : ad107 = ad109 := (by injection e109); (try simp only [show (1 : Int).toNat = 1 from rfl, Nat.reduceMul, Nat.reduceEqDiff, Go.Addr.add, ↓reduceIte] at hx109_0); have qi109 : (1 < (rd_L1 l0 x11_1).length) = True := eq_true (by omega); (try rw [show ((1 : Int)).toNat = 1 from rfl] at hx109_0); replace p109 := eq_true p109; replace q109 := eq_true q109) | (go_at_call 59; (with_reducible refine (spec_l01In.calls (rd (rd_L1 l0 x11_1) 1) 0 1000 true _ A13.out).mono ?_); rintro e w' ⟨rfl, ⟨nd, rfl⟩⟩; (try first | exact ⟨rfl, _, World.drewN_drewN _ _ _⟩ | exact ⟨rfl, _, Eq.trans (World.drewN_drewN _ _ _) (congrArg (World.drewN _) (Nat.add_assoc _ _ _))⟩); have p111 : 0 ≤ (0 : Int) := (by omega); have q111 : 0 < ((rd_L1 l0 x11_1).length : Int) := of_decide_eq_true (by first | (with_reducible assumption) | assumption); obtain ⟨ad111, e111, hx111_0⟩ := Kd.at_int HR106_0.out 0 p111 q111; obtain rfl : ad107 = ad111 := (by injection e111); have qi111 : (0 < (rd_L1 l0 x11_1).length) = True := eq_true (by omega); (try rw [show ((0 : Int)).toNat = 0 from rfl] at hx111_0); (try rw [Addr.add_zero'] at hx111_0); replace p111 := eq_true p111; replace q111 := eq_true q111))
                            repeat (go_quiet (first | (go_at_call 59; (with_reducible refine (spec_l01In.calls (rd (rd_L1 l0 x11_1) 0) 0 100000 true _ A10.out).mono ?_); rintro e w' ⟨rfl, ⟨nd, rfl⟩⟩; (try first | exact ⟨rfl, _, World.drewN_drewN _ _ _⟩ | exact ⟨rfl, _, Eq.trans (World.drewN_drewN _ _ _) (congrArg (World.drewN _) (Nat.add_assoc _ _ _))⟩); have p109 : 0 ≤ (1 : Int) := (by omega); have q109 : 1 < ((rd_L1 l0 x11_1).length : Int) := of_decide_eq_true (by first | (with_reducible assumption) | assumption); obtain ⟨ad109, e109, hx109_0⟩ := Kd.at_int HR106_0.out 1 p109 q109; obtain rfl : ad107 = ad109 := (by injection e109); (try simp only [show (1 : Int).toNat = 1 from rfl, Nat.reduceMul, Nat.reduceEqDiff, Go.Addr.add, ↓reduceIte] at hx109_0); have qi109 : (1 < (rd_L1 l0 x11_1).length) = True := eq_true (by omega); (try rw [show ((1 : Int)).toNat = 1 from rfl] at hx109_0); replace p109 := eq_true p109; replace q109 := eq_true q109) | (go_at_call 59; (with_reducible refine (spec_l01In.calls (rd (rd_L1 l0 x11_1) 1) 0 1000 true _ A13.out).mono ?_); rintro e w' ⟨rfl, ⟨nd, rfl⟩⟩; (try first | exact ⟨rfl, _, World.drewN_drewN _ _ _⟩ | exact ⟨rfl, _, Eq.trans (World.drewN_drewN _ _ _) (congrArg (World.drewN _) (Nat.add_assoc _ _ _))⟩); have p111 : 0 ≤ (0 : Int) := (by omega); have q111 : 0 < ((rd_L1 l0 x11_1).length : Int) := of_decide_eq_true (by first | (with_reducible assumption) | assumption); obtain ⟨ad111, e111, hx111_0⟩ := Kd.at_int HR106_0.out 0 p111 q111; obtain rfl : ad107 = ad111 := (by injection e111); have qi111 : (0 < (rd_L1 l0 x11_1).length) = True := eq_true (by omega); (try rw [show ((0 : Int)).toNat = 0 from rfl] at hx111_0); (try rw [Addr.add_zero'] at hx111_0); replace p111 := eq_true p111; replace q111 := eq_true q111)); try go_wp2_with (first | (go_at_call 59; (with_reducible refine (spec_l01In.calls (rd (rd_L1 l0 x11_1) 0) 0 100000 true _ A10.out).mono ?_); rintro e w' ⟨rfl, ⟨nd, rfl⟩⟩; (try first | exact ⟨rfl, _, World.drewN_drewN _ _ _⟩ | exact ⟨rfl, _, Eq.trans (World.drewN_drewN _ _ _) (congrArg (World.drewN _) (Nat.add_assoc _ _ _))⟩); have p109 : 0 ≤ (1 : Int) := (by omega); have q109 : 1 < ((rd_L1 l0 x11_1).length : Int) := of_decide_eq_true (by first | (with_reducible assumption) | assumption); obtain ⟨ad109, e109, hx109_0⟩ := Kd.at_int HR106_0.out 1 p109 q109; obtain rfl : ad107 = ad109 := (by injection e109); (try simp only [show (1 : Int).toNat = 1 from rfl, Nat.reduceMul, Nat.reduceEqDiff, Go.Addr.add, ↓reduceIte] at hx109_0); have qi109 : (1 < (rd_L1 l0 x11_1).length) = True := eq_true (by omega); (try rw [show ((1 : Int)).toNat = 1 from rfl] at hx109_0); replace p109 := eq_true p109; replace q109 := eq_true q109) | (go_at_call 59; (with_reducible refine (spec_l01In.calls (rd (rd_L1 l0 x11_1) 1) 0 1000 true _ A13.out).mono ?_); rintro e w' ⟨rfl, ⟨nd, rfl⟩⟩; (try first | exact ⟨rfl, _, World.drewN_drewN _ _ _⟩ | exact ⟨rfl, _, Eq.trans (World.drewN_drewN _ _ _) (congrArg (World.drewN _) (Nat.add_assoc _ _ _))⟩); have p111 : 0 ≤ (0 : Int) := (by omega); have q111 : 0 < ((rd_L1 l0 x11_1).length : Int) := of_decide_eq_true (by first | (with_reducible assumption) | assumption); obtain ⟨ad111, e111, hx111_0⟩ := Kd.at_int HR106_0.out 0 p111 q111; obtain rfl : ad107 = ad111 := (by injection e111); have qi111 : (0 < (rd_L1 l0 x11_1).length) = True := eq_true (by omega); (try rw [show ((0 : Int)).toNat = 0 from rfl] at hx111_0); (try rw [Addr.add_zero'] at hx111_0); replace p111 := eq_true p111; replace q111 := eq_true q111)))
                            go_meet
                            case rel => exact ⟨_, (((rd (rd_L1 l0 x11_1) 0) != 0)), (by first | rfl | (simp; done) | (simp [*]; done)), H', ⟨by have := HK1.out; first | omega | exact Nat.le_refl _⟩, by repeat (first | exact Drawn0.refl _ | apply Drawn0.step)⟩
                          · rw [if_neg c15] at H
                            have c15b0 : (x11_1 == 0) = false := beq_eq_false_iff_ne.mpr c15
                            have c15b1 : (x11_1 != 0) = true := bne_iff_ne.mpr c15
                            have H' := Aside0.mk H
                            clear H
                            have p107 : 0 ≤ (0 : Int) := (by omega)
                            have q107 : 0 < ((rd_L1 l0 x11_1).length : Int) := of_decide_eq_true (by first | (with_reducible assumption) | assumption)
                            obtain ⟨ad107, e107, hx107_0⟩ := Kd.at_int HR106_0.out 0 p107 q107
                            cases e107
                            have qi107 : (0 < (rd_L1 l0 x11_1).length) = True := eq_true (by omega)
                            (try rw [show ((0 : Int)).toNat = 0 from rfl] at hx107_0)
                            (try rw [Addr.add_zero'] at hx107_0)
                            replace p107 := eq_true p107
                            replace q107 := eq_true q107
                            go_wp2_with (first | (go_at_call 59; (with_reducible refine (spec_l01In.calls (rd (rd_L1 l0 x11_1) 0) 0 100000 true _ A10.out).mono ?_); rintro e w' ⟨rfl, ⟨nd, rfl⟩⟩; (try first | exact ⟨rfl, _, World.drewN_drewN _ _ _⟩ | exact ⟨rfl, _, Eq.trans (World.drewN_drewN _ _ _) (congrArg (World.drewN _) (Nat.add_assoc _ _ _))⟩); have p109 : 0 ≤ (1 : Int) := (by omega); have q109 : 1 < ((rd_L1 l0 x11_1).length : Int) := of_decide_eq_true (by first | (with_reducible assumption) | assumption); obtain ⟨ad109, e109, hx109_0⟩ := Kd.at_int HR106_0.out 1 p109 q109; obtain rfl : ad107 = ad109 := (by injection e109); (try simp only [show (1 : Int).toNat = 1 from rfl, Nat.reduceMul, Nat.reduceEqDiff, Go.Addr.add, ↓reduceIte] at hx109_0); have qi109 : (1 < (rd_L1 l0 x11_1).length) = True := eq_true (by omega); (try rw [show ((1 : Int)).toNat = 1 from rfl] at hx109_0); replace p109 := eq_true p109; replace q109 := eq_true q109) | (go_at_call 59; (with_reducible refine (spec_l01In.calls (rd (rd_L1 l0 x11_1) 1) 0 1000 true _ A13.out).mono ?_); rintro e w' ⟨rfl, ⟨nd, rfl⟩⟩; (try first | exact ⟨rfl, _, World.drewN_drewN _ _ _⟩ | exact ⟨rfl, _, Eq.trans (World.drewN_drewN _ _ _) (congrArg (World.drewN _) (Nat.add_assoc _ _ _))⟩)))
                            repeat (go_quiet (first | (go_at_call 59; (with_reducible refine (spec_l01In.calls (rd (rd_L1 l0 x11_1) 0) 0 100000 true _ A10.out).mono ?_); rintro e w' ⟨rfl, ⟨nd, rfl⟩⟩; (try first | exact ⟨rfl, _, World.drewN_drewN _ _ _⟩ | exact ⟨rfl, _, Eq.trans (World.drewN_drewN _ _ _) (congrArg (World.drewN _) (Nat.add_assoc _ _ _))⟩); have p109 : 0 ≤ (1 : Int) := (by omega); have q109 : 1 < ((rd_L1 l0 x11_1).length : Int) := of_decide_eq_true (by first | (with_reducible assumption) | assumption); obtain ⟨ad109, e109, hx109_0⟩ := Kd.at_int HR106_0.out 1 p109 q109; obtain rfl : ad107 = ad109 := (by injection e109); (try simp only [show (1 : Int).toNat = 1 from rfl, Nat.reduceMul, Nat.reduceEqDiff, Go.Addr.add, ↓reduceIte] at hx109_0); have qi109 : (1 < (rd_L1 l0 x11_1).length) = True := eq_true (by omega); (try rw [show ((1 : Int)).toNat = 1 from rfl] at hx109_0); replace p109 := eq_true p109; replace q109 := eq_true q109) | (go_at_call 59; (with_reducible refine (spec_l01In.calls (rd (rd_L1 l0 x11_1) 1) 0 1000 true _ A13.out).mono ?_); rintro e w' ⟨rfl, ⟨nd, rfl⟩⟩; (try first | exact ⟨rfl, _, World.drewN_drewN _ _ _⟩ | exact ⟨rfl, _, Eq.trans (World.drewN_drewN _ _ _) (congrArg (World.drewN _) (Nat.add_assoc _ _ _))⟩))); try go_wp2_with (first | (go_at_call 59; (with_reducible refine (spec_l01In.calls (rd (rd_L1 l0 x11_1) 0) 0 100000 true _ A10.out).mono ?_); rintro e w' ⟨rfl, ⟨nd, rfl⟩⟩; (try first | exact ⟨rfl, _, World.drewN_drewN _ _ _⟩ | exact ⟨rfl, _, Eq.trans (World.drewN_drewN _ _ _) (congrArg (World.drewN _) (Nat.add_assoc _ _ _))⟩); have p109 : 0 ≤ (1 : Int) := (by omega); have q109 : 1 < ((rd_L1 l0 x11_1).length : Int) := of_decide_eq_true (by first | (with_reducible assumption) | assumption); obtain ⟨ad109, e109, hx109_0⟩ := Kd.at_int HR106_0.out 1 p109 q109; obtain rfl : ad107 = ad109 := (by injection e109); (try simp only [show (1 : Int).toNat = 1 from rfl, Nat.reduceMul, Nat.reduceEqDiff, Go.Addr.add, ↓reduceIte] at hx109_0); have qi109 : (1 < (rd_L1 l0 x11_1).length) = True := eq_true (by omega); (try rw [show ((1 : Int)).toNat = 1 from rfl] at hx109_0); replace p109 := eq_true p109; replace q109 := eq_true q109) | (go_at_call 59; (with_reducible refine (spec_l01In.calls (rd (rd_L1 l0 x11_1) 1) 0 1000 true _ A13.out).mono ?_); rintro e w' ⟨rfl, ⟨nd, rfl⟩⟩; (try first | exact ⟨rfl, _, World.drewN_drewN _ _ _⟩ | exact ⟨rfl, _, Eq.trans (World.drewN_drewN _ _ _) (congrArg (World.drewN _) (Nat.add_assoc _ _ _))⟩))))
                            go_meet
                            case rel => exact ⟨_, (false), (by first | rfl | (simp; done) | (simp [*]; done)), H', ⟨by have := HK1.out; first | omega | exact Nat.le_refl _⟩, by repeat (first | exact Drawn0.refl _ | apply Drawn0.step)⟩
                        · replace c14 := Bool.eq_false_iff.mpr c14
                          subst c14
                          have H1 : (spec_StepListOk.j1 k1 l0 x11_1 (rd_L1 l0 x11_1) l0 (l0.length : Int) x11_1 true) = some r := by rw [if_neg (show ¬ (false = true) by decide)] at H; exact H
                          clear H
                          have H := H1
                          clear H1
                          have H' := Aside0.mk H
                          clear H
                          have p107 : 0 ≤ (0 : Int) := (by omega)
                          have q107 : 0 < ((rd_L1 l0 x11_1).length : Int) := of_decide_eq_true (by first | (with_reducible assumption) | assumption)
                          obtain ⟨ad107, e107, hx107_0⟩ := Kd.at_int HR106_0.out 0 p107 q107
                          cases e107
                          have qi107 : (0 < (rd_L1 l0 x11_1).length) = True := eq_true (by omega)
                          (try rw [show ((0 : Int)).toNat = 0 from rfl] at hx107_0)
                          (try rw [Addr.add_zero'] at hx107_0)
                          replace p107 := eq_true p107
                          replace q107 := eq_true q107
                          go_wp2_with (first | (go_at_call 59; (with_reducible refine (spec_l01In.calls (rd (rd_L1 l0 x11_1) 0) 0 100000 true _ A10.out).mono ?_); rintro e w' ⟨rfl, ⟨nd, rfl⟩⟩; (try first | exact ⟨rfl, _, World.drewN_drewN _ _ _⟩ | exact ⟨rfl, _, Eq.trans (World.drewN_drewN _ _ _) (congrArg (World.drewN _) (Nat.add_assoc _ _ _))⟩); have p109 : 0 ≤ (1 : Int) := (by omega); have q109 : 1 < ((rd_L1 l0 x11_1).length : Int) := of_decide_eq_true (by first | (with_reducible assumption) | assumption); obtain ⟨ad109, e109, hx109_0⟩ := Kd.at_int HR106_0.out 1 p109 q109; obtain rfl : ad107 = ad109 := (by injection e109); (try simp only [show (1 : Int).toNat = 1 from rfl, Nat.reduceMul, Nat.reduceEqDiff, Go.Addr.add, ↓reduceIte] at hx109_0); have qi109 : (1 < (rd_L1 l0 x11_1).length) = True := eq_true (by omega); (try rw [show ((1 : Int)).toNat = 1 from rfl] at hx109_0); replace p109 := eq_true p109; replace q109 := eq_true q109) | (go_at_call 59; (with_reducible refine (spec_l01In.calls (rd (rd_L1 l0 x11_1) 1) 0 1000 false _ A13.out).mono ?_); rintro e w' ⟨rfl, ⟨nd, rfl⟩⟩; (try first | exact ⟨rfl, _, World.drewN_drewN _ _ _⟩ | exact ⟨rfl, _, Eq.trans (World.drewN_drewN _ _ _) (congrArg (World.drewN _) (Nat.add_assoc _ _ _))⟩)))
                          repeat (go_quiet (first | (go_at_call 59; (with_reducible refine (spec_l01In.calls (rd (rd_L1 l0 x11_1) 0) 0 100000 true _ A10.out).mono ?_); rintro e w' ⟨rfl, ⟨nd, rfl⟩⟩; (try first | exact ⟨rfl, _, World.drewN_drewN _ _ _⟩ | exact ⟨rfl, _, Eq.trans (World.drewN_drewN _ _ _) (congrArg (World.drewN _) (Nat.add_assoc _ _ _))⟩); have p109 : 0 ≤ (1 : Int) := (by omega); have q109 : 1 < ((rd_L1 l0 x11_1).length : Int) := of_decide_eq_true (by first | (with_reducible assumption) | assumption); obtain ⟨ad109, e109, hx109_0⟩ := Kd.at_int HR106_0.out 1 p109 q109; obtain rfl : ad107 = ad109 := (by injection e109); (try simp only [show (1 : Int).toNat = 1 from rfl, Nat.reduceMul, Nat.reduceEqDiff, Go.Addr.add, ↓reduceIte] at hx109_0); have qi109 : (1 < (rd_L1 l0 x11_1).length) = True := eq_true (by omega); (try rw [show ((1 : Int)).toNat = 1 from rfl] at hx109_0); replace p109 := eq_true p109; replace q109 := eq_true q109) | (go_at_call 59; (with_reducible refine (spec_l01In.calls (rd (rd_L1 l0 x11_1) 1) 0 1000 false _ A13.out).mono ?_); rintro e w' ⟨rfl, ⟨nd, rfl⟩⟩; (try first | exact ⟨rfl, _, World.drewN_drewN _ _ _⟩ | exact ⟨rfl, _, Eq.trans (World.drewN_drewN _ _ _) (congrArg (World.drewN _) (Nat.add_assoc _ _ _))⟩))); try go_wp2_with (first | (go_at_call 59; (with_reducible refine (spec_l01In.calls (rd (rd_L1 l0 x11_1) 0) 0 100000 true _ A10.out).mono ?_); rintro e w' ⟨rfl, ⟨nd, rfl⟩⟩; (try first | exact ⟨rfl, _, World.drewN_drewN _ _ _⟩ | exact ⟨rfl, _, Eq.trans (World.drewN_drewN _ _ _) (congrArg (World.drewN _) (Nat.add_assoc _ _ _))⟩); have p109 : 0 ≤ (1 : Int) := (by omega); have q109 : 1 < ((rd_L1 l0 x11_1).length : Int) := of_decide_eq_true (by first | (with_reducible assumption) | assumption); obtain ⟨ad109, e109, hx109_0⟩ := Kd.at_int HR106_0.out 1 p109 q109; obtain rfl : ad107 = ad109 := (by injection e109); (try simp only [show (1 : Int).toNat = 1 from rfl, Nat.reduceMul, Nat.reduceEqDiff, Go.Addr.add, ↓reduceIte] at hx109_0); have qi109 : (1 < (rd_L1 l0 x11_1).length) = True := eq_true (by omega); (try rw [show ((1 : Int)).toNat = 1 from rfl] at hx109_0); replace p109 := eq_true p109; replace q109 := eq_true q109) | (go_at_call 59; (with_reducible refine (spec_l01In.calls (rd (rd_L1 l0 x11_1) 1) 0 1000 false _ A13.out).mono ?_); rintro e w' ⟨rfl, ⟨nd, rfl⟩⟩; (try first | exact ⟨rfl, _, World.drewN_drewN _ _ _⟩ | exact ⟨rfl, _, Eq.trans (World.drewN_drewN _ _ _) (congrArg (World.drewN _) (Nat.add_assoc _ _ _))⟩))))
                          go_meet
                          case rel => exact ⟨_, (true), (by first | rfl | (simp; done) | (simp [*]; done)), H', ⟨by have := HK1.out; first | omega | exact Nat.le_refl _⟩, by repeat (first | exact Drawn0.refl _ | apply Drawn0.step)⟩
                      · rw [if_neg c12] at H
                        exact absurd H (by simp)
                    · replace c11 := Bool.eq_false_iff.mpr c11
                      subst c11
                      have H1 : (spec_StepListOk.j1 k1 l0 x11_1 (rd_L1 l0 x11_1) l0 (l0.length : Int) x11_1 true) = some r := by rw [if_neg (show ¬ (false = true) by decide)] at H; exact H
                      clear H
                      have H := H1
                      clear H1
                      have H' := Aside0.mk H
                      clear H
                      have p107 : 0 ≤ (0 : Int) := (by omega)
                      have q107 : 0 < ((rd_L1 l0 x11_1).length : Int) := of_decide_eq_true (by first | (with_reducible assumption) | assumption)
                      obtain ⟨ad107, e107, hx107_0⟩ := Kd.at_int HR106_0.out 0 p107 q107
                      cases e107
                      have qi107 : (0 < (rd_L1 l0 x11_1).length) = True := eq_true (by omega)
                      (try rw [show ((0 : Int)).toNat = 0 from rfl] at hx107_0)
                      (try rw [Addr.add_zero'] at hx107_0)
                      replace p107 := eq_true p107
                      replace q107 := eq_true q107
                      go_wp2_with (first | (go_at_call 59; (with_reducible refine (spec_l01In.calls (rd (rd_L1 l0 x11_1) 0) 0 100000 false _ A10.out).mono ?_); rintro e w' ⟨rfl, ⟨nd, rfl⟩⟩; (try first | exact ⟨rfl, _, World.drewN_drewN _ _ _⟩ | exact ⟨rfl, _, Eq.trans (World.drewN_drewN _ _ _) (congrArg (World.drewN _) (Nat.add_assoc _ _ _))⟩)))
                      repeat (go_quiet (first | (go_at_call 59; (with_reducible refine (spec_l01In.calls (rd (rd_L1 l0 x11_1) 0) 0 100000 false _ A10.out).mono ?_); rintro e w' ⟨rfl, ⟨nd, rfl⟩⟩; (try first | exact ⟨rfl, _, World.drewN_drewN _ _ _⟩ | exact ⟨rfl, _, Eq.trans (World.drewN_drewN _ _ _) (congrArg (World.drewN _) (Nat.add_assoc _ _ _))⟩))); try go_wp2_with (first | (go_at_call 59; (with_reducible refine (spec_l01In.calls (rd (rd_L1 l0 x11_1) 0) 0 100000 false _ A10.out).mono ?_); rintro e w' ⟨rfl, ⟨nd, rfl⟩⟩; (try first | exact ⟨rfl, _, World.drewN_drewN _ _ _⟩ | exact ⟨rfl, _, Eq.trans (World.drewN_drewN _ _ _) (congrArg (World.drewN _) (Nat.add_assoc _ _ _))⟩))))
                      go_meet
                      case rel => exact ⟨_, (true), (by first | rfl | (simp; done) | (simp [*]; done)), H', ⟨by have := HK1.out; first | omega | exact Nat.le_refl _⟩, by repeat (first | exact Drawn0.refl _ | apply Drawn0.step)⟩
                  · rw [if_neg c9] at H
                    exact absurd H (by simp)
                · rw [if_neg c8] at H
                  have c8b0 : (((rd_L1 l0 x11_1).length : Int) == 2) = false := beq_eq_false_iff_ne.mpr c8
                  have c8b1 : (((rd_L1 l0 x11_1).length : Int) != 2) = true := bne_iff_ne.mpr c8
                  (first | rw [c8b0] | (simp only [i64_w, i32_w]; rw [c8b0]) | skip)
                  have H' := Aside0.mk H
                  clear H
                  go_wp2
                  repeat (go_quiet (fail); try go_wp2)
                  go_meet
                  case rel => exact ⟨_, (true), (by first | rfl | (simp; done) | (simp [*]; done)), H', ⟨by have := HK1.out; first | omega | exact Nat.le_refl _⟩, by repeat (first | exact Drawn0.refl _ | apply Drawn0.step)⟩
              case rest =>
                clear HC7
                try clear c1
                try clear p1
                try clear q1
                try clear hx1
                try clear qi1
                try clear p2
                try clear c3
                try clear c4
                try clear c4b0
                try clear c5
                try clear c5b0
                try clear c6
                try clear c6b0
                try clear c8
                try clear c8b0
                try clear c8b1
                try clear c9
                try clear c9b0
                try clear c9b1
                try clear c10
                try clear p10
                try clear q10
                try clear hx10
                try clear qi10
                try clear c11
                try clear p11
                try clear q11
                try clear hx11
                try clear qi11
                try clear c12
                try clear c12b0
                try clear c12b1
                try clear c14
                try clear c15
                try clear c15b0
                try clear c15b1
                try clear hx106_0
                try clear hx107_0
                try clear hx109_0
                try clear hx111_0
                try clear p106
                try clear p107
                try clear p109
                try clear p111
                try clear p2
                try clear q106
                try clear q107
                try clear q109
                try clear q111
                obtain ⟨kq, x42_6, rfl, HA, HJ6, ⟨mc6, rfl⟩⟩ := hcut
                cases kq with
                | zero => exact absurd HA.out (by simp [spec_StepListOk.j1])
                | succ kj6 =>
                  have H := HA.out
                  clear HA
                  simp only [spec_StepListOk.j1] at H
                  by_cases c16 : x42_6 = true
                  · subst c16
                    have H1 : (some false) = some r := by rw [if_pos rfl] at H; exact H
                    clear H
                    have H := H1
                    clear H1
                    obtain rfl := Option.some.inj H
                    go_wp2
                    repeat (go_quiet (fail); try go_wp2)
                    go_ret
                    exact ⟨by first | rfl | (simp; done) | (simp [*]; done), by repeat (first | exact Drawn0.refl _ | apply Drawn0.step)⟩
                  · replace c16 := Bool.eq_false_iff.mpr c16
                    subst c16
                    have H1 : (if x11_1 > 0 then (if 0 < ((rd_L1 l0 x11_1).length : Int) then (if 0 ≤ (wrap64 (x11_1 - 1)) then (if (wrap64 (x11_1 - 1)) < (l0.length : Int) then (if 0 < ((rd_L1 l0 (wrap64 (x11_1 - 1))).length : Int) then (if (rd (rd_L1 l0 x11_1) 0) ≤ (rd (rd_L1 l0 (wrap64 (x11_1 - 1))) 0) then (some false) else (if 1 < ((rd_L1 l0 x11_1).length : Int) then (if 1 < ((rd_L1 l0 (wrap64 (x11_1 - 1))).length : Int) then (if (rd (rd_L1 l0 x11_1) 1) > (rd (rd_L1 l0 (wrap64 (x11_1 - 1))) 1) then (some false) else (spec_StepListOk.l0 kj6 l0 l0 (l0.length : Int) (wrap64 (x11_1 + 1)))) else (none)) else (none))) else (none)) else (none)) else (none)) else (none)) else (spec_StepListOk.l0 kj6 l0 l0 (l0.length : Int) (wrap64 (x11_1 + 1)))) = some r := by rw [if_neg (show ¬ (false = true) by decide)] at H; exact H
                    clear H
                    have H := H1
                    clear H1
                    by_cases c17 : x11_1 > 0
                    · rw [if_pos c17] at H
                      have c17b0 : decide (0 < x11_1) = true := decide_eq_true c17
                      clear c17
                      by_cases c18 : 0 < ((rd_L1 l0 x11_1).length : Int)
                      · rw [if_pos c18] at H
                        have c18b0 : decide (0 < ((rd_L1 l0 x11_1).length : Int)) = true := decide_eq_true c18
                        have c18b1 : decide (0 < (rd_L1 l0 x11_1).length) = true := decide_eq_true (by omega)
                        clear c18
                        obtain ⟨ji19, hji19⟩ : ∃ j_ : Int, (wrap64 (x11_1 - 1)) = j_ := ⟨_, rfl⟩
                        replace H : (if 0 ≤ (ji19) then (if (ji19) < (l0.length : Int) then (if 0 < ((rd_L1 l0 (ji19)).length : Int) then (if (rd (rd_L1 l0 x11_1) 0) ≤ (rd (rd_L1 l0 (ji19)) 0) then (some false) else (if 1 < ((rd_L1 l0 x11_1).length : Int) then (if 1 < ((rd_L1 l0 (ji19)).length : Int) then (if (rd (rd_L1 l0 x11_1) 1) > (rd (rd_L1 l0 (ji19)) 1) then (some false) else (spec_StepListOk.l0 kj6 l0 l0 (l0.length : Int) (wrap64 (x11_1 + 1)))) else (none)) else (none))) else (none)) else (none)) else (none)) = some r := by first | (rw [hji19] at H; exact H) | (simp only [hji19] at H ⊢; exact H)
                        have hji19w : (IntKind.i64.wrap (x11_1 - 1)) = ji19 := (i64_w _).trans hji19
                        by_cases c20 : 0 ≤ (ji19)
                        · rw [if_pos c20] at H
                          have c20b0 : decide (0 ≤ (ji19)) = true := decide_eq_true c20
                          clear c20
                          by_cases c21 : (ji19) < (l0.length : Int)
                          · rw [if_pos c21] at H
                            have c21b0 : decide ((ji19) < (l0.length : Int)) = true := decide_eq_true c21
                            clear c21
                            by_cases c22 : 0 < ((rd_L1 l0 (ji19)).length : Int)
                            · rw [if_pos c22] at H
                              have c22b0 : decide (0 < ((rd_L1 l0 (ji19)).length : Int)) = true := decide_eq_true c22
                              have c22b1 : decide (0 < (rd_L1 l0 (ji19)).length) = true := decide_eq_true (by omega)
                              clear c22
                              by_cases c23 : (rd (rd_L1 l0 x11_1) 0) ≤ (rd (rd_L1 l0 (ji19)) 0)
                              · rw [if_pos c23] at H
                                have c23b0 : decide ((rd (rd_L1 l0 x11_1) 0) ≤ (rd (rd_L1 l0 (ji19)) 0)) = true := decide_eq_true c23
                                clear c23
                                obtain rfl := Option.some.inj H
                                have p112 : 0 ≤ (0 : Int) := (by omega)
                                have q112 : 0 < ((rd_L1 l0 x11_1).length : Int) := of_decide_eq_true (by first | (with_reducible assumption) | assumption)
                                obtain ⟨ad112, e112, hx112_0⟩ := Kd.at_int HR106_0.out 0 p112 q112
                                cases e112
                                have qi112 : (0 < (rd_L1 l0 x11_1).length) = True := eq_true (by omega)
                                (try rw [show ((0 : Int)).toNat = 0 from rfl] at hx112_0)
                                (try rw [Addr.add_zero'] at hx112_0)
                                replace p112 := eq_true p112
                                replace q112 := eq_true q112
                                have p113 : 0 ≤ ((ji19) : Int) := of_decide_eq_true (by first | (with_reducible assumption) | assumption)
                                have q113 : (ji19) < (l0.length : Int) := of_decide_eq_true (by first | (with_reducible assumption) | assumption)
                                obtain ⟨ad113, A113_0, c113_0, e113, hx113_0, hl113_0, hi113_0⟩ := at_L1 HR0.out (ji19) p113 q113
                                obtain rfl : ad106 = ad113 := (by injection e113)
                                have HR113_0 := Aside0.mk hi113_0
                                have HC113_0 := Aside0.mk hl113_0
                                clear hi113_0 hl113_0
                                replace p113 := eq_true p113
                                replace q113 := eq_true q113
                                have p114 : 0 ≤ (0 : Int) := (by omega)
                                have q114 : 0 < ((rd_L1 l0 (ji19)).length : Int) := of_decide_eq_true (by first | (with_reducible assumption) | assumption)
                                obtain ⟨ad114, e114, hx114_0⟩ := Kd.at_int HR113_0.out 0 p114 q114
                                cases e114
                                have qi114 : (0 < (rd_L1 l0 (ji19)).length) = True := eq_true (by omega)
                                (try rw [show ((0 : Int)).toNat = 0 from rfl] at hx114_0)
                                (try rw [Addr.add_zero'] at hx114_0)
                                replace p114 := eq_true p114
                                replace q114 := eq_true q114
                                go_wp2
                                repeat (go_quiet (fail); try go_wp2)
                                go_ret
                                exact ⟨by first | rfl | (simp; done) | (simp only [← hji19] <;> (first | rfl | simp)) | (simp [*]; done), by repeat (first | exact Drawn0.refl _ | apply Drawn0.step)⟩
                              · rw [if_neg c23] at H
                                have c23b0 : decide ((rd (rd_L1 l0 x11_1) 0) ≤ (rd (rd_L1 l0 (ji19)) 0)) = false := decide_eq_false c23
                                clear c23
                                by_cases c24 : 1 < ((rd_L1 l0 x11_1).length : Int)
                                · rw [if_pos c24] at H
                                  have c24b0 : decide (1 < ((rd_L1 l0 x11_1).length : Int)) = true := decide_eq_true c24
                                  have c24b1 : decide (1 < (rd_L1 l0 x11_1).length) = true := decide_eq_true (by omega)
                                  clear c24
                                  by_cases c25 : 1 < ((rd_L1 l0 (ji19)).length : Int)
                                  · rw [if_pos c25] at H
                                    have c25b0 : decide (1 < ((rd_L1 l0 (ji19)).length : Int)) = true := decide_eq_true c25
                                    have c25b1 : decide (1 < (rd_L1 l0 (ji19)).length) = true := decide_eq_true (by omega)
                                    clear c25
                                    by_cases c26 : (rd (rd_L1 l0 x11_1) 1) > (rd (rd_L1 l0 (ji19)) 1)
                                    · rw [if_pos c26] at H
                                      have c26b0 : decide ((rd (rd_L1 l0 (ji19)) 1) < (rd (rd_L1 l0 x11_1) 1)) = true := decide_eq_true c26
                                      clear c26
                                      obtain rfl := Option.some.inj H
                                      have p112 : 0 ≤ (0 : Int) := (by omega)
                                      have q112 : 0 < ((rd_L1 l0 x11_1).length : Int) := of_decide_eq_true (by first | (with_reducible assumption) | assumption)
                                      obtain ⟨ad112, e112, hx112_0⟩ := Kd.at_int HR106_0.out 0 p112 q112
                                      cases e112
                                      have qi112 : (0 < (rd_L1 l0 x11_1).length) = True := eq_true (by omega)
                                      (try rw [show ((0 : Int)).toNat = 0 from rfl] at hx112_0)
                                      (try rw [Addr.add_zero'] at hx112_0)
                                      replace p112 := eq_true p112
                                      replace q112 := eq_true q112
                                      have p113 : 0 ≤ ((ji19) : Int) := of_decide_eq_true (by first | (with_reducible assumption) | assumption)
                                      have q113 : (ji19) < (l0.length : Int) := of_decide_eq_true (by first | (with_reducible assumption) | assumption)
                                      obtain ⟨ad113, A113_0, c113_0, e113, hx113_0, hl113_0, hi113_0⟩ := at_L1 HR0.out (ji19) p113 q113
                                      obtain rfl : ad106 = ad113 := (by injection e113)
                                      have HR113_0 := Aside0.mk hi113_0
                                      have HC113_0 := Aside0.mk hl113_0
                                      clear hi113_0 hl113_0
                                      replace p113 := eq_true p113
                                      replace q113 := eq_true q113
                                      have p114 : 0 ≤ (0 : Int) := (by omega)
                                      have q114 : 0 < ((rd_L1 l0 (ji19)).length : Int) := of_decide_eq_true (by first | (with_reducible assumption) | assumption)
                                      obtain ⟨ad114, e114, hx114_0⟩ := Kd.at_int HR113_0.out 0 p114 q114
                                      cases e114
                                      have qi114 : (0 < (rd_L1 l0 (ji19)).length) = True := eq_true (by omega)
                                      (try rw [show ((0 : Int)).toNat = 0 from rfl] at hx114_0)
                                      (try rw [Addr.add_zero'] at hx114_0)
                                      replace p114 := eq_true p114
                                      replace q114 := eq_true q114
                                      have p115 : 0 ≤ (1 : Int) := (by omega)
                                      have q115 : 1 < ((rd_L1 l0 x11_1).length : Int) := of_decide_eq_true (by first | (with_reducible assumption) | assumption)
                                      obtain ⟨ad115, e115, hx115_0⟩ := Kd.at_int HR106_0.out 1 p115 q115
                                      obtain rfl : ad112 = ad115 := (by injection e115)
                                      (try simp only [show (1 : Int).toNat = 1 from rfl, Nat.reduceMul, Nat.reduceEqDiff, Go.Addr.add, ↓reduceIte] at hx115_0)
                                      have qi115 : (1 < (rd_L1 l0 x11_1).length) = True := eq_true (by omega)
                                      (try rw [show ((1 : Int)).toNat = 1 from rfl] at hx115_0)
                                      replace p115 := eq_true p115
                                      replace q115 := eq_true q115
                                      have p116 : 0 ≤ ((ji19) : Int) := of_decide_eq_true (by first | (with_reducible assumption) | assumption)
                                      have q116 : (ji19) < (l0.length : Int) := of_decide_eq_true (by first | (with_reducible assumption) | assumption)
                                      obtain ⟨ad116, A116_0, c116_0, e116, hx116_0, hl116_0, hi116_0⟩ := at_L1 HR0.out (ji19) p116 q116
                                      obtain rfl : ad106 = ad116 := (by injection e116)
                                      have HR116_0 := Aside0.mk hi116_0
                                      have HC116_0 := Aside0.mk hl116_0
                                      clear hi116_0 hl116_0
                                      replace p116 := eq_true p116
                                      replace q116 := eq_true q116
                                      have ea_ := Option.some.inj (hx113_0.symm.trans hx116_0)
                                      injection ea_ with ea_ en_ ec_
                                      subst ea_
                                      subst ec_
                                      clear en_
                                      have p117 : 0 ≤ (1 : Int) := (by omega)
                                      have q117 : 1 < ((rd_L1 l0 (ji19)).length : Int) := of_decide_eq_true (by first | (with_reducible assumption) | assumption)
                                      obtain ⟨ad117, e117, hx117_0⟩ := Kd.at_int HR116_0.out 1 p117 q117
                                      cases e117
                                      (try simp only [show (1 : Int).toNat = 1 from rfl, Nat.reduceMul, Nat.reduceEqDiff, Go.Addr.add, ↓reduceIte] at hx117_0)
                                      have qi117 : (1 < (rd_L1 l0 (ji19)).length) = True := eq_true (by omega)
                                      (try rw [show ((1 : Int)).toNat = 1 from rfl] at hx117_0)
                                      replace p117 := eq_true p117
                                      replace q117 := eq_true q117
                                      go_wp2
                                      repeat (go_quiet (fail); try go_wp2)
                                      go_ret
                                      exact ⟨by first | rfl | (simp; done) | (simp only [← hji19] <;> (first | rfl | simp)) | (simp [*]; done), by repeat (first | exact Drawn0.refl _ | apply Drawn0.step)⟩
                                    · rw [if_neg c26] at H
                                      have c26b0 : decide ((rd (rd_L1 l0 (ji19)) 1) < (rd (rd_L1 l0 x11_1) 1)) = false := decide_eq_false c26
                                      clear c26
                                      have H' := Aside0.mk H
                                      clear H
                                      have p112 : 0 ≤ (0 : Int) := (by omega)
                                      have q112 : 0 < ((rd_L1 l0 x11_1).length : Int) := of_decide_eq_true (by first | (with_reducible assumption) | assumption)
                                      obtain ⟨ad112, e112, hx112_0⟩ := Kd.at_int HR106_0.out 0 p112 q112
                                      cases e112
                                      have qi112 : (0 < (rd_L1 l0 x11_1).length) = True := eq_true (by omega)
                                      (try rw [show ((0 : Int)).toNat = 0 from rfl] at hx112_0)
                                      (try rw [Addr.add_zero'] at hx112_0)
                                      replace p112 := eq_true p112
                                      replace q112 := eq_true q112
                                      have p113 : 0 ≤ ((ji19) : Int) := of_decide_eq_true (by first | (with_reducible assumption) | assumption)
                                      have q113 : (ji19) < (l0.length : Int) := of_decide_eq_true (by first | (with_reducible assumption) | assumption)
                                      obtain ⟨ad113, A113_0, c113_0, e113, hx113_0, hl113_0, hi113_0⟩ := at_L1 HR0.out (ji19) p113 q113
                                      obtain rfl : ad106 = ad113 := (by injection e113)
                                      have HR113_0 := Aside0.mk hi113_0
                                      have HC113_0 := Aside0.mk hl113_0
                                      clear hi113_0 hl113_0
                                      replace p113 := eq_true p113
                                      replace q113 := eq_true q113
                                      have p114 : 0 ≤ (0 : Int) := (by omega)
                                      have q114 : 0 < ((rd_L1 l0 (ji19)).length : Int) := of_decide_eq_true (by first | (with_reducible assumption) | assumption)
                                      obtain ⟨ad114, e114, hx114_0⟩ := Kd.at_int HR113_0.out 0 p114 q114
                                      cases e114
                                      have qi114 : (0 < (rd_L1 l0 (ji19)).length) = True := eq_true (by omega)
                                      (try rw [show ((0 : Int)).toNat = 0 from rfl] at hx114_0)
                                      (try rw [Addr.add_zero'] at hx114_0)
                                      replace p114 := eq_true p114
                                      replace q114 := eq_true q114
                                      have p115 : 0 ≤ (1 : Int) := (by omega)
                                      have q115 : 1 < ((rd_L1 l0 x11_1).length : Int) := of_decide_eq_true (by first | (with_reducible assumption) | assumption)
                                      obtain ⟨ad115, e115, hx115_0⟩ := Kd.at_int HR106_0.out 1 p115 q115
                                      obtain rfl : ad112 = ad115 := (by injection e115)
                                      (try simp only [show (1 : Int).toNat = 1 from rfl, Nat.reduceMul, Nat.reduceEqDiff, Go.Addr.add, ↓reduceIte] at hx115_0)
                                      have qi115 : (1 < (rd_L1 l0 x11_1).length) = True := eq_true (by omega)
                                      (try rw [show ((1 : Int)).toNat = 1 from rfl] at hx115_0)
                                      replace p115 := eq_true p115
                                      replace q115 := eq_true q115
                                      have p116 : 0 ≤ ((ji19) : Int) := of_decide_eq_true (by first | (with_reducible assumption) | assumption)
                                      have q116 : (ji19) < (l0.length : Int) := of_decide_eq_true (by first | (with_reducible assumption) | assumption)
                                      obtain ⟨ad116, A116_0, c116_0, e116, hx116_0, hl116_0, hi116_0⟩ := at_L1 HR0.out (ji19) p116 q116
                                      obtain rfl : ad106 = ad116 := (by injection e116)
                                      have HR116_0 := Aside0.mk hi116_0
                                      have HC116_0 := Aside0.mk hl116_0
                                      clear hi116_0 hl116_0
                                      replace p116 := eq_true p116
                                      replace q116 := eq_true q116
                                      have ea_ := Option.some.inj (hx113_0.symm.trans hx116_0)
                                      injection ea_ with ea_ en_ ec_
                                      subst ea_
                                      subst ec_
                                      clear en_
                                      have p117 : 0 ≤ (1 : Int) := (by omega)
                                      have q117 : 1 < ((rd_L1 l0 (ji19)).length : Int) := of_decide_eq_true (by first | (with_reducible assumption) | assumption)
                                      obtain ⟨ad117, e117, hx117_0⟩ := Kd.at_int HR116_0.out 1 p117 q117
                                      cases e117
                                      (try simp only [show (1 : Int).toNat = 1 from rfl, Nat.reduceMul, Nat.reduceEqDiff, Go.Addr.add, ↓reduceIte] at hx117_0)
                                      have qi117 : (1 < (rd_L1 l0 (ji19)).length) = True := eq_true (by omega)
                                      (try rw [show ((1 : Int)).toNat = 1 from rfl] at hx117_0)
                                      replace p117 := eq_true p117
                                      replace q117 := eq_true q117
                                      go_wp2
                                      repeat (go_quiet (fail); try go_wp2)
                                      go_roundg kj6
                                      case measure => have := HK1.out; have := HJ6.out; omega
                                      case rel => exact ⟨(wrap64 (x11_1 + 1)), (by first | rfl | (simp; done) | (simp [*]; done)), H', ⟨by have := HK1.out; have := HJ6.out; omega⟩, by repeat (first | exact Drawn0.refl _ | apply Drawn0.step)⟩
                                  · rw [if_neg c25] at H
                                    exact absurd H (by simp)
                                · rw [if_neg c24] at H
                                  exact absurd H (by simp)
                            · rw [if_neg c22] at H
                              exact absurd H (by simp)
                          · rw [if_neg c21] at H
                            exact absurd H (by simp)
                        · rw [if_neg c20] at H
                          exact absurd H (by simp)
                      · rw [if_neg c18] at H
                        exact absurd H (by simp)
                    · rw [if_neg c17] at H
                      have c17b0 : decide (0 < x11_1) = false := decide_eq_false c17
                      clear c17
                      have H' := Aside0.mk H
                      clear H
                      go_wp2
                      repeat (go_quiet (fail); try go_wp2)
                      go_roundg kj6
                      case measure => have := HK1.out; have := HJ6.out; omega
                      case rel => exact ⟨(wrap64 (x11_1 + 1)), (by first | rfl | (simp; done) | (simp [*]; done)), H', ⟨by have := HK1.out; have := HJ6.out; omega⟩, by repeat (first | exact Drawn0.refl _ | apply Drawn0.step)⟩
            · rw [if_neg c6] at H
              exact absurd H (by simp)
          · rw [if_neg c5] at H
            exact absurd H (by simp)
        · rw [if_neg c4] at H
          have c4b0 : decide (x11_1 < (l0.length : Int)) = false := decide_eq_false c4
          clear c4
          obtain rfl := Option.some.inj H
          go_wp2
          repeat (go_quiet (fail); try go_wp2)
          go_ret
          exact ⟨by first | rfl | (simp; done) | (simp [*]; done), by repeat (first | exact Drawn0.refl _ | apply Drawn0.step)⟩
  · replace c3 := Bool.eq_false_iff.mpr c3
    subst c3
    have H1 : (some false) = some r := by rw [if_neg (show ¬ (false = true) by decide)] at H; exact H
    clear H
    have H := H1
    clear H1
    obtain rfl := Option.some.inj H
    go_enter Try.func18, Try.ntmps18
    go_wp2_with (first | (go_at_call 59; (with_reducible refine (spec_l01In.calls (l0.length : Int) 1 6 false _ A2.out).mono ?_); rintro e w' ⟨rfl, ⟨nd, rfl⟩⟩; (try first | exact ⟨rfl, _, World.drewN_drewN _ _ _⟩ | exact ⟨rfl, _, Eq.trans (World.drewN_drewN _ _ _) (congrArg (World.drewN _) (Nat.add_assoc _ _ _))⟩)))
    repeat (go_quiet (first | (go_at_call 59; (with_reducible refine (spec_l01In.calls (l0.length : Int) 1 6 false _ A2.out).mono ?_); rintro e w' ⟨rfl, ⟨nd, rfl⟩⟩; (try first | exact ⟨rfl, _, World.drewN_drewN _ _ _⟩ | exact ⟨rfl, _, Eq.trans (World.drewN_drewN _ _ _) (congrArg (World.drewN _) (Nat.add_assoc _ _ _))⟩))); try go_wp2_with (first | (go_at_call 59; (with_reducible refine (spec_l01In.calls (l0.length : Int) 1 6 false _ A2.out).mono ?_); rintro e w' ⟨rfl, ⟨nd, rfl⟩⟩; (try first | exact ⟨rfl, _, World.drewN_drewN _ _ _⟩ | exact ⟨rfl, _, Eq.trans (World.drewN_drewN _ _ _) (congrArg (World.drewN _) (Nat.add_assoc _ _ _))⟩))))
    go_ret
    exact ⟨by first | rfl | (simp; done) | (simp [*]; done), by repeat (first | exact Drawn0.refl _ | apply Drawn0.step)⟩

/-! ### spec_l25Price: function 63 -/
def spec_l25Price.l0 : Nat → Int → Int → List (List Int) → Int → Int → Option (Int)
  | 0, _, _, _, _, _ => none
  | k + 1, x0, x5, x8, x9, x10 => if x10 < x9 then (if 0 ≤ x10 then (if x10 < (x8.length : Int) then (if 0 < ((rd_L1 x8 x10).length : Int) then (if (rd (rd_L1 x8 x10) 0) ≤ x0 then (if 1 < ((rd_L1 x8 x10).length : Int) then (spec_l25Price.l0 k x0 (rd (rd_L1 x8 x10) 1) x8 x9 (wrap64 (x10 + 1))) else (none)) else (spec_l25Price.l0 k x0 x5 x8 x9 (wrap64 (x10 + 1)))) else (none)) else (none)) else (none)) else (some (wrap64 (x5 * x0)))
def spec_l25Price.f (k : Nat) (a0 : Int) (l1 : List (List Int)) : Option (Int) := spec_l25Price.l0 k a0 0 l1 (l1.length : Int) 0
theorem spec_l25Price.mono_l : ∀ k, (∀ y0 y1 y2 y3 y4, LeO (spec_l25Price.l0 k y0 y1 y2 y3 y4) (spec_l25Price.l0 (k + 1) y0 y1 y2 y3 y4))
  | 0 => fun _ _ _ _ _ r h => by simp [spec_l25Price.l0] at h
  | k + 1 => by
    have ih0 := spec_l25Price.mono_l k
    · intro y0 y1 y2 y3 y4
      unfold spec_l25Price.l0
      repeat' first
      | (with_reducible exact ih0 _ _ _ _ _)
      | (with_reducible exact LeO.refl _)
      | (with_reducible exact LeO.none _)
      | (with_reducible refine LeO.ite ?_ ?_)
      | (with_reducible refine LeO.bind ?_ (fun _ => ?_))
      | exact ih0 _ _ _ _ _
      | exact LeO.none _
      | refine LeO.ite ?_ ?_
      | refine LeO.bind ?_ (fun _ => ?_)
theorem spec_l25Price.mono : ∀ a0 a1 k, LeO (spec_l25Price.f k a0 a1) (spec_l25Price.f (k + 1) a0 a1) := by
  intro a0 a1 k
  have ih0 := spec_l25Price.mono_l k
  unfold spec_l25Price.f
  repeat' first
      | (with_reducible exact ih0 _ _ _ _ _)
      | (with_reducible exact LeO.refl _)
      | (with_reducible exact LeO.none _)
      | (with_reducible refine LeO.ite ?_ ?_)
      | (with_reducible refine LeO.bind ?_ (fun _ => ?_))
      | exact ih0 _ _ _ _ _
      | exact LeO.none _
      | refine LeO.ite ?_ ?_
      | refine LeO.bind ?_ (fun _ => ?_)
set_option maxHeartbeats 8000000 in
set_option maxRecDepth 100000 in
theorem spec_l25Price.calls (k : Nat) (a0 : Int) (A1 : Option Addr) (c1 : Nat) (l1 : List (List Int)) (r : Int) (w : World) (hr1 : Kd.C (Kd.slice 3 (Kd.int .i64)) w A1 l1.length l1) (hc1 : l1.length ≤ c1) (h : spec_l25Price.f k a0 l1 = some r) :
    Calls Try.prog 63 #[.int .i64 a0, .slice A1 l1.length c1] w fun e w' => e = .returned (.int .i64 r) ∧ Drawn0 w w' := by
  have HR1 := Aside0.mk hr1
  have HC1 := Aside0.mk hc1
  clear hr1 hc1
  have H : (spec_l25Price.l0 k a0 0 l1 (l1.length : Int) 0) = some r := h
  clear h
  have H' := Aside0.mk H
  clear H
  go_enter Try.func63, Try.ntmps63
  go_wp2
  go_loopg [5, 10] k (fun kq v5 v10 w' => ∃ (x5_1 : Int) (x10_1 : Int), v5 = .int .i64 x5_1 ∧ v10 = .int .i64 x10_1 ∧ Aside0 (spec_l25Price.l0 kq a0 x5_1 l1 (l1.length : Int) x10_1 = some r) ∧ Aside0 (kq ≤ k) ∧ Drawn0 w w')
  case atStart => exact ⟨(0), (0), (by first | rfl | (simp; done) | (simp [*]; done)), (by first | rfl | (simp; done) | (simp [*]; done)), H', ⟨Nat.le_refl _⟩, by repeat (first | exact Drawn0.refl _ | apply Drawn0.step)⟩
  case round =>
    clear H'
    try clear c1
    try clear p2
    obtain ⟨x5_1, x10_1, rfl, rfl, HA, HK1, ⟨m1, rfl⟩⟩ := hrel
    cases gk with
    | zero => exact absurd HA.out (by simp [spec_l25Price.l0])
    | succ k1 =>
      have H := HA.out
      clear HA
      simp only [spec_l25Price.l0] at H
      by_cases c3 : x10_1 < (l1.length : Int)
      · rw [if_pos c3] at H
        have c3b0 : decide (x10_1 < (l1.length : Int)) = true := decide_eq_true c3
        clear c3
        by_cases c4 : 0 ≤ x10_1
        · rw [if_pos c4] at H
          have c4b0 : decide (0 ≤ x10_1) = true := decide_eq_true c4
          clear c4
          by_cases c5 : x10_1 < (l1.length : Int)
          · rw [if_pos c5] at H
            have c5b0 : decide (x10_1 < (l1.length : Int)) = true := decide_eq_true c5
            clear c5
            by_cases c6 : 0 < ((rd_L1 l1 x10_1).length : Int)
            · rw [if_pos c6] at H
              have c6b0 : decide (0 < ((rd_L1 l1 x10_1).length : Int)) = true := decide_eq_true c6
              have c6b1 : decide (0 < (rd_L1 l1 x10_1).length) = true := decide_eq_true (by omega)
              clear c6
              by_cases c7 : (rd (rd_L1 l1 x10_1) 0) ≤ a0
              · rw [if_pos c7] at H
                have c7b0 : decide ((rd (rd_L1 l1 x10_1) 0) ≤ a0) = true := decide_eq_true c7
                clear c7
                by_cases c8 : 1 < ((rd_L1 l1 x10_1).length : Int)
                · rw [if_pos c8] at H
                  have c8b0 : decide (1 < ((rd_L1 l1 x10_1).length : Int)) = true := decide_eq_true c8
                  have c8b1 : decide (1 < (rd_L1 l1 x10_1).length) = true := decide_eq_true (by omega)
                  clear c8
                  have H' := Aside0.mk H
                  clear H
                  have p118 : 0 ≤ (x10_1 : Int) := of_decide_eq_true (by first | (with_reducible assumption) | assumption)
                  have q118 : x10_1 < (l1.length : Int) := of_decide_eq_true (by first | (with_reducible assumption) | assumption)
                  obtain ⟨ad118, A118_0, c118_0, e118, hx118_0, hl118_0, hi118_0⟩ := at_L1 HR1.out x10_1 p118 q118
                  cases e118
                  have HR118_0 := Aside0.mk hi118_0
                  have HC118_0 := Aside0.mk hl118_0
                  clear hi118_0 hl118_0
                  replace p118 := eq_true p118
                  replace q118 := eq_true q118
                  have p119 : 0 ≤ (0 : Int) := (by omega)
                  have q119 : 0 < ((rd_L1 l1 x10_1).length : Int) := of_decide_eq_true (by first | (with_reducible assumption) | assumption)
                  obtain ⟨ad119, e119, hx119_0⟩ := Kd.at_int HR118_0.out 0 p119 q119
                  cases e119
                  have qi119 : (0 < (rd_L1 l1 x10_1).length) = True := eq_true (by omega)
                  (try rw [show ((0 : Int)).toNat = 0 from rfl] at hx119_0)
                  (try rw [Addr.add_zero'] at hx119_0)
                  replace p119 := eq_true p119
                  replace q119 := eq_true q119
                  have p120 : 0 ≤ (1 : Int) := (by omega)
                  have q120 : 1 < ((rd_L1 l1 x10_1).length : Int) := of_decide_eq_true (by first | (with_reducible assumption) | assumption)
                  obtain ⟨ad120, e120, hx120_0⟩ := Kd.at_int HR118_0.out 1 p120 q120
                  obtain rfl : ad119 = ad120 := (by injection e120)
                  (try simp only [show (1 : Int).toNat = 1 from rfl, Nat.reduceMul, Nat.reduceEqDiff, Go.Addr.add, ↓reduceIte] at hx120_0)
                  have qi120 : (1 < (rd_L1 l1 x10_1).length) = True := eq_true (by omega)
                  (try rw [show ((1 : Int)).toNat = 1 from rfl] at hx120_0)
                  replace p120 := eq_true p120
                  replace q120 := eq_true q120
                  go_wp2
                  go_roundg k1
                  case measure => have := HK1.out; omega
                  case rel => exact ⟨(rd (rd_L1 l1 x10_1) 1), (wrap64 (x10_1 + 1)), (by first | rfl | (simp; done) | (simp [*]; done)), (by first | rfl | (simp; done) | (simp [*]; done)), H', ⟨by have := HK1.out; omega⟩, by repeat (first | exact Drawn0.refl _ | apply Drawn0.step)⟩
                · rw [if_neg c8] at H
                  exact absurd H (by simp)
              · rw [if_neg c7] at H
                have c7b0 : decide ((rd (rd_L1 l1 x10_1) 0) ≤ a0) = false := decide_eq_false c7
                clear c7
                have H' := Aside0.mk H
                clear H
                have p118 : 0 ≤ (x10_1 : Int) := of_decide_eq_true (by first | (with_reducible assumption) | assumption)
                have q118 : x10_1 < (l1.length : Int) := of_decide_eq_true (by first | (with_reducible assumption) | assumption)
                obtain ⟨ad118, A118_0, c118_0, e118, hx118_0, hl118_0, hi118_0⟩ := at_L1 HR1.out x10_1 p118 q118
                cases e118
                have HR118_0 := Aside0.mk hi118_0
                have HC118_0 := Aside0.mk hl118_0
                clear hi118_0 hl118_0
                replace p118 := eq_true p118
                replace q118 := eq_true q118
                have p119 : 0 ≤ (0 : Int) := (by omega)
                have q119 : 0 < ((rd_L1 l1 x10_1).length : Int) := of_decide_eq_true (by first | (with_reducible assumption) | assumption)
                obtain ⟨ad119, e119, hx119_0⟩ := Kd.at_int HR118_0.out 0 p119 q119
                cases e119
                have qi119 : (0 < (rd_L1 l1 x10_1).length) = True := eq_true (by omega)
                (try rw [show ((0 : Int)).toNat = 0 from rfl] at hx119_0)
                (try rw [Addr.add_zero'] at hx119_0)
                replace p119 := eq_true p119
                replace q119 := eq_true q119
                go_wp2
                go_roundg k1
                case measure => have := HK1.out; omega
                case rel => exact ⟨(x5_1), (wrap64 (x10_1 + 1)), (by first | rfl | (simp; done) | (simp [*]; done)), (by first | rfl | (simp; done) | (simp [*]; done)), H', ⟨by have := HK1.out; omega⟩, by repeat (first | exact Drawn0.refl _ | apply Drawn0.step)⟩
            · rw [if_neg c6] at H
              exact absurd H (by simp)
          · rw [if_neg c5] at H
            exact absurd H (by simp)
        · rw [if_neg c4] at H
          exact absurd H (by simp)
      · rw [if_neg c3] at H
        have c3b0 : decide (x10_1 < (l1.length : Int)) = false := decide_eq_false c3
        clear c3
        obtain rfl := Option.some.inj H
        go_wp2
        go_ret
        exact ⟨by first | rfl | (simp; done) | (simp [*]; done), by repeat (first | exact Drawn0.refl _ | apply Drawn0.step)⟩

/-! ### spec_PriceOf: function 22 -/
def spec_PriceOf.f (k : Nat) (a0 : Int) (l1 : List (List Int)) : Option (Int) := (spec_StepListOk.f k l1).bind fun t121 => (if t121 = true then ((spec_l01In.f a0 0 100000).bind fun t122 => (if t122 = true then ((spec_l25Price.f k a0 l1).bind fun t123 => (some t123)) else (some (-1)))) else (some (-1)))
theorem spec_PriceOf.mono : ∀ a0 a1 k, LeO (spec_PriceOf.f k a0 a1) (spec_PriceOf.f (k + 1) a0 a1) := by
  intro a0 a1 k
  unfold spec_PriceOf.f
  repeat' first
      | (with_reducible exact spec_StepListOk.mono _ _)
      | (with_reducible exact spec_l25Price.mono _ _ _)
      | (with_reducible exact LeO.refl _)
      | (with_reducible exact LeO.none _)
      | (with_reducible refine LeO.ite ?_ ?_)
      | (with_reducible refine LeO.bind ?_ (fun _ => ?_))
      | exact spec_StepListOk.mono _ _
      | exact spec_l25Price.mono _ _ _
      | exact LeO.none _
      | refine LeO.ite ?_ ?_
      | refine LeO.bind ?_ (fun _ => ?_)
set_option maxHeartbeats 8000000 in
set_option maxRecDepth 100000 in
theorem spec_PriceOf.calls (k : Nat) (a0 : Int) (A1 : Option Addr) (c1 : Nat) (l1 : List (List Int)) (r : Int) (w : World) (hr1 : Kd.C (Kd.slice 3 (Kd.int .i64)) w A1 l1.length l1) (hc1 : l1.length ≤ c1) (h : spec_PriceOf.f k a0 l1 = some r) :
    Calls Try.prog 22 #[.int .i64 a0, .slice A1 l1.length c1] w fun e w' => e = .returned (.int .i64 r) ∧ Drawn0 w w' := by
  have HR1 := Aside0.mk hr1
  have HC1 := Aside0.mk hc1
  clear hr1 hc1
  have H : ((spec_StepListOk.f k l1).bind fun t121 => (if t121 = true then ((spec_l01In.f a0 0 100000).bind fun t122 => (if t122 = true then ((spec_l25Price.f k a0 l1).bind fun t123 => (some t123)) else (some (-1)))) else (some (-1)))) = some r := h
  clear h
  replace H := Option.bind_eq_some_iff.mp H
  obtain ⟨t121, A30, H⟩ := H
  replace H : (if t121 = true then ((spec_l01In.f a0 0 100000).bind fun t122 => (if t122 = true then ((spec_l25Price.f k a0 l1).bind fun t123 => (some t123)) else (some (-1)))) else (some (-1))) = some r := H
  have A3 := Aside0.mk A30
  clear A30
  by_cases c4 : t121 = true
  · subst c4
    have H1 : ((spec_l01In.f a0 0 100000).bind fun t122 => (if t122 = true then ((spec_l25Price.f k a0 l1).bind fun t123 => (some t123)) else (some (-1)))) = some r := by rw [if_pos rfl] at H; exact H
    clear H
    have H := H1
    clear H1
    replace H := Option.bind_eq_some_iff.mp H
    obtain ⟨t122, A50, H⟩ := H
    replace H : (if t122 = true then ((spec_l25Price.f k a0 l1).bind fun t123 => (some t123)) else (some (-1))) = some r := H
    have A5 := Aside0.mk A50
    clear A50
    by_cases c6 : t122 = true
    · subst c6
      have H1 : ((spec_l25Price.f k a0 l1).bind fun t123 => (some t123)) = some r := by rw [if_pos rfl] at H; exact H
      clear H
      have H := H1
      clear H1
      replace H := Option.bind_eq_some_iff.mp H
      obtain ⟨t123, A70, H⟩ := H
      replace H : (some t123) = some r := H
      have A7 := Aside0.mk A70
      clear A70
      obtain rfl := Option.some.inj H
      go_enter Try.func22, Try.ntmps22
      go_wp2_with (first | ((with_reducible refine gate_callee (f := 18) rfl ?_); refine goesL_ (some 6) rfl rfl Try.func18 (by kernel_rfl) rfl #[.slice A1 l1.length c1] rfl (by (try simp only [List.map_toArray, List.map_cons, List.map_nil]); first | done | rfl | (simp only [List.length_drop, List.length_take]; rfl)) ?_; (with_reducible refine (spec_StepListOk.calls k _ _ l1 true _ ?side1 ?side2 A3.out).mono ?_); (case side1 => repeat (first | exact HR1.out | (with_reducible refine Kd.C_alloc ?_ _) | (with_reducible refine Kd.C_drewN ?_ _) | (with_reducible refine Kd.C_drew ?_))); (case side2 => exact HC1.out); rintro e w' ⟨rfl, ⟨nd, rfl⟩⟩; refine ⟨_, rfl, ?_⟩) | (go_at_call 59; (with_reducible refine (spec_l01In.calls a0 0 100000 true _ A5.out).mono ?_); rintro e w' ⟨rfl, ⟨nd, rfl⟩⟩) | ((with_reducible refine gate_callee (f := 63) rfl ?_); refine goesL_ (some 15) rfl rfl Try.func63 (by kernel_rfl) rfl #[.int .i64 a0, .slice A1 l1.length c1] rfl (by (try simp only [List.map_toArray, List.map_cons, List.map_nil]); first | done | rfl | (simp only [List.length_drop, List.length_take]; rfl)) ?_; (with_reducible refine (spec_l25Price.calls k a0 _ _ l1 t123 _ ?side1 ?side2 A7.out).mono ?_); (case side1 => repeat (first | exact HR1.out | (with_reducible refine Kd.C_alloc ?_ _) | (with_reducible refine Kd.C_drewN ?_ _) | (with_reducible refine Kd.C_drew ?_))); (case side2 => exact HC1.out); rintro e w' ⟨rfl, ⟨nd, rfl⟩⟩; refine ⟨_, rfl, ?_⟩))
      go_ret
      exact ⟨by first | rfl | (simp; done) | (simp [*]; done), by repeat (first | exact Drawn0.refl _ | apply Drawn0.step)⟩
    · replace c6 := Bool.eq_false_iff.mpr c6
      subst c6
      have H1 : (some (-1)) = some r := by rw [if_neg (show ¬ (false = true) by decide)] at H; exact H
      clear H
      have H := H1
      clear H1
      obtain rfl := Option.some.inj H
      go_enter Try.func22, Try.ntmps22
      go_wp2_with (first | ((with_reducible refine gate_callee (f := 18) rfl ?_); refine goesL_ (some 6) rfl rfl Try.func18 (by kernel_rfl) rfl #[.slice A1 l1.length c1] rfl (by (try simp only [List.map_toArray, List.map_cons, List.map_nil]); first | done | rfl | (simp only [List.length_drop, List.length_take]; rfl)) ?_; (with_reducible refine (spec_StepListOk.calls k _ _ l1 true _ ?side1 ?side2 A3.out).mono ?_); (case side1 => repeat (first | exact HR1.out | (with_reducible refine Kd.C_alloc ?_ _) | (with_reducible refine Kd.C_drewN ?_ _) | (with_reducible refine Kd.C_drew ?_))); (case side2 => exact HC1.out); rintro e w' ⟨rfl, ⟨nd, rfl⟩⟩; refine ⟨_, rfl, ?_⟩) | (go_at_call 59; (with_reducible refine (spec_l01In.calls a0 0 100000 false _ A5.out).mono ?_); rintro e w' ⟨rfl, ⟨nd, rfl⟩⟩))
      go_ret
      exact ⟨by first | rfl | (simp; done) | (simp [*]; done), by repeat (first | exact Drawn0.refl _ | apply Drawn0.step)⟩
  · replace c4 := Bool.eq_false_iff.mpr c4
    subst c4
    have H1 : (some (-1)) = some r := by rw [if_neg (show ¬ (false = true) by decide)] at H; exact H
    clear H
    have H := H1
    clear H1
    obtain rfl := Option.some.inj H
    go_enter Try.func22, Try.ntmps22
    go_wp2_with (first | ((with_reducible refine gate_callee (f := 18) rfl ?_); refine goesL_ (some 6) rfl rfl Try.func18 (by kernel_rfl) rfl #[.slice A1 l1.length c1] rfl (by (try simp only [List.map_toArray, List.map_cons, List.map_nil]); first | done | rfl | (simp only [List.length_drop, List.length_take]; rfl)) ?_; (with_reducible refine (spec_StepListOk.calls k _ _ l1 false _ ?side1 ?side2 A3.out).mono ?_); (case side1 => repeat (first | exact HR1.out | (with_reducible refine Kd.C_alloc ?_ _) | (with_reducible refine Kd.C_drewN ?_ _) | (with_reducible refine Kd.C_drew ?_))); (case side2 => exact HC1.out); rintro e w' ⟨rfl, ⟨nd, rfl⟩⟩; refine ⟨_, rfl, ?_⟩))
    go_ret
    exact ⟨by first | rfl | (simp; done) | (simp [*]; done), by repeat (first | exact Drawn0.refl _ | apply Drawn0.step)⟩

end Go.Proofs.Ytcjliekgkilkoaa.QFnExactCheapestAt
