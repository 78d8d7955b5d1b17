-- Printed for this claim by a changed copy of the kit's print (the session's own; own contracts in place of some functions).
import Derived.Test.YtdiphnkkomfmdaaQFnPricesx0
import Derived.Test.YtdiphnkkomfmdaaQFnPricesx1
namespace Go.Proofs.Ytdiphnkkomfmdaa.QFnPrices
open Go.RowKit Go.Proofs.YtdiphnkkomfmdaaW.PrintWords Go.Proofs.YtdiphnkkomfmdaaW.PrintLast Go.Proofs.YtdiphnkkomfmdaaW.PrintMore
attribute [local go_sem] max2_int min2_int max_two min_two max_three min_three max_four min_four   -- for this text's walks alone
set_option linter.unusedVariables false
set_option linter.unusedSimpArgs false

/-! ### impl_StepListOk: function 32 -/
mutual
def impl_StepListOk.j0 : Nat → List (List Int) → Bool → Option (Bool)
  | 0, _, _ => none
  | k + 1, x0, x12 => if x12 = true then (some false) else (impl_StepListOk.l0 k x0 x0 (x0.length : Int) 0)
def impl_StepListOk.l0 : Nat → List (List Int) → List (List Int) → Int → Int → Option (Bool)
  | 0, _, _, _, _ => none
  | k + 1, x0, x13, x14, x15 => if x15 < x14 then (if 0 ≤ x15 then (if x15 < (x13.length : Int) then (if ((rd_L1 x13 x15).length : Int) = 2 then (if 0 < ((rd_L1 x13 x15).length : Int) then ((impl_within.f (rd (rd_L1 x13 x15) 0) 0 100000).bind fun t169 => (if t169 = true then (if 1 < ((rd_L1 x13 x15).length : Int) then ((impl_within.f (rd (rd_L1 x13 x15) 1) 0 1000).bind fun t171 => (impl_StepListOk.j2 k x0 x15 (rd_L1 x13 x15) x13 x14 x15 (!t171))) else (none)) else (impl_StepListOk.j2 k x0 x15 (rd_L1 x13 x15) x13 x14 x15 true))) else (none)) else (impl_StepListOk.j2 k x0 x15 (rd_L1 x13 x15) x13 x14 x15 true)) else (none)) else (none)) else (some true)
def impl_StepListOk.j2 : Nat → List (List Int) → Int → List Int → List (List Int) → Int → Int → Bool → Option (Bool)
  | 0, _, _, _, _, _, _, _ => none
  | k + 1, x0, x3, x4, x13, x14, x15, x36 => if x36 = true then (some false) else (if x3 = 0 then (if 0 < (x4.length : Int) then (if (rd x4 0) = 0 then (if x3 > 0 then (if 0 ≤ (wrap64 (x3 - 1)) then (if (wrap64 (x3 - 1)) < (x0.length : Int) then (if 0 < ((rd_L1 x0 (wrap64 (x3 - 1))).length : Int) then (if (rd x4 0) ≤ (rd (rd_L1 x0 (wrap64 (x3 - 1))) 0) then (some false) else (if 1 < (x4.length : Int) then (if 1 < ((rd_L1 x0 (wrap64 (x3 - 1))).length : Int) then (if (rd x4 1) > (rd (rd_L1 x0 (wrap64 (x3 - 1))) 1) then (some false) else (impl_StepListOk.l0 k x0 x13 x14 (wrap64 (x15 + 1)))) else (none)) else (none))) else (none)) else (none)) else (none)) else (impl_StepListOk.l0 k x0 x13 x14 (wrap64 (x15 + 1)))) else (some false)) else (none)) else (if x3 > 0 then (if 0 < (x4.length : Int) then (if 0 ≤ (wrap64 (x3 - 1)) then (if (wrap64 (x3 - 1)) < (x0.length : Int) then (if 0 < ((rd_L1 x0 (wrap64 (x3 - 1))).length : Int) then (if (rd x4 0) ≤ (rd (rd_L1 x0 (wrap64 (x3 - 1))) 0) then (some false) else (if 1 < (x4.length : Int) then (if 1 < ((rd_L1 x0 (wrap64 (x3 - 1))).length : Int) then (if (rd x4 1) > (rd (rd_L1 x0 (wrap64 (x3 - 1))) 1) then (some false) else (impl_StepListOk.l0 k x0 x13 x14 (wrap64 (x15 + 1)))) else (none)) else (none))) else (none)) else (none)) else (none)) else (none)) else (impl_StepListOk.l0 k x0 x13 x14 (wrap64 (x15 + 1)))))
end
def impl_StepListOk.f (k : Nat) (l0 : List (List Int)) : Option (Bool) := if (l0.length : Int) < 1 then (impl_StepListOk.j0 k l0 true) else (impl_StepListOk.j0 k l0 (decide ((l0.length : Int) > 6)))
theorem impl_StepListOk.mono_l : ∀ k, (∀ y0 y1, LeO (impl_StepListOk.j0 k y0 y1) (impl_StepListOk.j0 (k + 1) y0 y1)) ∧ (∀ y0 y1 y2 y3, LeO (impl_StepListOk.l0 k y0 y1 y2 y3) (impl_StepListOk.l0 (k + 1) y0 y1 y2 y3)) ∧ (∀ y0 y1 y2 y3 y4 y5 y6, LeO (impl_StepListOk.j2 k y0 y1 y2 y3 y4 y5 y6) (impl_StepListOk.j2 (k + 1) y0 y1 y2 y3 y4 y5 y6))
  | 0 => ⟨fun _ _ r h => by simp [impl_StepListOk.j0] at h, fun _ _ _ _ r h => by simp [impl_StepListOk.l0] at h, fun _ _ _ _ _ _ _ r h => by simp [impl_StepListOk.j2] at h⟩
  | k + 1 => by
    obtain ⟨ih0, ih1, ih2⟩ := impl_StepListOk.mono_l k
    refine ⟨?_, ?_, ?_⟩
    · intro y0 y1
      unfold impl_StepListOk.j0
      repeat' first
      | (with_reducible exact ih0 _ _)
      | (with_reducible exact ih1 _ _ _ _)
      | (with_reducible exact ih2 _ _ _ _ _ _ _)
      | (with_reducible exact LeO.refl _)
      | (with_reducible exact LeO.none _)
      | (with_reducible refine LeO.ite ?_ ?_)
      | (with_reducible refine LeO.bind ?_ (fun _ => ?_))
      | exact ih0 _ _
      | exact ih1 _ _ _ _
      | exact ih2 _ _ _ _ _ _ _
      | exact LeO.none _
      | refine LeO.ite ?_ ?_
      | refine LeO.bind ?_ (fun _ => ?_)
    · intro y0 y1 y2 y3
      unfold impl_StepListOk.l0
      repeat' first
      | (with_reducible exact ih0 _ _)
      | (with_reducible exact ih1 _ _ _ _)
      | (with_reducible exact ih2 _ _ _ _ _ _ _)
      | (with_reducible exact LeO.refl _)
      | (with_reducible exact LeO.none _)
      | (with_reducible refine LeO.ite ?_ ?_)
      | (with_reducible refine LeO.bind ?_ (fun _ => ?_))
      | exact ih0 _ _
      | exact ih1 _ _ _ _
      | exact ih2 _ _ _ _ _ _ _
      | exact LeO.none _
      | refine LeO.ite ?_ ?_
      | refine LeO.bind ?_ (fun _ => ?_)
    · intro y0 y1 y2 y3 y4 y5 y6
      unfold impl_StepListOk.j2
      repeat' first
      | (with_reducible exact ih0 _ _)
      | (with_reducible exact ih1 _ _ _ _)
      | (with_reducible exact ih2 _ _ _ _ _ _ _)
      | (with_reducible exact LeO.refl _)
      | (with_reducible exact LeO.none _)
      | (with_reducible refine LeO.ite ?_ ?_)
      | (with_reducible refine LeO.bind ?_ (fun _ => ?_))
      | exact ih0 _ _
      | exact ih1 _ _ _ _
      | exact ih2 _ _ _ _ _ _ _
      | exact LeO.none _
      | refine LeO.ite ?_ ?_
      | refine LeO.bind ?_ (fun _ => ?_)
theorem impl_StepListOk.mono : ∀ a0 k, LeO (impl_StepListOk.f k a0) (impl_StepListOk.f (k + 1) a0) := by
  intro a0 k
  obtain ⟨ih0, ih1, ih2⟩ := impl_StepListOk.mono_l k
  unfold impl_StepListOk.f
  repeat' first
      | (with_reducible exact ih0 _ _)
      | (with_reducible exact ih1 _ _ _ _)
      | (with_reducible exact ih2 _ _ _ _ _ _ _)
      | (with_reducible exact LeO.refl _)
      | (with_reducible exact LeO.none _)
      | (with_reducible refine LeO.ite ?_ ?_)
      | (with_reducible refine LeO.bind ?_ (fun _ => ?_))
      | exact ih0 _ _
      | exact ih1 _ _ _ _
      | exact ih2 _ _ _ _ _ _ _
      | exact LeO.none _
      | refine LeO.ite ?_ ?_
      | refine LeO.bind ?_ (fun _ => ?_)
set_option maxHeartbeats 8000000 in
set_option maxRecDepth 100000 in
theorem impl_StepListOk.calls (k : Nat) (A0 : Option Addr) (c0 : Nat) (l0 : List (List Int)) (r : Bool) (w : World) (hr0 : Kd.C (Kd.slice 3 (Kd.int .i64)) w A0 l0.length l0) (hc0 : l0.length ≤ c0) (h : impl_StepListOk.f k l0 = some r) :
    Calls Try.prog 32 #[.slice A0 l0.length c0] w fun e w' => e = .returned (.bool r) ∧ Drawn0 w w' := by
  have HR0 := Aside0.mk hr0
  have HC0 := Aside0.mk hc0
  clear hr0 hc0
  have H : (if (l0.length : Int) < 1 then (impl_StepListOk.j0 k l0 true) else (impl_StepListOk.j0 k l0 (decide ((l0.length : Int) > 6)))) = some r := h
  clear h
  have HC2 := Aside0.mk H
  clear H
  go_enter Try.func32, Try.ntmps32
  go_upto_region 1 with (fail)
  repeat (go_quiet (fail); go_upto_region 1 with (fail))
  go_cut [12] (fun v12 wc => ∃ (kq : Nat) (x12_1 : Bool), v12 = .bool x12_1 ∧ Aside0 (impl_StepListOk.j0 kq l0 x12_1 = some r) ∧ Aside0 (kq ≤ k) ∧ Drawn0 w wc)
  case first =>
    have H := HC2.out
    clear HC2
    by_cases c3 : (l0.length : Int) < 1
    · rw [if_pos c3] at H
      have c3b0 : decide ((l0.length : Int) < 1) = true := decide_eq_true c3
      have c3b1 : decide (l0.length < 1) = true := decide_eq_true (by omega)
      clear c3
      (first | rw [c3b0] | (simp only [i64_w, i32_w]; rw [c3b0]) | skip)
      have H' := Aside0.mk H
      clear H
      go_wp2
      repeat (go_quiet (fail); try go_wp2)
      go_meet
      case rel => exact ⟨_, (true), (by first | rfl | (simp; done) | (simp [*]; done)), H', ⟨by first | omega | exact Nat.le_refl _⟩, by repeat (first | exact Drawn0.refl _ | apply Drawn0.step)⟩
    · rw [if_neg c3] at H
      have c3b0 : decide ((l0.length : Int) < 1) = false := decide_eq_false c3
      have c3b1 : decide (l0.length < 1) = false := decide_eq_false (by omega)
      clear c3
      (first | rw [c3b0] | (simp only [i64_w, i32_w]; rw [c3b0]) | skip)
      have H' := Aside0.mk H
      clear H
      go_wp2
      repeat (go_quiet (fail); try go_wp2)
      go_meet
      case rel => exact ⟨_, (decide ((l0.length : Int) > 6)), (by first | rfl | (simp; done) | (simp [*]; done)), H', ⟨by first | omega | exact Nat.le_refl _⟩, by repeat (first | exact Drawn0.refl _ | apply Drawn0.step)⟩
  case rest =>
    clear HC2
    try clear p2
    try clear c3
    try clear c3b0
    try clear c3b1
    obtain ⟨kq, x12_1, rfl, HA, HJ1, ⟨mc1, rfl⟩⟩ := hcut
    cases kq with
    | zero => exact absurd HA.out (by simp [impl_StepListOk.j0])
    | succ kj1 =>
      have H := HA.out
      clear HA
      simp only [impl_StepListOk.j0] at H
      by_cases c4 : x12_1 = true
      · subst c4
        have H1 : (some false) = some r := by rw [if_pos rfl] at H; exact H
        clear H
        have H := H1
        clear H1
        obtain rfl := Option.some.inj H
        go_wp2
        repeat (go_quiet (fail); try go_wp2)
        go_ret
        exact ⟨by first | rfl | (simp; done) | (simp [*]; done), by repeat (first | exact Drawn0.refl _ | apply Drawn0.step)⟩
      · replace c4 := Bool.eq_false_iff.mpr c4
        subst c4
        have H1 : (impl_StepListOk.l0 kj1 l0 l0 (l0.length : Int) 0) = some r := by rw [if_neg (show ¬ (false = true) by decide)] at H; exact H
        clear H
        have H := H1
        clear H1
        have H' := Aside0.mk H
        clear H
        go_wp2
        repeat (go_quiet (fail); try go_wp2)
        go_loopg [15] kj1 (fun kq v15 w' => ∃ (x15_2 : Int), v15 = .int .i64 x15_2 ∧ Aside0 (impl_StepListOk.l0 kq l0 l0 (l0.length : Int) x15_2 = some r) ∧ Aside0 (kq ≤ kj1) ∧ Drawn0 w w')
        case atStart => exact ⟨(0), (by first | rfl | (simp; done) | (simp [*]; done)), H', ⟨Nat.le_refl _⟩, by repeat (first | exact Drawn0.refl _ | apply Drawn0.step)⟩
        case round =>
          clear H'
          try clear c1
          try clear p2
          try clear c3
          try clear c3b0
          try clear c3b1
          try clear c4
          try clear p2
          obtain ⟨x15_2, rfl, HA, HK2, ⟨m2, rfl⟩⟩ := hrel
          cases gk with
          | zero => exact absurd HA.out (by simp [impl_StepListOk.l0])
          | succ k2 =>
            have H := HA.out
            clear HA
            simp only [impl_StepListOk.l0] at H
            by_cases c5 : x15_2 < (l0.length : Int)
            · rw [if_pos c5] at H
              have c5b0 : decide (x15_2 < (l0.length : Int)) = true := decide_eq_true c5
              clear c5
              by_cases c6 : 0 ≤ x15_2
              · rw [if_pos c6] at H
                have c6b0 : decide (0 ≤ x15_2) = true := decide_eq_true c6
                clear c6
                by_cases c7 : x15_2 < (l0.length : Int)
                · rw [if_pos c7] at H
                  have c7b0 : decide (x15_2 < (l0.length : Int)) = true := decide_eq_true c7
                  clear c7
                  have HC8 := Aside0.mk H
                  clear H
                  have p167 : 0 ≤ (x15_2 : Int) := of_decide_eq_true (by first | (with_reducible assumption) | assumption)
                  have q167 : x15_2 < (l0.length : Int) := of_decide_eq_true (by first | (with_reducible assumption) | assumption)
                  obtain ⟨ad167, A167_0, c167_0, e167, hx167_0, hl167_0, hi167_0⟩ := at_L1 HR0.out x15_2 p167 q167
                  cases e167
                  have HR167_0 := Aside0.mk hi167_0
                  have HC167_0 := Aside0.mk hl167_0
                  clear hi167_0 hl167_0
                  replace p167 := eq_true p167
                  replace q167 := eq_true q167
                  go_upto_region 6 with (fail)
                  repeat (go_quiet (fail); go_upto_region 6 with (fail))
                  go_cut [36] (fun v36 wc => ∃ (kq : Nat) (x36_7 : Bool), v36 = .bool x36_7 ∧ Aside0 (impl_StepListOk.j2 kq l0 x15_2 (rd_L1 l0 x15_2) l0 (l0.length : Int) x15_2 x36_7 = some r) ∧ Aside0 (kq ≤ k2) ∧ Drawn0 w wc)
                  case first =>
                    have H := HC8.out
                    clear HC8
                    by_cases c9 : ((rd_L1 l0 x15_2).length : Int) = 2
                    · rw [if_pos c9] at H
                      have c9b0 : (((rd_L1 l0 x15_2).length : Int) == 2) = true := beq_iff_eq.mpr c9
                      have c9b1 : (((rd_L1 l0 x15_2).length : Int) != 2) = false := bne_eq_false_iff_eq.mpr c9
                      clear c9
                      (first | rw [c9b0] | (simp only [i64_w, i32_w]; rw [c9b0]) | skip)
                      by_cases c10 : 0 < ((rd_L1 l0 x15_2).length : Int)
                      · rw [if_pos c10] at H
                        have c10b0 : decide (0 < ((rd_L1 l0 x15_2).length : Int)) = true := decide_eq_true c10
                        have c10b1 : decide (0 < (rd_L1 l0 x15_2).length) = true := decide_eq_true (by omega)
                        clear c10
                        replace H := Option.bind_eq_some_iff.mp H
                        obtain ⟨t169, A110, H⟩ := H
                        replace H : (if t169 = true then (if 1 < ((rd_L1 l0 x15_2).length : Int) then ((impl_within.f (rd (rd_L1 l0 x15_2) 1) 0 1000).bind fun t171 => (impl_StepListOk.j2 k2 l0 x15_2 (rd_L1 l0 x15_2) l0 (l0.length : Int) x15_2 (!t171))) else (none)) else (impl_StepListOk.j2 k2 l0 x15_2 (rd_L1 l0 x15_2) l0 (l0.length : Int) x15_2 true)) = some r := H
                        have A11 := Aside0.mk A110
                        clear A110
                        by_cases c12 : t169 = true
                        · subst c12
                          have H1 : (if 1 < ((rd_L1 l0 x15_2).length : Int) then ((impl_within.f (rd (rd_L1 l0 x15_2) 1) 0 1000).bind fun t171 => (impl_StepListOk.j2 k2 l0 x15_2 (rd_L1 l0 x15_2) l0 (l0.length : Int) x15_2 (!t171))) else (none)) = some r := by rw [if_pos rfl] at H; exact H
                          clear H
                          have H := H1
                          clear H1
                          by_cases c13 : 1 < ((rd_L1 l0 x15_2).length : Int)
                          · rw [if_pos c13] at H
                            have c13b0 : decide (1 < ((rd_L1 l0 x15_2).length : Int)) = true := decide_eq_true c13
                            have c13b1 : decide (1 < (rd_L1 l0 x15_2).length) = true := decide_eq_true (by omega)
                            clear c13
                            replace H := Option.bind_eq_some_iff.mp H
                            obtain ⟨t171, A140, H⟩ := H
                            replace H : (impl_StepListOk.j2 k2 l0 x15_2 (rd_L1 l0 x15_2) l0 (l0.length : Int) x15_2 (!t171)) = some r := H
                            have A14 := Aside0.mk A140
                            clear A140
                            have H' := Aside0.mk H
                            clear H
                            have p168 : 0 ≤ (0 : Int) := (by omega)
                            have q168 : 0 < ((rd_L1 l0 x15_2).length : Int) := of_decide_eq_true (by first | (with_reducible assumption) | assumption)
                            obtain ⟨ad168, e168, hx168_0⟩ := Kd.at_int HR167_0.out 0 p168 q168
                            cases e168
                            have qi168 : (0 < (rd_L1 l0 x15_2).length) = True := eq_true (by omega)
                            (try rw [show ((0 : Int)).toNat = 0 from rfl] at hx168_0)
                            (try rw [Addr.add_zero'] at hx168_0)
                            replace p168 := eq_true p168
                            replace q168 := eq_true q168
                            go_wp2_with (first | (go_at_call 76; (with_reducible refine (impl_within.calls (rd (rd_L1 l0 x15_2) 0) 0 100000 true _ A11.out).mono ?_); rintro e w' ⟨rfl, ⟨nd, rfl⟩⟩; (try first | exact ⟨rfl, _, World.drewN_drewN _ _ _⟩ | exact ⟨rfl, _, Eq.trans (World.drewN_drewN _ _ _) (congrArg (World.drewN _) (Nat.add_assoc _ _ _))⟩); have p170 : 0 ≤ (1 : Int) := (by omega); have q170 : 1 < ((rd_L1 l0 x15_2).length : Int) := of_decide_eq_true (by first | (with_reducible assumption) | assumption); obtain ⟨ad170, e170, hx170_0⟩ := Kd.at_int HR167_0.out 1 p170 q170; obtain rfl : ad168 = ad170 := (by injection e170); (try simp only [show (1 : Int).toNat = 1 from rfl, Nat.reduceMul, Nat.reduceEqDiff, Go.Addr.add, ↓reduceIte] at hx170_0); have qi170 : (1 < (rd_L1 l0 x15_2).length) = True := eq_true (by omega); (try rw [show ((1 : Int)).toNat = 1 from rfl] at hx170_0); replace p170 := eq_true p170; replace q170 := eq_true q170) | (go_at_call 76; (with_reducible refine (impl_within.calls (rd (rd_L1 l0 x15_2) 1) 0 1000 t171 _ A14.out).mono ?_); rintro e w' ⟨rfl, ⟨nd, rfl⟩⟩; (try first | exact ⟨rfl, _, World.drewN_drewN _ _ _⟩ | exact ⟨rfl, _, Eq.trans (World.drewN_drewN _ _ _) (congrArg (World.drewN _) (Nat.add_assoc _ _ _))⟩)))
                            repeat (go_quiet (first | (go_at_call 76; (with_reducible refine (impl_within.calls (rd (rd_L1 l0 x15_2) 0) 0 100000 true _ A11.out).mono ?_); rintro e w' ⟨rfl, ⟨nd, rfl⟩⟩; (try first | exact ⟨rfl, _, World.drewN_drewN _ _ _⟩ | exact ⟨rfl, _, Eq.trans (World.drewN_drewN _ _ _) (congrArg (World.drewN _) (Nat.add_assoc _ _ _))⟩); have p170 : 0 ≤ (1 : Int) := (by omega); have q170 : 1 < ((rd_L1 l0 x15_2).length : Int) := of_decide_eq_true (by first | (with_reducible assumption) | assumption); obtain ⟨ad170, e170, hx170_0⟩ := Kd.at_int HR167_0.out 1 p170 q170; obtain rfl : ad168 = ad170 := (by injection e170); (try simp only [show (1 : Int).toNat = 1 from rfl, Nat.reduceMul, Nat.reduceEqDiff, Go.Addr.add, ↓reduceIte] at hx170_0); have qi170 : (1 < (rd_L1 l0 x15_2).length) = True := eq_true (by omega); (try rw [show ((1 : Int)).toNat = 1 from rfl] at hx170_0); replace p170 := eq_true p170; replace q170 := eq_true q170) | (go_at_call 76; (with_reducible refine (impl_within.calls (rd (rd_L1 l0 x15_2) 1) 0 1000 t171 _ A14.out).mono ?_); rintro e w' ⟨rfl, ⟨nd, rfl⟩⟩; (try first | exact ⟨rfl, _, World.drewN_drewN _ _ _⟩ | exact ⟨rfl, _, Eq.trans (World.drewN_drewN _ _ _) (congrArg (World.drewN _) (Nat.add_assoc _ _ _))⟩))); try go_wp2_with (first | (go_at_call 76; (with_reducible refine (impl_within.calls (rd (rd_L1 l0 x15_2) 0) 0 100000 true _ A11.out).mono ?_); rintro e w' ⟨rfl, ⟨nd, rfl⟩⟩; (try first | exact ⟨rfl, _, World.drewN_drewN _ _ _⟩ | exact ⟨rfl, _, Eq.trans (World.drewN_drewN _ _ _) (congrArg (World.drewN _) (Nat.add_assoc _ _ _))⟩); have p170 : 0 ≤ (1 : Int) := (by omega); have q170 : 1 < ((rd_L1 l0 x15_2).length : Int) := of_decide_eq_true (by first | (with_reducible assumption) | assumption); obtain ⟨ad170, e170, hx170_0⟩ := Kd.at_int HR167_0.out 1 p170 q170; obtain rfl : ad168 = ad170 := (by injection e170); (try simp only [show (1 : Int).toNat = 1 from rfl, Nat.reduceMul, Nat.reduceEqDiff, Go.Addr.add, ↓reduceIte] at hx170_0); have qi170 : (1 < (rd_L1 l0 x15_2).length) = True := eq_true (by omega); (try rw [show ((1 : Int)).toNat = 1 from rfl] at hx170_0); replace p170 := eq_true p170; replace q170 := eq_true q170) | (go_at_call 76; (with_reducible refine (impl_within.calls (rd (rd_L1 l0 x15_2) 1) 0 1000 t171 _ A14.out).mono ?_); rintro e w' ⟨rfl, ⟨nd, rfl⟩⟩; (try first | exact ⟨rfl, _, World.drewN_drewN _ _ _⟩ | exact ⟨rfl, _, Eq.trans (World.drewN_drewN _ _ _) (congrArg (World.drewN _) (Nat.add_assoc _ _ _))⟩))))
                            go_meet
                            case rel => exact ⟨_, (!t171), (by first | rfl | (simp; done) | (simp [*]; done)), H', ⟨by have := HJ1.out; have := HK2.out; first | omega | exact Nat.le_refl _⟩, by repeat (first | exact Drawn0.refl _ | apply Drawn0.step)⟩
                          · rw [if_neg c13] at H
                            exact absurd H (by simp)
                        · replace c12 := Bool.eq_false_iff.mpr c12
                          subst c12
                          have H1 : (impl_StepListOk.j2 k2 l0 x15_2 (rd_L1 l0 x15_2) l0 (l0.length : Int) x15_2 true) = some r := by rw [if_neg (show ¬ (false = true) by decide)] at H; exact H
                          clear H
                          have H := H1
                          clear H1
                          have H' := Aside0.mk H
                          clear H
                          have p168 : 0 ≤ (0 : Int) := (by omega)
                          have q168 : 0 < ((rd_L1 l0 x15_2).length : Int) := of_decide_eq_true (by first | (with_reducible assumption) | assumption)
                          obtain ⟨ad168, e168, hx168_0⟩ := Kd.at_int HR167_0.out 0 p168 q168
                          cases e168
                          have qi168 : (0 < (rd_L1 l0 x15_2).length) = True := eq_true (by omega)
                          (try rw [show ((0 : Int)).toNat = 0 from rfl] at hx168_0)
                          (try rw [Addr.add_zero'] at hx168_0)
                          replace p168 := eq_true p168
                          replace q168 := eq_true q168
                          go_wp2_with (first | (go_at_call 76; (with_reducible refine (impl_within.calls (rd (rd_L1 l0 x15_2) 0) 0 100000 false _ A11.out).mono ?_); rintro e w' ⟨rfl, ⟨nd, rfl⟩⟩; (try first | exact ⟨rfl, _, World.drewN_drewN _ _ _⟩ | exact ⟨rfl, _, Eq.trans (World.drewN_drewN _ _ _) (congrArg (World.drewN _) (Nat.add_assoc _ _ _))⟩)))
                          repeat (go_quiet (first | (go_at_call 76; (with_reducible refine (impl_within.calls (rd (rd_L1 l0 x15_2) 0) 0 100000 false _ A11.out).mono ?_); rintro e w' ⟨rfl, ⟨nd, rfl⟩⟩; (try first | exact ⟨rfl, _, World.drewN_drewN _ _ _⟩ | exact ⟨rfl, _, Eq.trans (World.drewN_drewN _ _ _) (congrArg (World.drewN _) (Nat.add_assoc _ _ _))⟩))); try go_wp2_with (first | (go_at_call 76; (with_reducible refine (impl_within.calls (rd (rd_L1 l0 x15_2) 0) 0 100000 false _ A11.out).mono ?_); rintro e w' ⟨rfl, ⟨nd, rfl⟩⟩; (try first | exact ⟨rfl, _, World.drewN_drewN _ _ _⟩ | exact ⟨rfl, _, Eq.trans (World.drewN_drewN _ _ _) (congrArg (World.drewN _) (Nat.add_assoc _ _ _))⟩))))
                          go_meet
                          case rel => exact ⟨_, (true), (by first | rfl | (simp; done) | (simp [*]; done)), H', ⟨by have := HJ1.out; have := HK2.out; first | omega | exact Nat.le_refl _⟩, by repeat (first | exact Drawn0.refl _ | apply Drawn0.step)⟩
                      · rw [if_neg c10] at H
                        exact absurd H (by simp)
                    · rw [if_neg c9] at H
                      have c9b0 : (((rd_L1 l0 x15_2).length : Int) == 2) = false := beq_eq_false_iff_ne.mpr c9
                      have c9b1 : (((rd_L1 l0 x15_2).length : Int) != 2) = true := bne_iff_ne.mpr c9
                      (first | rw [c9b0] | (simp only [i64_w, i32_w]; rw [c9b0]) | skip)
                      have H' := Aside0.mk H
                      clear H
                      go_wp2
                      repeat (go_quiet (fail); try go_wp2)
                      go_meet
                      case rel => exact ⟨_, (true), (by first | rfl | (simp; done) | (simp [*]; done)), H', ⟨by have := HJ1.out; have := HK2.out; first | omega | exact Nat.le_refl _⟩, by repeat (first | exact Drawn0.refl _ | apply Drawn0.step)⟩
                  case rest =>
                    clear HC8
                    try clear c1
                    try clear p1
                    try clear q1
                    try clear hx1
                    try clear qi1
                    try clear p2
                    try clear c3
                    try clear c3b0
                    try clear c3b1
                    try clear c4
                    try clear c5
                    try clear c5b0
                    try clear c6
                    try clear c6b0
                    try clear c7
                    try clear c7b0
                    try clear c9
                    try clear c9b0
                    try clear c9b1
                    try clear c10
                    try clear c10b0
                    try clear c10b1
                    try clear c12
                    try clear c13
                    try clear c13b0
                    try clear c13b1
                    try clear hx167_0
                    try clear hx168_0
                    try clear hx170_0
                    try clear p167
                    try clear p168
                    try clear p170
                    try clear p2
                    try clear q167
                    try clear q168
                    try clear q170
                    obtain ⟨kq, x36_7, rfl, HA, HJ7, ⟨mc7, rfl⟩⟩ := hcut
                    cases kq with
                    | zero => exact absurd HA.out (by simp [impl_StepListOk.j2])
                    | succ kj7 =>
                      have H := HA.out
                      clear HA
                      simp only [impl_StepListOk.j2] at H
                      by_cases c15 : x36_7 = true
                      · subst c15
                        have H1 : (some false) = some r := by rw [if_pos rfl] at H; exact H
                        clear H
                        have H := H1
                        clear H1
                        obtain rfl := Option.some.inj H
                        go_wp2
                        repeat (go_quiet (fail); try go_wp2)
                        go_ret
                        exact ⟨by first | rfl | (simp; done) | (simp [*]; done), by repeat (first | exact Drawn0.refl _ | apply Drawn0.step)⟩
                      · replace c15 := Bool.eq_false_iff.mpr c15
                        subst c15
                        have H1 : (if x15_2 = 0 then (if 0 < ((rd_L1 l0 x15_2).length : Int) then (if (rd (rd_L1 l0 x15_2) 0) = 0 then (if x15_2 > 0 then (if 0 ≤ (wrap64 (x15_2 - 1)) then (if (wrap64 (x15_2 - 1)) < (l0.length : Int) then (if 0 < ((rd_L1 l0 (wrap64 (x15_2 - 1))).length : Int) then (if (rd (rd_L1 l0 x15_2) 0) ≤ (rd (rd_L1 l0 (wrap64 (x15_2 - 1))) 0) then (some false) else (if 1 < ((rd_L1 l0 x15_2).length : Int) then (if 1 < ((rd_L1 l0 (wrap64 (x15_2 - 1))).length : Int) then (if (rd (rd_L1 l0 x15_2) 1) > (rd (rd_L1 l0 (wrap64 (x15_2 - 1))) 1) then (some false) else (impl_StepListOk.l0 kj7 l0 l0 (l0.length : Int) (wrap64 (x15_2 + 1)))) else (none)) else (none))) else (none)) else (none)) else (none)) else (impl_StepListOk.l0 kj7 l0 l0 (l0.length : Int) (wrap64 (x15_2 + 1)))) else (some false)) else (none)) else (if x15_2 > 0 then (if 0 < ((rd_L1 l0 x15_2).length : Int) then (if 0 ≤ (wrap64 (x15_2 - 1)) then (if (wrap64 (x15_2 - 1)) < (l0.length : Int) then (if 0 < ((rd_L1 l0 (wrap64 (x15_2 - 1))).length : Int) then (if (rd (rd_L1 l0 x15_2) 0) ≤ (rd (rd_L1 l0 (wrap64 (x15_2 - 1))) 0) then (some false) else (if 1 < ((rd_L1 l0 x15_2).length : Int) then (if 1 < ((rd_L1 l0 (wrap64 (x15_2 - 1))).length : Int) then (if (rd (rd_L1 l0 x15_2) 1) > (rd (rd_L1 l0 (wrap64 (x15_2 - 1))) 1) then (some false) else (impl_StepListOk.l0 kj7 l0 l0 (l0.length : Int) (wrap64 (x15_2 + 1)))) else (none)) else (none))) else (none)) else (none)) else (none)) else (none)) else (impl_StepListOk.l0 kj7 l0 l0 (l0.length : Int) (wrap64 (x15_2 + 1))))) = some r := by rw [if_neg (show ¬ (false = true) by decide)] at H; exact H
                        clear H
                        have H := H1
                        clear H1
                        by_cases c16 : x15_2 = 0
                        · rw [if_pos c16] at H
                          have c16b0 : (x15_2 == 0) = true := beq_iff_eq.mpr c16
                          have c16b1 : (x15_2 != 0) = false := bne_eq_false_iff_eq.mpr c16
                          clear c16
                          by_cases c17 : 0 < ((rd_L1 l0 x15_2).length : Int)
                          · rw [if_pos c17] at H
                            have c17b0 : decide (0 < ((rd_L1 l0 x15_2).length : Int)) = true := decide_eq_true c17
                            have c17b1 : decide (0 < (rd_L1 l0 x15_2).length) = true := decide_eq_true (by omega)
                            clear c17
                            by_cases c18 : (rd (rd_L1 l0 x15_2) 0) = 0
                            · rw [if_pos c18] at H
                              have c18b0 : ((rd (rd_L1 l0 x15_2) 0) == 0) = true := beq_iff_eq.mpr c18
                              have c18b1 : ((rd (rd_L1 l0 x15_2) 0) != 0) = false := bne_eq_false_iff_eq.mpr c18
                              clear c18
                              by_cases c19 : x15_2 > 0
                              · rw [if_pos c19] at H
                                have c19b0 : decide (0 < x15_2) = true := decide_eq_true c19
                                clear c19
                                obtain ⟨ji20, hji20⟩ : ∃ j_ : Int, (wrap64 (x15_2 - 1)) = j_ := ⟨_, rfl⟩
                                replace H : (if 0 ≤ (ji20) then (if (ji20) < (l0.length : Int) then (if 0 < ((rd_L1 l0 (ji20)).length : Int) then (if (rd (rd_L1 l0 x15_2) 0) ≤ (rd (rd_L1 l0 (ji20)) 0) then (some false) else (if 1 < ((rd_L1 l0 x15_2).length : Int) then (if 1 < ((rd_L1 l0 (ji20)).length : Int) then (if (rd (rd_L1 l0 x15_2) 1) > (rd (rd_L1 l0 (ji20)) 1) then (some false) else (impl_StepListOk.l0 kj7 l0 l0 (l0.length : Int) (wrap64 (x15_2 + 1)))) else (none)) else (none))) else (none)) else (none)) else (none)) = some r := by first | (rw [hji20] at H; exact H) | (simp only [hji20] at H ⊢; exact H)
                                have hji20w : (IntKind.i64.wrap (x15_2 - 1)) = ji20 := (i64_w _).trans hji20
                                by_cases c21 : 0 ≤ (ji20)
                                · rw [if_pos c21] at H
                                  have c21b0 : decide (0 ≤ (ji20)) = true := decide_eq_true c21
                                  clear c21
                                  by_cases c22 : (ji20) < (l0.length : Int)
                                  · rw [if_pos c22] at H
                                    have c22b0 : decide ((ji20) < (l0.length : Int)) = true := decide_eq_true c22
                                    clear c22
                                    by_cases c23 : 0 < ((rd_L1 l0 (ji20)).length : Int)
                                    · rw [if_pos c23] at H
                                      have c23b0 : decide (0 < ((rd_L1 l0 (ji20)).length : Int)) = true := decide_eq_true c23
                                      have c23b1 : decide (0 < (rd_L1 l0 (ji20)).length) = true := decide_eq_true (by omega)
                                      clear c23
                                      by_cases c24 : (rd (rd_L1 l0 x15_2) 0) ≤ (rd (rd_L1 l0 (ji20)) 0)
                                      · rw [if_pos c24] at H
                                        have c24b0 : decide ((rd (rd_L1 l0 x15_2) 0) ≤ (rd (rd_L1 l0 (ji20)) 0)) = true := decide_eq_true c24
                                        clear c24
                                        obtain rfl := Option.some.inj H
                                        have p172 : 0 ≤ (0 : Int) := (by omega)
                                        have q172 : 0 < ((rd_L1 l0 x15_2).length : Int) := of_decide_eq_true (by first | (with_reducible assumption) | assumption)
                                        obtain ⟨ad172, e172, hx172_0⟩ := Kd.at_int HR167_0.out 0 p172 q172
                                        cases e172
                                        have qi172 : (0 < (rd_L1 l0 x15_2).length) = True := eq_true (by omega)
                                        (try rw [show ((0 : Int)).toNat = 0 from rfl] at hx172_0)
                                        (try rw [Addr.add_zero'] at hx172_0)
                                        replace p172 := eq_true p172
                                        replace q172 := eq_true q172
                                        have p173 : 0 ≤ (0 : Int) := (by omega)
                                        have q173 : 0 < ((rd_L1 l0 x15_2).length : Int) := of_decide_eq_true (by first | (with_reducible assumption) | assumption)
                                        obtain ⟨ad173, e173, hx173_0⟩ := Kd.at_int HR167_0.out 0 p173 q173
                                        obtain rfl : ad172 = ad173 := (by injection e173)
                                        have qi173 : (0 < (rd_L1 l0 x15_2).length) = True := eq_true (by omega)
                                        (try rw [show ((0 : Int)).toNat = 0 from rfl] at hx173_0)
                                        (try rw [Addr.add_zero'] at hx173_0)
                                        replace p173 := eq_true p173
                                        replace q173 := eq_true q173
                                        have p174 : 0 ≤ ((ji20) : Int) := of_decide_eq_true (by first | (with_reducible assumption) | assumption)
                                        have q174 : (ji20) < (l0.length : Int) := of_decide_eq_true (by first | (with_reducible assumption) | assumption)
                                        obtain ⟨ad174, A174_0, c174_0, e174, hx174_0, hl174_0, hi174_0⟩ := at_L1 HR0.out (ji20) p174 q174
                                        obtain rfl : ad167 = ad174 := (by injection e174)
                                        have HR174_0 := Aside0.mk hi174_0
                                        have HC174_0 := Aside0.mk hl174_0
                                        clear hi174_0 hl174_0
                                        replace p174 := eq_true p174
                                        replace q174 := eq_true q174
                                        have p175 : 0 ≤ (0 : Int) := (by omega)
                                        have q175 : 0 < ((rd_L1 l0 (ji20)).length : Int) := of_decide_eq_true (by first | (with_reducible assumption) | assumption)
                                        obtain ⟨ad175, e175, hx175_0⟩ := Kd.at_int HR174_0.out 0 p175 q175
                                        cases e175
                                        have qi175 : (0 < (rd_L1 l0 (ji20)).length) = True := eq_true (by omega)
                                        (try rw [show ((0 : Int)).toNat = 0 from rfl] at hx175_0)
                                        (try rw [Addr.add_zero'] at hx175_0)
                                        replace p175 := eq_true p175
                                        replace q175 := eq_true q175
                                        go_wp2
                                        repeat (go_quiet (fail); try go_wp2)
                                        go_ret
                                        exact ⟨by first | rfl | (simp; done) | ((simp only [← hji20] <;> (first | rfl | simp)); done) | (simp [*]; done), by repeat (first | exact Drawn0.refl _ | apply Drawn0.step)⟩
                                      · rw [if_neg c24] at H
                                        have c24b0 : decide ((rd (rd_L1 l0 x15_2) 0) ≤ (rd (rd_L1 l0 (ji20)) 0)) = false := decide_eq_false c24
                                        clear c24
                                        by_cases c25 : 1 < ((rd_L1 l0 x15_2).length : Int)
                                        · rw [if_pos c25] at H
                                          have c25b0 : decide (1 < ((rd_L1 l0 x15_2).length : Int)) = true := decide_eq_true c25
                                          have c25b1 : decide (1 < (rd_L1 l0 x15_2).length) = true := decide_eq_true (by omega)
                                          clear c25
                                          by_cases c26 : 1 < ((rd_L1 l0 (ji20)).length : Int)
                                          · rw [if_pos c26] at H
                                            have c26b0 : decide (1 < ((rd_L1 l0 (ji20)).length : Int)) = true := decide_eq_true c26
                                            have c26b1 : decide (1 < (rd_L1 l0 (ji20)).length) = true := decide_eq_true (by omega)
                                            clear c26
                                            by_cases c27 : (rd (rd_L1 l0 x15_2) 1) > (rd (rd_L1 l0 (ji20)) 1)
                                            · rw [if_pos c27] at H
                                              have c27b0 : decide ((rd (rd_L1 l0 (ji20)) 1) < (rd (rd_L1 l0 x15_2) 1)) = true := decide_eq_true c27
                                              clear c27
                                              obtain rfl := Option.some.inj H
                                              have p172 : 0 ≤ (0 : Int) := (by omega)
                                              have q172 : 0 < ((rd_L1 l0 x15_2).length : Int) := of_decide_eq_true (by first | (with_reducible assumption) | assumption)
                                              obtain ⟨ad172, e172, hx172_0⟩ := Kd.at_int HR167_0.out 0 p172 q172
                                              cases e172
                                              have qi172 : (0 < (rd_L1 l0 x15_2).length) = True := eq_true (by omega)
                                              (try rw [show ((0 : Int)).toNat = 0 from rfl] at hx172_0)
                                              (try rw [Addr.add_zero'] at hx172_0)
                                              replace p172 := eq_true p172
                                              replace q172 := eq_true q172
                                              have p173 : 0 ≤ (0 : Int) := (by omega)
                                              have q173 : 0 < ((rd_L1 l0 x15_2).length : Int) := of_decide_eq_true (by first | (with_reducible assumption) | assumption)
                                              obtain ⟨ad173, e173, hx173_0⟩ := Kd.at_int HR167_0.out 0 p173 q173
                                              obtain rfl : ad172 = ad173 := (by injection e173)
                                              have qi173 : (0 < (rd_L1 l0 x15_2).length) = True := eq_true (by omega)
                                              (try rw [show ((0 : Int)).toNat = 0 from rfl] at hx173_0)
                                              (try rw [Addr.add_zero'] at hx173_0)
                                              replace p173 := eq_true p173
                                              replace q173 := eq_true q173
                                              have p174 : 0 ≤ ((ji20) : Int) := of_decide_eq_true (by first | (with_reducible assumption) | assumption)
                                              have q174 : (ji20) < (l0.length : Int) := of_decide_eq_true (by first | (with_reducible assumption) | assumption)
                                              obtain ⟨ad174, A174_0, c174_0, e174, hx174_0, hl174_0, hi174_0⟩ := at_L1 HR0.out (ji20) p174 q174
                                              obtain rfl : ad167 = ad174 := (by injection e174)
                                              have HR174_0 := Aside0.mk hi174_0
                                              have HC174_0 := Aside0.mk hl174_0
                                              clear hi174_0 hl174_0
                                              replace p174 := eq_true p174
                                              replace q174 := eq_true q174
                                              have p175 : 0 ≤ (0 : Int) := (by omega)
                                              have q175 : 0 < ((rd_L1 l0 (ji20)).length : Int) := of_decide_eq_true (by first | (with_reducible assumption) | assumption)
                                              obtain ⟨ad175, e175, hx175_0⟩ := Kd.at_int HR174_0.out 0 p175 q175
                                              cases e175
                                              have qi175 : (0 < (rd_L1 l0 (ji20)).length) = True := eq_true (by omega)
                                              (try rw [show ((0 : Int)).toNat = 0 from rfl] at hx175_0)
                                              (try rw [Addr.add_zero'] at hx175_0)
                                              replace p175 := eq_true p175
                                              replace q175 := eq_true q175
                                              have p176 : 0 ≤ (1 : Int) := (by omega)
                                              have q176 : 1 < ((rd_L1 l0 x15_2).length : Int) := of_decide_eq_true (by first | (with_reducible assumption) | assumption)
                                              obtain ⟨ad176, e176, hx176_0⟩ := Kd.at_int HR167_0.out 1 p176 q176
                                              obtain rfl : ad172 = ad176 := (by injection e176)
                                              (try simp only [show (1 : Int).toNat = 1 from rfl, Nat.reduceMul, Nat.reduceEqDiff, Go.Addr.add, ↓reduceIte] at hx176_0)
                                              have qi176 : (1 < (rd_L1 l0 x15_2).length) = True := eq_true (by omega)
                                              (try rw [show ((1 : Int)).toNat = 1 from rfl] at hx176_0)
                                              replace p176 := eq_true p176
                                              replace q176 := eq_true q176
                                              have p177 : 0 ≤ ((ji20) : Int) := of_decide_eq_true (by first | (with_reducible assumption) | assumption)
                                              have q177 : (ji20) < (l0.length : Int) := of_decide_eq_true (by first | (with_reducible assumption) | assumption)
                                              obtain ⟨ad177, A177_0, c177_0, e177, hx177_0, hl177_0, hi177_0⟩ := at_L1 HR0.out (ji20) p177 q177
                                              obtain rfl : ad167 = ad177 := (by injection e177)
                                              have HR177_0 := Aside0.mk hi177_0
                                              have HC177_0 := Aside0.mk hl177_0
                                              clear hi177_0 hl177_0
                                              replace p177 := eq_true p177
                                              replace q177 := eq_true q177
                                              have ea_ := Option.some.inj (hx174_0.symm.trans hx177_0)
                                              injection ea_ with ea_ en_ ec_
                                              subst ea_
                                              subst ec_
                                              clear en_
                                              have p178 : 0 ≤ (1 : Int) := (by omega)
                                              have q178 : 1 < ((rd_L1 l0 (ji20)).length : Int) := of_decide_eq_true (by first | (with_reducible assumption) | assumption)
                                              obtain ⟨ad178, e178, hx178_0⟩ := Kd.at_int HR177_0.out 1 p178 q178
                                              cases e178
                                              (try simp only [show (1 : Int).toNat = 1 from rfl, Nat.reduceMul, Nat.reduceEqDiff, Go.Addr.add, ↓reduceIte] at hx178_0)
                                              have qi178 : (1 < (rd_L1 l0 (ji20)).length) = True := eq_true (by omega)
                                              (try rw [show ((1 : Int)).toNat = 1 from rfl] at hx178_0)
                                              replace p178 := eq_true p178
                                              replace q178 := eq_true q178
                                              go_wp2
                                              repeat (go_quiet (fail); try go_wp2)
                                              go_ret
                                              exact ⟨by first | rfl | (simp; done) | ((simp only [← hji20] <;> (first | rfl | simp)); done) | (simp [*]; done), by repeat (first | exact Drawn0.refl _ | apply Drawn0.step)⟩
                                            · rw [if_neg c27] at H
                                              have c27b0 : decide ((rd (rd_L1 l0 (ji20)) 1) < (rd (rd_L1 l0 x15_2) 1)) = false := decide_eq_false c27
                                              clear c27
                                              have H' := Aside0.mk H
                                              clear H
                                              have p172 : 0 ≤ (0 : Int) := (by omega)
                                              have q172 : 0 < ((rd_L1 l0 x15_2).length : Int) := of_decide_eq_true (by first | (with_reducible assumption) | assumption)
                                              obtain ⟨ad172, e172, hx172_0⟩ := Kd.at_int HR167_0.out 0 p172 q172
                                              cases e172
                                              have qi172 : (0 < (rd_L1 l0 x15_2).length) = True := eq_true (by omega)
                                              (try rw [show ((0 : Int)).toNat = 0 from rfl] at hx172_0)
                                              (try rw [Addr.add_zero'] at hx172_0)
                                              replace p172 := eq_true p172
                                              replace q172 := eq_true q172
                                              have p173 : 0 ≤ (0 : Int) := (by omega)
                                              have q173 : 0 < ((rd_L1 l0 x15_2).length : Int) := of_decide_eq_true (by first | (with_reducible assumption) | assumption)
                                              obtain ⟨ad173, e173, hx173_0⟩ := Kd.at_int HR167_0.out 0 p173 q173
                                              obtain rfl : ad172 = ad173 := (by injection e173)
                                              have qi173 : (0 < (rd_L1 l0 x15_2).length) = True := eq_true (by omega)
                                              (try rw [show ((0 : Int)).toNat = 0 from rfl] at hx173_0)
                                              (try rw [Addr.add_zero'] at hx173_0)
                                              replace p173 := eq_true p173
                                              replace q173 := eq_true q173
                                              have p174 : 0 ≤ ((ji20) : Int) := of_decide_eq_true (by first | (with_reducible assumption) | assumption)
                                              have q174 : (ji20) < (l0.length : Int) := of_decide_eq_true (by first | (with_reducible assumption) | assumption)
                                              obtain ⟨ad174, A174_0, c174_0, e174, hx174_0, hl174_0, hi174_0⟩ := at_L1 HR0.out (ji20) p174 q174
                                              obtain rfl : ad167 = ad174 := (by injection e174)
                                              have HR174_0 := Aside0.mk hi174_0
                                              have HC174_0 := Aside0.mk hl174_0
                                              clear hi174_0 hl174_0
                                              replace p174 := eq_true p174
                                              replace q174 := eq_true q174
                                              have p175 : 0 ≤ (0 : Int) := (by omega)
                                              have q175 : 0 < ((rd_L1 l0 (ji20)).length : Int) := of_decide_eq_true (by first | (with_reducible assumption) | assumption)
                                              obtain ⟨ad175, e175, hx175_0⟩ := Kd.at_int HR174_0.out 0 p175 q175
                                              cases e175
                                              have qi175 : (0 < (rd_L1 l0 (ji20)).length) = True := eq_true (by omega)
                                              (try rw [show ((0 : Int)).toNat = 0 from rfl] at hx175_0)
                                              (try rw [Addr.add_zero'] at hx175_0)
                                              replace p175 := eq_true p175
                                              replace q175 := eq_true q175
                                              have p176 : 0 ≤ (1 : Int) := (by omega)
                                              have q176 : 1 < ((rd_L1 l0 x15_2).length : Int) := of_decide_eq_true (by first | (with_reducible assumption) | assumption)
                                              obtain ⟨ad176, e176, hx176_0⟩ := Kd.at_int HR167_0.out 1 p176 q176
                                              obtain rfl : ad172 = ad176 := (by injection e176)
                                              (try simp only [show (1 : Int).toNat = 1 from rfl, Nat.reduceMul, Nat.reduceEqDiff, Go.Addr.add, ↓reduceIte] at hx176_0)
                                              have qi176 : (1 < (rd_L1 l0 x15_2).length) = True := eq_true (by omega)
                                              (try rw [show ((1 : Int)).toNat = 1 from rfl] at hx176_0)
                                              replace p176 := eq_true p176
                                              replace q176 := eq_true q176
                                              have p177 : 0 ≤ ((ji20) : Int) := of_decide_eq_true (by first | (with_reducible assumption) | assumption)
                                              have q177 : (ji20) < (l0.length : Int) := of_decide_eq_true (by first | (with_reducible assumption) | assumption)
                                              obtain ⟨ad177, A177_0, c177_0, e177, hx177_0, hl177_0, hi177_0⟩ := at_L1 HR0.out (ji20) p177 q177
                                              obtain rfl : ad167 = ad177 := (by injection e177)
                                              have HR177_0 := Aside0.mk hi177_0
                                              have HC177_0 := Aside0.mk hl177_0
                                              clear hi177_0 hl177_0
                                              replace p177 := eq_true p177
                                              replace q177 := eq_true q177
                                              have ea_ := Option.some.inj (hx174_0.symm.trans hx177_0)
                                              injection ea_ with ea_ en_ ec_
                                              subst ea_
                                              subst ec_
                                              clear en_
                                              have p178 : 0 ≤ (1 : Int) := (by omega)
                                              have q178 : 1 < ((rd_L1 l0 (ji20)).length : Int) := of_decide_eq_true (by first | (with_reducible assumption) | assumption)
                                              obtain ⟨ad178, e178, hx178_0⟩ := Kd.at_int HR177_0.out 1 p178 q178
                                              cases e178
                                              (try simp only [show (1 : Int).toNat = 1 from rfl, Nat.reduceMul, Nat.reduceEqDiff, Go.Addr.add, ↓reduceIte] at hx178_0)
                                              have qi178 : (1 < (rd_L1 l0 (ji20)).length) = True := eq_true (by omega)
                                              (try rw [show ((1 : Int)).toNat = 1 from rfl] at hx178_0)
                                              replace p178 := eq_true p178
                                              replace q178 := eq_true q178
                                              go_wp2
                                              repeat (go_quiet (fail); try go_wp2)
                                              go_roundg kj7
                                              case measure => have := HJ1.out; have := HK2.out; have := HJ7.out; omega
                                              case rel => exact ⟨(wrap64 (x15_2 + 1)), (by first | rfl | (simp; done) | (simp [*]; done)), H', ⟨by have := HJ1.out; have := HK2.out; have := HJ7.out; omega⟩, by repeat (first | exact Drawn0.refl _ | apply Drawn0.step)⟩
                                          · rw [if_neg c26] at H
                                            exact absurd H (by simp)
                                        · rw [if_neg c25] at H
                                          exact absurd H (by simp)
                                    · rw [if_neg c23] at H
                                      exact absurd H (by simp)
                                  · rw [if_neg c22] at H
                                    exact absurd H (by simp)
                                · rw [if_neg c21] at H
                                  exact absurd H (by simp)
                              · rw [if_neg c19] at H
                                have c19b0 : decide (0 < x15_2) = false := decide_eq_false c19
                                clear c19
                                have H' := Aside0.mk H
                                clear H
                                have p172 : 0 ≤ (0 : Int) := (by omega)
                                have q172 : 0 < ((rd_L1 l0 x15_2).length : Int) := of_decide_eq_true (by first | (with_reducible assumption) | assumption)
                                obtain ⟨ad172, e172, hx172_0⟩ := Kd.at_int HR167_0.out 0 p172 q172
                                cases e172
                                have qi172 : (0 < (rd_L1 l0 x15_2).length) = True := eq_true (by omega)
                                (try rw [show ((0 : Int)).toNat = 0 from rfl] at hx172_0)
                                (try rw [Addr.add_zero'] at hx172_0)
                                replace p172 := eq_true p172
                                replace q172 := eq_true q172
                                go_wp2
                                repeat (go_quiet (fail); try go_wp2)
                                go_roundg kj7
                                case measure => have := HJ1.out; have := HK2.out; have := HJ7.out; omega
                                case rel => exact ⟨(wrap64 (x15_2 + 1)), (by first | rfl | (simp; done) | (simp [*]; done)), H', ⟨by have := HJ1.out; have := HK2.out; have := HJ7.out; omega⟩, by repeat (first | exact Drawn0.refl _ | apply Drawn0.step)⟩
                            · rw [if_neg c18] at H
                              have c18b0 : ((rd (rd_L1 l0 x15_2) 0) == 0) = false := beq_eq_false_iff_ne.mpr c18
                              have c18b1 : ((rd (rd_L1 l0 x15_2) 0) != 0) = true := bne_iff_ne.mpr c18
                              obtain rfl := Option.some.inj H
                              have p172 : 0 ≤ (0 : Int) := (by omega)
                              have q172 : 0 < ((rd_L1 l0 x15_2).length : Int) := of_decide_eq_true (by first | (with_reducible assumption) | assumption)
                              obtain ⟨ad172, e172, hx172_0⟩ := Kd.at_int HR167_0.out 0 p172 q172
                              cases e172
                              have qi172 : (0 < (rd_L1 l0 x15_2).length) = True := eq_true (by omega)
                              (try rw [show ((0 : Int)).toNat = 0 from rfl] at hx172_0)
                              (try rw [Addr.add_zero'] at hx172_0)
                              replace p172 := eq_true p172
                              replace q172 := eq_true q172
                              go_wp2
                              repeat (go_quiet (fail); try go_wp2)
                              go_ret
                              exact ⟨by first | rfl | (simp; done) | (simp [*]; done), by repeat (first | exact Drawn0.refl _ | apply Drawn0.step)⟩
                          · rw [if_neg c17] at H
                            exact absurd H (by simp)
                        · rw [if_neg c16] at H
                          have c16b0 : (x15_2 == 0) = false := beq_eq_false_iff_ne.mpr c16
                          have c16b1 : (x15_2 != 0) = true := bne_iff_ne.mpr c16
                          by_cases c28 : x15_2 > 0
                          · rw [if_pos c28] at H
                            have c28b0 : decide (0 < x15_2) = true := decide_eq_true c28
                            clear c28
                            by_cases c29 : 0 < ((rd_L1 l0 x15_2).length : Int)
                            · rw [if_pos c29] at H
                              have c29b0 : decide (0 < ((rd_L1 l0 x15_2).length : Int)) = true := decide_eq_true c29
                              have c29b1 : decide (0 < (rd_L1 l0 x15_2).length) = true := decide_eq_true (by omega)
                              clear c29
                              obtain ⟨ji30, hji30⟩ : ∃ j_ : Int, (wrap64 (x15_2 - 1)) = j_ := ⟨_, rfl⟩
                              replace H : (if 0 ≤ (ji30) then (if (ji30) < (l0.length : Int) then (if 0 < ((rd_L1 l0 (ji30)).length : Int) then (if (rd (rd_L1 l0 x15_2) 0) ≤ (rd (rd_L1 l0 (ji30)) 0) then (some false) else (if 1 < ((rd_L1 l0 x15_2).length : Int) then (if 1 < ((rd_L1 l0 (ji30)).length : Int) then (if (rd (rd_L1 l0 x15_2) 1) > (rd (rd_L1 l0 (ji30)) 1) then (some false) else (impl_StepListOk.l0 kj7 l0 l0 (l0.length : Int) (wrap64 (x15_2 + 1)))) else (none)) else (none))) else (none)) else (none)) else (none)) = some r := by first | (rw [hji30] at H; exact H) | (simp only [hji30] at H ⊢; exact H)
                              have hji30w : (IntKind.i64.wrap (x15_2 - 1)) = ji30 := (i64_w _).trans hji30
                              by_cases c31 : 0 ≤ (ji30)
                              · rw [if_pos c31] at H
                                have c31b0 : decide (0 ≤ (ji30)) = true := decide_eq_true c31
                                clear c31
                                by_cases c32 : (ji30) < (l0.length : Int)
                                · rw [if_pos c32] at H
                                  have c32b0 : decide ((ji30) < (l0.length : Int)) = true := decide_eq_true c32
                                  clear c32
                                  by_cases c33 : 0 < ((rd_L1 l0 (ji30)).length : Int)
                                  · rw [if_pos c33] at H
                                    have c33b0 : decide (0 < ((rd_L1 l0 (ji30)).length : Int)) = true := decide_eq_true c33
                                    have c33b1 : decide (0 < (rd_L1 l0 (ji30)).length) = true := decide_eq_true (by omega)
                                    clear c33
                                    by_cases c34 : (rd (rd_L1 l0 x15_2) 0) ≤ (rd (rd_L1 l0 (ji30)) 0)
                                    · rw [if_pos c34] at H
                                      have c34b0 : decide ((rd (rd_L1 l0 x15_2) 0) ≤ (rd (rd_L1 l0 (ji30)) 0)) = true := decide_eq_true c34
                                      clear c34
                                      obtain rfl := Option.some.inj H
                                      have p179 : 0 ≤ (0 : Int) := (by omega)
                                      have q179 : 0 < ((rd_L1 l0 x15_2).length : Int) := of_decide_eq_true (by first | (with_reducible assumption) | assumption)
                                      obtain ⟨ad179, e179, hx179_0⟩ := Kd.at_int HR167_0.out 0 p179 q179
                                      cases e179
                                      have qi179 : (0 < (rd_L1 l0 x15_2).length) = True := eq_true (by omega)
                                      (try rw [show ((0 : Int)).toNat = 0 from rfl] at hx179_0)
                                      (try rw [Addr.add_zero'] at hx179_0)
                                      replace p179 := eq_true p179
                                      replace q179 := eq_true q179
                                      have p180 : 0 ≤ ((ji30) : Int) := of_decide_eq_true (by first | (with_reducible assumption) | assumption)
                                      have q180 : (ji30) < (l0.length : Int) := of_decide_eq_true (by first | (with_reducible assumption) | assumption)
                                      obtain ⟨ad180, A180_0, c180_0, e180, hx180_0, hl180_0, hi180_0⟩ := at_L1 HR0.out (ji30) p180 q180
                                      obtain rfl : ad167 = ad180 := (by injection e180)
                                      have HR180_0 := Aside0.mk hi180_0
                                      have HC180_0 := Aside0.mk hl180_0
                                      clear hi180_0 hl180_0
                                      replace p180 := eq_true p180
                                      replace q180 := eq_true q180
                                      have p181 : 0 ≤ (0 : Int) := (by omega)
                                      have q181 : 0 < ((rd_L1 l0 (ji30)).length : Int) := of_decide_eq_true (by first | (with_reducible assumption) | assumption)
                                      obtain ⟨ad181, e181, hx181_0⟩ := Kd.at_int HR180_0.out 0 p181 q181
                                      cases e181
                                      have qi181 : (0 < (rd_L1 l0 (ji30)).length) = True := eq_true (by omega)
                                      (try rw [show ((0 : Int)).toNat = 0 from rfl] at hx181_0)
                                      (try rw [Addr.add_zero'] at hx181_0)
                                      replace p181 := eq_true p181
                                      replace q181 := eq_true q181
                                      go_wp2
                                      repeat (go_quiet (fail); try go_wp2)
                                      go_ret
                                      exact ⟨by first | rfl | (simp; done) | ((simp only [← hji30] <;> (first | rfl | simp)); done) | (simp [*]; done), by repeat (first | exact Drawn0.refl _ | apply Drawn0.step)⟩
                                    · rw [if_neg c34] at H
                                      have c34b0 : decide ((rd (rd_L1 l0 x15_2) 0) ≤ (rd (rd_L1 l0 (ji30)) 0)) = false := decide_eq_false c34
                                      clear c34
                                      by_cases c35 : 1 < ((rd_L1 l0 x15_2).length : Int)
                                      · rw [if_pos c35] at H
                                        have c35b0 : decide (1 < ((rd_L1 l0 x15_2).length : Int)) = true := decide_eq_true c35
                                        have c35b1 : decide (1 < (rd_L1 l0 x15_2).length) = true := decide_eq_true (by omega)
                                        clear c35
                                        by_cases c36 : 1 < ((rd_L1 l0 (ji30)).length : Int)
                                        · rw [if_pos c36] at H
                                          have c36b0 : decide (1 < ((rd_L1 l0 (ji30)).length : Int)) = true := decide_eq_true c36
                                          have c36b1 : decide (1 < (rd_L1 l0 (ji30)).length) = true := decide_eq_true (by omega)
                                          clear c36
                                          by_cases c37 : (rd (rd_L1 l0 x15_2) 1) > (rd (rd_L1 l0 (ji30)) 1)
                                          · rw [if_pos c37] at H
                                            have c37b0 : decide ((rd (rd_L1 l0 (ji30)) 1) < (rd (rd_L1 l0 x15_2) 1)) = true := decide_eq_true c37
                                            clear c37
                                            obtain rfl := Option.some.inj H
                                            have p179 : 0 ≤ (0 : Int) := (by omega)
                                            have q179 : 0 < ((rd_L1 l0 x15_2).length : Int) := of_decide_eq_true (by first | (with_reducible assumption) | assumption)
                                            obtain ⟨ad179, e179, hx179_0⟩ := Kd.at_int HR167_0.out 0 p179 q179
                                            cases e179
                                            have qi179 : (0 < (rd_L1 l0 x15_2).length) = True := eq_true (by omega)
                                            (try rw [show ((0 : Int)).toNat = 0 from rfl] at hx179_0)
                                            (try rw [Addr.add_zero'] at hx179_0)
                                            replace p179 := eq_true p179
                                            replace q179 := eq_true q179
                                            have p180 : 0 ≤ ((ji30) : Int) := of_decide_eq_true (by first | (with_reducible assumption) | assumption)
                                            have q180 : (ji30) < (l0.length : Int) := of_decide_eq_true (by first | (with_reducible assumption) | assumption)
                                            obtain ⟨ad180, A180_0, c180_0, e180, hx180_0, hl180_0, hi180_0⟩ := at_L1 HR0.out (ji30) p180 q180
                                            obtain rfl : ad167 = ad180 := (by injection e180)
                                            have HR180_0 := Aside0.mk hi180_0
                                            have HC180_0 := Aside0.mk hl180_0
                                            clear hi180_0 hl180_0
                                            replace p180 := eq_true p180
                                            replace q180 := eq_true q180
                                            have p181 : 0 ≤ (0 : Int) := (by omega)
                                            have q181 : 0 < ((rd_L1 l0 (ji30)).length : Int) := of_decide_eq_true (by first | (with_reducible assumption) | assumption)
                                            obtain ⟨ad181, e181, hx181_0⟩ := Kd.at_int HR180_0.out 0 p181 q181
                                            cases e181
                                            have qi181 : (0 < (rd_L1 l0 (ji30)).length) = True := eq_true (by omega)
                                            (try rw [show ((0 : Int)).toNat = 0 from rfl] at hx181_0)
                                            (try rw [Addr.add_zero'] at hx181_0)
                                            replace p181 := eq_true p181
                                            replace q181 := eq_true q181
                                            have p182 : 0 ≤ (1 : Int) := (by omega)
                                            have q182 : 1 < ((rd_L1 l0 x15_2).length : Int) := of_decide_eq_true (by first | (with_reducible assumption) | assumption)
                                            obtain ⟨ad182, e182, hx182_0⟩ := Kd.at_int HR167_0.out 1 p182 q182
                                            obtain rfl : ad179 = ad182 := (by injection e182)
                                            (try simp only [show (1 : Int).toNat = 1 from rfl, Nat.reduceMul, Nat.reduceEqDiff, Go.Addr.add, ↓reduceIte] at hx182_0)
                                            have qi182 : (1 < (rd_L1 l0 x15_2).length) = True := eq_true (by omega)
                                            (try rw [show ((1 : Int)).toNat = 1 from rfl] at hx182_0)
                                            replace p182 := eq_true p182
                                            replace q182 := eq_true q182
                                            have p183 : 0 ≤ ((ji30) : Int) := of_decide_eq_true (by first | (with_reducible assumption) | assumption)
                                            have q183 : (ji30) < (l0.length : Int) := of_decide_eq_true (by first | (with_reducible assumption) | assumption)
                                            obtain ⟨ad183, A183_0, c183_0, e183, hx183_0, hl183_0, hi183_0⟩ := at_L1 HR0.out (ji30) p183 q183
                                            obtain rfl : ad167 = ad183 := (by injection e183)
                                            have HR183_0 := Aside0.mk hi183_0
                                            have HC183_0 := Aside0.mk hl183_0
                                            clear hi183_0 hl183_0
                                            replace p183 := eq_true p183
                                            replace q183 := eq_true q183
                                            have ea_ := Option.some.inj (hx180_0.symm.trans hx183_0)
                                            injection ea_ with ea_ en_ ec_
                                            subst ea_
                                            subst ec_
                                            clear en_
                                            have p184 : 0 ≤ (1 : Int) := (by omega)
                                            have q184 : 1 < ((rd_L1 l0 (ji30)).length : Int) := of_decide_eq_true (by first | (with_reducible assumption) | assumption)
                                            obtain ⟨ad184, e184, hx184_0⟩ := Kd.at_int HR183_0.out 1 p184 q184
                                            cases e184
                                            (try simp only [show (1 : Int).toNat = 1 from rfl, Nat.reduceMul, Nat.reduceEqDiff, Go.Addr.add, ↓reduceIte] at hx184_0)
                                            have qi184 : (1 < (rd_L1 l0 (ji30)).length) = True := eq_true (by omega)
                                            (try rw [show ((1 : Int)).toNat = 1 from rfl] at hx184_0)
                                            replace p184 := eq_true p184
                                            replace q184 := eq_true q184
                                            go_wp2
                                            repeat (go_quiet (fail); try go_wp2)
                                            go_ret
                                            exact ⟨by first | rfl | (simp; done) | ((simp only [← hji30] <;> (first | rfl | simp)); done) | (simp [*]; done), by repeat (first | exact Drawn0.refl _ | apply Drawn0.step)⟩
                                          · rw [if_neg c37] at H
                                            have c37b0 : decide ((rd (rd_L1 l0 (ji30)) 1) < (rd (rd_L1 l0 x15_2) 1)) = false := decide_eq_false c37
                                            clear c37
                                            have H' := Aside0.mk H
                                            clear H
                                            have p179 : 0 ≤ (0 : Int) := (by omega)
                                            have q179 : 0 < ((rd_L1 l0 x15_2).length : Int) := of_decide_eq_true (by first | (with_reducible assumption) | assumption)
                                            obtain ⟨ad179, e179, hx179_0⟩ := Kd.at_int HR167_0.out 0 p179 q179
                                            cases e179
                                            have qi179 : (0 < (rd_L1 l0 x15_2).length) = True := eq_true (by omega)
                                            (try rw [show ((0 : Int)).toNat = 0 from rfl] at hx179_0)
                                            (try rw [Addr.add_zero'] at hx179_0)
                                            replace p179 := eq_true p179
                                            replace q179 := eq_true q179
                                            have p180 : 0 ≤ ((ji30) : Int) := of_decide_eq_true (by first | (with_reducible assumption) | assumption)
                                            have q180 : (ji30) < (l0.length : Int) := of_decide_eq_true (by first | (with_reducible assumption) | assumption)
                                            obtain ⟨ad180, A180_0, c180_0, e180, hx180_0, hl180_0, hi180_0⟩ := at_L1 HR0.out (ji30) p180 q180
                                            obtain rfl : ad167 = ad180 := (by injection e180)
                                            have HR180_0 := Aside0.mk hi180_0
                                            have HC180_0 := Aside0.mk hl180_0
                                            clear hi180_0 hl180_0
                                            replace p180 := eq_true p180
                                            replace q180 := eq_true q180
                                            have p181 : 0 ≤ (0 : Int) := (by omega)
                                            have q181 : 0 < ((rd_L1 l0 (ji30)).length : Int) := of_decide_eq_true (by first | (with_reducible assumption) | assumption)
                                            obtain ⟨ad181, e181, hx181_0⟩ := Kd.at_int HR180_0.out 0 p181 q181
                                            cases e181
                                            have qi181 : (0 < (rd_L1 l0 (ji30)).length) = True := eq_true (by omega)
                                            (try rw [show ((0 : Int)).toNat = 0 from rfl] at hx181_0)
                                            (try rw [Addr.add_zero'] at hx181_0)
                                            replace p181 := eq_true p181
                                            replace q181 := eq_true q181
                                            have p182 : 0 ≤ (1 : Int) := (by omega)
                                            have q182 : 1 < ((rd_L1 l0 x15_2).length : Int) := of_decide_eq_true (by first | (with_reducible assumption) | assumption)
                                            obtain ⟨ad182, e182, hx182_0⟩ := Kd.at_int HR167_0.out 1 p182 q182
                                            obtain rfl : ad179 = ad182 := (by injection e182)
                                            (try simp only [show (1 : Int).toNat = 1 from rfl, Nat.reduceMul, Nat.reduceEqDiff, Go.Addr.add, ↓reduceIte] at hx182_0)
                                            have qi182 : (1 < (rd_L1 l0 x15_2).length) = True := eq_true (by omega)
                                            (try rw [show ((1 : Int)).toNat = 1 from rfl] at hx182_0)
                                            replace p182 := eq_true p182
                                            replace q182 := eq_true q182
                                            have p183 : 0 ≤ ((ji30) : Int) := of_decide_eq_true (by first | (with_reducible assumption) | assumption)
                                            have q183 : (ji30) < (l0.length : Int) := of_decide_eq_true (by first | (with_reducible assumption) | assumption)
                                            obtain ⟨ad183, A183_0, c183_0, e183, hx183_0, hl183_0, hi183_0⟩ := at_L1 HR0.out (ji30) p183 q183
                                            obtain rfl : ad167 = ad183 := (by injection e183)
                                            have HR183_0 := Aside0.mk hi183_0
                                            have HC183_0 := Aside0.mk hl183_0
                                            clear hi183_0 hl183_0
                                            replace p183 := eq_true p183
                                            replace q183 := eq_true q183
                                            have ea_ := Option.some.inj (hx180_0.symm.trans hx183_0)
                                            injection ea_ with ea_ en_ ec_
                                            subst ea_
                                            subst ec_
                                            clear en_
                                            have p184 : 0 ≤ (1 : Int) := (by omega)
                                            have q184 : 1 < ((rd_L1 l0 (ji30)).length : Int) := of_decide_eq_true (by first | (with_reducible assumption) | assumption)
                                            obtain ⟨ad184, e184, hx184_0⟩ := Kd.at_int HR183_0.out 1 p184 q184
                                            cases e184
                                            (try simp only [show (1 : Int).toNat = 1 from rfl, Nat.reduceMul, Nat.reduceEqDiff, Go.Addr.add, ↓reduceIte] at hx184_0)
                                            have qi184 : (1 < (rd_L1 l0 (ji30)).length) = True := eq_true (by omega)
                                            (try rw [show ((1 : Int)).toNat = 1 from rfl] at hx184_0)
                                            replace p184 := eq_true p184
                                            replace q184 := eq_true q184
                                            go_wp2
                                            repeat (go_quiet (fail); try go_wp2)
                                            go_roundg kj7
                                            case measure => have := HJ1.out; have := HK2.out; have := HJ7.out; omega
                                            case rel => exact ⟨(wrap64 (x15_2 + 1)), (by first | rfl | (simp; done) | (simp [*]; done)), H', ⟨by have := HJ1.out; have := HK2.out; have := HJ7.out; omega⟩, by repeat (first | exact Drawn0.refl _ | apply Drawn0.step)⟩
                                        · rw [if_neg c36] at H
                                          exact absurd H (by simp)
                                      · rw [if_neg c35] at H
                                        exact absurd H (by simp)
                                  · rw [if_neg c33] at H
                                    exact absurd H (by simp)
                                · rw [if_neg c32] at H
                                  exact absurd H (by simp)
                              · rw [if_neg c31] at H
                                exact absurd H (by simp)
                            · rw [if_neg c29] at H
                              exact absurd H (by simp)
                          · rw [if_neg c28] at H
                            have c28b0 : decide (0 < x15_2) = false := decide_eq_false c28
                            clear c28
                            have H' := Aside0.mk H
                            clear H
                            go_wp2
                            repeat (go_quiet (fail); try go_wp2)
                            go_roundg kj7
                            case measure => have := HJ1.out; have := HK2.out; have := HJ7.out; omega
                            case rel => exact ⟨(wrap64 (x15_2 + 1)), (by first | rfl | (simp; done) | (simp [*]; done)), H', ⟨by have := HJ1.out; have := HK2.out; have := HJ7.out; omega⟩, by repeat (first | exact Drawn0.refl _ | apply Drawn0.step)⟩
                · rw [if_neg c7] at H
                  exact absurd H (by simp)
              · rw [if_neg c6] at H
                exact absurd H (by simp)
            · rw [if_neg c5] at H
              have c5b0 : decide (x15_2 < (l0.length : Int)) = false := decide_eq_false c5
              clear c5
              obtain rfl := Option.some.inj H
              go_wp2
              repeat (go_quiet (fail); try go_wp2)
              go_ret
              exact ⟨by first | rfl | (simp; done) | (simp [*]; done), by repeat (first | exact Drawn0.refl _ | apply Drawn0.step)⟩

end Go.Proofs.Ytdiphnkkomfmdaa.QFnPrices
