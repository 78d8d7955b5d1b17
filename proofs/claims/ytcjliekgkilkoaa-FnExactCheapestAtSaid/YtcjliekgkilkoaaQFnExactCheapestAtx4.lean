-- Printed for this claim by a changed copy of the kit's print (the session's own; own contracts in place of some functions).
import Derived.Test.YtcjliekgkilkoaaQFnExactCheapestAtx0
import Derived.Test.YtcjliekgkilkoaaQFnExactCheapestAtx3
namespace Go.Proofs.Ytcjliekgkilkoaa.QFnExactCheapestAt
open Go.RowKit Go.Proofs.YtcjliekgkilkoaaW.PrintWords Go.Proofs.YtcjliekgkilkoaaW.PrintLast Go.Proofs.YtcjliekgkilkoaaW.PrintMore
attribute [local go_sem] max2_int min2_int max_two min_two max_three min_three max_four min_four   -- for this text's walks alone
set_option linter.unusedVariables false
set_option linter.unusedSimpArgs false

/-! ### impl_StepListOk: function 20 -/
mutual
def impl_StepListOk.j0 : Nat → List (List Int) → Bool → Option (Bool)
  | 0, _, _ => none
  | k + 1, x0, x12 => if x12 = true then (some false) else (impl_StepListOk.l0 k x0 x0 (x0.length : Int) 0)
def impl_StepListOk.l0 : Nat → List (List Int) → List (List Int) → Int → Int → Option (Bool)
  | 0, _, _, _, _ => none
  | k + 1, x0, x13, x14, x15 => if x15 < x14 then (if 0 ≤ x15 then (if x15 < (x13.length : Int) then (if ((rd_L1 x13 x15).length : Int) = 2 then (if 0 < ((rd_L1 x13 x15).length : Int) then ((impl_within.f (rd (rd_L1 x13 x15) 0) 0 100000).bind fun t152 => (if t152 = true then (if 1 < ((rd_L1 x13 x15).length : Int) then ((impl_within.f (rd (rd_L1 x13 x15) 1) 0 1000).bind fun t154 => (impl_StepListOk.j2 k x0 x15 (rd_L1 x13 x15) x13 x14 x15 (!t154))) else (none)) else (impl_StepListOk.j2 k x0 x15 (rd_L1 x13 x15) x13 x14 x15 true))) else (none)) else (impl_StepListOk.j2 k x0 x15 (rd_L1 x13 x15) x13 x14 x15 true)) else (none)) else (none)) else (some true)
def impl_StepListOk.j2 : Nat → List (List Int) → Int → List Int → List (List Int) → Int → Int → Bool → Option (Bool)
  | 0, _, _, _, _, _, _, _ => none
  | k + 1, x0, x3, x4, x13, x14, x15, x36 => if x36 = true then (some false) else (if x3 = 0 then (if 0 < (x4.length : Int) then (if (rd x4 0) = 0 then (if x3 > 0 then (if 0 ≤ (wrap64 (x3 - 1)) then (if (wrap64 (x3 - 1)) < (x0.length : Int) then (if 0 < ((rd_L1 x0 (wrap64 (x3 - 1))).length : Int) then (if (rd x4 0) ≤ (rd (rd_L1 x0 (wrap64 (x3 - 1))) 0) then (some false) else (if 1 < (x4.length : Int) then (if 1 < ((rd_L1 x0 (wrap64 (x3 - 1))).length : Int) then (if (rd x4 1) > (rd (rd_L1 x0 (wrap64 (x3 - 1))) 1) then (some false) else (impl_StepListOk.l0 k x0 x13 x14 (wrap64 (x15 + 1)))) else (none)) else (none))) else (none)) else (none)) else (none)) else (impl_StepListOk.l0 k x0 x13 x14 (wrap64 (x15 + 1)))) else (some false)) else (none)) else (if x3 > 0 then (if 0 < (x4.length : Int) then (if 0 ≤ (wrap64 (x3 - 1)) then (if (wrap64 (x3 - 1)) < (x0.length : Int) then (if 0 < ((rd_L1 x0 (wrap64 (x3 - 1))).length : Int) then (if (rd x4 0) ≤ (rd (rd_L1 x0 (wrap64 (x3 - 1))) 0) then (some false) else (if 1 < (x4.length : Int) then (if 1 < ((rd_L1 x0 (wrap64 (x3 - 1))).length : Int) then (if (rd x4 1) > (rd (rd_L1 x0 (wrap64 (x3 - 1))) 1) then (some false) else (impl_StepListOk.l0 k x0 x13 x14 (wrap64 (x15 + 1)))) else (none)) else (none))) else (none)) else (none)) else (none)) else (none)) else (impl_StepListOk.l0 k x0 x13 x14 (wrap64 (x15 + 1)))))
end
def impl_StepListOk.f (k : Nat) (l0 : List (List Int)) : Option (Bool) := if (l0.length : Int) < 1 then (impl_StepListOk.j0 k l0 true) else (impl_StepListOk.j0 k l0 (decide ((l0.length : Int) > 6)))
theorem impl_StepListOk.mono_l : ∀ k, (∀ y0 y1, LeO (impl_StepListOk.j0 k y0 y1) (impl_StepListOk.j0 (k + 1) y0 y1)) ∧ (∀ y0 y1 y2 y3, LeO (impl_StepListOk.l0 k y0 y1 y2 y3) (impl_StepListOk.l0 (k + 1) y0 y1 y2 y3)) ∧ (∀ y0 y1 y2 y3 y4 y5 y6, LeO (impl_StepListOk.j2 k y0 y1 y2 y3 y4 y5 y6) (impl_StepListOk.j2 (k + 1) y0 y1 y2 y3 y4 y5 y6))
  | 0 => ⟨fun _ _ r h => by simp [impl_StepListOk.j0] at h, fun _ _ _ _ r h => by simp [impl_StepListOk.l0] at h, fun _ _ _ _ _ _ _ r h => by simp [impl_StepListOk.j2] at h⟩
  | k + 1 => by
    obtain ⟨ih0, ih1, ih2⟩ := impl_StepListOk.mono_l k
    refine ⟨?_, ?_, ?_⟩
    · intro y0 y1
      unfold impl_StepListOk.j0
      repeat' first
      | (with_reducible exact ih0 _ _)
      | (with_reducible exact ih1 _ _ _ _)
      | (with_reducible exact ih2 _ _ _ _ _ _ _)
      | (with_reducible exact LeO.refl _)
      | (with_reducible exact LeO.none _)
      | (with_reducible refine LeO.ite ?_ ?_)
      | (with_reducible refine LeO.bind ?_ (fun _ => ?_))
      | exact ih0 _ _
      | exact ih1 _ _ _ _
      | exact ih2 _ _ _ _ _ _ _
      | exact LeO.none _
      | refine LeO.ite ?_ ?_
      | refine LeO.bind ?_ (fun _ => ?_)
    · intro y0 y1 y2 y3
      unfold impl_StepListOk.l0
      repeat' first
      | (with_reducible exact ih0 _ _)
      | (with_reducible exact ih1 _ _ _ _)
      | (with_reducible exact ih2 _ _ _ _ _ _ _)
      | (with_reducible exact LeO.refl _)
      | (with_reducible exact LeO.none _)
      | (with_reducible refine LeO.ite ?_ ?_)
      | (with_reducible refine LeO.bind ?_ (fun _ => ?_))
      | exact ih0 _ _
      | exact ih1 _ _ _ _
      | exact ih2 _ _ _ _ _ _ _
      | exact LeO.none _
      | refine LeO.ite ?_ ?_
      | refine LeO.bind ?_ (fun _ => ?_)
    · intro y0 y1 y2 y3 y4 y5 y6
      unfold impl_StepListOk.j2
      repeat' first
      | (with_reducible exact ih0 _ _)
      | (with_reducible exact ih1 _ _ _ _)
      | (with_reducible exact ih2 _ _ _ _ _ _ _)
      | (with_reducible exact LeO.refl _)
      | (with_reducible exact LeO.none _)
      | (with_reducible refine LeO.ite ?_ ?_)
      | (with_reducible refine LeO.bind ?_ (fun _ => ?_))
      | exact ih0 _ _
      | exact ih1 _ _ _ _
      | exact ih2 _ _ _ _ _ _ _
      | exact LeO.none _
      | refine LeO.ite ?_ ?_
      | refine LeO.bind ?_ (fun _ => ?_)
theorem impl_StepListOk.mono : ∀ a0 k, LeO (impl_StepListOk.f k a0) (impl_StepListOk.f (k + 1) a0) := by
  intro a0 k
  obtain ⟨ih0, ih1, ih2⟩ := impl_StepListOk.mono_l k
  unfold impl_StepListOk.f
  repeat' first
      | (with_reducible exact ih0 _ _)
      | (with_reducible exact ih1 _ _ _ _)
      | (with_reducible exact ih2 _ _ _ _ _ _ _)
      | (with_reducible exact LeO.refl _)
      | (with_reducible exact LeO.none _)
      | (with_reducible refine LeO.ite ?_ ?_)
      | (with_reducible refine LeO.bind ?_ (fun _ => ?_))
      | exact ih0 _ _
      | exact ih1 _ _ _ _
      | exact ih2 _ _ _ _ _ _ _
      | exact LeO.none _
      | refine LeO.ite ?_ ?_
      | refine LeO.bind ?_ (fun _ => ?_)
set_option maxHeartbeats 8000000 in
set_option maxRecDepth 100000 in
theorem impl_StepListOk.calls (k : Nat) (A0 : Option Addr) (c0 : Nat) (l0 : List (List Int)) (r : Bool) (w : World) (hr0 : Kd.C (Kd.slice 3 (Kd.int .i64)) w A0 l0.length l0) (hc0 : l0.length ≤ c0) (h : impl_StepListOk.f k l0 = some r) :
    Calls Try.prog 20 #[.slice A0 l0.length c0] w fun e w' => e = .returned (.bool r) ∧ Drawn0 w w' := by
  have HR0 := Aside0.mk hr0
  have HC0 := Aside0.mk hc0
  clear hr0 hc0
  have H : (if (l0.length : Int) < 1 then (impl_StepListOk.j0 k l0 true) else (impl_StepListOk.j0 k l0 (decide ((l0.length : Int) > 6)))) = some r := h
  clear h
  have HC2 := Aside0.mk H
  clear H
  go_enter Try.func20, Try.ntmps20
  go_upto_region 1 with (fail)
  repeat (go_quiet (fail); go_upto_region 1 with (fail))
  go_cut [12] (fun v12 wc => ∃ (kq : Nat) (x12_1 : Bool), v12 = .bool x12_1 ∧ Aside0 (impl_StepListOk.j0 kq l0 x12_1 = some r) ∧ Aside0 (kq ≤ k) ∧ Drawn0 w wc)
  case first =>
    have H := HC2.out
    clear HC2
    by_cases c3 : (l0.length : Int) < 1
    · rw [if_pos c3] at H
      have c3b0 : decide ((l0.length : Int) < 1) = true := decide_eq_true c3
      have c3b1 : decide (l0.length < 1) = true := decide_eq_true (by omega)
      clear c3
      (first | rw [c3b0] | (simp only [i64_w, i32_w]; rw [c3b0]) | skip)
      have H' := Aside0.mk H
      clear H
      go_wp2
      repeat (go_quiet (fail); try go_wp2)
      go_meet
      case rel => exact ⟨_, (true), (by first | rfl | (simp; done) | (simp [*]; done)), H', ⟨by first | omega | exact Nat.le_refl _⟩, by repeat (first | exact Drawn0.refl _ | apply Drawn0.step)⟩
    · rw [if_neg c3] at H
      have c3b0 : decide ((l0.length : Int) < 1) = false := decide_eq_false c3
      have c3b1 : decide (l0.length < 1) = false := decide_eq_false (by omega)
      clear c3
      (first | rw [c3b0] | (simp only [i64_w, i32_w]; rw [c3b0]) | skip)
      have H' := Aside0.mk H
      clear H
      go_wp2
      repeat (go_quiet (fail); try go_wp2)
      go_meet
      case rel => exact ⟨_, (decide ((l0.length : Int) > 6)), (by first | rfl | (simp; done) | (simp [*]; done)), H', ⟨by first | omega | exact Nat.le_refl _⟩, by repeat (first | exact Drawn0.refl _ | apply Drawn0.step)⟩
  case rest =>
    clear HC2
    try clear c2
    try clear p2
    try clear c3
    try clear c3b0
    try clear c3b1
    obtain ⟨kq, x12_1, rfl, HA, HJ1, ⟨mc1, rfl⟩⟩ := hcut
    cases kq with
    | zero => exact absurd HA.out (by simp [impl_StepListOk.j0])
    | succ kj1 =>
      have H := HA.out
      clear HA
      simp only [impl_StepListOk.j0] at H
      by_cases c4 : x12_1 = true
      · subst c4
        have H1 : (some false) = some r := by rw [if_pos rfl] at H; exact H
        clear H
        have H := H1
        clear H1
        obtain rfl := Option.some.inj H
        go_wp2
        repeat (go_quiet (fail); try go_wp2)
        go_ret
        exact ⟨by first | rfl | (simp; done) | (simp [*]; done), by repeat (first | exact Drawn0.refl _ | apply Drawn0.step)⟩
      · replace c4 := Bool.eq_false_iff.mpr c4
        subst c4
        have H1 : (impl_StepListOk.l0 kj1 l0 l0 (l0.length : Int) 0) = some r := by rw [if_neg (show ¬ (false = true) by decide)] at H; exact H
        clear H
        have H := H1
        clear H1
        have H' := Aside0.mk H
        clear H
        go_wp2
        repeat (go_quiet (fail); try go_wp2)
        go_loopg [15] kj1 (fun kq v15 w' => ∃ (x15_2 : Int), v15 = .int .i64 x15_2 ∧ Aside0 (impl_StepListOk.l0 kq l0 l0 (l0.length : Int) x15_2 = some r) ∧ Aside0 (kq ≤ kj1) ∧ Drawn0 w w')
        case atStart => exact ⟨(0), (by first | rfl | (simp; done) | (simp [*]; done)), H', ⟨Nat.le_refl _⟩, by repeat (first | exact Drawn0.refl _ | apply Drawn0.step)⟩
        case round =>
          clear H'
          try clear c1
          try clear c2
          try clear p2
          try clear c3
          try clear c3b0
          try clear c3b1
          try clear c4
          try clear p2
          obtain ⟨x15_2, rfl, HA, HK2, ⟨m2, rfl⟩⟩ := hrel
          cases gk with
          | zero => exact absurd HA.out (by simp [impl_StepListOk.l0])
          | succ k2 =>
            have H := HA.out
            clear HA
            simp only [impl_StepListOk.l0] at H
            by_cases c5 : x15_2 < (l0.length : Int)
            · rw [if_pos c5] at H
              have c5b0 : decide (x15_2 < (l0.length : Int)) = true := decide_eq_true c5
              clear c5
              by_cases c6 : 0 ≤ x15_2
              · rw [if_pos c6] at H
                have c6b0 : decide (0 ≤ x15_2) = true := decide_eq_true c6
                clear c6
                by_cases c7 : x15_2 < (l0.length : Int)
                · rw [if_pos c7] at H
                  have c7b0 : decide (x15_2 < (l0.length : Int)) = true := decide_eq_true c7
                  clear c7
                  have HC8 := Aside0.mk H
                  clear H
                  have p150 : 0 ≤ (x15_2 : Int) := of_decide_eq_true (by first | (with_reducible assumption) | assumption)
                  have q150 : x15_2 < (l0.length : Int) := of_decide_eq_true (by first | (with_reducible assumption) | assumption)
                  obtain ⟨ad150, A150_0, c150_0, e150, hx150_0, hl150_0, hi150_0⟩ := at_L1 HR0.out x15_2 p150 q150
                  cases e150
                  have HR150_0 := Aside0.mk hi150_0
                  have HC150_0 := Aside0.mk hl150_0
                  clear hi150_0 hl150_0
                  replace p150 := eq_true p150
                  replace q150 := eq_true q150
                  go_upto_region 6 with (fail)
                  repeat (go_quiet (fail); go_upto_region 6 with (fail))
                  go_cut [36] (fun v36 wc => ∃ (kq : Nat) (x36_7 : Bool), v36 = .bool x36_7 ∧ Aside0 (impl_StepListOk.j2 kq l0 x15_2 (rd_L1 l0 x15_2) l0 (l0.length : Int) x15_2 x36_7 = some r) ∧ Aside0 (kq ≤ k2) ∧ Drawn0 w wc)
                  case first =>
                    have H := HC8.out
                    clear HC8
                    by_cases c9 : ((rd_L1 l0 x15_2).length : Int) = 2
                    · rw [if_pos c9] at H
                      have c9b0 : (((rd_L1 l0 x15_2).length : Int) == 2) = true := beq_iff_eq.mpr c9
                      have c9b1 : (((rd_L1 l0 x15_2).length : Int) != 2) = false := bne_eq_false_iff_eq.mpr c9
                      clear c9
                      (first | rw [c9b0] | (simp only [i64_w, i32_w]; rw [c9b0]) | skip)
                      by_cases c10 : 0 < ((rd_L1 l0 x15_2).length : Int)
                      · rw [if_pos c10] at H
                        have c10b0 : decide (0 < ((rd_L1 l0 x15_2).length : Int)) = true := decide_eq_true c10
                        have c10b1 : decide (0 < (rd_L1 l0 x15_2).length) = true := decide_eq_true (by omega)
                        clear c10
                        replace H := Option.bind_eq_some_iff.mp H
                        obtain ⟨t152, A110, H⟩ := H
                        replace H : (if t152 = true then (if 1 < ((rd_L1 l0 x15_2).length : Int) then ((impl_within.f (rd (rd_L1 l0 x15_2) 1) 0 1000).bind fun t154 => (impl_StepListOk.j2 k2 l0 x15_2 (rd_L1 l0 x15_2) l0 (l0.length : Int) x15_2 (!t154))) else (none)) else (impl_StepListOk.j2 k2 l0 x15_2 (rd_L1 l0 x15_2) l0 (l0.length : Int) x15_2 true)) = some r := H
                        have A11 := Aside0.mk A110
                        clear A110
                        by_cases c12 : t152 = true
                        · subst c12
                          have H1 : (if 1 < ((rd_L1 l0 x15_2).length : Int) then ((impl_within.f (rd (rd_L1 l0 x15_2) 1) 0 1000).bind fun t154 => (impl_StepListOk.j2 k2 l0 x15_2 (rd_L1 l0 x15_2) l0 (l0.length : Int) x15_2 (!t154))) else (none)) = some r := by rw [if_pos rfl] at H; exact H
                          clear H
                          have H := H1
                          clear H1
                          by_cases c13 : 1 < ((rd_L1 l0 x15_2).length : Int)
                          · rw [if_pos c13] at H
                            have c13b0 : decide (1 < ((rd_L1 l0 x15_2).length : Int)) = true := decide_eq_true c13
                            have c13b1 : decide (1 < (rd_L1 l0 x15_2).length) = true := decide_eq_true (by omega)
                            clear c13
                            replace H := Option.bind_eq_some_iff.mp H
                            obtain ⟨t154, A140, H⟩ := H
                            replace H : (impl_StepListOk.j2 k2 l0 x15_2 (rd_L1 l0 x15_2) l0 (l0.length : Int) x15_2 (!t154)) = some r := H
                            have A14 := Aside0.mk A140
                            clear A140
                            have H' := Aside0.mk H
                            clear H
                            have p151 : 0 ≤ (0 : Int) := (by omega)
                            have q151 : 0 < ((rd_L1 l0 x15_2).length : Int) := of_decide_eq_true (by first | (with_reducible assumption) | assumption)
                            obtain ⟨ad151, e151, hx151_0⟩ := Kd.at_int HR150_0.out 0 p151 q151
                            cases e151
                            have qi151 : (0 < (rd_L1 l0 x15_2).length) = True := eq_true (by omega)
                            (try rw [show ((0 : Int)).toNat = 0 from rfl] at hx151_0)
                            (try rw [Addr.add_zero'] at hx151_0)
                            replace p151 := eq_true p151
                            replace q151 := eq_true q151
                            go_wp2_with (first | (go_at_call 60; (with_reducible refine (impl_within.calls (rd (rd_L1 l0 x15_2) 0) 0 100000 true _ A11.out).mono ?_); rintro e w' ⟨rfl, ⟨nd, rfl⟩⟩; (try first | exact ⟨rfl, _, World.drewN_drewN _ _ _⟩ | exact ⟨rfl, _, Eq.trans (World.drewN_drewN _ _ _) (congrArg (World.drewN _) (Nat.add_assoc _ _ _))⟩); have p153 : 0 ≤ (1 : Int) := (by omega); have q153 : 1 < ((rd_L1 l0 x15_2).length : Int) := of_decide_eq_true (by first | (with_reducible assumption) | assumption); obtain ⟨ad153, e153, hx153_0⟩ := Kd.at_int HR150_0.out 1 p153 q153; obtain rfl : ad151 = ad153 := (by injection e153); (try simp only [show (1 : Int).toNat = 1 from rfl, Nat.reduceMul, Nat.reduceEqDiff, Go.Addr.add, ↓reduceIte] at hx153_0); have qi153 : (1 < (rd_L1 l0 x15_2).length) = True := eq_true (by omega); (try rw [show ((1 : Int)).toNat = 1 from rfl] at hx153_0); replace p153 := eq_true p153; replace q153 := eq_true q153) | (go_at_call 60; (with_reducible refine (impl_within.calls (rd (rd_L1 l0 x15_2) 1) 0 1000 t154 _ A14.out).mono ?_); rintro e w' ⟨rfl, ⟨nd, rfl⟩⟩; (try first | exact ⟨rfl, _, World.drewN_drewN _ _ _⟩ | exact ⟨rfl, _, Eq.trans (World.drewN_drewN _ _ _) (congrArg (World.drewN _) (Nat.add_assoc _ _ _))⟩)))
                            repeat (go_quiet (first | (go_at_call 60; (with_reducible refine (impl_within.calls (rd (rd_L1 l0 x15_2) 0) 0 100000 true _ A11.out).mono ?_); rintro e w' ⟨rfl, ⟨nd, rfl⟩⟩; (try first | exact ⟨rfl, _, World.drewN_drewN _ _ _⟩ | exact ⟨rfl, _, Eq.trans (World.drewN_drewN _ _ _) (congrArg (World.drewN _) (Nat.add_assoc _ _ _))⟩); have p153 : 0 ≤ (1 : Int) := (by omega); have q153 : 1 < ((rd_L1 l0 x15_2).length : Int) := of_decide_eq_true (by first | (with_reducible assumption) | assumption); obtain ⟨ad153, e153, hx153_0⟩ := Kd.at_int HR150_0.out 1 p153 q153; obtain rfl : ad151 = ad153 := (by injection e153); (try simp only [show (1 : Int).toNat = 1 from rfl, Nat.reduceMul, Nat.reduceEqDiff, Go.Addr.add, ↓reduceIte] at hx153_0); have qi153 : (1 < (rd_L1 l0 x15_2).length) = True := eq_true (by omega); (try rw [show ((1 : Int)).toNat = 1 from rfl] at hx153_0); replace p153 := eq_true p153; replace q153 := eq_true q153) | (go_at_call 60; (with_reducible refine (impl_within.calls (rd (rd_L1 l0 x15_2) 1) 0 1000 t154 _ A14.out).mono ?_); rintro e w' ⟨rfl, ⟨nd, rfl⟩⟩; (try first | exact ⟨rfl, _, World.drewN_drewN _ _ _⟩ | exact ⟨rfl, _, Eq.trans (World.drewN_drewN _ _ _) (congrArg (World.drewN _) (Nat.add_assoc _ _ _))⟩))); try go_wp2_with (first | (go_at_call 60; (with_reducible refine (impl_within.calls (rd (rd_L1 l0 x15_2) 0) 0 100000 true _ A11.out).mono ?_); rintro e w' ⟨rfl, ⟨nd, rfl⟩⟩; (try first | exact ⟨rfl, _, World.drewN_drewN _ _ _⟩ | exact ⟨rfl, _, Eq.trans (World.drewN_drewN _ _ _) (congrArg (World.drewN _) (Nat.add_assoc _ _ _))⟩); have p153 : 0 ≤ (1 : Int) := (by omega); have q153 : 1 < ((rd_L1 l0 x15_2).length : Int) := of_decide_eq_true (by first | (with_reducible assumption) | assumption); obtain ⟨ad153, e153, hx153_0⟩ := Kd.at_int HR150_0.out 1 p153 q153; obtain rfl : ad151 = ad153 := (by injection e153); (try simp only [show (1 : Int).toNat = 1 from rfl, Nat.reduceMul, Nat.reduceEqDiff, Go.Addr.add, ↓reduceIte] at hx153_0); have qi153 : (1 < (rd_L1 l0 x15_2).length) = True := eq_true (by omega); (try rw [show ((1 : Int)).toNat = 1 from rfl] at hx153_0); replace p153 := eq_true p153; replace q153 := eq_true q153) | (go_at_call 60; (with_reducible refine (impl_within.calls (rd (rd_L1 l0 x15_2) 1) 0 1000 t154 _ A14.out).mono ?_); rintro e w' ⟨rfl, ⟨nd, rfl⟩⟩; (try first | exact ⟨rfl, _, World.drewN_drewN _ _ _⟩ | exact ⟨rfl, _, Eq.trans (World.drewN_drewN _ _ _) (congrArg (World.drewN _) (Nat.add_assoc _ _ _))⟩))))
                            go_meet
                            case rel => exact ⟨_, (!t154), (by first | rfl | (simp; done) | (simp [*]; done)), H', ⟨by have := HJ1.out; have := HK2.out; first | omega | exact Nat.le_refl _⟩, by repeat (first | exact Drawn0.refl _ | apply Drawn0.step)⟩
                          · rw [if_neg c13] at H
                            exact absurd H (by simp)
                        · replace c12 := Bool.eq_false_iff.mpr c12
                          subst c12
                          have H1 : (impl_StepListOk.j2 k2 l0 x15_2 (rd_L1 l0 x15_2) l0 (l0.length : Int) x15_2 true) = some r := by rw [if_neg (show ¬ (false = true) by decide)] at H; exact H
                          clear H
                          have H := H1
                          clear H1
                          have H' := Aside0.mk H
                          clear H
                          have p151 : 0 ≤ (0 : Int) := (by omega)
                          have q151 : 0 < ((rd_L1 l0 x15_2).length : Int) := of_decide_eq_true (by first | (with_reducible assumption) | assumption)
                          obtain ⟨ad151, e151, hx151_0⟩ := Kd.at_int HR150_0.out 0 p151 q151
                          cases e151
                          have qi151 : (0 < (rd_L1 l0 x15_2).length) = True := eq_true (by omega)
                          (try rw [show ((0 : Int)).toNat = 0 from rfl] at hx151_0)
                          (try rw [Addr.add_zero'] at hx151_0)
                          replace p151 := eq_true p151
                          replace q151 := eq_true q151
                          go_wp2_with (first | (go_at_call 60; (with_reducible refine (impl_within.calls (rd (rd_L1 l0 x15_2) 0) 0 100000 false _ A11.out).mono ?_); rintro e w' ⟨rfl, ⟨nd, rfl⟩⟩; (try first | exact ⟨rfl, _, World.drewN_drewN _ _ _⟩ | exact ⟨rfl, _, Eq.trans (World.drewN_drewN _ _ _) (congrArg (World.drewN _) (Nat.add_assoc _ _ _))⟩)))
                          repeat (go_quiet (first | (go_at_call 60; (with_reducible refine (impl_within.calls (rd (rd_L1 l0 x15_2) 0) 0 100000 false _ A11.out).mono ?_); rintro e w' ⟨rfl, ⟨nd, rfl⟩⟩; (try first | exact ⟨rfl, _, World.drewN_drewN _ _ _⟩ | exact ⟨rfl, _, Eq.trans (World.drewN_drewN _ _ _) (congrArg (World.drewN _) (Nat.add_assoc _ _ _))⟩))); try go_wp2_with (first | (go_at_call 60; (with_reducible refine (impl_within.calls (rd (rd_L1 l0 x15_2) 0) 0 100000 false _ A11.out).mono ?_); rintro e w' ⟨rfl, ⟨nd, rfl⟩⟩; (try first | exact ⟨rfl, _, World.drewN_drewN _ _ _⟩ | exact ⟨rfl, _, Eq.trans (World.drewN_drewN _ _ _) (congrArg (World.drewN _) (Nat.add_assoc _ _ _))⟩))))
                          go_meet
                          case rel => exact ⟨_, (true), (by first | rfl | (simp; done) | (simp [*]; done)), H', ⟨by have := HJ1.out; have := HK2.out; first | omega | exact Nat.le_refl _⟩, by repeat (first | exact Drawn0.refl _ | apply Drawn0.step)⟩
                      · rw [if_neg c10] at H
                        exact absurd H (by simp)
                    · rw [if_neg c9] at H
                      have c9b0 : (((rd_L1 l0 x15_2).length : Int) == 2) = false := beq_eq_false_iff_ne.mpr c9
                      have c9b1 : (((rd_L1 l0 x15_2).length : Int) != 2) = true := bne_iff_ne.mpr c9
                      (first | rw [c9b0] | (simp only [i64_w, i32_w]; rw [c9b0]) | skip)
                      have H' := Aside0.mk H
                      clear H
                      go_wp2
                      repeat (go_quiet (fail); try go_wp2)
                      go_meet
                      case rel => exact ⟨_, (true), (by first | rfl | (simp; done) | (simp [*]; done)), H', ⟨by have := HJ1.out; have := HK2.out; first | omega | exact Nat.le_refl _⟩, by repeat (first | exact Drawn0.refl _ | apply Drawn0.step)⟩
                  case rest =>
                    clear HC8
                    try clear c1
                    try clear p1
                    try clear q1
                    try clear hx1
                    try clear qi1
                    try clear c2
                    try clear p2
                    try clear c3
                    try clear c3b0
                    try clear c3b1
                    try clear c4
                    try clear c5
                    try clear c5b0
                    try clear c6
                    try clear c6b0
                    try clear c7
                    try clear c7b0
                    try clear c9
                    try clear c9b0
                    try clear c9b1
                    try clear c10
                    try clear c10b0
                    try clear c10b1
                    try clear c12
                    try clear c13
                    try clear c13b0
                    try clear c13b1
                    try clear hx150_0
                    try clear hx151_0
                    try clear hx153_0
                    try clear p150
                    try clear p151
                    try clear p153
                    try clear p2
                    try clear q150
                    try clear q151
                    try clear q153
                    obtain ⟨kq, x36_7, rfl, HA, HJ7, ⟨mc7, rfl⟩⟩ := hcut
                    cases kq with
                    | zero => exact absurd HA.out (by simp [impl_StepListOk.j2])
                    | succ kj7 =>
                      have H := HA.out
                      clear HA
                      simp only [impl_StepListOk.j2] at H
                      by_cases c15 : x36_7 = true
                      · subst c15
                        have H1 : (some false) = some r := by rw [if_pos rfl] at H; exact H
                        clear H
                        have H := H1
                        clear H1
                        obtain rfl := Option.some.inj H
                        go_wp2
                        repeat (go_quiet (fail); try go_wp2)
                        go_ret
                        exact ⟨by first | rfl | (simp; done) | (simp [*]; done), by repeat (first | exact Drawn0.refl _ | apply Drawn0.step)⟩
                      · replace c15 := Bool.eq_false_iff.mpr c15
                        subst c15
                        have H1 : (if x15_2 = 0 then (if 0 < ((rd_L1 l0 x15_2).length : Int) then (if (rd (rd_L1 l0 x15_2) 0) = 0 then (if x15_2 > 0 then (if 0 ≤ (wrap64 (x15_2 - 1)) then (if (wrap64 (x15_2 - 1)) < (l0.length : Int) then (if 0 < ((rd_L1 l0 (wrap64 (x15_2 - 1))).length : Int) then (if (rd (rd_L1 l0 x15_2) 0) ≤ (rd (rd_L1 l0 (wrap64 (x15_2 - 1))) 0) then (some false) else (if 1 < ((rd_L1 l0 x15_2).length : Int) then (if 1 < ((rd_L1 l0 (wrap64 (x15_2 - 1))).length : Int) then (if (rd (rd_L1 l0 x15_2) 1) > (rd (rd_L1 l0 (wrap64 (x15_2 - 1))) 1) then (some false) else (impl_StepListOk.l0 kj7 l0 l0 (l0.length : Int) (wrap64 (x15_2 + 1)))) else (none)) else (none))) else (none)) else (none)) else (none)) else (impl_StepListOk.l0 kj7 l0 l0 (l0.length : Int) (wrap64 (x15_2 + 1)))) else (some false)) else (none)) else (if x15_2 > 0 then (if 0 < ((rd_L1 l0 x15_2).length : Int) then (if 0 ≤ (wrap64 (x15_2 - 1)) then (if (wrap64 (x15_2 - 1)) < (l0.length : Int) then (if 0 < ((rd_L1 l0 (wrap64 (x15_2 - 1))).length : Int) then (if (rd (rd_L1 l0 x15_2) 0) ≤ (rd (rd_L1 l0 (wrap64 (x15_2 - 1))) 0) then (some false) else (if 1 < ((rd_L1 l0 x15_2).length : Int) then (if 1 < ((rd_L1 l0 (wrap64 (x15_2 - 1))).length : Int) then (if (rd (rd_L1 l0 x15_2) 1) > (rd (rd_L1 l0 (wrap64 (x15_2 - 1))) 1) then (some false) else (impl_StepListOk.l0 kj7 l0 l0 (l0.length : Int) (wrap64 (x15_2 + 1)))) else (none)) else (none))) else (none)) else (none)) else (none)) else (none)) else (impl_StepListOk.l0 kj7 l0 l0 (l0.length : Int) (wrap64 (x15_2 + 1))))) = some r := by rw [if_neg (show ¬ (false = true) by decide)] at H; exact H
                        clear H
                        have H := H1
                        clear H1
                        by_cases c16 : x15_2 = 0
                        · rw [if_pos c16] at H
                          have c16b0 : (x15_2 == 0) = true := beq_iff_eq.mpr c16
                          have c16b1 : (x15_2 != 0) = false := bne_eq_false_iff_eq.mpr c16
                          clear c16
                          by_cases c17 : 0 < ((rd_L1 l0 x15_2).length : Int)
                          · rw [if_pos c17] at H
                            have c17b0 : decide (0 < ((rd_L1 l0 x15_2).length : Int)) = true := decide_eq_true c17
                            have c17b1 : decide (0 < (rd_L1 l0 x15_2).length) = true := decide_eq_true (by omega)
                            clear c17
                            by_cases c18 : (rd (rd_L1 l0 x15_2) 0) = 0
                            · rw [if_pos c18] at H
                              have c18b0 : ((rd (rd_L1 l0 x15_2) 0) == 0) = true := beq_iff_eq.mpr c18
                              have c18b1 : ((rd (rd_L1 l0 x15_2) 0) != 0) = false := bne_eq_false_iff_eq.mpr c18
                              clear c18
                              by_cases c19 : x15_2 > 0
                              · rw [if_pos c19] at H
                                have c19b0 : decide (0 < x15_2) = true := decide_eq_true c19
                                clear c19
                                obtain ⟨ji20, hji20⟩ : ∃ j_ : Int, (wrap64 (x15_2 - 1)) = j_ := ⟨_, rfl⟩
                                replace H : (if 0 ≤ (ji20) then (if (ji20) < (l0.length : Int) then (if 0 < ((rd_L1 l0 (ji20)).length : Int) then (if (rd (rd_L1 l0 x15_2) 0) ≤ (rd (rd_L1 l0 (ji20)) 0) then (some false) else (if 1 < ((rd_L1 l0 x15_2).length : Int) then (if 1 < ((rd_L1 l0 (ji20)).length : Int) then (if (rd (rd_L1 l0 x15_2) 1) > (rd (rd_L1 l0 (ji20)) 1) then (some false) else (impl_StepListOk.l0 kj7 l0 l0 (l0.length : Int) (wrap64 (x15_2 + 1)))) else (none)) else (none))) else (none)) else (none)) else (none)) = some r := by first | (rw [hji20] at H; exact H) | (simp only [hji20] at H ⊢; exact H)
                                have hji20w : (IntKind.i64.wrap (x15_2 - 1)) = ji20 := (i64_w _).trans hji20
                                by_cases c21 : 0 ≤ (ji20)
                                · rw [if_pos c21] at H
                                  have c21b0 : decide (0 ≤ (ji20)) = true := decide_eq_true c21
                                  clear c21
                                  by_cases c22 : (ji20) < (l0.length : Int)
                                  · rw [if_pos c22] at H
                                    have c22b0 : decide ((ji20) < (l0.length : Int)) = true := decide_eq_true c22
                                    clear c22
                                    by_cases c23 : 0 < ((rd_L1 l0 (ji20)).length : Int)
                                    · rw [if_pos c23] at H
                                      have c23b0 : decide (0 < ((rd_L1 l0 (ji20)).length : Int)) = true := decide_eq_true c23
                                      have c23b1 : decide (0 < (rd_L1 l0 (ji20)).length) = true := decide_eq_true (by omega)
                                      clear c23
                                      by_cases c24 : (rd (rd_L1 l0 x15_2) 0) ≤ (rd (rd_L1 l0 (ji20)) 0)
                                      · rw [if_pos c24] at H
                                        have c24b0 : decide ((rd (rd_L1 l0 x15_2) 0) ≤ (rd (rd_L1 l0 (ji20)) 0)) = true := decide_eq_true c24
                                        clear c24
                                        obtain rfl := Option.some.inj H
                                        have p155 : 0 ≤ (0 : Int) := (by omega)
                                        have q155 : 0 < ((rd_L1 l0 x15_2).length : Int) := of_decide_eq_true (by first | (with_reducible assumption) | assumption)
                                        obtain ⟨ad155, e155, hx155_0⟩ := Kd.at_int HR150_0.out 0 p155 q155
                                        cases e155
                                        have qi155 : (0 < (rd_L1 l0 x15_2).length) = True := eq_true (by omega)
                                        (try rw [show ((0 : Int)).toNat = 0 from rfl] at hx155_0)
                                        (try rw [Addr.add_zero'] at hx155_0)
                                        replace p155 := eq_true p155
                                        replace q155 := eq_true q155
                                        have p156 : 0 ≤ (0 : Int) := (by omega)
                                        have q156 : 0 < ((rd_L1 l0 x15_2).length : Int) := of_decide_eq_true (by first | (with_reducible assumption) | assumption)
                                        obtain ⟨ad156, e156, hx156_0⟩ := Kd.at_int HR150_0.out 0 p156 q156
                                        obtain rfl : ad155 = ad156 := (by injection e156)
                                        have qi156 : (0 < (rd_L1 l0 x15_2).length) = True := eq_true (by omega)
                                        (try rw [show ((0 : Int)).toNat = 0 from rfl] at hx156_0)
                                        (try rw [Addr.add_zero'] at hx156_0)
                                        replace p156 := eq_true p156
                                        replace q156 := eq_true q156
                                        have p157 : 0 ≤ ((ji20) : Int) := of_decide_eq_true (by first | (with_reducible assumption) | assumption)
                                        have q157 : (ji20) < (l0.length : Int) := of_decide_eq_true (by first | (with_reducible assumption) | assumption)
                                        obtain ⟨ad157, A157_0, c157_0, e157, hx157_0, hl157_0, hi157_0⟩ := at_L1 HR0.out (ji20) p157 q157
                                        obtain rfl : ad150 = ad157 := (by injection e157)
                                        have HR157_0 := Aside0.mk hi157_0
                                        have HC157_0 := Aside0.mk hl157_0
                                        clear hi157_0 hl157_0
                                        replace p157 := eq_true p157
                                        replace q157 := eq_true q157
                                        have p158 : 0 ≤ (0 : Int) := (by omega)
                                        have q158 : 0 < ((rd_L1 l0 (ji20)).length : Int) := of_decide_eq_true (by first | (with_reducible assumption) | assumption)
                                        obtain ⟨ad158, e158, hx158_0⟩ := Kd.at_int HR157_0.out 0 p158 q158
                                        cases e158
                                        have qi158 : (0 < (rd_L1 l0 (ji20)).length) = True := eq_true (by omega)
                                        (try rw [show ((0 : Int)).toNat = 0 from rfl] at hx158_0)
                                        (try rw [Addr.add_zero'] at hx158_0)
                                        replace p158 := eq_true p158
                                        replace q158 := eq_true q158
                                        go_wp2
                                        repeat (go_quiet (fail); try go_wp2)
                                        go_ret
                                        exact ⟨by first | rfl | (simp; done) | (simp only [← hji20] <;> (first | rfl | simp)) | (simp [*]; done), by repeat (first | exact Drawn0.refl _ | apply Drawn0.step)⟩
                                      · rw [if_neg c24] at H
                                        have c24b0 : decide ((rd (rd_L1 l0 x15_2) 0) ≤ (rd (rd_L1 l0 (ji20)) 0)) = false := decide_eq_false c24
                                        clear c24
                                        by_cases c25 : 1 < ((rd_L1 l0 x15_2).length : Int)
                                        · rw [if_pos c25] at H
                                          have c25b0 : decide (1 < ((rd_L1 l0 x15_2).length : Int)) = true := decide_eq_true c25
                                          have c25b1 : decide (1 < (rd_L1 l0 x15_2).length) = true := decide_eq_true (by omega)
                                          clear c25
                                          by_cases c26 : 1 < ((rd_L1 l0 (ji20)).length : Int)
                                          · rw [if_pos c26] at H
                                            have c26b0 : decide (1 < ((rd_L1 l0 (ji20)).length : Int)) = true := decide_eq_true c26
                                            have c26b1 : decide (1 < (rd_L1 l0 (ji20)).length) = true := decide_eq_true (by omega)
                                            clear c26
                                            by_cases c27 : (rd (rd_L1 l0 x15_2) 1) > (rd (rd_L1 l0 (ji20)) 1)
                                            · rw [if_pos c27] at H
                                              have c27b0 : decide ((rd (rd_L1 l0 (ji20)) 1) < (rd (rd_L1 l0 x15_2) 1)) = true := decide_eq_true c27
                                              clear c27
                                              obtain rfl := Option.some.inj H
                                              have p155 : 0 ≤ (0 : Int) := (by omega)
                                              have q155 : 0 < ((rd_L1 l0 x15_2).length : Int) := of_decide_eq_true (by first | (with_reducible assumption) | assumption)
                                              obtain ⟨ad155, e155, hx155_0⟩ := Kd.at_int HR150_0.out 0 p155 q155
                                              cases e155
                                              have qi155 : (0 < (rd_L1 l0 x15_2).length) = True := eq_true (by omega)
                                              (try rw [show ((0 : Int)).toNat = 0 from rfl] at hx155_0)
                                              (try rw [Addr.add_zero'] at hx155_0)
                                              replace p155 := eq_true p155
                                              replace q155 := eq_true q155
                                              have p156 : 0 ≤ (0 : Int) := (by omega)
                                              have q156 : 0 < ((rd_L1 l0 x15_2).length : Int) := of_decide_eq_true (by first | (with_reducible assumption) | assumption)
                                              obtain ⟨ad156, e156, hx156_0⟩ := Kd.at_int HR150_0.out 0 p156 q156
                                              obtain rfl : ad155 = ad156 := (by injection e156)
                                              have qi156 : (0 < (rd_L1 l0 x15_2).length) = True := eq_true (by omega)
                                              (try rw [show ((0 : Int)).toNat = 0 from rfl] at hx156_0)
                                              (try rw [Addr.add_zero'] at hx156_0)
                                              replace p156 := eq_true p156
                                              replace q156 := eq_true q156
                                              have p157 : 0 ≤ ((ji20) : Int) := of_decide_eq_true (by first | (with_reducible assumption) | assumption)
                                              have q157 : (ji20) < (l0.length : Int) := of_decide_eq_true (by first | (with_reducible assumption) | assumption)
                                              obtain ⟨ad157, A157_0, c157_0, e157, hx157_0, hl157_0, hi157_0⟩ := at_L1 HR0.out (ji20) p157 q157
                                              obtain rfl : ad150 = ad157 := (by injection e157)
                                              have HR157_0 := Aside0.mk hi157_0
                                              have HC157_0 := Aside0.mk hl157_0
                                              clear hi157_0 hl157_0
                                              replace p157 := eq_true p157
                                              replace q157 := eq_true q157
                                              have p158 : 0 ≤ (0 : Int) := (by omega)
                                              have q158 : 0 < ((rd_L1 l0 (ji20)).length : Int) := of_decide_eq_true (by first | (with_reducible assumption) | assumption)
                                              obtain ⟨ad158, e158, hx158_0⟩ := Kd.at_int HR157_0.out 0 p158 q158
                                              cases e158
                                              have qi158 : (0 < (rd_L1 l0 (ji20)).length) = True := eq_true (by omega)
                                              (try rw [show ((0 : Int)).toNat = 0 from rfl] at hx158_0)
                                              (try rw [Addr.add_zero'] at hx158_0)
                                              replace p158 := eq_true p158
                                              replace q158 := eq_true q158
                                              have p159 : 0 ≤ (1 : Int) := (by omega)
                                              have q159 : 1 < ((rd_L1 l0 x15_2).length : Int) := of_decide_eq_true (by first | (with_reducible assumption) | assumption)
                                              obtain ⟨ad159, e159, hx159_0⟩ := Kd.at_int HR150_0.out 1 p159 q159
                                              obtain rfl : ad155 = ad159 := (by injection e159)
                                              (try simp only [show (1 : Int).toNat = 1 from rfl, Nat.reduceMul, Nat.reduceEqDiff, Go.Addr.add, ↓reduceIte] at hx159_0)
                                              have qi159 : (1 < (rd_L1 l0 x15_2).length) = True := eq_true (by omega)
                                              (try rw [show ((1 : Int)).toNat = 1 from rfl] at hx159_0)
                                              replace p159 := eq_true p159
                                              replace q159 := eq_true q159
                                              have p160 : 0 ≤ ((ji20) : Int) := of_decide_eq_true (by first | (with_reducible assumption) | assumption)
                                              have q160 : (ji20) < (l0.length : Int) := of_decide_eq_true (by first | (with_reducible assumption) | assumption)
                                              obtain ⟨ad160, A160_0, c160_0, e160, hx160_0, hl160_0, hi160_0⟩ := at_L1 HR0.out (ji20) p160 q160
                                              obtain rfl : ad150 = ad160 := (by injection e160)
                                              have HR160_0 := Aside0.mk hi160_0
                                              have HC160_0 := Aside0.mk hl160_0
                                              clear hi160_0 hl160_0
                                              replace p160 := eq_true p160
                                              replace q160 := eq_true q160
                                              have ea_ := Option.some.inj (hx157_0.symm.trans hx160_0)
                                              injection ea_ with ea_ en_ ec_
                                              subst ea_
                                              subst ec_
                                              clear en_
                                              have p161 : 0 ≤ (1 : Int) := (by omega)
                                              have q161 : 1 < ((rd_L1 l0 (ji20)).length : Int) := of_decide_eq_true (by first | (with_reducible assumption) | assumption)
                                              obtain ⟨ad161, e161, hx161_0⟩ := Kd.at_int HR160_0.out 1 p161 q161
                                              cases e161
                                              (try simp only [show (1 : Int).toNat = 1 from rfl, Nat.reduceMul, Nat.reduceEqDiff, Go.Addr.add, ↓reduceIte] at hx161_0)
                                              have qi161 : (1 < (rd_L1 l0 (ji20)).length) = True := eq_true (by omega)
                                              (try rw [show ((1 : Int)).toNat = 1 from rfl] at hx161_0)
                                              replace p161 := eq_true p161
                                              replace q161 := eq_true q161
                                              go_wp2
                                              repeat (go_quiet (fail); try go_wp2)
                                              go_ret
                                              exact ⟨by first | rfl | (simp; done) | (simp only [← hji20] <;> (first | rfl | simp)) | (simp [*]; done), by repeat (first | exact Drawn0.refl _ | apply Drawn0.step)⟩
                                            · rw [if_neg c27] at H
                                              have c27b0 : decide ((rd (rd_L1 l0 (ji20)) 1) < (rd (rd_L1 l0 x15_2) 1)) = false := decide_eq_false c27
                                              clear c27
                                              have H' := Aside0.mk H
                                              clear H
                                              have p155 : 0 ≤ (0 : Int) := (by omega)
                                              have q155 : 0 < ((rd_L1 l0 x15_2).length : Int) := of_decide_eq_true (by first | (with_reducible assumption) | assumption)
                                              obtain ⟨ad155, e155, hx155_0⟩ := Kd.at_int HR150_0.out 0 p155 q155
                                              cases e155
                                              have qi155 : (0 < (rd_L1 l0 x15_2).length) = True := eq_true (by omega)
                                              (try rw [show ((0 : Int)).toNat = 0 from rfl] at hx155_0)
                                              (try rw [Addr.add_zero'] at hx155_0)
                                              replace p155 := eq_true p155
                                              replace q155 := eq_true q155
                                              have p156 : 0 ≤ (0 : Int) := (by omega)
                                              have q156 : 0 < ((rd_L1 l0 x15_2).length : Int) := of_decide_eq_true (by first | (with_reducible assumption) | assumption)
                                              obtain ⟨ad156, e156, hx156_0⟩ := Kd.at_int HR150_0.out 0 p156 q156
                                              obtain rfl : ad155 = ad156 := (by injection e156)
                                              have qi156 : (0 < (rd_L1 l0 x15_2).length) = True := eq_true (by omega)
                                              (try rw [show ((0 : Int)).toNat = 0 from rfl] at hx156_0)
                                              (try rw [Addr.add_zero'] at hx156_0)
                                              replace p156 := eq_true p156
                                              replace q156 := eq_true q156
                                              have p157 : 0 ≤ ((ji20) : Int) := of_decide_eq_true (by first | (with_reducible assumption) | assumption)
                                              have q157 : (ji20) < (l0.length : Int) := of_decide_eq_true (by first | (with_reducible assumption) | assumption)
                                              obtain ⟨ad157, A157_0, c157_0, e157, hx157_0, hl157_0, hi157_0⟩ := at_L1 HR0.out (ji20) p157 q157
                                              obtain rfl : ad150 = ad157 := (by injection e157)
                                              have HR157_0 := Aside0.mk hi157_0
                                              have HC157_0 := Aside0.mk hl157_0
                                              clear hi157_0 hl157_0
                                              replace p157 := eq_true p157
                                              replace q157 := eq_true q157
                                              have p158 : 0 ≤ (0 : Int) := (by omega)
                                              have q158 : 0 < ((rd_L1 l0 (ji20)).length : Int) := of_decide_eq_true (by first | (with_reducible assumption) | assumption)
                                              obtain ⟨ad158, e158, hx158_0⟩ := Kd.at_int HR157_0.out 0 p158 q158
                                              cases e158
                                              have qi158 : (0 < (rd_L1 l0 (ji20)).length) = True := eq_true (by omega)
                                              (try rw [show ((0 : Int)).toNat = 0 from rfl] at hx158_0)
                                              (try rw [Addr.add_zero'] at hx158_0)
                                              replace p158 := eq_true p158
                                              replace q158 := eq_true q158
                                              have p159 : 0 ≤ (1 : Int) := (by omega)
                                              have q159 : 1 < ((rd_L1 l0 x15_2).length : Int) := of_decide_eq_true (by first | (with_reducible assumption) | assumption)
                                              obtain ⟨ad159, e159, hx159_0⟩ := Kd.at_int HR150_0.out 1 p159 q159
                                              obtain rfl : ad155 = ad159 := (by injection e159)
                                              (try simp only [show (1 : Int).toNat = 1 from rfl, Nat.reduceMul, Nat.reduceEqDiff, Go.Addr.add, ↓reduceIte] at hx159_0)
                                              have qi159 : (1 < (rd_L1 l0 x15_2).length) = True := eq_true (by omega)
                                              (try rw [show ((1 : Int)).toNat = 1 from rfl] at hx159_0)
                                              replace p159 := eq_true p159
                                              replace q159 := eq_true q159
                                              have p160 : 0 ≤ ((ji20) : Int) := of_decide_eq_true (by first | (with_reducible assumption) | assumption)
                                              have q160 : (ji20) < (l0.length : Int) := of_decide_eq_true (by first | (with_reducible assumption) | assumption)
                                              obtain ⟨ad160, A160_0, c160_0, e160, hx160_0, hl160_0, hi160_0⟩ := at_L1 HR0.out (ji20) p160 q160
                                              obtain rfl : ad150 = ad160 := (by injection e160)
                                              have HR160_0 := Aside0.mk hi160_0
                                              have HC160_0 := Aside0.mk hl160_0
                                              clear hi160_0 hl160_0
                                              replace p160 := eq_true p160
                                              replace q160 := eq_true q160
                                              have ea_ := Option.some.inj (hx157_0.symm.trans hx160_0)
                                              injection ea_ with ea_ en_ ec_
                                              subst ea_
                                              subst ec_
                                              clear en_
                                              have p161 : 0 ≤ (1 : Int) := (by omega)
                                              have q161 : 1 < ((rd_L1 l0 (ji20)).length : Int) := of_decide_eq_true (by first | (with_reducible assumption) | assumption)
                                              obtain ⟨ad161, e161, hx161_0⟩ := Kd.at_int HR160_0.out 1 p161 q161
                                              cases e161
                                              (try simp only [show (1 : Int).toNat = 1 from rfl, Nat.reduceMul, Nat.reduceEqDiff, Go.Addr.add, ↓reduceIte] at hx161_0)
                                              have qi161 : (1 < (rd_L1 l0 (ji20)).length) = True := eq_true (by omega)
                                              (try rw [show ((1 : Int)).toNat = 1 from rfl] at hx161_0)
                                              replace p161 := eq_true p161
                                              replace q161 := eq_true q161
                                              go_wp2
                                              repeat (go_quiet (fail); try go_wp2)
                                              go_roundg kj7
                                              case measure => have := HJ1.out; have := HK2.out; have := HJ7.out; omega
                                              case rel => exact ⟨(wrap64 (x15_2 + 1)), (by first | rfl | (simp; done) | (simp [*]; done)), H', ⟨by have := HJ1.out; have := HK2.out; have := HJ7.out; omega⟩, by repeat (first | exact Drawn0.refl _ | apply Drawn0.step)⟩
                                          · rw [if_neg c26] at H
                                            exact absurd H (by simp)
                                        · rw [if_neg c25] at H
                                          exact absurd H (by simp)
                                    · rw [if_neg c23] at H
                                      exact absurd H (by simp)
                                  · rw [if_neg c22] at H
                                    exact absurd H (by simp)
                                · rw [if_neg c21] at H
                                  exact absurd H (by simp)
                              · rw [if_neg c19] at H
                                have c19b0 : decide (0 < x15_2) = false := decide_eq_false c19
                                clear c19
                                have H' := Aside0.mk H
                                clear H
                                have p155 : 0 ≤ (0 : Int) := (by omega)
                                have q155 : 0 < ((rd_L1 l0 x15_2).length : Int) := of_decide_eq_true (by first | (with_reducible assumption) | assumption)
                                obtain ⟨ad155, e155, hx155_0⟩ := Kd.at_int HR150_0.out 0 p155 q155
                                cases e155
                                have qi155 : (0 < (rd_L1 l0 x15_2).length) = True := eq_true (by omega)
                                (try rw [show ((0 : Int)).toNat = 0 from rfl] at hx155_0)
                                (try rw [Addr.add_zero'] at hx155_0)
                                replace p155 := eq_true p155
                                replace q155 := eq_true q155
                                go_wp2
                                repeat (go_quiet (fail); try go_wp2)
                                go_roundg kj7
                                case measure => have := HJ1.out; have := HK2.out; have := HJ7.out; omega
                                case rel => exact ⟨(wrap64 (x15_2 + 1)), (by first | rfl | (simp; done) | (simp [*]; done)), H', ⟨by have := HJ1.out; have := HK2.out; have := HJ7.out; omega⟩, by repeat (first | exact Drawn0.refl _ | apply Drawn0.step)⟩
                            · rw [if_neg c18] at H
                              have c18b0 : ((rd (rd_L1 l0 x15_2) 0) == 0) = false := beq_eq_false_iff_ne.mpr c18
                              have c18b1 : ((rd (rd_L1 l0 x15_2) 0) != 0) = true := bne_iff_ne.mpr c18
                              obtain rfl := Option.some.inj H
                              have p155 : 0 ≤ (0 : Int) := (by omega)
                              have q155 : 0 < ((rd_L1 l0 x15_2).length : Int) := of_decide_eq_true (by first | (with_reducible assumption) | assumption)
                              obtain ⟨ad155, e155, hx155_0⟩ := Kd.at_int HR150_0.out 0 p155 q155
                              cases e155
                              have qi155 : (0 < (rd_L1 l0 x15_2).length) = True := eq_true (by omega)
                              (try rw [show ((0 : Int)).toNat = 0 from rfl] at hx155_0)
                              (try rw [Addr.add_zero'] at hx155_0)
                              replace p155 := eq_true p155
                              replace q155 := eq_true q155
                              go_wp2
                              repeat (go_quiet (fail); try go_wp2)
                              go_ret
                              exact ⟨by first | rfl | (simp; done) | (simp [*]; done), by repeat (first | exact Drawn0.refl _ | apply Drawn0.step)⟩
                          · rw [if_neg c17] at H
                            exact absurd H (by simp)
                        · rw [if_neg c16] at H
                          have c16b0 : (x15_2 == 0) = false := beq_eq_false_iff_ne.mpr c16
                          have c16b1 : (x15_2 != 0) = true := bne_iff_ne.mpr c16
                          by_cases c28 : x15_2 > 0
                          · rw [if_pos c28] at H
                            have c28b0 : decide (0 < x15_2) = true := decide_eq_true c28
                            clear c28
                            by_cases c29 : 0 < ((rd_L1 l0 x15_2).length : Int)
                            · rw [if_pos c29] at H
                              have c29b0 : decide (0 < ((rd_L1 l0 x15_2).length : Int)) = true := decide_eq_true c29
                              have c29b1 : decide (0 < (rd_L1 l0 x15_2).length) = true := decide_eq_true (by omega)
                              clear c29
                              obtain ⟨ji30, hji30⟩ : ∃ j_ : Int, (wrap64 (x15_2 - 1)) = j_ := ⟨_, rfl⟩
                              replace H : (if 0 ≤ (ji30) then (if (ji30) < (l0.length : Int) then (if 0 < ((rd_L1 l0 (ji30)).length : Int) then (if (rd (rd_L1 l0 x15_2) 0) ≤ (rd (rd_L1 l0 (ji30)) 0) then (some false) else (if 1 < ((rd_L1 l0 x15_2).length : Int) then (if 1 < ((rd_L1 l0 (ji30)).length : Int) then (if (rd (rd_L1 l0 x15_2) 1) > (rd (rd_L1 l0 (ji30)) 1) then (some false) else (impl_StepListOk.l0 kj7 l0 l0 (l0.length : Int) (wrap64 (x15_2 + 1)))) else (none)) else (none))) else (none)) else (none)) else (none)) = some r := by first | (rw [hji30] at H; exact H) | (simp only [hji30] at H ⊢; exact H)
                              have hji30w : (IntKind.i64.wrap (x15_2 - 1)) = ji30 := (i64_w _).trans hji30
                              by_cases c31 : 0 ≤ (ji30)
                              · rw [if_pos c31] at H
                                have c31b0 : decide (0 ≤ (ji30)) = true := decide_eq_true c31
                                clear c31
                                by_cases c32 : (ji30) < (l0.length : Int)
                                · rw [if_pos c32] at H
                                  have c32b0 : decide ((ji30) < (l0.length : Int)) = true := decide_eq_true c32
                                  clear c32
                                  by_cases c33 : 0 < ((rd_L1 l0 (ji30)).length : Int)
                                  · rw [if_pos c33] at H
                                    have c33b0 : decide (0 < ((rd_L1 l0 (ji30)).length : Int)) = true := decide_eq_true c33
                                    have c33b1 : decide (0 < (rd_L1 l0 (ji30)).length) = true := decide_eq_true (by omega)
                                    clear c33
                                    by_cases c34 : (rd (rd_L1 l0 x15_2) 0) ≤ (rd (rd_L1 l0 (ji30)) 0)
                                    · rw [if_pos c34] at H
                                      have c34b0 : decide ((rd (rd_L1 l0 x15_2) 0) ≤ (rd (rd_L1 l0 (ji30)) 0)) = true := decide_eq_true c34
                                      clear c34
                                      obtain rfl := Option.some.inj H
                                      have p162 : 0 ≤ (0 : Int) := (by omega)
                                      have q162 : 0 < ((rd_L1 l0 x15_2).length : Int) := of_decide_eq_true (by first | (with_reducible assumption) | assumption)
                                      obtain ⟨ad162, e162, hx162_0⟩ := Kd.at_int HR150_0.out 0 p162 q162
                                      cases e162
                                      have qi162 : (0 < (rd_L1 l0 x15_2).length) = True := eq_true (by omega)
                                      (try rw [show ((0 : Int)).toNat = 0 from rfl] at hx162_0)
                                      (try rw [Addr.add_zero'] at hx162_0)
                                      replace p162 := eq_true p162
                                      replace q162 := eq_true q162
                                      have p163 : 0 ≤ ((ji30) : Int) := of_decide_eq_true (by first | (with_reducible assumption) | assumption)
                                      have q163 : (ji30) < (l0.length : Int) := of_decide_eq_true (by first | (with_reducible assumption) | assumption)
                                      obtain ⟨ad163, A163_0, c163_0, e163, hx163_0, hl163_0, hi163_0⟩ := at_L1 HR0.out (ji30) p163 q163
                                      obtain rfl : ad150 = ad163 := (by injection e163)
                                      have HR163_0 := Aside0.mk hi163_0
                                      have HC163_0 := Aside0.mk hl163_0
                                      clear hi163_0 hl163_0
                                      replace p163 := eq_true p163
                                      replace q163 := eq_true q163
                                      have p164 : 0 ≤ (0 : Int) := (by omega)
                                      have q164 : 0 < ((rd_L1 l0 (ji30)).length : Int) := of_decide_eq_true (by first | (with_reducible assumption) | assumption)
                                      obtain ⟨ad164, e164, hx164_0⟩ := Kd.at_int HR163_0.out 0 p164 q164
                                      cases e164
                                      have qi164 : (0 < (rd_L1 l0 (ji30)).length) = True := eq_true (by omega)
                                      (try rw [show ((0 : Int)).toNat = 0 from rfl] at hx164_0)
                                      (try rw [Addr.add_zero'] at hx164_0)
                                      replace p164 := eq_true p164
                                      replace q164 := eq_true q164
                                      go_wp2
                                      repeat (go_quiet (fail); try go_wp2)
                                      go_ret
                                      exact ⟨by first | rfl | (simp; done) | (simp only [← hji30] <;> (first | rfl | simp)) | (simp [*]; done), by repeat (first | exact Drawn0.refl _ | apply Drawn0.step)⟩
                                    · rw [if_neg c34] at H
                                      have c34b0 : decide ((rd (rd_L1 l0 x15_2) 0) ≤ (rd (rd_L1 l0 (ji30)) 0)) = false := decide_eq_false c34
                                      clear c34
                                      by_cases c35 : 1 < ((rd_L1 l0 x15_2).length : Int)
                                      · rw [if_pos c35] at H
                                        have c35b0 : decide (1 < ((rd_L1 l0 x15_2).length : Int)) = true := decide_eq_true c35
                                        have c35b1 : decide (1 < (rd_L1 l0 x15_2).length) = true := decide_eq_true (by omega)
                                        clear c35
                                        by_cases c36 : 1 < ((rd_L1 l0 (ji30)).length : Int)
                                        · rw [if_pos c36] at H
                                          have c36b0 : decide (1 < ((rd_L1 l0 (ji30)).length : Int)) = true := decide_eq_true c36
                                          have c36b1 : decide (1 < (rd_L1 l0 (ji30)).length) = true := decide_eq_true (by omega)
                                          clear c36
                                          by_cases c37 : (rd (rd_L1 l0 x15_2) 1) > (rd (rd_L1 l0 (ji30)) 1)
                                          · rw [if_pos c37] at H
                                            have c37b0 : decide ((rd (rd_L1 l0 (ji30)) 1) < (rd (rd_L1 l0 x15_2) 1)) = true := decide_eq_true c37
                                            clear c37
                                            obtain rfl := Option.some.inj H
                                            have p162 : 0 ≤ (0 : Int) := (by omega)
                                            have q162 : 0 < ((rd_L1 l0 x15_2).length : Int) := of_decide_eq_true (by first | (with_reducible assumption) | assumption)
                                            obtain ⟨ad162, e162, hx162_0⟩ := Kd.at_int HR150_0.out 0 p162 q162
                                            cases e162
                                            have qi162 : (0 < (rd_L1 l0 x15_2).length) = True := eq_true (by omega)
                                            (try rw [show ((0 : Int)).toNat = 0 from rfl] at hx162_0)
                                            (try rw [Addr.add_zero'] at hx162_0)
                                            replace p162 := eq_true p162
                                            replace q162 := eq_true q162
                                            have p163 : 0 ≤ ((ji30) : Int) := of_decide_eq_true (by first | (with_reducible assumption) | assumption)
                                            have q163 : (ji30) < (l0.length : Int) := of_decide_eq_true (by first | (with_reducible assumption) | assumption)
                                            obtain ⟨ad163, A163_0, c163_0, e163, hx163_0, hl163_0, hi163_0⟩ := at_L1 HR0.out (ji30) p163 q163
                                            obtain rfl : ad150 = ad163 := (by injection e163)
                                            have HR163_0 := Aside0.mk hi163_0
                                            have HC163_0 := Aside0.mk hl163_0
                                            clear hi163_0 hl163_0
                                            replace p163 := eq_true p163
                                            replace q163 := eq_true q163
                                            have p164 : 0 ≤ (0 : Int) := (by omega)
                                            have q164 : 0 < ((rd_L1 l0 (ji30)).length : Int) := of_decide_eq_true (by first | (with_reducible assumption) | assumption)
                                            obtain ⟨ad164, e164, hx164_0⟩ := Kd.at_int HR163_0.out 0 p164 q164
                                            cases e164
                                            have qi164 : (0 < (rd_L1 l0 (ji30)).length) = True := eq_true (by omega)
                                            (try rw [show ((0 : Int)).toNat = 0 from rfl] at hx164_0)
                                            (try rw [Addr.add_zero'] at hx164_0)
                                            replace p164 := eq_true p164
                                            replace q164 := eq_true q164
                                            have p165 : 0 ≤ (1 : Int) := (by omega)
                                            have q165 : 1 < ((rd_L1 l0 x15_2).length : Int) := of_decide_eq_true (by first | (with_reducible assumption) | assumption)
                                            obtain ⟨ad165, e165, hx165_0⟩ := Kd.at_int HR150_0.out 1 p165 q165
                                            obtain rfl : ad162 = ad165 := (by injection e165)
                                            (try simp only [show (1 : Int).toNat = 1 from rfl, Nat.reduceMul, Nat.reduceEqDiff, Go.Addr.add, ↓reduceIte] at hx165_0)
                                            have qi165 : (1 < (rd_L1 l0 x15_2).length) = True := eq_true (by omega)
                                            (try rw [show ((1 : Int)).toNat = 1 from rfl] at hx165_0)
                                            replace p165 := eq_true p165
                                            replace q165 := eq_true q165
                                            have p166 : 0 ≤ ((ji30) : Int) := of_decide_eq_true (by first | (with_reducible assumption) | assumption)
                                            have q166 : (ji30) < (l0.length : Int) := of_decide_eq_true (by first | (with_reducible assumption) | assumption)
                                            obtain ⟨ad166, A166_0, c166_0, e166, hx166_0, hl166_0, hi166_0⟩ := at_L1 HR0.out (ji30) p166 q166
                                            obtain rfl : ad150 = ad166 := (by injection e166)
                                            have HR166_0 := Aside0.mk hi166_0
                                            have HC166_0 := Aside0.mk hl166_0
                                            clear hi166_0 hl166_0
                                            replace p166 := eq_true p166
                                            replace q166 := eq_true q166
                                            have ea_ := Option.some.inj (hx163_0.symm.trans hx166_0)
                                            injection ea_ with ea_ en_ ec_
                                            subst ea_
                                            subst ec_
                                            clear en_
                                            have p167 : 0 ≤ (1 : Int) := (by omega)
                                            have q167 : 1 < ((rd_L1 l0 (ji30)).length : Int) := of_decide_eq_true (by first | (with_reducible assumption) | assumption)
                                            obtain ⟨ad167, e167, hx167_0⟩ := Kd.at_int HR166_0.out 1 p167 q167
                                            cases e167
                                            (try simp only [show (1 : Int).toNat = 1 from rfl, Nat.reduceMul, Nat.reduceEqDiff, Go.Addr.add, ↓reduceIte] at hx167_0)
                                            have qi167 : (1 < (rd_L1 l0 (ji30)).length) = True := eq_true (by omega)
                                            (try rw [show ((1 : Int)).toNat = 1 from rfl] at hx167_0)
                                            replace p167 := eq_true p167
                                            replace q167 := eq_true q167
                                            go_wp2
                                            repeat (go_quiet (fail); try go_wp2)
                                            go_ret
                                            exact ⟨by first | rfl | (simp; done) | (simp only [← hji30] <;> (first | rfl | simp)) | (simp [*]; done), by repeat (first | exact Drawn0.refl _ | apply Drawn0.step)⟩
                                          · rw [if_neg c37] at H
                                            have c37b0 : decide ((rd (rd_L1 l0 (ji30)) 1) < (rd (rd_L1 l0 x15_2) 1)) = false := decide_eq_false c37
                                            clear c37
                                            have H' := Aside0.mk H
                                            clear H
                                            have p162 : 0 ≤ (0 : Int) := (by omega)
                                            have q162 : 0 < ((rd_L1 l0 x15_2).length : Int) := of_decide_eq_true (by first | (with_reducible assumption) | assumption)
                                            obtain ⟨ad162, e162, hx162_0⟩ := Kd.at_int HR150_0.out 0 p162 q162
                                            cases e162
                                            have qi162 : (0 < (rd_L1 l0 x15_2).length) = True := eq_true (by omega)
                                            (try rw [show ((0 : Int)).toNat = 0 from rfl] at hx162_0)
                                            (try rw [Addr.add_zero'] at hx162_0)
                                            replace p162 := eq_true p162
                                            replace q162 := eq_true q162
                                            have p163 : 0 ≤ ((ji30) : Int) := of_decide_eq_true (by first | (with_reducible assumption) | assumption)
                                            have q163 : (ji30) < (l0.length : Int) := of_decide_eq_true (by first | (with_reducible assumption) | assumption)
                                            obtain ⟨ad163, A163_0, c163_0, e163, hx163_0, hl163_0, hi163_0⟩ := at_L1 HR0.out (ji30) p163 q163
                                            obtain rfl : ad150 = ad163 := (by injection e163)
                                            have HR163_0 := Aside0.mk hi163_0
                                            have HC163_0 := Aside0.mk hl163_0
                                            clear hi163_0 hl163_0
                                            replace p163 := eq_true p163
                                            replace q163 := eq_true q163
                                            have p164 : 0 ≤ (0 : Int) := (by omega)
                                            have q164 : 0 < ((rd_L1 l0 (ji30)).length : Int) := of_decide_eq_true (by first | (with_reducible assumption) | assumption)
                                            obtain ⟨ad164, e164, hx164_0⟩ := Kd.at_int HR163_0.out 0 p164 q164
                                            cases e164
                                            have qi164 : (0 < (rd_L1 l0 (ji30)).length) = True := eq_true (by omega)
                                            (try rw [show ((0 : Int)).toNat = 0 from rfl] at hx164_0)
                                            (try rw [Addr.add_zero'] at hx164_0)
                                            replace p164 := eq_true p164
                                            replace q164 := eq_true q164
                                            have p165 : 0 ≤ (1 : Int) := (by omega)
                                            have q165 : 1 < ((rd_L1 l0 x15_2).length : Int) := of_decide_eq_true (by first | (with_reducible assumption) | assumption)
                                            obtain ⟨ad165, e165, hx165_0⟩ := Kd.at_int HR150_0.out 1 p165 q165
                                            obtain rfl : ad162 = ad165 := (by injection e165)
                                            (try simp only [show (1 : Int).toNat = 1 from rfl, Nat.reduceMul, Nat.reduceEqDiff, Go.Addr.add, ↓reduceIte] at hx165_0)
                                            have qi165 : (1 < (rd_L1 l0 x15_2).length) = True := eq_true (by omega)
                                            (try rw [show ((1 : Int)).toNat = 1 from rfl] at hx165_0)
                                            replace p165 := eq_true p165
                                            replace q165 := eq_true q165
                                            have p166 : 0 ≤ ((ji30) : Int) := of_decide_eq_true (by first | (with_reducible assumption) | assumption)
                                            have q166 : (ji30) < (l0.length : Int) := of_decide_eq_true (by first | (with_reducible assumption) | assumption)
                                            obtain ⟨ad166, A166_0, c166_0, e166, hx166_0, hl166_0, hi166_0⟩ := at_L1 HR0.out (ji30) p166 q166
                                            obtain rfl : ad150 = ad166 := (by injection e166)
                                            have HR166_0 := Aside0.mk hi166_0
                                            have HC166_0 := Aside0.mk hl166_0
                                            clear hi166_0 hl166_0
                                            replace p166 := eq_true p166
                                            replace q166 := eq_true q166
                                            have ea_ := Option.some.inj (hx163_0.symm.trans hx166_0)
                                            injection ea_ with ea_ en_ ec_
                                            subst ea_
                                            subst ec_
                                            clear en_
                                            have p167 : 0 ≤ (1 : Int) := (by omega)
                                            have q167 : 1 < ((rd_L1 l0 (ji30)).length : Int) := of_decide_eq_true (by first | (with_reducible assumption) | assumption)
                                            obtain ⟨ad167, e167, hx167_0⟩ := Kd.at_int HR166_0.out 1 p167 q167
                                            cases e167
                                            (try simp only [show (1 : Int).toNat = 1 from rfl, Nat.reduceMul, Nat.reduceEqDiff, Go.Addr.add, ↓reduceIte] at hx167_0)
                                            have qi167 : (1 < (rd_L1 l0 (ji30)).length) = True := eq_true (by omega)
                                            (try rw [show ((1 : Int)).toNat = 1 from rfl] at hx167_0)
                                            replace p167 := eq_true p167
                                            replace q167 := eq_true q167
                                            go_wp2
                                            repeat (go_quiet (fail); try go_wp2)
                                            go_roundg kj7
                                            case measure => have := HJ1.out; have := HK2.out; have := HJ7.out; omega
                                            case rel => exact ⟨(wrap64 (x15_2 + 1)), (by first | rfl | (simp; done) | (simp [*]; done)), H', ⟨by have := HJ1.out; have := HK2.out; have := HJ7.out; omega⟩, by repeat (first | exact Drawn0.refl _ | apply Drawn0.step)⟩
                                        · rw [if_neg c36] at H
                                          exact absurd H (by simp)
                                      · rw [if_neg c35] at H
                                        exact absurd H (by simp)
                                  · rw [if_neg c33] at H
                                    exact absurd H (by simp)
                                · rw [if_neg c32] at H
                                  exact absurd H (by simp)
                              · rw [if_neg c31] at H
                                exact absurd H (by simp)
                            · rw [if_neg c29] at H
                              exact absurd H (by simp)
                          · rw [if_neg c28] at H
                            have c28b0 : decide (0 < x15_2) = false := decide_eq_false c28
                            clear c28
                            have H' := Aside0.mk H
                            clear H
                            go_wp2
                            repeat (go_quiet (fail); try go_wp2)
                            go_roundg kj7
                            case measure => have := HJ1.out; have := HK2.out; have := HJ7.out; omega
                            case rel => exact ⟨(wrap64 (x15_2 + 1)), (by first | rfl | (simp; done) | (simp [*]; done)), H', ⟨by have := HJ1.out; have := HK2.out; have := HJ7.out; omega⟩, by repeat (first | exact Drawn0.refl _ | apply Drawn0.step)⟩
                · rw [if_neg c7] at H
                  exact absurd H (by simp)
              · rw [if_neg c6] at H
                exact absurd H (by simp)
            · rw [if_neg c5] at H
              have c5b0 : decide (x15_2 < (l0.length : Int)) = false := decide_eq_false c5
              clear c5
              obtain rfl := Option.some.inj H
              go_wp2
              repeat (go_quiet (fail); try go_wp2)
              go_ret
              exact ⟨by first | rfl | (simp; done) | (simp [*]; done), by repeat (first | exact Drawn0.refl _ | apply Drawn0.step)⟩

end Go.Proofs.Ytcjliekgkilkoaa.QFnExactCheapestAt
