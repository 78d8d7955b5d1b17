-- Printed for this claim by a changed copy of the kit's print (the session's own; own contracts in place of some functions).
import Derived.Test.YtndlmckfacegeaaDoorQFnExactPlanLinex0
import Derived.Test.YtndlmckfacegeaaDoorQFnExactPlanLinex3
namespace Go.Proofs.YtndlmckfacegeaaDoor.QFnExactPlanLine
open Go.RowKit Go.Proofs.YtndlmckfacegeaaDoorW.PrintWords Go.Proofs.YtndlmckfacegeaaDoorW.PrintLast Go.Proofs.YtndlmckfacegeaaDoorW.PrintMore
attribute [local go_sem] max2_int min2_int max_two min_two max_three min_three max_four min_four   -- for this text's walks alone
set_option linter.unusedVariables false
set_option linter.unusedSimpArgs false

/-! ### spec_l16Plan: function 65 -/
mutual
def spec_l16Plan.l0 : Nat → Int → Int → List (List Int) → List Int → Int → List (List Int) → Int → Int → Option (ByteArray)
  | 0, _, _, _, _, _, _, _, _ => none
  | k + 1, x0, x1, x2, x3, x9, x23, x24, x25 => if x25 < x24 then (if 0 ≤ x25 then (if x25 < (x23.length : Int) then (if 0 < ((rd_L1 x23 x25).length : Int) then (if (rd (rd_L1 x23 x25) 0) = x0 then (if 1 < ((rd_L1 x23 x25).length : Int) then (if (rd (rd_L1 x23 x25) 1) = x1 then (if 2 < ((rd_L1 x23 x25).length : Int) then (if (rd (rd_L1 x23 x25) 2) = x9 then (if x25 ≤ (wrap64 (x25 + 1)) then (if (wrap64 (x25 + 1)) ≤ 6 then (some ((⟨#[97, 98, 99, 100, 101, 102]⟩ : ByteArray).extract (x25 : Int).toNat ((wrap64 (x25 + 1)) : Int).toNat)) else (none)) else (none)) else (spec_l16Plan.l0 k x0 x1 x2 x3 x9 x23 x24 (wrap64 (x25 + 1)))) else (none)) else (spec_l16Plan.l0 k x0 x1 x2 x3 x9 x23 x24 (wrap64 (x25 + 1)))) else (none)) else (spec_l16Plan.l0 k x0 x1 x2 x3 x9 x23 x24 (wrap64 (x25 + 1)))) else (none)) else (none)) else (none)) else (spec_l16Plan.l1 k x0 x1 x2 x3 x9 1)
def spec_l16Plan.l1 : Nat → Int → Int → List (List Int) → List Int → Int → Int → Option (ByteArray)
  | 0, _, _, _, _, _, _ => none
  | k + 1, x0, x1, x2, x3, x9, x12 => if x12 < x0 then (if 0 ≤ (wrap64 ((wrap64 (x12 * 17)) + x1)) then (if (wrap64 ((wrap64 (x12 * 17)) + x1)) < (x3.length : Int) then (if 0 ≤ (wrap64 ((wrap64 ((wrap64 (x0 - x12)) * 17)) + x1)) then (if (wrap64 ((wrap64 ((wrap64 (x0 - x12)) * 17)) + x1)) < (x3.length : Int) then (if (wrap64 ((rd x3 (wrap64 ((wrap64 (x12 * 17)) + x1))) + (rd x3 (wrap64 ((wrap64 ((wrap64 (x0 - x12)) * 17)) + x1))))) = x9 then ((spec_FormatInt.f k x12).bind fun t150 => (if 1 + t150.size ≤ 9223372036854775807 then (if ((⟨#[118]⟩ : ByteArray) ++ t150).size + 1 ≤ 9223372036854775807 then ((spec_l16Plan.f k x12 x1 x2 x3).bind fun t151 => (if (((⟨#[118]⟩ : ByteArray) ++ t150) ++ (⟨#[40]⟩ : ByteArray)).size + t151.size ≤ 9223372036854775807 then ((spec_l16Plan.f k (wrap64 (x0 - x12)) x1 x2 x3).bind fun t152 => (if ((((⟨#[118]⟩ : ByteArray) ++ t150) ++ (⟨#[40]⟩ : ByteArray)) ++ t151).size + t152.size ≤ 9223372036854775807 then (if (((((⟨#[118]⟩ : ByteArray) ++ t150) ++ (⟨#[40]⟩ : ByteArray)) ++ t151) ++ t152).size + 1 ≤ 9223372036854775807 then (some ((((((⟨#[118]⟩ : ByteArray) ++ t150) ++ (⟨#[40]⟩ : ByteArray)) ++ t151) ++ t152) ++ (⟨#[41]⟩ : ByteArray))) else (none)) else (none))) else (none))) else (none)) else (none))) else (spec_l16Plan.l1 k x0 x1 x2 x3 x9 (wrap64 (x12 + 1)))) else (none)) else (none)) else (none)) else (none)) else (spec_l16Plan.l2 k x0 x1 x2 x3 x9 1)
def spec_l16Plan.l2 : Nat → Int → Int → List (List Int) → List Int → Int → Int → Option (ByteArray)
  | 0, _, _, _, _, _, _ => none
  | k + 1, x0, x1, x2, x3, x9, x13 => if x13 < x1 then (if 0 ≤ (wrap64 ((wrap64 (x0 * 17)) + x13)) then (if (wrap64 ((wrap64 (x0 * 17)) + x13)) < (x3.length : Int) then (if 0 ≤ (wrap64 ((wrap64 ((wrap64 (x0 * 17)) + x1)) - x13)) then (if (wrap64 ((wrap64 ((wrap64 (x0 * 17)) + x1)) - x13)) < (x3.length : Int) then (if (wrap64 ((rd x3 (wrap64 ((wrap64 (x0 * 17)) + x13))) + (rd x3 (wrap64 ((wrap64 ((wrap64 (x0 * 17)) + x1)) - x13))))) = x9 then ((spec_FormatInt.f k x13).bind fun t155 => (if 1 + t155.size ≤ 9223372036854775807 then (if ((⟨#[104]⟩ : ByteArray) ++ t155).size + 1 ≤ 9223372036854775807 then ((spec_l16Plan.f k x0 x13 x2 x3).bind fun t156 => (if (((⟨#[104]⟩ : ByteArray) ++ t155) ++ (⟨#[40]⟩ : ByteArray)).size + t156.size ≤ 9223372036854775807 then ((spec_l16Plan.f k x0 (wrap64 (x1 - x13)) x2 x3).bind fun t157 => (if ((((⟨#[104]⟩ : ByteArray) ++ t155) ++ (⟨#[40]⟩ : ByteArray)) ++ t156).size + t157.size ≤ 9223372036854775807 then (if (((((⟨#[104]⟩ : ByteArray) ++ t155) ++ (⟨#[40]⟩ : ByteArray)) ++ t156) ++ t157).size + 1 ≤ 9223372036854775807 then (some ((((((⟨#[104]⟩ : ByteArray) ++ t155) ++ (⟨#[40]⟩ : ByteArray)) ++ t156) ++ t157) ++ (⟨#[41]⟩ : ByteArray))) else (none)) else (none))) else (none))) else (none)) else (none))) else (spec_l16Plan.l2 k x0 x1 x2 x3 x9 (wrap64 (x13 + 1)))) else (none)) else (none)) else (none)) else (none)) else (some (⟨#[46]⟩ : ByteArray))
def spec_l16Plan.f : Nat → Int → Int → List (List Int) → List Int → Option (ByteArray)
  | 0, _, _, _, _ => none
  | k + 1, a0, a1, l2, l3 => if 0 ≤ (wrap64 ((wrap64 (a0 * 17)) + a1)) then (if (wrap64 ((wrap64 (a0 * 17)) + a1)) < (l3.length : Int) then (if (rd l3 (wrap64 ((wrap64 (a0 * 17)) + a1))) = 0 then (some (⟨#[46]⟩ : ByteArray)) else (spec_l16Plan.l0 k a0 a1 l2 l3 (rd l3 (wrap64 ((wrap64 (a0 * 17)) + a1))) l2 (l2.length : Int) 0)) else (none)) else (none)
end
theorem spec_l16Plan.mono_l : ∀ k, (∀ y0 y1 y2 y3, LeO (spec_l16Plan.f k y0 y1 y2 y3) (spec_l16Plan.f (k + 1) y0 y1 y2 y3)) ∧ (∀ y0 y1 y2 y3 y4 y5 y6 y7, LeO (spec_l16Plan.l0 k y0 y1 y2 y3 y4 y5 y6 y7) (spec_l16Plan.l0 (k + 1) y0 y1 y2 y3 y4 y5 y6 y7)) ∧ (∀ y0 y1 y2 y3 y4 y5, LeO (spec_l16Plan.l1 k y0 y1 y2 y3 y4 y5) (spec_l16Plan.l1 (k + 1) y0 y1 y2 y3 y4 y5)) ∧ (∀ y0 y1 y2 y3 y4 y5, LeO (spec_l16Plan.l2 k y0 y1 y2 y3 y4 y5) (spec_l16Plan.l2 (k + 1) y0 y1 y2 y3 y4 y5))
  | 0 => ⟨fun _ _ _ _ r h => by simp [spec_l16Plan.f] at h, fun _ _ _ _ _ _ _ _ r h => by simp [spec_l16Plan.l0] at h, fun _ _ _ _ _ _ r h => by simp [spec_l16Plan.l1] at h, fun _ _ _ _ _ _ r h => by simp [spec_l16Plan.l2] at h⟩
  | k + 1 => by
    obtain ⟨ih0, ih1, ih2, ih3⟩ := spec_l16Plan.mono_l k
    refine ⟨?_, ?_, ?_, ?_⟩
    · intro y0 y1 y2 y3
      unfold spec_l16Plan.f
      repeat' first
      | (with_reducible exact ih0 _ _ _ _)
      | (with_reducible exact ih1 _ _ _ _ _ _ _ _)
      | (with_reducible exact ih2 _ _ _ _ _ _)
      | (with_reducible exact ih3 _ _ _ _ _ _)
      | (with_reducible exact spec_FormatInt.mono _ _)
      | (with_reducible exact LeO.refl _)
      | (with_reducible exact LeO.none _)
      | (with_reducible refine LeO.ite ?_ ?_)
      | (with_reducible refine LeO.bind ?_ (fun _ => ?_))
      | exact ih0 _ _ _ _
      | exact ih1 _ _ _ _ _ _ _ _
      | exact ih2 _ _ _ _ _ _
      | exact ih3 _ _ _ _ _ _
      | exact spec_FormatInt.mono _ _
      | exact LeO.none _
      | refine LeO.ite ?_ ?_
      | refine LeO.bind ?_ (fun _ => ?_)
    · intro y0 y1 y2 y3 y4 y5 y6 y7
      unfold spec_l16Plan.l0
      repeat' first
      | (with_reducible exact ih0 _ _ _ _)
      | (with_reducible exact ih1 _ _ _ _ _ _ _ _)
      | (with_reducible exact ih2 _ _ _ _ _ _)
      | (with_reducible exact ih3 _ _ _ _ _ _)
      | (with_reducible exact spec_FormatInt.mono _ _)
      | (with_reducible exact LeO.refl _)
      | (with_reducible exact LeO.none _)
      | (with_reducible refine LeO.ite ?_ ?_)
      | (with_reducible refine LeO.bind ?_ (fun _ => ?_))
      | exact ih0 _ _ _ _
      | exact ih1 _ _ _ _ _ _ _ _
      | exact ih2 _ _ _ _ _ _
      | exact ih3 _ _ _ _ _ _
      | exact spec_FormatInt.mono _ _
      | exact LeO.none _
      | refine LeO.ite ?_ ?_
      | refine LeO.bind ?_ (fun _ => ?_)
    · intro y0 y1 y2 y3 y4 y5
      unfold spec_l16Plan.l1
      repeat' first
      | (with_reducible exact ih0 _ _ _ _)
      | (with_reducible exact ih1 _ _ _ _ _ _ _ _)
      | (with_reducible exact ih2 _ _ _ _ _ _)
      | (with_reducible exact ih3 _ _ _ _ _ _)
      | (with_reducible exact spec_FormatInt.mono _ _)
      | (with_reducible exact LeO.refl _)
      | (with_reducible exact LeO.none _)
      | (with_reducible refine LeO.ite ?_ ?_)
      | (with_reducible refine LeO.bind ?_ (fun _ => ?_))
      | exact ih0 _ _ _ _
      | exact ih1 _ _ _ _ _ _ _ _
      | exact ih2 _ _ _ _ _ _
      | exact ih3 _ _ _ _ _ _
      | exact spec_FormatInt.mono _ _
      | exact LeO.none _
      | refine LeO.ite ?_ ?_
      | refine LeO.bind ?_ (fun _ => ?_)
    · intro y0 y1 y2 y3 y4 y5
      unfold spec_l16Plan.l2
      repeat' first
      | (with_reducible exact ih0 _ _ _ _)
      | (with_reducible exact ih1 _ _ _ _ _ _ _ _)
      | (with_reducible exact ih2 _ _ _ _ _ _)
      | (with_reducible exact ih3 _ _ _ _ _ _)
      | (with_reducible exact spec_FormatInt.mono _ _)
      | (with_reducible exact LeO.refl _)
      | (with_reducible exact LeO.none _)
      | (with_reducible refine LeO.ite ?_ ?_)
      | (with_reducible refine LeO.bind ?_ (fun _ => ?_))
      | exact ih0 _ _ _ _
      | exact ih1 _ _ _ _ _ _ _ _
      | exact ih2 _ _ _ _ _ _
      | exact ih3 _ _ _ _ _ _
      | exact spec_FormatInt.mono _ _
      | exact LeO.none _
      | refine LeO.ite ?_ ?_
      | refine LeO.bind ?_ (fun _ => ?_)
theorem spec_l16Plan.mono : ∀ a0 a1 a2 a3 k, LeO (spec_l16Plan.f k a0 a1 a2 a3) (spec_l16Plan.f (k + 1) a0 a1 a2 a3) := by
  intro a0 a1 a2 a3 k
  obtain ⟨ih0, ih1, ih2, ih3⟩ := spec_l16Plan.mono_l k
  exact ih0 a0 a1 a2 a3
set_option maxHeartbeats 8000000 in
set_option maxRecDepth 100000 in
theorem spec_l16Plan.calls (k : Nat) : ∀ (a0 : Int) (a1 : Int) (A2 : Option Addr) (c2 : Nat) (l2 : List (List Int)) (A3 : Option Addr) (c3 : Nat) (l3 : List Int) (r : ByteArray) (w : World) (hr2 : Kd.C (Kd.slice 3 (Kd.int .i64)) w A2 l2.length l2) (hc2 : l2.length ≤ c2) (hr3 : Kd.C (Kd.int .i64) w A3 l3.length l3) (hc3 : l3.length ≤ c3) (h : spec_l16Plan.f k a0 a1 l2 l3 = some r),
    Calls Tryd.prog 65 #[.int .i64 a0, .int .i64 a1, .slice A2 l2.length c2, .slice A3 l3.length c3] w fun e w' => e = .returned (.string r) ∧ Below w.heap.size w w' := by
  induction k using Nat.strongRecOn with
  | _ k ih =>
  intro a0 a1 A2 c2 l2 A3 c3 l3 r w hr2 hc2 hr3 hc3 h
  cases k with
  | zero => exact absurd h (by simp [spec_l16Plan.f])
  | succ k =>
  simp only [spec_l16Plan.f] at h
  have HR2 := Aside0.mk hr2
  have HC2 := Aside0.mk hc2
  clear hr2 hc2
  have HR3 := Aside0.mk hr3
  have HC3 := Aside0.mk hc3
  clear hr3 hc3
  have HB := Aside0.mk (Below.refl w.heap.size w)
  have H : (if 0 ≤ (wrap64 ((wrap64 (a0 * 17)) + a1)) then (if (wrap64 ((wrap64 (a0 * 17)) + a1)) < (l3.length : Int) then (if (rd l3 (wrap64 ((wrap64 (a0 * 17)) + a1))) = 0 then (some (⟨#[46]⟩ : ByteArray)) else (spec_l16Plan.l0 k a0 a1 l2 l3 (rd l3 (wrap64 ((wrap64 (a0 * 17)) + a1))) l2 (l2.length : Int) 0)) else (none)) else (none)) = some r := h
  clear h
  obtain ⟨ji5, hji5⟩ : ∃ j_ : Int, (wrap64 ((wrap64 (a0 * 17)) + a1)) = j_ := ⟨_, rfl⟩
  replace H : (if 0 ≤ (ji5) then (if (ji5) < (l3.length : Int) then (if (rd l3 (ji5)) = 0 then (some (⟨#[46]⟩ : ByteArray)) else (spec_l16Plan.l0 k a0 a1 l2 l3 (rd l3 (ji5)) l2 (l2.length : Int) 0)) else (none)) else (none)) = some r := by first | (rw [hji5] at H; exact H) | (simp only [hji5] at H ⊢; exact H)
  have hji5w : (IntKind.i64.wrap ((wrap64 (a0 * 17)) + a1)) = ji5 := (i64_w _).trans hji5
  by_cases c6 : 0 ≤ (ji5)
  · rw [if_pos c6] at H
    have c6b0 : decide (0 ≤ (ji5)) = true := decide_eq_true c6
    clear c6
    by_cases c7 : (ji5) < (l3.length : Int)
    · rw [if_pos c7] at H
      have c7b0 : decide ((ji5) < (l3.length : Int)) = true := decide_eq_true c7
      clear c7
      by_cases c8 : (rd l3 (ji5)) = 0
      · rw [if_pos c8] at H
        have c8b0 : ((rd l3 (ji5)) == 0) = true := beq_iff_eq.mpr c8
        have c8b1 : ((rd l3 (ji5)) != 0) = false := bne_eq_false_iff_eq.mpr c8
        clear c8
        obtain rfl := Option.some.inj H
        have p143 : 0 ≤ ((ji5) : Int) := of_decide_eq_true (by first | (with_reducible assumption) | assumption)
        have q143 : (ji5) < (l3.length : Int) := of_decide_eq_true (by first | (with_reducible assumption) | assumption)
        obtain ⟨ad143, e143, hx143_0⟩ := Kd.at_int HR3.out (ji5) p143 q143
        cases e143
        replace p143 := eq_true p143
        replace q143 := eq_true q143
        go_enter Tryd.func65, Tryd.ntmps65
        go_wp2
        repeat (go_quiet (fail); try go_wp2)
        go_ret
        exact ⟨by first | rfl | (simp [errW_none, errW_some] <;> rfl) | (simp only [← hji5]; first | rfl | (simp [errW_none, errW_some] <;> rfl)) | (simp [*, errW_none, errW_some] <;> rfl), by repeat (first | (with_reducible first | exact HB.out | apply below_alloc | apply pw_below_drewN | apply below_drew1) | exact HB.out)⟩
      · rw [if_neg c8] at H
        have c8b0 : ((rd l3 (ji5)) == 0) = false := beq_eq_false_iff_ne.mpr c8
        have c8b1 : ((rd l3 (ji5)) != 0) = true := bne_iff_ne.mpr c8
        have H' := Aside0.mk H
        clear H
        have p143 : 0 ≤ ((ji5) : Int) := of_decide_eq_true (by first | (with_reducible assumption) | assumption)
        have q143 : (ji5) < (l3.length : Int) := of_decide_eq_true (by first | (with_reducible assumption) | assumption)
        obtain ⟨ad143, e143, hx143_0⟩ := Kd.at_int HR3.out (ji5) p143 q143
        cases e143
        replace p143 := eq_true p143
        replace q143 := eq_true q143
        go_enter Tryd.func65, Tryd.ntmps65
        go_wp2
        repeat (go_quiet (fail); try go_wp2)
        go_loopg [25] k (fun kq v25 w' => ∃ (x25_1 : Int), v25 = .int .i64 x25_1 ∧ Aside0 (spec_l16Plan.l0 kq a0 a1 l2 l3 (rd l3 (ji5)) l2 (l2.length : Int) x25_1 = some r) ∧ Aside0 (kq ≤ k) ∧ Aside0 (Below w.heap.size w w'))
        case atStart => exact ⟨(0), (by first | rfl | (simp; done) | (simp [*]; done)), H', ⟨Nat.le_refl _⟩, ⟨by repeat (first | (with_reducible first | exact HB.out | apply below_alloc | apply pw_below_drewN | apply below_drew1) | exact HB.out)⟩⟩
        case round =>
          clear H'
          try clear p1
          try clear q1
          try clear hx1
          try clear c2
          try clear p2
          try clear c3
          try clear c6
          try clear c6b0
          try clear p6
          try clear c7
          try clear c7b0
          try clear c8
          try clear c8b0
          try clear c8b1
          try clear hx143_0
          try clear p143
          try clear q143
          obtain ⟨x25_1, rfl, HA, HK1, HB⟩ := hrel
          cases gk with
          | zero => exact absurd HA.out (by simp [spec_l16Plan.l0])
          | succ k1 =>
            have H := HA.out
            clear HA
            simp only [spec_l16Plan.l0] at H
            by_cases c9 : x25_1 < (l2.length : Int)
            · rw [if_pos c9] at H
              have c9b0 : decide (x25_1 < (l2.length : Int)) = true := decide_eq_true c9
              clear c9
              by_cases c10 : 0 ≤ x25_1
              · rw [if_pos c10] at H
                have c10b0 : decide (0 ≤ x25_1) = true := decide_eq_true c10
                clear c10
                by_cases c11 : x25_1 < (l2.length : Int)
                · rw [if_pos c11] at H
                  have c11b0 : decide (x25_1 < (l2.length : Int)) = true := decide_eq_true c11
                  clear c11
                  by_cases c12 : 0 < ((rd_L1 l2 x25_1).length : Int)
                  · rw [if_pos c12] at H
                    have c12b0 : decide (0 < ((rd_L1 l2 x25_1).length : Int)) = true := decide_eq_true c12
                    have c12b1 : decide (0 < (rd_L1 l2 x25_1).length) = true := decide_eq_true (by omega)
                    clear c12
                    by_cases c13 : (rd (rd_L1 l2 x25_1) 0) = a0
                    · rw [if_pos c13] at H
                      have c13b0 : ((rd (rd_L1 l2 x25_1) 0) == a0) = true := beq_iff_eq.mpr c13
                      have c13b1 : ((rd (rd_L1 l2 x25_1) 0) != a0) = false := bne_eq_false_iff_eq.mpr c13
                      clear c13
                      by_cases c14 : 1 < ((rd_L1 l2 x25_1).length : Int)
                      · rw [if_pos c14] at H
                        have c14b0 : decide (1 < ((rd_L1 l2 x25_1).length : Int)) = true := decide_eq_true c14
                        have c14b1 : decide (1 < (rd_L1 l2 x25_1).length) = true := decide_eq_true (by omega)
                        clear c14
                        by_cases c15 : (rd (rd_L1 l2 x25_1) 1) = a1
                        · rw [if_pos c15] at H
                          have c15b0 : ((rd (rd_L1 l2 x25_1) 1) == a1) = true := beq_iff_eq.mpr c15
                          have c15b1 : ((rd (rd_L1 l2 x25_1) 1) != a1) = false := bne_eq_false_iff_eq.mpr c15
                          clear c15
                          by_cases c16 : 2 < ((rd_L1 l2 x25_1).length : Int)
                          · rw [if_pos c16] at H
                            have c16b0 : decide (2 < ((rd_L1 l2 x25_1).length : Int)) = true := decide_eq_true c16
                            have c16b1 : decide (2 < (rd_L1 l2 x25_1).length) = true := decide_eq_true (by omega)
                            clear c16
                            by_cases c17 : (rd (rd_L1 l2 x25_1) 2) = (rd l3 (ji5))
                            · rw [if_pos c17] at H
                              have c17b0 : ((rd (rd_L1 l2 x25_1) 2) == (rd l3 (ji5))) = true := beq_iff_eq.mpr c17
                              have c17b1 : ((rd (rd_L1 l2 x25_1) 2) != (rd l3 (ji5))) = false := bne_eq_false_iff_eq.mpr c17
                              clear c17
                              have c18b0 := eq_true (of_decide_eq_true (by first | (with_reducible assumption) | assumption) : 0 ≤ x25_1)
                              by_cases c19 : x25_1 ≤ (wrap64 (x25_1 + 1))
                              · rw [if_pos c19] at H
                                have c19b0 := eq_true c19
                                have c19b1 : decide (x25_1 ≤ (wrap64 (x25_1 + 1))) = true := decide_eq_true c19
                                by_cases c20 : (wrap64 (x25_1 + 1)) ≤ 6
                                · rw [if_pos c20] at H
                                  have c20b0 := eq_true c20
                                  have c20b1 : decide ((wrap64 (x25_1 + 1)) ≤ 6) = true := decide_eq_true c20
                                  obtain rfl := Option.some.inj H
                                  have p144 : 0 ≤ (x25_1 : Int) := of_decide_eq_true (by first | (with_reducible assumption) | assumption)
                                  have q144 : x25_1 < (l2.length : Int) := of_decide_eq_true (by first | (with_reducible assumption) | assumption)
                                  obtain ⟨ad144, A144_0, c144_0, e144, hx144_0, hl144_0, hi144_0⟩ := at_L1 HR2.out x25_1 p144 q144
                                  cases e144
                                  (try replace hx144_0 := (HB.out.cell (World.block_lt_of_cell? w _ hx144_0)).trans hx144_0)
                                  have HR144_0 := Aside0.mk hi144_0
                                  have HC144_0 := Aside0.mk hl144_0
                                  clear hi144_0 hl144_0
                                  replace p144 := eq_true p144
                                  replace q144 := eq_true q144
                                  have p145 : 0 ≤ (0 : Int) := (by omega)
                                  have q145 : 0 < ((rd_L1 l2 x25_1).length : Int) := of_decide_eq_true (by first | (with_reducible assumption) | assumption)
                                  obtain ⟨ad145, e145, hx145_0⟩ := Kd.at_int HR144_0.out 0 p145 q145
                                  cases e145
                                  have qi145 : (0 < (rd_L1 l2 x25_1).length) = True := eq_true (by omega)
                                  (try rw [show ((0 : Int)).toNat = 0 from rfl] at hx145_0)
                                  (try rw [Addr.add_zero'] at hx145_0)
                                  (try replace hx145_0 := (HB.out.cell (World.block_lt_of_cell? w _ hx145_0)).trans hx145_0)
                                  replace p145 := eq_true p145
                                  replace q145 := eq_true q145
                                  have p146 : 0 ≤ (1 : Int) := (by omega)
                                  have q146 : 1 < ((rd_L1 l2 x25_1).length : Int) := of_decide_eq_true (by first | (with_reducible assumption) | assumption)
                                  obtain ⟨ad146, e146, hx146_0⟩ := Kd.at_int HR144_0.out 1 p146 q146
                                  obtain rfl : ad145 = ad146 := (by injection e146)
                                  (try simp only [show (1 : Int).toNat = 1 from rfl, Nat.reduceMul, Nat.reduceEqDiff, Go.Addr.add, ↓reduceIte] at hx146_0)
                                  have qi146 : (1 < (rd_L1 l2 x25_1).length) = True := eq_true (by omega)
                                  (try rw [show ((1 : Int)).toNat = 1 from rfl] at hx146_0)
                                  (try replace hx146_0 := (HB.out.cell (World.block_lt_of_cell? w _ hx146_0)).trans hx146_0)
                                  replace p146 := eq_true p146
                                  replace q146 := eq_true q146
                                  have p147 : 0 ≤ (2 : Int) := (by omega)
                                  have q147 : 2 < ((rd_L1 l2 x25_1).length : Int) := of_decide_eq_true (by first | (with_reducible assumption) | assumption)
                                  obtain ⟨ad147, e147, hx147_0⟩ := Kd.at_int HR144_0.out 2 p147 q147
                                  obtain rfl : ad145 = ad147 := (by injection e147)
                                  (try simp only [show (2 : Int).toNat = 2 from rfl, Nat.reduceMul, Nat.reduceEqDiff, Go.Addr.add, ↓reduceIte] at hx147_0)
                                  have qi147 : (2 < (rd_L1 l2 x25_1).length) = True := eq_true (by omega)
                                  (try rw [show ((2 : Int)).toNat = 2 from rfl] at hx147_0)
                                  (try replace hx147_0 := (HB.out.cell (World.block_lt_of_cell? w _ hx147_0)).trans hx147_0)
                                  replace p147 := eq_true p147
                                  replace q147 := eq_true q147
                                  go_wp2
                                  repeat (go_quiet (fail); try go_wp2)
                                  go_ret
                                  exact ⟨by first | rfl | (simp [errW_none, errW_some] <;> rfl) | (simp only [← hji5]; first | rfl | (simp [errW_none, errW_some] <;> rfl)) | (simp [*, errW_none, errW_some] <;> rfl), by repeat (first | (with_reducible first | exact HB.out | apply below_alloc | apply pw_below_drewN | apply below_drew1) | exact HB.out)⟩
                                · rw [if_neg c20] at H
                                  exact absurd H (by simp)
                              · rw [if_neg c19] at H
                                exact absurd H (by simp)
                            · rw [if_neg c17] at H
                              have c17b0 : ((rd (rd_L1 l2 x25_1) 2) == (rd l3 (ji5))) = false := beq_eq_false_iff_ne.mpr c17
                              have c17b1 : ((rd (rd_L1 l2 x25_1) 2) != (rd l3 (ji5))) = true := bne_iff_ne.mpr c17
                              have H' := Aside0.mk H
                              clear H
                              have p144 : 0 ≤ (x25_1 : Int) := of_decide_eq_true (by first | (with_reducible assumption) | assumption)
                              have q144 : x25_1 < (l2.length : Int) := of_decide_eq_true (by first | (with_reducible assumption) | assumption)
                              obtain ⟨ad144, A144_0, c144_0, e144, hx144_0, hl144_0, hi144_0⟩ := at_L1 HR2.out x25_1 p144 q144
                              cases e144
                              (try replace hx144_0 := (HB.out.cell (World.block_lt_of_cell? w _ hx144_0)).trans hx144_0)
                              have HR144_0 := Aside0.mk hi144_0
                              have HC144_0 := Aside0.mk hl144_0
                              clear hi144_0 hl144_0
                              replace p144 := eq_true p144
                              replace q144 := eq_true q144
                              have p145 : 0 ≤ (0 : Int) := (by omega)
                              have q145 : 0 < ((rd_L1 l2 x25_1).length : Int) := of_decide_eq_true (by first | (with_reducible assumption) | assumption)
                              obtain ⟨ad145, e145, hx145_0⟩ := Kd.at_int HR144_0.out 0 p145 q145
                              cases e145
                              have qi145 : (0 < (rd_L1 l2 x25_1).length) = True := eq_true (by omega)
                              (try rw [show ((0 : Int)).toNat = 0 from rfl] at hx145_0)
                              (try rw [Addr.add_zero'] at hx145_0)
                              (try replace hx145_0 := (HB.out.cell (World.block_lt_of_cell? w _ hx145_0)).trans hx145_0)
                              replace p145 := eq_true p145
                              replace q145 := eq_true q145
                              have p146 : 0 ≤ (1 : Int) := (by omega)
                              have q146 : 1 < ((rd_L1 l2 x25_1).length : Int) := of_decide_eq_true (by first | (with_reducible assumption) | assumption)
                              obtain ⟨ad146, e146, hx146_0⟩ := Kd.at_int HR144_0.out 1 p146 q146
                              obtain rfl : ad145 = ad146 := (by injection e146)
                              (try simp only [show (1 : Int).toNat = 1 from rfl, Nat.reduceMul, Nat.reduceEqDiff, Go.Addr.add, ↓reduceIte] at hx146_0)
                              have qi146 : (1 < (rd_L1 l2 x25_1).length) = True := eq_true (by omega)
                              (try rw [show ((1 : Int)).toNat = 1 from rfl] at hx146_0)
                              (try replace hx146_0 := (HB.out.cell (World.block_lt_of_cell? w _ hx146_0)).trans hx146_0)
                              replace p146 := eq_true p146
                              replace q146 := eq_true q146
                              have p147 : 0 ≤ (2 : Int) := (by omega)
                              have q147 : 2 < ((rd_L1 l2 x25_1).length : Int) := of_decide_eq_true (by first | (with_reducible assumption) | assumption)
                              obtain ⟨ad147, e147, hx147_0⟩ := Kd.at_int HR144_0.out 2 p147 q147
                              obtain rfl : ad145 = ad147 := (by injection e147)
                              (try simp only [show (2 : Int).toNat = 2 from rfl, Nat.reduceMul, Nat.reduceEqDiff, Go.Addr.add, ↓reduceIte] at hx147_0)
                              have qi147 : (2 < (rd_L1 l2 x25_1).length) = True := eq_true (by omega)
                              (try rw [show ((2 : Int)).toNat = 2 from rfl] at hx147_0)
                              (try replace hx147_0 := (HB.out.cell (World.block_lt_of_cell? w _ hx147_0)).trans hx147_0)
                              replace p147 := eq_true p147
                              replace q147 := eq_true q147
                              go_wp2
                              repeat (go_quiet (fail); try go_wp2)
                              go_roundg k1
                              case measure => have := HK1.out; omega
                              case rel => exact ⟨(wrap64 (x25_1 + 1)), (by first | rfl | (simp; done) | (simp [*]; done)), H', ⟨by have := HK1.out; omega⟩, ⟨by repeat (first | (with_reducible first | exact HB.out | apply below_alloc | apply pw_below_drewN | apply below_drew1) | exact HB.out)⟩⟩
                          · rw [if_neg c16] at H
                            exact absurd H (by simp)
                        · rw [if_neg c15] at H
                          have c15b0 : ((rd (rd_L1 l2 x25_1) 1) == a1) = false := beq_eq_false_iff_ne.mpr c15
                          have c15b1 : ((rd (rd_L1 l2 x25_1) 1) != a1) = true := bne_iff_ne.mpr c15
                          have H' := Aside0.mk H
                          clear H
                          have p144 : 0 ≤ (x25_1 : Int) := of_decide_eq_true (by first | (with_reducible assumption) | assumption)
                          have q144 : x25_1 < (l2.length : Int) := of_decide_eq_true (by first | (with_reducible assumption) | assumption)
                          obtain ⟨ad144, A144_0, c144_0, e144, hx144_0, hl144_0, hi144_0⟩ := at_L1 HR2.out x25_1 p144 q144
                          cases e144
                          (try replace hx144_0 := (HB.out.cell (World.block_lt_of_cell? w _ hx144_0)).trans hx144_0)
                          have HR144_0 := Aside0.mk hi144_0
                          have HC144_0 := Aside0.mk hl144_0
                          clear hi144_0 hl144_0
                          replace p144 := eq_true p144
                          replace q144 := eq_true q144
                          have p145 : 0 ≤ (0 : Int) := (by omega)
                          have q145 : 0 < ((rd_L1 l2 x25_1).length : Int) := of_decide_eq_true (by first | (with_reducible assumption) | assumption)
                          obtain ⟨ad145, e145, hx145_0⟩ := Kd.at_int HR144_0.out 0 p145 q145
                          cases e145
                          have qi145 : (0 < (rd_L1 l2 x25_1).length) = True := eq_true (by omega)
                          (try rw [show ((0 : Int)).toNat = 0 from rfl] at hx145_0)
                          (try rw [Addr.add_zero'] at hx145_0)
                          (try replace hx145_0 := (HB.out.cell (World.block_lt_of_cell? w _ hx145_0)).trans hx145_0)
                          replace p145 := eq_true p145
                          replace q145 := eq_true q145
                          have p146 : 0 ≤ (1 : Int) := (by omega)
                          have q146 : 1 < ((rd_L1 l2 x25_1).length : Int) := of_decide_eq_true (by first | (with_reducible assumption) | assumption)
                          obtain ⟨ad146, e146, hx146_0⟩ := Kd.at_int HR144_0.out 1 p146 q146
                          obtain rfl : ad145 = ad146 := (by injection e146)
                          (try simp only [show (1 : Int).toNat = 1 from rfl, Nat.reduceMul, Nat.reduceEqDiff, Go.Addr.add, ↓reduceIte] at hx146_0)
                          have qi146 : (1 < (rd_L1 l2 x25_1).length) = True := eq_true (by omega)
                          (try rw [show ((1 : Int)).toNat = 1 from rfl] at hx146_0)
                          (try replace hx146_0 := (HB.out.cell (World.block_lt_of_cell? w _ hx146_0)).trans hx146_0)
                          replace p146 := eq_true p146
                          replace q146 := eq_true q146
                          go_wp2
                          repeat (go_quiet (fail); try go_wp2)
                          go_roundg k1
                          case measure => have := HK1.out; omega
                          case rel => exact ⟨(wrap64 (x25_1 + 1)), (by first | rfl | (simp; done) | (simp [*]; done)), H', ⟨by have := HK1.out; omega⟩, ⟨by repeat (first | (with_reducible first | exact HB.out | apply below_alloc | apply pw_below_drewN | apply below_drew1) | exact HB.out)⟩⟩
                      · rw [if_neg c14] at H
                        exact absurd H (by simp)
                    · rw [if_neg c13] at H
                      have c13b0 : ((rd (rd_L1 l2 x25_1) 0) == a0) = false := beq_eq_false_iff_ne.mpr c13
                      have c13b1 : ((rd (rd_L1 l2 x25_1) 0) != a0) = true := bne_iff_ne.mpr c13
                      have H' := Aside0.mk H
                      clear H
                      have p144 : 0 ≤ (x25_1 : Int) := of_decide_eq_true (by first | (with_reducible assumption) | assumption)
                      have q144 : x25_1 < (l2.length : Int) := of_decide_eq_true (by first | (with_reducible assumption) | assumption)
                      obtain ⟨ad144, A144_0, c144_0, e144, hx144_0, hl144_0, hi144_0⟩ := at_L1 HR2.out x25_1 p144 q144
                      cases e144
                      (try replace hx144_0 := (HB.out.cell (World.block_lt_of_cell? w _ hx144_0)).trans hx144_0)
                      have HR144_0 := Aside0.mk hi144_0
                      have HC144_0 := Aside0.mk hl144_0
                      clear hi144_0 hl144_0
                      replace p144 := eq_true p144
                      replace q144 := eq_true q144
                      have p145 : 0 ≤ (0 : Int) := (by omega)
                      have q145 : 0 < ((rd_L1 l2 x25_1).length : Int) := of_decide_eq_true (by first | (with_reducible assumption) | assumption)
                      obtain ⟨ad145, e145, hx145_0⟩ := Kd.at_int HR144_0.out 0 p145 q145
                      cases e145
                      have qi145 : (0 < (rd_L1 l2 x25_1).length) = True := eq_true (by omega)
                      (try rw [show ((0 : Int)).toNat = 0 from rfl] at hx145_0)
                      (try rw [Addr.add_zero'] at hx145_0)
                      (try replace hx145_0 := (HB.out.cell (World.block_lt_of_cell? w _ hx145_0)).trans hx145_0)
                      replace p145 := eq_true p145
                      replace q145 := eq_true q145
                      go_wp2
                      repeat (go_quiet (fail); try go_wp2)
                      go_roundg k1
                      case measure => have := HK1.out; omega
                      case rel => exact ⟨(wrap64 (x25_1 + 1)), (by first | rfl | (simp; done) | (simp [*]; done)), H', ⟨by have := HK1.out; omega⟩, ⟨by repeat (first | (with_reducible first | exact HB.out | apply below_alloc | apply pw_below_drewN | apply below_drew1) | exact HB.out)⟩⟩
                  · rw [if_neg c12] at H
                    exact absurd H (by simp)
                · rw [if_neg c11] at H
                  exact absurd H (by simp)
              · rw [if_neg c10] at H
                exact absurd H (by simp)
            · rw [if_neg c9] at H
              have c9b0 : decide (x25_1 < (l2.length : Int)) = false := decide_eq_false c9
              clear c9
              have H' := Aside0.mk H
              clear H
              go_wp2
              repeat (go_quiet (fail); try go_wp2)
              go_loopg [12] k1 (fun kq v12 w' => ∃ (x12_2 : Int), v12 = .int .i64 x12_2 ∧ Aside0 (spec_l16Plan.l1 kq a0 a1 l2 l3 (rd l3 (ji5)) x12_2 = some r) ∧ Aside0 (kq ≤ k1) ∧ Aside0 (Below w.heap.size w w'))
              case atStart => exact ⟨(1), (by first | rfl | (simp; done) | (simp [*]; done)), H', ⟨Nat.le_refl _⟩, ⟨by repeat (first | (with_reducible first | exact HB.out | apply below_alloc | apply pw_below_drewN | apply below_drew1) | exact HB.out)⟩⟩
              case round =>
                clear H'
                try clear c1
                try clear p1
                try clear q1
                try clear hx1
                try clear qi1
                try clear c2
                try clear p2
                try clear c3
                try clear c6
                try clear c6b0
                try clear p6
                try clear c7
                try clear c7b0
                try clear c8
                try clear c8b0
                try clear c8b1
                try clear c9
                try clear c9b0
                try clear c10
                try clear c10b0
                try clear c11
                try clear c11b0
                try clear c12
                try clear c12b0
                try clear c12b1
                try clear c13
                try clear c13b0
                try clear c13b1
                try clear c14
                try clear c14b0
                try clear c14b1
                try clear p14
                try clear q14
                try clear hx14
                try clear qi14
                try clear c15
                try clear c15b0
                try clear c15b1
                try clear c16
                try clear c16b0
                try clear c16b1
                try clear c17
                try clear c17b0
                try clear c17b1
                try clear c18
                try clear c18b0
                try clear c19
                try clear c19b0
                try clear c19b1
                try clear c20
                try clear c20b0
                try clear c20b1
                try clear hx143_0
                try clear hx144_0
                try clear hx145_0
                try clear hx146_0
                try clear hx147_0
                try clear p1
                try clear p143
                try clear p144
                try clear p145
                try clear p146
                try clear p147
                try clear p2
                try clear p6
                try clear q1
                try clear q143
                try clear q144
                try clear q145
                try clear q146
                try clear q147
                obtain ⟨x12_2, rfl, HA, HK2, HB⟩ := hrel
                cases gk with
                | zero => exact absurd HA.out (by simp [spec_l16Plan.l1])
                | succ k2 =>
                  have H := HA.out
                  clear HA
                  simp only [spec_l16Plan.l1] at H
                  by_cases c21 : x12_2 < a0
                  · rw [if_pos c21] at H
                    have c21b0 : decide (x12_2 < a0) = true := decide_eq_true c21
                    clear c21
                    obtain ⟨ji22, hji22⟩ : ∃ j_ : Int, (wrap64 ((wrap64 (x12_2 * 17)) + a1)) = j_ := ⟨_, rfl⟩
                    replace H : (if 0 ≤ (ji22) then (if (ji22) < (l3.length : Int) then (if 0 ≤ (wrap64 ((wrap64 ((wrap64 (a0 - x12_2)) * 17)) + a1)) then (if (wrap64 ((wrap64 ((wrap64 (a0 - x12_2)) * 17)) + a1)) < (l3.length : Int) then (if (wrap64 ((rd l3 (ji22)) + (rd l3 (wrap64 ((wrap64 ((wrap64 (a0 - x12_2)) * 17)) + a1))))) = (rd l3 (ji5)) then ((spec_FormatInt.f k2 x12_2).bind fun t150 => (if 1 + t150.size ≤ 9223372036854775807 then (if ((⟨#[118]⟩ : ByteArray) ++ t150).size + 1 ≤ 9223372036854775807 then ((spec_l16Plan.f k2 x12_2 a1 l2 l3).bind fun t151 => (if (((⟨#[118]⟩ : ByteArray) ++ t150) ++ (⟨#[40]⟩ : ByteArray)).size + t151.size ≤ 9223372036854775807 then ((spec_l16Plan.f k2 (wrap64 (a0 - x12_2)) a1 l2 l3).bind fun t152 => (if ((((⟨#[118]⟩ : ByteArray) ++ t150) ++ (⟨#[40]⟩ : ByteArray)) ++ t151).size + t152.size ≤ 9223372036854775807 then (if (((((⟨#[118]⟩ : ByteArray) ++ t150) ++ (⟨#[40]⟩ : ByteArray)) ++ t151) ++ t152).size + 1 ≤ 9223372036854775807 then (some ((((((⟨#[118]⟩ : ByteArray) ++ t150) ++ (⟨#[40]⟩ : ByteArray)) ++ t151) ++ t152) ++ (⟨#[41]⟩ : ByteArray))) else (none)) else (none))) else (none))) else (none)) else (none))) else (spec_l16Plan.l1 k2 a0 a1 l2 l3 (rd l3 (ji5)) (wrap64 (x12_2 + 1)))) else (none)) else (none)) else (none)) else (none)) = some r := by first | (rw [hji22] at H; exact H) | (simp only [hji22] at H ⊢; exact H)
                    have hji22w : (IntKind.i64.wrap ((wrap64 (x12_2 * 17)) + a1)) = ji22 := (i64_w _).trans hji22
                    by_cases c23 : 0 ≤ (ji22)
                    · rw [if_pos c23] at H
                      have c23b0 : decide (0 ≤ (ji22)) = true := decide_eq_true c23
                      clear c23
                      by_cases c24 : (ji22) < (l3.length : Int)
                      · rw [if_pos c24] at H
                        have c24b0 : decide ((ji22) < (l3.length : Int)) = true := decide_eq_true c24
                        clear c24
                        obtain ⟨ji25, hji25⟩ : ∃ j_ : Int, (wrap64 ((wrap64 ((wrap64 (a0 - x12_2)) * 17)) + a1)) = j_ := ⟨_, rfl⟩
                        replace H : (if 0 ≤ (ji25) then (if (ji25) < (l3.length : Int) then (if (wrap64 ((rd l3 (ji22)) + (rd l3 (ji25)))) = (rd l3 (ji5)) then ((spec_FormatInt.f k2 x12_2).bind fun t150 => (if 1 + t150.size ≤ 9223372036854775807 then (if ((⟨#[118]⟩ : ByteArray) ++ t150).size + 1 ≤ 9223372036854775807 then ((spec_l16Plan.f k2 x12_2 a1 l2 l3).bind fun t151 => (if (((⟨#[118]⟩ : ByteArray) ++ t150) ++ (⟨#[40]⟩ : ByteArray)).size + t151.size ≤ 9223372036854775807 then ((spec_l16Plan.f k2 (wrap64 (a0 - x12_2)) a1 l2 l3).bind fun t152 => (if ((((⟨#[118]⟩ : ByteArray) ++ t150) ++ (⟨#[40]⟩ : ByteArray)) ++ t151).size + t152.size ≤ 9223372036854775807 then (if (((((⟨#[118]⟩ : ByteArray) ++ t150) ++ (⟨#[40]⟩ : ByteArray)) ++ t151) ++ t152).size + 1 ≤ 9223372036854775807 then (some ((((((⟨#[118]⟩ : ByteArray) ++ t150) ++ (⟨#[40]⟩ : ByteArray)) ++ t151) ++ t152) ++ (⟨#[41]⟩ : ByteArray))) else (none)) else (none))) else (none))) else (none)) else (none))) else (spec_l16Plan.l1 k2 a0 a1 l2 l3 (rd l3 (ji5)) (wrap64 (x12_2 + 1)))) else (none)) else (none)) = some r := by first | (rw [hji25] at H; exact H) | (simp only [hji25] at H ⊢; exact H)
                        have hji25w : (IntKind.i64.wrap ((wrap64 ((wrap64 (a0 - x12_2)) * 17)) + a1)) = ji25 := (i64_w _).trans hji25
                        by_cases c26 : 0 ≤ (ji25)
                        · rw [if_pos c26] at H
                          have c26b0 : decide (0 ≤ (ji25)) = true := decide_eq_true c26
                          clear c26
                          by_cases c27 : (ji25) < (l3.length : Int)
                          · rw [if_pos c27] at H
                            have c27b0 : decide ((ji25) < (l3.length : Int)) = true := decide_eq_true c27
                            clear c27
                            by_cases c28 : (wrap64 ((rd l3 (ji22)) + (rd l3 (ji25)))) = (rd l3 (ji5))
                            · rw [if_pos c28] at H
                              have c28b0 : ((wrap64 ((rd l3 (ji22)) + (rd l3 (ji25)))) == (rd l3 (ji5))) = true := beq_iff_eq.mpr c28
                              have c28b1 : ((wrap64 ((rd l3 (ji22)) + (rd l3 (ji25)))) != (rd l3 (ji5))) = false := bne_eq_false_iff_eq.mpr c28
                              clear c28
                              replace H := Option.bind_eq_some_iff.mp H
                              obtain ⟨t150, A290, H⟩ := H
                              replace H : (if 1 + t150.size ≤ 9223372036854775807 then (if ((⟨#[118]⟩ : ByteArray) ++ t150).size + 1 ≤ 9223372036854775807 then ((spec_l16Plan.f k2 x12_2 a1 l2 l3).bind fun t151 => (if (((⟨#[118]⟩ : ByteArray) ++ t150) ++ (⟨#[40]⟩ : ByteArray)).size + t151.size ≤ 9223372036854775807 then ((spec_l16Plan.f k2 (wrap64 (a0 - x12_2)) a1 l2 l3).bind fun t152 => (if ((((⟨#[118]⟩ : ByteArray) ++ t150) ++ (⟨#[40]⟩ : ByteArray)) ++ t151).size + t152.size ≤ 9223372036854775807 then (if (((((⟨#[118]⟩ : ByteArray) ++ t150) ++ (⟨#[40]⟩ : ByteArray)) ++ t151) ++ t152).size + 1 ≤ 9223372036854775807 then (some ((((((⟨#[118]⟩ : ByteArray) ++ t150) ++ (⟨#[40]⟩ : ByteArray)) ++ t151) ++ t152) ++ (⟨#[41]⟩ : ByteArray))) else (none)) else (none))) else (none))) else (none)) else (none)) = some r := H
                              have A29 := Aside0.mk A290
                              clear A290
                              by_cases c30 : 1 + t150.size ≤ 9223372036854775807
                              · rw [if_pos c30] at H
                                have c30b0 := eq_true c30
                                have c30b1 : decide (1 + t150.size ≤ 9223372036854775807) = true := decide_eq_true c30
                                try have c30b2 : (9223372036854775807 < 1 + t150.size) = False := eq_false (Nat.not_lt.2 c30)
                                by_cases c31 : ((⟨#[118]⟩ : ByteArray) ++ t150).size + 1 ≤ 9223372036854775807
                                · rw [if_pos c31] at H
                                  have c31b0 := eq_true c31
                                  have c31b1 : decide (((⟨#[118]⟩ : ByteArray) ++ t150).size + 1 ≤ 9223372036854775807) = true := decide_eq_true c31
                                  try have c31b2 : (9223372036854775807 < ((⟨#[118]⟩ : ByteArray) ++ t150).size + 1) = False := eq_false (Nat.not_lt.2 c31)
                                  try have c31b3 : (9223372036854775807 < 1 + t150.size + 1) = False := eq_false (by have h_ := c31; simp only [ByteArray.size_append, (show (⟨#[118]⟩ : ByteArray).size = 1 from rfl)] at h_; omega)
                                  replace H := Option.bind_eq_some_iff.mp H
                                  obtain ⟨t151, A320, H⟩ := H
                                  replace H : (if (((⟨#[118]⟩ : ByteArray) ++ t150) ++ (⟨#[40]⟩ : ByteArray)).size + t151.size ≤ 9223372036854775807 then ((spec_l16Plan.f k2 (wrap64 (a0 - x12_2)) a1 l2 l3).bind fun t152 => (if ((((⟨#[118]⟩ : ByteArray) ++ t150) ++ (⟨#[40]⟩ : ByteArray)) ++ t151).size + t152.size ≤ 9223372036854775807 then (if (((((⟨#[118]⟩ : ByteArray) ++ t150) ++ (⟨#[40]⟩ : ByteArray)) ++ t151) ++ t152).size + 1 ≤ 9223372036854775807 then (some ((((((⟨#[118]⟩ : ByteArray) ++ t150) ++ (⟨#[40]⟩ : ByteArray)) ++ t151) ++ t152) ++ (⟨#[41]⟩ : ByteArray))) else (none)) else (none))) else (none)) = some r := H
                                  have A32 := Aside0.mk A320
                                  clear A320
                                  by_cases c33 : (((⟨#[118]⟩ : ByteArray) ++ t150) ++ (⟨#[40]⟩ : ByteArray)).size + t151.size ≤ 9223372036854775807
                                  · rw [if_pos c33] at H
                                    have c33b0 := eq_true c33
                                    have c33b1 : decide ((((⟨#[118]⟩ : ByteArray) ++ t150) ++ (⟨#[40]⟩ : ByteArray)).size + t151.size ≤ 9223372036854775807) = true := decide_eq_true c33
                                    try have c33b2 : (9223372036854775807 < (((⟨#[118]⟩ : ByteArray) ++ t150) ++ (⟨#[40]⟩ : ByteArray)).size + t151.size) = False := eq_false (Nat.not_lt.2 c33)
                                    try have c33b3 : (9223372036854775807 < 1 + t150.size + 1 + t151.size) = False := eq_false (by have h_ := c33; simp only [ByteArray.size_append, (show (⟨#[118]⟩ : ByteArray).size = 1 from rfl), (show (⟨#[40]⟩ : ByteArray).size = 1 from rfl)] at h_; omega)
                                    replace H := Option.bind_eq_some_iff.mp H
                                    obtain ⟨t152, A340, H⟩ := H
                                    replace H : (if ((((⟨#[118]⟩ : ByteArray) ++ t150) ++ (⟨#[40]⟩ : ByteArray)) ++ t151).size + t152.size ≤ 9223372036854775807 then (if (((((⟨#[118]⟩ : ByteArray) ++ t150) ++ (⟨#[40]⟩ : ByteArray)) ++ t151) ++ t152).size + 1 ≤ 9223372036854775807 then (some ((((((⟨#[118]⟩ : ByteArray) ++ t150) ++ (⟨#[40]⟩ : ByteArray)) ++ t151) ++ t152) ++ (⟨#[41]⟩ : ByteArray))) else (none)) else (none)) = some r := H
                                    have A34 := Aside0.mk A340
                                    clear A340
                                    by_cases c35 : ((((⟨#[118]⟩ : ByteArray) ++ t150) ++ (⟨#[40]⟩ : ByteArray)) ++ t151).size + t152.size ≤ 9223372036854775807
                                    · rw [if_pos c35] at H
                                      have c35b0 := eq_true c35
                                      have c35b1 : decide (((((⟨#[118]⟩ : ByteArray) ++ t150) ++ (⟨#[40]⟩ : ByteArray)) ++ t151).size + t152.size ≤ 9223372036854775807) = true := decide_eq_true c35
                                      try have c35b2 : (9223372036854775807 < ((((⟨#[118]⟩ : ByteArray) ++ t150) ++ (⟨#[40]⟩ : ByteArray)) ++ t151).size + t152.size) = False := eq_false (Nat.not_lt.2 c35)
                                      try have c35b3 : (9223372036854775807 < 1 + t150.size + 1 + t151.size + t152.size) = False := eq_false (by have h_ := c35; simp only [ByteArray.size_append, (show (⟨#[118]⟩ : ByteArray).size = 1 from rfl), (show (⟨#[40]⟩ : ByteArray).size = 1 from rfl)] at h_; omega)
                                      by_cases c36 : (((((⟨#[118]⟩ : ByteArray) ++ t150) ++ (⟨#[40]⟩ : ByteArray)) ++ t151) ++ t152).size + 1 ≤ 9223372036854775807
                                      · rw [if_pos c36] at H
                                        have c36b0 := eq_true c36
                                        have c36b1 : decide ((((((⟨#[118]⟩ : ByteArray) ++ t150) ++ (⟨#[40]⟩ : ByteArray)) ++ t151) ++ t152).size + 1 ≤ 9223372036854775807) = true := decide_eq_true c36
                                        try have c36b2 : (9223372036854775807 < (((((⟨#[118]⟩ : ByteArray) ++ t150) ++ (⟨#[40]⟩ : ByteArray)) ++ t151) ++ t152).size + 1) = False := eq_false (Nat.not_lt.2 c36)
                                        try have c36b3 : (9223372036854775807 < 1 + t150.size + 1 + t151.size + t152.size + 1) = False := eq_false (by have h_ := c36; simp only [ByteArray.size_append, (show (⟨#[118]⟩ : ByteArray).size = 1 from rfl), (show (⟨#[40]⟩ : ByteArray).size = 1 from rfl)] at h_; omega)
                                        obtain rfl := Option.some.inj H
                                        have p148 : 0 ≤ ((ji22) : Int) := of_decide_eq_true (by first | (with_reducible assumption) | assumption)
                                        have q148 : (ji22) < (l3.length : Int) := of_decide_eq_true (by first | (with_reducible assumption) | assumption)
                                        obtain ⟨ad148, e148, hx148_0⟩ := Kd.at_int HR3.out (ji22) p148 q148
                                        obtain rfl : ad143 = ad148 := (by injection e148)
                                        (try replace hx148_0 := (HB.out.cell (World.block_lt_of_cell? w _ hx148_0)).trans hx148_0)
                                        replace p148 := eq_true p148
                                        replace q148 := eq_true q148
                                        have p149 : 0 ≤ ((ji25) : Int) := of_decide_eq_true (by first | (with_reducible assumption) | assumption)
                                        have q149 : (ji25) < (l3.length : Int) := of_decide_eq_true (by first | (with_reducible assumption) | assumption)
                                        obtain ⟨ad149, e149, hx149_0⟩ := Kd.at_int HR3.out (ji25) p149 q149
                                        obtain rfl : ad143 = ad149 := (by injection e149)
                                        (try replace hx149_0 := (HB.out.cell (World.block_lt_of_cell? w _ hx149_0)).trans hx149_0)
                                        replace p149 := eq_true p149
                                        replace q149 := eq_true q149
                                        go_wp2_with (first | (go_at_call 31; (with_reducible refine (spec_FormatInt.calls k2 x12_2 t150 _ A29.out).mono ?_); rintro e w37 ⟨rfl, hb⟩; have n0_ := Aside0.mk (below_step (by repeat (first | (with_reducible first | exact HB.out | apply below_alloc | apply pw_below_drewN | apply below_drew1) | exact HB.out)) hb); clear HB; have HB := n0_; clear n0_; (try clear hb); (try clear hb2); (try clear hk); (try clear hi)) | (go_at_call 65; (with_reducible refine (ih k2 (by have := HK1.out; have := HK2.out; omega) x12_2 a1 _ _ l2 _ _ l3 t151 _ ?side1 ?side2 ?side3 ?side4 A32.out).mono ?_); (case side1 => repeat (first | exact (Kd.C_below HR2.out HB.out) | (with_reducible refine Kd.C_alloc ?_ _) | (with_reducible refine Kd.C_drewN ?_ _) | (with_reducible refine Kd.C_drew ?_))); (case side2 => exact HC2.out); (case side3 => repeat (first | exact (Kd.C_below HR3.out HB.out) | (with_reducible refine Kd.C_alloc ?_ _) | (with_reducible refine Kd.C_drewN ?_ _) | (with_reducible refine Kd.C_drew ?_))); (case side4 => exact HC3.out); rintro e w38 ⟨rfl, hb⟩; have n0_ := Aside0.mk (below_step (by repeat (first | (with_reducible first | exact HB.out | apply below_alloc | apply pw_below_drewN | apply below_drew1) | exact HB.out)) hb); clear HB; have HB := n0_; clear n0_; (try clear hb); (try clear hb2); (try clear hk); (try clear hi)) | (go_at_call 65; (with_reducible refine (ih k2 (by have := HK1.out; have := HK2.out; omega) (wrap64 (a0 - x12_2)) a1 _ _ l2 _ _ l3 t152 _ ?side1 ?side2 ?side3 ?side4 A34.out).mono ?_); (case side1 => repeat (first | exact (Kd.C_below HR2.out HB.out) | (with_reducible refine Kd.C_alloc ?_ _) | (with_reducible refine Kd.C_drewN ?_ _) | (with_reducible refine Kd.C_drew ?_))); (case side2 => exact HC2.out); (case side3 => repeat (first | exact (Kd.C_below HR3.out HB.out) | (with_reducible refine Kd.C_alloc ?_ _) | (with_reducible refine Kd.C_drewN ?_ _) | (with_reducible refine Kd.C_drew ?_))); (case side4 => exact HC3.out); rintro e w39 ⟨rfl, hb⟩; have n0_ := Aside0.mk (below_step (by repeat (first | (with_reducible first | exact HB.out | apply below_alloc | apply pw_below_drewN | apply below_drew1) | exact HB.out)) hb); clear HB; have HB := n0_; clear n0_; (try clear hb); (try clear hb2); (try clear hk); (try clear hi)))
                                        repeat (go_quiet (first | (go_at_call 31; (with_reducible refine (spec_FormatInt.calls k2 x12_2 t150 _ A29.out).mono ?_); rintro e w37 ⟨rfl, hb⟩; have n0_ := Aside0.mk (below_step (by repeat (first | (with_reducible first | exact HB.out | apply below_alloc | apply pw_below_drewN | apply below_drew1) | exact HB.out)) hb); clear HB; have HB := n0_; clear n0_; (try clear hb); (try clear hb2); (try clear hk); (try clear hi)) | (go_at_call 65; (with_reducible refine (ih k2 (by have := HK1.out; have := HK2.out; omega) x12_2 a1 _ _ l2 _ _ l3 t151 _ ?side1 ?side2 ?side3 ?side4 A32.out).mono ?_); (case side1 => repeat (first | exact (Kd.C_below HR2.out HB.out) | (with_reducible refine Kd.C_alloc ?_ _) | (with_reducible refine Kd.C_drewN ?_ _) | (with_reducible refine Kd.C_drew ?_))); (case side2 => exact HC2.out); (case side3 => repeat (first | exact (Kd.C_below HR3.out HB.out) | (with_reducible refine Kd.C_alloc ?_ _) | (with_reducible refine Kd.C_drewN ?_ _) | (with_reducible refine Kd.C_drew ?_))); (case side4 => exact HC3.out); rintro e w38 ⟨rfl, hb⟩; have n0_ := Aside0.mk (below_step (by repeat (first | (with_reducible first | exact HB.out | apply below_alloc | apply pw_below_drewN | apply below_drew1) | exact HB.out)) hb); clear HB; have HB := n0_; clear n0_; (try clear hb); (try clear hb2); (try clear hk); (try clear hi)) | (go_at_call 65; (with_reducible refine (ih k2 (by have := HK1.out; have := HK2.out; omega) (wrap64 (a0 - x12_2)) a1 _ _ l2 _ _ l3 t152 _ ?side1 ?side2 ?side3 ?side4 A34.out).mono ?_); (case side1 => repeat (first | exact (Kd.C_below HR2.out HB.out) | (with_reducible refine Kd.C_alloc ?_ _) | (with_reducible refine Kd.C_drewN ?_ _) | (with_reducible refine Kd.C_drew ?_))); (case side2 => exact HC2.out); (case side3 => repeat (first | exact (Kd.C_below HR3.out HB.out) | (with_reducible refine Kd.C_alloc ?_ _) | (with_reducible refine Kd.C_drewN ?_ _) | (with_reducible refine Kd.C_drew ?_))); (case side4 => exact HC3.out); rintro e w39 ⟨rfl, hb⟩; have n0_ := Aside0.mk (below_step (by repeat (first | (with_reducible first | exact HB.out | apply below_alloc | apply pw_below_drewN | apply below_drew1) | exact HB.out)) hb); clear HB; have HB := n0_; clear n0_; (try clear hb); (try clear hb2); (try clear hk); (try clear hi))); try go_wp2_with (first | (go_at_call 31; (with_reducible refine (spec_FormatInt.calls k2 x12_2 t150 _ A29.out).mono ?_); rintro e w37 ⟨rfl, hb⟩; have n0_ := Aside0.mk (below_step (by repeat (first | (with_reducible first | exact HB.out | apply below_alloc | apply pw_below_drewN | apply below_drew1) | exact HB.out)) hb); clear HB; have HB := n0_; clear n0_; (try clear hb); (try clear hb2); (try clear hk); (try clear hi)) | (go_at_call 65; (with_reducible refine (ih k2 (by have := HK1.out; have := HK2.out; omega) x12_2 a1 _ _ l2 _ _ l3 t151 _ ?side1 ?side2 ?side3 ?side4 A32.out).mono ?_); (case side1 => repeat (first | exact (Kd.C_below HR2.out HB.out) | (with_reducible refine Kd.C_alloc ?_ _) | (with_reducible refine Kd.C_drewN ?_ _) | (with_reducible refine Kd.C_drew ?_))); (case side2 => exact HC2.out); (case side3 => repeat (first | exact (Kd.C_below HR3.out HB.out) | (with_reducible refine Kd.C_alloc ?_ _) | (with_reducible refine Kd.C_drewN ?_ _) | (with_reducible refine Kd.C_drew ?_))); (case side4 => exact HC3.out); rintro e w38 ⟨rfl, hb⟩; have n0_ := Aside0.mk (below_step (by repeat (first | (with_reducible first | exact HB.out | apply below_alloc | apply pw_below_drewN | apply below_drew1) | exact HB.out)) hb); clear HB; have HB := n0_; clear n0_; (try clear hb); (try clear hb2); (try clear hk); (try clear hi)) | (go_at_call 65; (with_reducible refine (ih k2 (by have := HK1.out; have := HK2.out; omega) (wrap64 (a0 - x12_2)) a1 _ _ l2 _ _ l3 t152 _ ?side1 ?side2 ?side3 ?side4 A34.out).mono ?_); (case side1 => repeat (first | exact (Kd.C_below HR2.out HB.out) | (with_reducible refine Kd.C_alloc ?_ _) | (with_reducible refine Kd.C_drewN ?_ _) | (with_reducible refine Kd.C_drew ?_))); (case side2 => exact HC2.out); (case side3 => repeat (first | exact (Kd.C_below HR3.out HB.out) | (with_reducible refine Kd.C_alloc ?_ _) | (with_reducible refine Kd.C_drewN ?_ _) | (with_reducible refine Kd.C_drew ?_))); (case side4 => exact HC3.out); rintro e w39 ⟨rfl, hb⟩; have n0_ := Aside0.mk (below_step (by repeat (first | (with_reducible first | exact HB.out | apply below_alloc | apply pw_below_drewN | apply below_drew1) | exact HB.out)) hb); clear HB; have HB := n0_; clear n0_; (try clear hb); (try clear hb2); (try clear hk); (try clear hi))))
                                        go_ret
                                        exact ⟨by first | rfl | (simp [errW_none, errW_some] <;> rfl) | (simp only [← hji5, ← hji22, ← hji25]; first | rfl | (simp [errW_none, errW_some] <;> rfl)) | (simp [*, errW_none, errW_some] <;> rfl), by repeat (first | (with_reducible first | exact HB.out | apply below_alloc | apply pw_below_drewN | apply below_drew1) | exact HB.out)⟩
                                      · rw [if_neg c36] at H
                                        exact absurd H (by simp)
                                    · rw [if_neg c35] at H
                                      exact absurd H (by simp)
                                  · rw [if_neg c33] at H
                                    exact absurd H (by simp)
                                · rw [if_neg c31] at H
                                  exact absurd H (by simp)
                              · rw [if_neg c30] at H
                                exact absurd H (by simp)
                            · rw [if_neg c28] at H
                              have c28b0 : ((wrap64 ((rd l3 (ji22)) + (rd l3 (ji25)))) == (rd l3 (ji5))) = false := beq_eq_false_iff_ne.mpr c28
                              have c28b1 : ((wrap64 ((rd l3 (ji22)) + (rd l3 (ji25)))) != (rd l3 (ji5))) = true := bne_iff_ne.mpr c28
                              have H' := Aside0.mk H
                              clear H
                              have p148 : 0 ≤ ((ji22) : Int) := of_decide_eq_true (by first | (with_reducible assumption) | assumption)
                              have q148 : (ji22) < (l3.length : Int) := of_decide_eq_true (by first | (with_reducible assumption) | assumption)
                              obtain ⟨ad148, e148, hx148_0⟩ := Kd.at_int HR3.out (ji22) p148 q148
                              obtain rfl : ad143 = ad148 := (by injection e148)
                              (try replace hx148_0 := (HB.out.cell (World.block_lt_of_cell? w _ hx148_0)).trans hx148_0)
                              replace p148 := eq_true p148
                              replace q148 := eq_true q148
                              have p149 : 0 ≤ ((ji25) : Int) := of_decide_eq_true (by first | (with_reducible assumption) | assumption)
                              have q149 : (ji25) < (l3.length : Int) := of_decide_eq_true (by first | (with_reducible assumption) | assumption)
                              obtain ⟨ad149, e149, hx149_0⟩ := Kd.at_int HR3.out (ji25) p149 q149
                              obtain rfl : ad143 = ad149 := (by injection e149)
                              (try replace hx149_0 := (HB.out.cell (World.block_lt_of_cell? w _ hx149_0)).trans hx149_0)
                              replace p149 := eq_true p149
                              replace q149 := eq_true q149
                              go_wp2
                              repeat (go_quiet (fail); try go_wp2)
                              go_roundg k2
                              case measure => have := HK1.out; have := HK2.out; omega
                              case rel => exact ⟨(wrap64 (x12_2 + 1)), (by first | rfl | (simp; done) | (simp [*]; done)), H', ⟨by have := HK1.out; have := HK2.out; omega⟩, ⟨by repeat (first | (with_reducible first | exact HB.out | apply below_alloc | apply pw_below_drewN | apply below_drew1) | exact HB.out)⟩⟩
                          · rw [if_neg c27] at H
                            exact absurd H (by simp)
                        · rw [if_neg c26] at H
                          exact absurd H (by simp)
                      · rw [if_neg c24] at H
                        exact absurd H (by simp)
                    · rw [if_neg c23] at H
                      exact absurd H (by simp)
                  · rw [if_neg c21] at H
                    have c21b0 : decide (x12_2 < a0) = false := decide_eq_false c21
                    clear c21
                    have H' := Aside0.mk H
                    clear H
                    go_wp2
                    repeat (go_quiet (fail); try go_wp2)
                    go_loopg [13] k2 (fun kq v13 w' => ∃ (x13_3 : Int), v13 = .int .i64 x13_3 ∧ Aside0 (spec_l16Plan.l2 kq a0 a1 l2 l3 (rd l3 (ji5)) x13_3 = some r) ∧ Aside0 (kq ≤ k2) ∧ Aside0 (Below w.heap.size w w'))
                    case atStart => exact ⟨(1), (by first | rfl | (simp; done) | (simp [*]; done)), H', ⟨Nat.le_refl _⟩, ⟨by repeat (first | (with_reducible first | exact HB.out | apply below_alloc | apply pw_below_drewN | apply below_drew1) | exact HB.out)⟩⟩
                    case round =>
                      clear H'
                      try clear c1
                      try clear p1
                      try clear q1
                      try clear hx1
                      try clear qi1
                      try clear c2
                      try clear p2
                      try clear c3
                      try clear c6
                      try clear c6b0
                      try clear p6
                      try clear c7
                      try clear c7b0
                      try clear c8
                      try clear c8b0
                      try clear c8b1
                      try clear c9
                      try clear c9b0
                      try clear c10
                      try clear c10b0
                      try clear c11
                      try clear c11b0
                      try clear c12
                      try clear c12b0
                      try clear c12b1
                      try clear c13
                      try clear c13b0
                      try clear c13b1
                      try clear c14
                      try clear c14b0
                      try clear c14b1
                      try clear p14
                      try clear q14
                      try clear hx14
                      try clear qi14
                      try clear c15
                      try clear c15b0
                      try clear c15b1
                      try clear c16
                      try clear c16b0
                      try clear c16b1
                      try clear c17
                      try clear c17b0
                      try clear c17b1
                      try clear c18
                      try clear c18b0
                      try clear c19
                      try clear c19b0
                      try clear c19b1
                      try clear c20
                      try clear c20b0
                      try clear c20b1
                      try clear c21
                      try clear c21b0
                      try clear c23
                      try clear c23b0
                      try clear c24
                      try clear c24b0
                      try clear c26
                      try clear c26b0
                      try clear c27
                      try clear c27b0
                      try clear c28
                      try clear c28b0
                      try clear c28b1
                      try clear c30
                      try clear c30b0
                      try clear c30b1
                      try clear c30b2
                      try clear c31
                      try clear c31b0
                      try clear c31b1
                      try clear c31b2
                      try clear c33
                      try clear c33b0
                      try clear c33b1
                      try clear c33b2
                      try clear c35
                      try clear c35b0
                      try clear c35b1
                      try clear c35b2
                      try clear c36
                      try clear c36b0
                      try clear c36b1
                      try clear c36b2
                      try clear hx143_0
                      try clear hx144_0
                      try clear hx145_0
                      try clear hx146_0
                      try clear hx147_0
                      try clear hx148_0
                      try clear hx149_0
                      try clear p1
                      try clear p14
                      try clear p143
                      try clear p144
                      try clear p145
                      try clear p146
                      try clear p147
                      try clear p148
                      try clear p149
                      try clear p2
                      try clear p6
                      try clear q1
                      try clear q14
                      try clear q143
                      try clear q144
                      try clear q145
                      try clear q146
                      try clear q147
                      try clear q148
                      try clear q149
                      obtain ⟨x13_3, rfl, HA, HK3, HB⟩ := hrel
                      cases gk with
                      | zero => exact absurd HA.out (by simp [spec_l16Plan.l2])
                      | succ k3 =>
                        have H := HA.out
                        clear HA
                        simp only [spec_l16Plan.l2] at H
                        by_cases c40 : x13_3 < a1
                        · rw [if_pos c40] at H
                          have c40b0 : decide (x13_3 < a1) = true := decide_eq_true c40
                          clear c40
                          obtain ⟨ji41, hji41⟩ : ∃ j_ : Int, (wrap64 ((wrap64 (a0 * 17)) + x13_3)) = j_ := ⟨_, rfl⟩
                          replace H : (if 0 ≤ (ji41) then (if (ji41) < (l3.length : Int) then (if 0 ≤ (wrap64 ((wrap64 ((wrap64 (a0 * 17)) + a1)) - x13_3)) then (if (wrap64 ((wrap64 ((wrap64 (a0 * 17)) + a1)) - x13_3)) < (l3.length : Int) then (if (wrap64 ((rd l3 (ji41)) + (rd l3 (wrap64 ((wrap64 ((wrap64 (a0 * 17)) + a1)) - x13_3))))) = (rd l3 (ji5)) then ((spec_FormatInt.f k3 x13_3).bind fun t155 => (if 1 + t155.size ≤ 9223372036854775807 then (if ((⟨#[104]⟩ : ByteArray) ++ t155).size + 1 ≤ 9223372036854775807 then ((spec_l16Plan.f k3 a0 x13_3 l2 l3).bind fun t156 => (if (((⟨#[104]⟩ : ByteArray) ++ t155) ++ (⟨#[40]⟩ : ByteArray)).size + t156.size ≤ 9223372036854775807 then ((spec_l16Plan.f k3 a0 (wrap64 (a1 - x13_3)) l2 l3).bind fun t157 => (if ((((⟨#[104]⟩ : ByteArray) ++ t155) ++ (⟨#[40]⟩ : ByteArray)) ++ t156).size + t157.size ≤ 9223372036854775807 then (if (((((⟨#[104]⟩ : ByteArray) ++ t155) ++ (⟨#[40]⟩ : ByteArray)) ++ t156) ++ t157).size + 1 ≤ 9223372036854775807 then (some ((((((⟨#[104]⟩ : ByteArray) ++ t155) ++ (⟨#[40]⟩ : ByteArray)) ++ t156) ++ t157) ++ (⟨#[41]⟩ : ByteArray))) else (none)) else (none))) else (none))) else (none)) else (none))) else (spec_l16Plan.l2 k3 a0 a1 l2 l3 (rd l3 (ji5)) (wrap64 (x13_3 + 1)))) else (none)) else (none)) else (none)) else (none)) = some r := by first | (rw [hji41] at H; exact H) | (simp only [hji41] at H ⊢; exact H)
                          have hji41w : (IntKind.i64.wrap ((wrap64 (a0 * 17)) + x13_3)) = ji41 := (i64_w _).trans hji41
                          by_cases c42 : 0 ≤ (ji41)
                          · rw [if_pos c42] at H
                            have c42b0 : decide (0 ≤ (ji41)) = true := decide_eq_true c42
                            clear c42
                            by_cases c43 : (ji41) < (l3.length : Int)
                            · rw [if_pos c43] at H
                              have c43b0 : decide ((ji41) < (l3.length : Int)) = true := decide_eq_true c43
                              clear c43
                              obtain ⟨ji44, hji44⟩ : ∃ j_ : Int, (wrap64 ((wrap64 ((wrap64 (a0 * 17)) + a1)) - x13_3)) = j_ := ⟨_, rfl⟩
                              replace H : (if 0 ≤ (ji44) then (if (ji44) < (l3.length : Int) then (if (wrap64 ((rd l3 (ji41)) + (rd l3 (ji44)))) = (rd l3 (ji5)) then ((spec_FormatInt.f k3 x13_3).bind fun t155 => (if 1 + t155.size ≤ 9223372036854775807 then (if ((⟨#[104]⟩ : ByteArray) ++ t155).size + 1 ≤ 9223372036854775807 then ((spec_l16Plan.f k3 a0 x13_3 l2 l3).bind fun t156 => (if (((⟨#[104]⟩ : ByteArray) ++ t155) ++ (⟨#[40]⟩ : ByteArray)).size + t156.size ≤ 9223372036854775807 then ((spec_l16Plan.f k3 a0 (wrap64 (a1 - x13_3)) l2 l3).bind fun t157 => (if ((((⟨#[104]⟩ : ByteArray) ++ t155) ++ (⟨#[40]⟩ : ByteArray)) ++ t156).size + t157.size ≤ 9223372036854775807 then (if (((((⟨#[104]⟩ : ByteArray) ++ t155) ++ (⟨#[40]⟩ : ByteArray)) ++ t156) ++ t157).size + 1 ≤ 9223372036854775807 then (some ((((((⟨#[104]⟩ : ByteArray) ++ t155) ++ (⟨#[40]⟩ : ByteArray)) ++ t156) ++ t157) ++ (⟨#[41]⟩ : ByteArray))) else (none)) else (none))) else (none))) else (none)) else (none))) else (spec_l16Plan.l2 k3 a0 a1 l2 l3 (rd l3 (ji5)) (wrap64 (x13_3 + 1)))) else (none)) else (none)) = some r := by first | (rw [hji44] at H; exact H) | (simp only [hji44] at H ⊢; exact H)
                              have hji44w : (IntKind.i64.wrap ((wrap64 ((wrap64 (a0 * 17)) + a1)) - x13_3)) = ji44 := (i64_w _).trans hji44
                              have hji44v : (IntKind.i64.wrap ((ji5) - x13_3)) = ji44 := by rw [← hji5]; exact hji44w
                              by_cases c45 : 0 ≤ (ji44)
                              · rw [if_pos c45] at H
                                have c45b0 : decide (0 ≤ (ji44)) = true := decide_eq_true c45
                                clear c45
                                by_cases c46 : (ji44) < (l3.length : Int)
                                · rw [if_pos c46] at H
                                  have c46b0 : decide ((ji44) < (l3.length : Int)) = true := decide_eq_true c46
                                  clear c46
                                  by_cases c47 : (wrap64 ((rd l3 (ji41)) + (rd l3 (ji44)))) = (rd l3 (ji5))
                                  · rw [if_pos c47] at H
                                    have c47b0 : ((wrap64 ((rd l3 (ji41)) + (rd l3 (ji44)))) == (rd l3 (ji5))) = true := beq_iff_eq.mpr c47
                                    have c47b1 : ((wrap64 ((rd l3 (ji41)) + (rd l3 (ji44)))) != (rd l3 (ji5))) = false := bne_eq_false_iff_eq.mpr c47
                                    clear c47
                                    replace H := Option.bind_eq_some_iff.mp H
                                    obtain ⟨t155, A480, H⟩ := H
                                    replace H : (if 1 + t155.size ≤ 9223372036854775807 then (if ((⟨#[104]⟩ : ByteArray) ++ t155).size + 1 ≤ 9223372036854775807 then ((spec_l16Plan.f k3 a0 x13_3 l2 l3).bind fun t156 => (if (((⟨#[104]⟩ : ByteArray) ++ t155) ++ (⟨#[40]⟩ : ByteArray)).size + t156.size ≤ 9223372036854775807 then ((spec_l16Plan.f k3 a0 (wrap64 (a1 - x13_3)) l2 l3).bind fun t157 => (if ((((⟨#[104]⟩ : ByteArray) ++ t155) ++ (⟨#[40]⟩ : ByteArray)) ++ t156).size + t157.size ≤ 9223372036854775807 then (if (((((⟨#[104]⟩ : ByteArray) ++ t155) ++ (⟨#[40]⟩ : ByteArray)) ++ t156) ++ t157).size + 1 ≤ 9223372036854775807 then (some ((((((⟨#[104]⟩ : ByteArray) ++ t155) ++ (⟨#[40]⟩ : ByteArray)) ++ t156) ++ t157) ++ (⟨#[41]⟩ : ByteArray))) else (none)) else (none))) else (none))) else (none)) else (none)) = some r := H
                                    have A48 := Aside0.mk A480
                                    clear A480
                                    by_cases c49 : 1 + t155.size ≤ 9223372036854775807
                                    · rw [if_pos c49] at H
                                      have c49b0 := eq_true c49
                                      have c49b1 : decide (1 + t155.size ≤ 9223372036854775807) = true := decide_eq_true c49
                                      try have c49b2 : (9223372036854775807 < 1 + t155.size) = False := eq_false (Nat.not_lt.2 c49)
                                      by_cases c50 : ((⟨#[104]⟩ : ByteArray) ++ t155).size + 1 ≤ 9223372036854775807
                                      · rw [if_pos c50] at H
                                        have c50b0 := eq_true c50
                                        have c50b1 : decide (((⟨#[104]⟩ : ByteArray) ++ t155).size + 1 ≤ 9223372036854775807) = true := decide_eq_true c50
                                        try have c50b2 : (9223372036854775807 < ((⟨#[104]⟩ : ByteArray) ++ t155).size + 1) = False := eq_false (Nat.not_lt.2 c50)
                                        try have c50b3 : (9223372036854775807 < 1 + t155.size + 1) = False := eq_false (by have h_ := c50; simp only [ByteArray.size_append, (show (⟨#[104]⟩ : ByteArray).size = 1 from rfl)] at h_; omega)
                                        replace H := Option.bind_eq_some_iff.mp H
                                        obtain ⟨t156, A510, H⟩ := H
                                        replace H : (if (((⟨#[104]⟩ : ByteArray) ++ t155) ++ (⟨#[40]⟩ : ByteArray)).size + t156.size ≤ 9223372036854775807 then ((spec_l16Plan.f k3 a0 (wrap64 (a1 - x13_3)) l2 l3).bind fun t157 => (if ((((⟨#[104]⟩ : ByteArray) ++ t155) ++ (⟨#[40]⟩ : ByteArray)) ++ t156).size + t157.size ≤ 9223372036854775807 then (if (((((⟨#[104]⟩ : ByteArray) ++ t155) ++ (⟨#[40]⟩ : ByteArray)) ++ t156) ++ t157).size + 1 ≤ 9223372036854775807 then (some ((((((⟨#[104]⟩ : ByteArray) ++ t155) ++ (⟨#[40]⟩ : ByteArray)) ++ t156) ++ t157) ++ (⟨#[41]⟩ : ByteArray))) else (none)) else (none))) else (none)) = some r := H
                                        have A51 := Aside0.mk A510
                                        clear A510
                                        by_cases c52 : (((⟨#[104]⟩ : ByteArray) ++ t155) ++ (⟨#[40]⟩ : ByteArray)).size + t156.size ≤ 9223372036854775807
                                        · rw [if_pos c52] at H
                                          have c52b0 := eq_true c52
                                          have c52b1 : decide ((((⟨#[104]⟩ : ByteArray) ++ t155) ++ (⟨#[40]⟩ : ByteArray)).size + t156.size ≤ 9223372036854775807) = true := decide_eq_true c52
                                          try have c52b2 : (9223372036854775807 < (((⟨#[104]⟩ : ByteArray) ++ t155) ++ (⟨#[40]⟩ : ByteArray)).size + t156.size) = False := eq_false (Nat.not_lt.2 c52)
                                          try have c52b3 : (9223372036854775807 < 1 + t155.size + 1 + t156.size) = False := eq_false (by have h_ := c52; simp only [ByteArray.size_append, (show (⟨#[104]⟩ : ByteArray).size = 1 from rfl), (show (⟨#[40]⟩ : ByteArray).size = 1 from rfl)] at h_; omega)
                                          replace H := Option.bind_eq_some_iff.mp H
                                          obtain ⟨t157, A530, H⟩ := H
                                          replace H : (if ((((⟨#[104]⟩ : ByteArray) ++ t155) ++ (⟨#[40]⟩ : ByteArray)) ++ t156).size + t157.size ≤ 9223372036854775807 then (if (((((⟨#[104]⟩ : ByteArray) ++ t155) ++ (⟨#[40]⟩ : ByteArray)) ++ t156) ++ t157).size + 1 ≤ 9223372036854775807 then (some ((((((⟨#[104]⟩ : ByteArray) ++ t155) ++ (⟨#[40]⟩ : ByteArray)) ++ t156) ++ t157) ++ (⟨#[41]⟩ : ByteArray))) else (none)) else (none)) = some r := H
                                          have A53 := Aside0.mk A530
                                          clear A530
                                          by_cases c54 : ((((⟨#[104]⟩ : ByteArray) ++ t155) ++ (⟨#[40]⟩ : ByteArray)) ++ t156).size + t157.size ≤ 9223372036854775807
                                          · rw [if_pos c54] at H
                                            have c54b0 := eq_true c54
                                            have c54b1 : decide (((((⟨#[104]⟩ : ByteArray) ++ t155) ++ (⟨#[40]⟩ : ByteArray)) ++ t156).size + t157.size ≤ 9223372036854775807) = true := decide_eq_true c54
                                            try have c54b2 : (9223372036854775807 < ((((⟨#[104]⟩ : ByteArray) ++ t155) ++ (⟨#[40]⟩ : ByteArray)) ++ t156).size + t157.size) = False := eq_false (Nat.not_lt.2 c54)
                                            try have c54b3 : (9223372036854775807 < 1 + t155.size + 1 + t156.size + t157.size) = False := eq_false (by have h_ := c54; simp only [ByteArray.size_append, (show (⟨#[104]⟩ : ByteArray).size = 1 from rfl), (show (⟨#[40]⟩ : ByteArray).size = 1 from rfl)] at h_; omega)
                                            by_cases c55 : (((((⟨#[104]⟩ : ByteArray) ++ t155) ++ (⟨#[40]⟩ : ByteArray)) ++ t156) ++ t157).size + 1 ≤ 9223372036854775807
                                            · rw [if_pos c55] at H
                                              have c55b0 := eq_true c55
                                              have c55b1 : decide ((((((⟨#[104]⟩ : ByteArray) ++ t155) ++ (⟨#[40]⟩ : ByteArray)) ++ t156) ++ t157).size + 1 ≤ 9223372036854775807) = true := decide_eq_true c55
                                              try have c55b2 : (9223372036854775807 < (((((⟨#[104]⟩ : ByteArray) ++ t155) ++ (⟨#[40]⟩ : ByteArray)) ++ t156) ++ t157).size + 1) = False := eq_false (Nat.not_lt.2 c55)
                                              try have c55b3 : (9223372036854775807 < 1 + t155.size + 1 + t156.size + t157.size + 1) = False := eq_false (by have h_ := c55; simp only [ByteArray.size_append, (show (⟨#[104]⟩ : ByteArray).size = 1 from rfl), (show (⟨#[40]⟩ : ByteArray).size = 1 from rfl)] at h_; omega)
                                              obtain rfl := Option.some.inj H
                                              have p153 : 0 ≤ ((ji41) : Int) := of_decide_eq_true (by first | (with_reducible assumption) | assumption)
                                              have q153 : (ji41) < (l3.length : Int) := of_decide_eq_true (by first | (with_reducible assumption) | assumption)
                                              obtain ⟨ad153, e153, hx153_0⟩ := Kd.at_int HR3.out (ji41) p153 q153
                                              obtain rfl : ad143 = ad153 := (by injection e153)
                                              (try replace hx153_0 := (HB.out.cell (World.block_lt_of_cell? w _ hx153_0)).trans hx153_0)
                                              replace p153 := eq_true p153
                                              replace q153 := eq_true q153
                                              have p154 : 0 ≤ ((ji44) : Int) := of_decide_eq_true (by first | (with_reducible assumption) | assumption)
                                              have q154 : (ji44) < (l3.length : Int) := of_decide_eq_true (by first | (with_reducible assumption) | assumption)
                                              obtain ⟨ad154, e154, hx154_0⟩ := Kd.at_int HR3.out (ji44) p154 q154
                                              obtain rfl : ad143 = ad154 := (by injection e154)
                                              (try replace hx154_0 := (HB.out.cell (World.block_lt_of_cell? w _ hx154_0)).trans hx154_0)
                                              replace p154 := eq_true p154
                                              replace q154 := eq_true q154
                                              go_wp2_with (first | (go_at_call 31; (with_reducible refine (spec_FormatInt.calls k3 x13_3 t155 _ A48.out).mono ?_); rintro e w56 ⟨rfl, hb⟩; have n0_ := Aside0.mk (below_step (by repeat (first | (with_reducible first | exact HB.out | apply below_alloc | apply pw_below_drewN | apply below_drew1) | exact HB.out)) hb); clear HB; have HB := n0_; clear n0_; (try clear hb); (try clear hb2); (try clear hk); (try clear hi)) | (go_at_call 65; (with_reducible refine (ih k3 (by have := HK1.out; have := HK2.out; have := HK3.out; omega) a0 x13_3 _ _ l2 _ _ l3 t156 _ ?side1 ?side2 ?side3 ?side4 A51.out).mono ?_); (case side1 => repeat (first | exact (Kd.C_below HR2.out HB.out) | (with_reducible refine Kd.C_alloc ?_ _) | (with_reducible refine Kd.C_drewN ?_ _) | (with_reducible refine Kd.C_drew ?_))); (case side2 => exact HC2.out); (case side3 => repeat (first | exact (Kd.C_below HR3.out HB.out) | (with_reducible refine Kd.C_alloc ?_ _) | (with_reducible refine Kd.C_drewN ?_ _) | (with_reducible refine Kd.C_drew ?_))); (case side4 => exact HC3.out); rintro e w57 ⟨rfl, hb⟩; have n0_ := Aside0.mk (below_step (by repeat (first | (with_reducible first | exact HB.out | apply below_alloc | apply pw_below_drewN | apply below_drew1) | exact HB.out)) hb); clear HB; have HB := n0_; clear n0_; (try clear hb); (try clear hb2); (try clear hk); (try clear hi)) | (go_at_call 65; (with_reducible refine (ih k3 (by have := HK1.out; have := HK2.out; have := HK3.out; omega) a0 (wrap64 (a1 - x13_3)) _ _ l2 _ _ l3 t157 _ ?side1 ?side2 ?side3 ?side4 A53.out).mono ?_); (case side1 => repeat (first | exact (Kd.C_below HR2.out HB.out) | (with_reducible refine Kd.C_alloc ?_ _) | (with_reducible refine Kd.C_drewN ?_ _) | (with_reducible refine Kd.C_drew ?_))); (case side2 => exact HC2.out); (case side3 => repeat (first | exact (Kd.C_below HR3.out HB.out) | (with_reducible refine Kd.C_alloc ?_ _) | (with_reducible refine Kd.C_drewN ?_ _) | (with_reducible refine Kd.C_drew ?_))); (case side4 => exact HC3.out); rintro e w58 ⟨rfl, hb⟩; have n0_ := Aside0.mk (below_step (by repeat (first | (with_reducible first | exact HB.out | apply below_alloc | apply pw_below_drewN | apply below_drew1) | exact HB.out)) hb); clear HB; have HB := n0_; clear n0_; (try clear hb); (try clear hb2); (try clear hk); (try clear hi)))
                                              repeat (go_quiet (first | (go_at_call 31; (with_reducible refine (spec_FormatInt.calls k3 x13_3 t155 _ A48.out).mono ?_); rintro e w56 ⟨rfl, hb⟩; have n0_ := Aside0.mk (below_step (by repeat (first | (with_reducible first | exact HB.out | apply below_alloc | apply pw_below_drewN | apply below_drew1) | exact HB.out)) hb); clear HB; have HB := n0_; clear n0_; (try clear hb); (try clear hb2); (try clear hk); (try clear hi)) | (go_at_call 65; (with_reducible refine (ih k3 (by have := HK1.out; have := HK2.out; have := HK3.out; omega) a0 x13_3 _ _ l2 _ _ l3 t156 _ ?side1 ?side2 ?side3 ?side4 A51.out).mono ?_); (case side1 => repeat (first | exact (Kd.C_below HR2.out HB.out) | (with_reducible refine Kd.C_alloc ?_ _) | (with_reducible refine Kd.C_drewN ?_ _) | (with_reducible refine Kd.C_drew ?_))); (case side2 => exact HC2.out); (case side3 => repeat (first | exact (Kd.C_below HR3.out HB.out) | (with_reducible refine Kd.C_alloc ?_ _) | (with_reducible refine Kd.C_drewN ?_ _) | (with_reducible refine Kd.C_drew ?_))); (case side4 => exact HC3.out); rintro e w57 ⟨rfl, hb⟩; have n0_ := Aside0.mk (below_step (by repeat (first | (with_reducible first | exact HB.out | apply below_alloc | apply pw_below_drewN | apply below_drew1) | exact HB.out)) hb); clear HB; have HB := n0_; clear n0_; (try clear hb); (try clear hb2); (try clear hk); (try clear hi)) | (go_at_call 65; (with_reducible refine (ih k3 (by have := HK1.out; have := HK2.out; have := HK3.out; omega) a0 (wrap64 (a1 - x13_3)) _ _ l2 _ _ l3 t157 _ ?side1 ?side2 ?side3 ?side4 A53.out).mono ?_); (case side1 => repeat (first | exact (Kd.C_below HR2.out HB.out) | (with_reducible refine Kd.C_alloc ?_ _) | (with_reducible refine Kd.C_drewN ?_ _) | (with_reducible refine Kd.C_drew ?_))); (case side2 => exact HC2.out); (case side3 => repeat (first | exact (Kd.C_below HR3.out HB.out) | (with_reducible refine Kd.C_alloc ?_ _) | (with_reducible refine Kd.C_drewN ?_ _) | (with_reducible refine Kd.C_drew ?_))); (case side4 => exact HC3.out); rintro e w58 ⟨rfl, hb⟩; have n0_ := Aside0.mk (below_step (by repeat (first | (with_reducible first | exact HB.out | apply below_alloc | apply pw_below_drewN | apply below_drew1) | exact HB.out)) hb); clear HB; have HB := n0_; clear n0_; (try clear hb); (try clear hb2); (try clear hk); (try clear hi))); try go_wp2_with (first | (go_at_call 31; (with_reducible refine (spec_FormatInt.calls k3 x13_3 t155 _ A48.out).mono ?_); rintro e w56 ⟨rfl, hb⟩; have n0_ := Aside0.mk (below_step (by repeat (first | (with_reducible first | exact HB.out | apply below_alloc | apply pw_below_drewN | apply below_drew1) | exact HB.out)) hb); clear HB; have HB := n0_; clear n0_; (try clear hb); (try clear hb2); (try clear hk); (try clear hi)) | (go_at_call 65; (with_reducible refine (ih k3 (by have := HK1.out; have := HK2.out; have := HK3.out; omega) a0 x13_3 _ _ l2 _ _ l3 t156 _ ?side1 ?side2 ?side3 ?side4 A51.out).mono ?_); (case side1 => repeat (first | exact (Kd.C_below HR2.out HB.out) | (with_reducible refine Kd.C_alloc ?_ _) | (with_reducible refine Kd.C_drewN ?_ _) | (with_reducible refine Kd.C_drew ?_))); (case side2 => exact HC2.out); (case side3 => repeat (first | exact (Kd.C_below HR3.out HB.out) | (with_reducible refine Kd.C_alloc ?_ _) | (with_reducible refine Kd.C_drewN ?_ _) | (with_reducible refine Kd.C_drew ?_))); (case side4 => exact HC3.out); rintro e w57 ⟨rfl, hb⟩; have n0_ := Aside0.mk (below_step (by repeat (first | (with_reducible first | exact HB.out | apply below_alloc | apply pw_below_drewN | apply below_drew1) | exact HB.out)) hb); clear HB; have HB := n0_; clear n0_; (try clear hb); (try clear hb2); (try clear hk); (try clear hi)) | (go_at_call 65; (with_reducible refine (ih k3 (by have := HK1.out; have := HK2.out; have := HK3.out; omega) a0 (wrap64 (a1 - x13_3)) _ _ l2 _ _ l3 t157 _ ?side1 ?side2 ?side3 ?side4 A53.out).mono ?_); (case side1 => repeat (first | exact (Kd.C_below HR2.out HB.out) | (with_reducible refine Kd.C_alloc ?_ _) | (with_reducible refine Kd.C_drewN ?_ _) | (with_reducible refine Kd.C_drew ?_))); (case side2 => exact HC2.out); (case side3 => repeat (first | exact (Kd.C_below HR3.out HB.out) | (with_reducible refine Kd.C_alloc ?_ _) | (with_reducible refine Kd.C_drewN ?_ _) | (with_reducible refine Kd.C_drew ?_))); (case side4 => exact HC3.out); rintro e w58 ⟨rfl, hb⟩; have n0_ := Aside0.mk (below_step (by repeat (first | (with_reducible first | exact HB.out | apply below_alloc | apply pw_below_drewN | apply below_drew1) | exact HB.out)) hb); clear HB; have HB := n0_; clear n0_; (try clear hb); (try clear hb2); (try clear hk); (try clear hi))))
                                              go_ret
                                              exact ⟨by first | rfl | (simp [errW_none, errW_some] <;> rfl) | (simp only [← hji5, ← hji41, ← hji44]; first | rfl | (simp [errW_none, errW_some] <;> rfl)) | (simp [*, errW_none, errW_some] <;> rfl), by repeat (first | (with_reducible first | exact HB.out | apply below_alloc | apply pw_below_drewN | apply below_drew1) | exact HB.out)⟩
                                            · rw [if_neg c55] at H
                                              exact absurd H (by simp)
                                          · rw [if_neg c54] at H
                                            exact absurd H (by simp)
                                        · rw [if_neg c52] at H
                                          exact absurd H (by simp)
                                      · rw [if_neg c50] at H
                                        exact absurd H (by simp)
                                    · rw [if_neg c49] at H
                                      exact absurd H (by simp)
                                  · rw [if_neg c47] at H
                                    have c47b0 : ((wrap64 ((rd l3 (ji41)) + (rd l3 (ji44)))) == (rd l3 (ji5))) = false := beq_eq_false_iff_ne.mpr c47
                                    have c47b1 : ((wrap64 ((rd l3 (ji41)) + (rd l3 (ji44)))) != (rd l3 (ji5))) = true := bne_iff_ne.mpr c47
                                    have H' := Aside0.mk H
                                    clear H
                                    have p153 : 0 ≤ ((ji41) : Int) := of_decide_eq_true (by first | (with_reducible assumption) | assumption)
                                    have q153 : (ji41) < (l3.length : Int) := of_decide_eq_true (by first | (with_reducible assumption) | assumption)
                                    obtain ⟨ad153, e153, hx153_0⟩ := Kd.at_int HR3.out (ji41) p153 q153
                                    obtain rfl : ad143 = ad153 := (by injection e153)
                                    (try replace hx153_0 := (HB.out.cell (World.block_lt_of_cell? w _ hx153_0)).trans hx153_0)
                                    replace p153 := eq_true p153
                                    replace q153 := eq_true q153
                                    have p154 : 0 ≤ ((ji44) : Int) := of_decide_eq_true (by first | (with_reducible assumption) | assumption)
                                    have q154 : (ji44) < (l3.length : Int) := of_decide_eq_true (by first | (with_reducible assumption) | assumption)
                                    obtain ⟨ad154, e154, hx154_0⟩ := Kd.at_int HR3.out (ji44) p154 q154
                                    obtain rfl : ad143 = ad154 := (by injection e154)
                                    (try replace hx154_0 := (HB.out.cell (World.block_lt_of_cell? w _ hx154_0)).trans hx154_0)
                                    replace p154 := eq_true p154
                                    replace q154 := eq_true q154
                                    go_wp2
                                    repeat (go_quiet (fail); try go_wp2)
                                    go_roundg k3
                                    case measure => have := HK1.out; have := HK2.out; have := HK3.out; omega
                                    case rel => exact ⟨(wrap64 (x13_3 + 1)), (by first | rfl | (simp; done) | (simp [*]; done)), H', ⟨by have := HK1.out; have := HK2.out; have := HK3.out; omega⟩, ⟨by repeat (first | (with_reducible first | exact HB.out | apply below_alloc | apply pw_below_drewN | apply below_drew1) | exact HB.out)⟩⟩
                                · rw [if_neg c46] at H
                                  exact absurd H (by simp)
                              · rw [if_neg c45] at H
                                exact absurd H (by simp)
                            · rw [if_neg c43] at H
                              exact absurd H (by simp)
                          · rw [if_neg c42] at H
                            exact absurd H (by simp)
                        · rw [if_neg c40] at H
                          have c40b0 : decide (x13_3 < a1) = false := decide_eq_false c40
                          clear c40
                          obtain rfl := Option.some.inj H
                          go_wp2
                          repeat (go_quiet (fail); try go_wp2)
                          go_ret
                          exact ⟨by first | rfl | (simp [errW_none, errW_some] <;> rfl) | (simp only [← hji5]; first | rfl | (simp [errW_none, errW_some] <;> rfl)) | (simp [*, errW_none, errW_some] <;> rfl), by repeat (first | (with_reducible first | exact HB.out | apply below_alloc | apply pw_below_drewN | apply below_drew1) | exact HB.out)⟩
    · rw [if_neg c7] at H
      exact absurd H (by simp)
  · rw [if_neg c6] at H
    exact absurd H (by simp)

end Go.Proofs.YtndlmckfacegeaaDoor.QFnExactPlanLine
