-- Printed for this claim by a changed copy of the kit's print (the session's own; own contracts in place of some functions).
import Derived.Test.YtpmpcaahbhdiiaaQFnLedgerx0
import Derived.Test.YtpmpcaahbhdiiaaQFnLedgerx4
import Derived.Test.YtpmpcaahbhdiiaaQFnLedgerx5
import Derived.Test.YtpmpcaahbhdiiaaQFnLedgerx6
namespace Go.Proofs.Ytpmpcaahbhdiiaa.QFnLedger
open Go.RowKit Go.Proofs.YtpmpcaahbhdiiaaW.PrintWords Go.Proofs.YtpmpcaahbhdiiaaW.PrintLast Go.Proofs.YtpmpcaahbhdiiaaW.PrintMore
attribute [local go_sem] max2_int min2_int max_two min_two max_three min_three max_four min_four   -- for this text's walks alone
set_option linter.unusedVariables false
set_option linter.unusedSimpArgs false

/-! ### laws_FnLedger: function 3 -/
mutual
def laws_FnLedger.j0 : Nat → List (List Int) → List (List Int) → List Int → Bool → Option (Bool)
  | 0, _, _, _, _ => none
  | k + 1, x3, x4, x6, x73 => if x73 = true then (some false) else (laws_FnLedger.l0 k x3 x4 x6 0 x4 (x4.length : Int) 0)
def laws_FnLedger.l0 : Nat → List (List Int) → List (List Int) → List Int → Int → List (List Int) → Int → Int → Option (Bool)
  | 0, _, _, _, _, _, _, _ => none
  | k + 1, x3, x4, x6, x7, x74, x75, x76 => if x76 < x75 then (if 0 ≤ x76 then (if x76 < (x74.length : Int) then (if ((rd_L2 x74 x76).length : Int) = 2 then (if 1 < ((rd_L2 x74 x76).length : Int) then (if (rd (rd_L2 x74 x76) 1) < 1 then (some false) else (if x76 > 0 then (if 0 < ((rd_L2 x74 x76).length : Int) then (if 0 ≤ (wrap64 (x76 - 1)) then (if (wrap64 (x76 - 1)) < (x4.length : Int) then (if 0 < ((rd_L2 x4 (wrap64 (x76 - 1))).length : Int) then (if (rd (rd_L2 x74 x76) 0) ≤ (rd (rd_L2 x4 (wrap64 (x76 - 1))) 0) then (some false) else ((impl_AreaOfSheet.f k x3 (rd (rd_L2 x74 x76) 0)).bind fun t306 => (if t306 = (rd (rd_L2 x74 x76) 1) then (laws_FnLedger.l0 k x3 x4 x6 (wrap64 (x7 + (rd (rd_L2 x74 x76) 1))) x74 x75 (wrap64 (x76 + 1))) else (some false)))) else (none)) else (none)) else (none)) else (none)) else (if 0 < ((rd_L2 x74 x76).length : Int) then ((impl_AreaOfSheet.f k x3 (rd (rd_L2 x74 x76) 0)).bind fun t310 => (if t310 = (rd (rd_L2 x74 x76) 1) then (laws_FnLedger.l0 k x3 x4 x6 (wrap64 (x7 + (rd (rd_L2 x74 x76) 1))) x74 x75 (wrap64 (x76 + 1))) else (some false))) else (none)))) else (none)) else (some false)) else (none)) else (none)) else ((impl_NextNumber.f k x3).bind fun t313 => (if 3 < (x6.length : Int) then (if x7 = (rd x6 3) then (if t313 < 1 then (laws_FnLedger.j2 k x3 x6 t313 true) else ((impl_AreaOfSheet.f k x3 t313).bind fun t315 => (if t315 = 0 then ((impl_LastEntryOf.f k x3 t313).bind fun t316 => (laws_FnLedger.j2 k x3 x6 t313 (t316 != (-1)))) else (laws_FnLedger.j2 k x3 x6 t313 true)))) else (laws_FnLedger.j2 k x3 x6 t313 true)) else (none)))
def laws_FnLedger.j2 : Nat → List (List Int) → List Int → Int → Bool → Option (Bool)
  | 0, _, _, _, _ => none
  | k + 1, x3, x6, x10, x146 => if x146 = true then (some false) else (laws_FnLedger.l1 k x3 x6 x10 (x3.length : Int) 0)
def laws_FnLedger.l1 : Nat → List (List Int) → List Int → Int → Int → Int → Option (Bool)
  | 0, _, _, _, _, _ => none
  | k + 1, x3, x6, x10, x148, x149 => if x149 < x148 then (if 0 ≤ x149 then (if x149 ≤ (x3.length : Int) then ((impl_LedgerOk.f k (x3.take (x149 : Int).toNat)).bind fun t321 => (if t321 = true then (laws_FnLedger.l1 k x3 x6 x10 x148 (wrap64 (x149 + 1))) else (some false))) else (none)) else (none)) else (laws_FnLedger.l2 k x3 x6 x10 x3 (x3.length : Int) 0)
def laws_FnLedger.l2 : Nat → List (List Int) → List Int → Int → List (List Int) → Int → Int → Option (Bool)
  | 0, _, _, _, _, _, _ => none
  | k + 1, x3, x6, x10, x158, x159, x160 => if x160 < x159 then (if 0 ≤ x160 then (if x160 < (x158.length : Int) then (if 1 < ((rd_L2 x158 x160).length : Int) then ((impl_LastEntryOf.f k x3 (rd (rd_L2 x158 x160) 1)).bind fun t324 => (if t324 < x160 then (some false) else (laws_FnLedger.l2 k x3 x6 x10 x158 x159 (wrap64 (x160 + 1))))) else (none)) else (none)) else (none)) else ((impl_AddEntry.f k x3 (([1, x10, 50] : List Int))).bind fun bt328 => ((impl_AddEntry.f k bt328.1 (([3, x10, 20] : List Int))).bind fun bt335 => ((impl_NextNumber.f k bt328.1).bind fun t339 => ((impl_AddEntry.f k bt335.1 (([4, t339, x10] : List Int))).bind fun bt343 => ((impl_AddEntry.f k bt343.1 (([5, x10, 50] : List Int))).bind fun bt350 => ((impl_AddEntry.f k x3 (([1, x10, 0] : List Int))).bind fun bt357 => ((impl_AddEntry.f k bt350.1 (([1, x10, 5] : List Int))).bind fun bt364 => ((impl_TotalsOf.f k bt350.1).bind fun t368 => (if bt328.2 = true then (if bt335.2 = true then (if bt343.2 = true then (if bt350.2 = true then (if bt357.2 = true then (some false) else (if bt364.2 = true then (some false) else (if (bt328.1.length : Int) = (wrap64 ((x3.length : Int) + 1)) then ((impl_AreaOfSheet.f k bt335.1 x10).bind fun t371 => (if t371 = 30 then ((impl_AreaOfSheet.f k bt335.1 t339).bind fun t372 => (if t372 = 20 then ((impl_AreaOfSheet.f k bt343.1 x10).bind fun t373 => (if t373 = 50 then ((impl_AreaOfSheet.f k bt343.1 t339).bind fun t374 => (if t374 = 0 then (if (t368.length : Int) = 4 then (if 3 < (t368.length : Int) then (if 3 < (x6.length : Int) then (if (rd t368 3) = (rd x6 3) then (if 2 < (t368.length : Int) then (if 2 < (x6.length : Int) then (some ((rd t368 2) == (wrap64 ((rd x6 2) + 50)))) else (none)) else (none)) else (some false)) else (none)) else (none)) else (some false)) else (some false))) else (some false))) else (some false))) else (some false))) else (some false)))) else (some false)) else (some false)) else (some false)) else (some false))))))))))
end
def laws_FnLedger.f (k : Nat) (l0 : List Int) : Option (Bool) := if (l0.length : Int) > 1048576 then (some true) else ((spec_MakeLedger.f k l0 0).bind fun t284 => ((impl_SheetsAfter.f k t284).bind fun bt287 => ((impl_TotalsOf.f k t284).bind fun t291 => (if bt287.2 = true then ((impl_LedgerOk.f k t284).bind fun t294 => (if t294 = true then ((impl_FirstWrong.f k t284).bind fun t295 => (if t295 = (-1) then (if (t291.length : Int) = 4 then (if 0 < (t291.length : Int) then (if 1 < (t291.length : Int) then (if 2 < (t291.length : Int) then (if 3 < (t291.length : Int) then (laws_FnLedger.j0 k t284 bt287.1 t291 ((rd t291 0) != (wrap64 ((wrap64 ((rd t291 1) + (rd t291 2))) + (rd t291 3))))) else (none)) else (none)) else (none)) else (none)) else (laws_FnLedger.j0 k t284 bt287.1 t291 true)) else (laws_FnLedger.j0 k t284 bt287.1 t291 true))) else (laws_FnLedger.j0 k t284 bt287.1 t291 true))) else (laws_FnLedger.j0 k t284 bt287.1 t291 true)))))
theorem laws_FnLedger.mono_l : ∀ k, (∀ y0 y1 y2 y3, LeO (laws_FnLedger.j0 k y0 y1 y2 y3) (laws_FnLedger.j0 (k + 1) y0 y1 y2 y3)) ∧ (∀ y0 y1 y2 y3 y4 y5 y6, LeO (laws_FnLedger.l0 k y0 y1 y2 y3 y4 y5 y6) (laws_FnLedger.l0 (k + 1) y0 y1 y2 y3 y4 y5 y6)) ∧ (∀ y0 y1 y2 y3, LeO (laws_FnLedger.j2 k y0 y1 y2 y3) (laws_FnLedger.j2 (k + 1) y0 y1 y2 y3)) ∧ (∀ y0 y1 y2 y3 y4, LeO (laws_FnLedger.l1 k y0 y1 y2 y3 y4) (laws_FnLedger.l1 (k + 1) y0 y1 y2 y3 y4)) ∧ (∀ y0 y1 y2 y3 y4 y5, LeO (laws_FnLedger.l2 k y0 y1 y2 y3 y4 y5) (laws_FnLedger.l2 (k + 1) y0 y1 y2 y3 y4 y5))
  | 0 => ⟨fun _ _ _ _ r h => by simp [laws_FnLedger.j0] at h, fun _ _ _ _ _ _ _ r h => by simp [laws_FnLedger.l0] at h, fun _ _ _ _ r h => by simp [laws_FnLedger.j2] at h, fun _ _ _ _ _ r h => by simp [laws_FnLedger.l1] at h, fun _ _ _ _ _ _ r h => by simp [laws_FnLedger.l2] at h⟩
  | k + 1 => by
    obtain ⟨ih0, ih1, ih2, ih3, ih4⟩ := laws_FnLedger.mono_l k
    refine ⟨?_, ?_, ?_, ?_, ?_⟩
    · intro y0 y1 y2 y3
      unfold laws_FnLedger.j0
      repeat' first
      | (with_reducible exact ih0 _ _ _ _)
      | (with_reducible exact ih1 _ _ _ _ _ _ _)
      | (with_reducible exact ih2 _ _ _ _)
      | (with_reducible exact ih3 _ _ _ _ _)
      | (with_reducible exact ih4 _ _ _ _ _ _)
      | (with_reducible exact impl_AddEntry.mono _ _ _)
      | (with_reducible exact impl_AreaOfSheet.mono _ _ _)
      | (with_reducible exact impl_FirstWrong.mono _ _)
      | (with_reducible exact impl_LastEntryOf.mono _ _ _)
      | (with_reducible exact impl_LedgerOk.mono _ _)
      | (with_reducible exact impl_NextNumber.mono _ _)
      | (with_reducible exact impl_SheetsAfter.mono _ _)
      | (with_reducible exact impl_TotalsOf.mono _ _)
      | (with_reducible exact spec_MakeLedger.mono _ _ _)
      | (with_reducible exact LeO.refl _)
      | (with_reducible exact LeO.none _)
      | (with_reducible refine LeO.ite ?_ ?_)
      | (with_reducible refine LeO.bind ?_ (fun _ => ?_))
      | exact ih0 _ _ _ _
      | exact ih1 _ _ _ _ _ _ _
      | exact ih2 _ _ _ _
      | exact ih3 _ _ _ _ _
      | exact ih4 _ _ _ _ _ _
      | exact impl_AddEntry.mono _ _ _
      | exact impl_AreaOfSheet.mono _ _ _
      | exact impl_FirstWrong.mono _ _
      | exact impl_LastEntryOf.mono _ _ _
      | exact impl_LedgerOk.mono _ _
      | exact impl_NextNumber.mono _ _
      | exact impl_SheetsAfter.mono _ _
      | exact impl_TotalsOf.mono _ _
      | exact spec_MakeLedger.mono _ _ _
      | exact LeO.none _
      | refine LeO.ite ?_ ?_
      | refine LeO.bind ?_ (fun _ => ?_)
    · intro y0 y1 y2 y3 y4 y5 y6
      unfold laws_FnLedger.l0
      repeat' first
      | (with_reducible exact ih0 _ _ _ _)
      | (with_reducible exact ih1 _ _ _ _ _ _ _)
      | (with_reducible exact ih2 _ _ _ _)
      | (with_reducible exact ih3 _ _ _ _ _)
      | (with_reducible exact ih4 _ _ _ _ _ _)
      | (with_reducible exact impl_AddEntry.mono _ _ _)
      | (with_reducible exact impl_AreaOfSheet.mono _ _ _)
      | (with_reducible exact impl_FirstWrong.mono _ _)
      | (with_reducible exact impl_LastEntryOf.mono _ _ _)
      | (with_reducible exact impl_LedgerOk.mono _ _)
      | (with_reducible exact impl_NextNumber.mono _ _)
      | (with_reducible exact impl_SheetsAfter.mono _ _)
      | (with_reducible exact impl_TotalsOf.mono _ _)
      | (with_reducible exact spec_MakeLedger.mono _ _ _)
      | (with_reducible exact LeO.refl _)
      | (with_reducible exact LeO.none _)
      | (with_reducible refine LeO.ite ?_ ?_)
      | (with_reducible refine LeO.bind ?_ (fun _ => ?_))
      | exact ih0 _ _ _ _
      | exact ih1 _ _ _ _ _ _ _
      | exact ih2 _ _ _ _
      | exact ih3 _ _ _ _ _
      | exact ih4 _ _ _ _ _ _
      | exact impl_AddEntry.mono _ _ _
      | exact impl_AreaOfSheet.mono _ _ _
      | exact impl_FirstWrong.mono _ _
      | exact impl_LastEntryOf.mono _ _ _
      | exact impl_LedgerOk.mono _ _
      | exact impl_NextNumber.mono _ _
      | exact impl_SheetsAfter.mono _ _
      | exact impl_TotalsOf.mono _ _
      | exact spec_MakeLedger.mono _ _ _
      | exact LeO.none _
      | refine LeO.ite ?_ ?_
      | refine LeO.bind ?_ (fun _ => ?_)
    · intro y0 y1 y2 y3
      unfold laws_FnLedger.j2
      repeat' first
      | (with_reducible exact ih0 _ _ _ _)
      | (with_reducible exact ih1 _ _ _ _ _ _ _)
      | (with_reducible exact ih2 _ _ _ _)
      | (with_reducible exact ih3 _ _ _ _ _)
      | (with_reducible exact ih4 _ _ _ _ _ _)
      | (with_reducible exact impl_AddEntry.mono _ _ _)
      | (with_reducible exact impl_AreaOfSheet.mono _ _ _)
      | (with_reducible exact impl_FirstWrong.mono _ _)
      | (with_reducible exact impl_LastEntryOf.mono _ _ _)
      | (with_reducible exact impl_LedgerOk.mono _ _)
      | (with_reducible exact impl_NextNumber.mono _ _)
      | (with_reducible exact impl_SheetsAfter.mono _ _)
      | (with_reducible exact impl_TotalsOf.mono _ _)
      | (with_reducible exact spec_MakeLedger.mono _ _ _)
      | (with_reducible exact LeO.refl _)
      | (with_reducible exact LeO.none _)
      | (with_reducible refine LeO.ite ?_ ?_)
      | (with_reducible refine LeO.bind ?_ (fun _ => ?_))
      | exact ih0 _ _ _ _
      | exact ih1 _ _ _ _ _ _ _
      | exact ih2 _ _ _ _
      | exact ih3 _ _ _ _ _
      | exact ih4 _ _ _ _ _ _
      | exact impl_AddEntry.mono _ _ _
      | exact impl_AreaOfSheet.mono _ _ _
      | exact impl_FirstWrong.mono _ _
      | exact impl_LastEntryOf.mono _ _ _
      | exact impl_LedgerOk.mono _ _
      | exact impl_NextNumber.mono _ _
      | exact impl_SheetsAfter.mono _ _
      | exact impl_TotalsOf.mono _ _
      | exact spec_MakeLedger.mono _ _ _
      | exact LeO.none _
      | refine LeO.ite ?_ ?_
      | refine LeO.bind ?_ (fun _ => ?_)
    · intro y0 y1 y2 y3 y4
      unfold laws_FnLedger.l1
      repeat' first
      | (with_reducible exact ih0 _ _ _ _)
      | (with_reducible exact ih1 _ _ _ _ _ _ _)
      | (with_reducible exact ih2 _ _ _ _)
      | (with_reducible exact ih3 _ _ _ _ _)
      | (with_reducible exact ih4 _ _ _ _ _ _)
      | (with_reducible exact impl_AddEntry.mono _ _ _)
      | (with_reducible exact impl_AreaOfSheet.mono _ _ _)
      | (with_reducible exact impl_FirstWrong.mono _ _)
      | (with_reducible exact impl_LastEntryOf.mono _ _ _)
      | (with_reducible exact impl_LedgerOk.mono _ _)
      | (with_reducible exact impl_NextNumber.mono _ _)
      | (with_reducible exact impl_SheetsAfter.mono _ _)
      | (with_reducible exact impl_TotalsOf.mono _ _)
      | (with_reducible exact spec_MakeLedger.mono _ _ _)
      | (with_reducible exact LeO.refl _)
      | (with_reducible exact LeO.none _)
      | (with_reducible refine LeO.ite ?_ ?_)
      | (with_reducible refine LeO.bind ?_ (fun _ => ?_))
      | exact ih0 _ _ _ _
      | exact ih1 _ _ _ _ _ _ _
      | exact ih2 _ _ _ _
      | exact ih3 _ _ _ _ _
      | exact ih4 _ _ _ _ _ _
      | exact impl_AddEntry.mono _ _ _
      | exact impl_AreaOfSheet.mono _ _ _
      | exact impl_FirstWrong.mono _ _
      | exact impl_LastEntryOf.mono _ _ _
      | exact impl_LedgerOk.mono _ _
      | exact impl_NextNumber.mono _ _
      | exact impl_SheetsAfter.mono _ _
      | exact impl_TotalsOf.mono _ _
      | exact spec_MakeLedger.mono _ _ _
      | exact LeO.none _
      | refine LeO.ite ?_ ?_
      | refine LeO.bind ?_ (fun _ => ?_)
    · intro y0 y1 y2 y3 y4 y5
      unfold laws_FnLedger.l2
      repeat' first
      | (with_reducible exact ih0 _ _ _ _)
      | (with_reducible exact ih1 _ _ _ _ _ _ _)
      | (with_reducible exact ih2 _ _ _ _)
      | (with_reducible exact ih3 _ _ _ _ _)
      | (with_reducible exact ih4 _ _ _ _ _ _)
      | (with_reducible exact impl_AddEntry.mono _ _ _)
      | (with_reducible exact impl_AreaOfSheet.mono _ _ _)
      | (with_reducible exact impl_FirstWrong.mono _ _)
      | (with_reducible exact impl_LastEntryOf.mono _ _ _)
      | (with_reducible exact impl_LedgerOk.mono _ _)
      | (with_reducible exact impl_NextNumber.mono _ _)
      | (with_reducible exact impl_SheetsAfter.mono _ _)
      | (with_reducible exact impl_TotalsOf.mono _ _)
      | (with_reducible exact spec_MakeLedger.mono _ _ _)
      | (with_reducible exact LeO.refl _)
      | (with_reducible exact LeO.none _)
      | (with_reducible refine LeO.ite ?_ ?_)
      | (with_reducible refine LeO.bind ?_ (fun _ => ?_))
      | exact ih0 _ _ _ _
      | exact ih1 _ _ _ _ _ _ _
      | exact ih2 _ _ _ _
      | exact ih3 _ _ _ _ _
      | exact ih4 _ _ _ _ _ _
      | exact impl_AddEntry.mono _ _ _
      | exact impl_AreaOfSheet.mono _ _ _
      | exact impl_FirstWrong.mono _ _
      | exact impl_LastEntryOf.mono _ _ _
      | exact impl_LedgerOk.mono _ _
      | exact impl_NextNumber.mono _ _
      | exact impl_SheetsAfter.mono _ _
      | exact impl_TotalsOf.mono _ _
      | exact spec_MakeLedger.mono _ _ _
      | exact LeO.none _
      | refine LeO.ite ?_ ?_
      | refine LeO.bind ?_ (fun _ => ?_)
theorem laws_FnLedger.mono : ∀ a0 k, LeO (laws_FnLedger.f k a0) (laws_FnLedger.f (k + 1) a0) := by
  intro a0 k
  obtain ⟨ih0, ih1, ih2, ih3, ih4⟩ := laws_FnLedger.mono_l k
  unfold laws_FnLedger.f
  repeat' first
      | (with_reducible exact ih0 _ _ _ _)
      | (with_reducible exact ih1 _ _ _ _ _ _ _)
      | (with_reducible exact ih2 _ _ _ _)
      | (with_reducible exact ih3 _ _ _ _ _)
      | (with_reducible exact ih4 _ _ _ _ _ _)
      | (with_reducible exact impl_AddEntry.mono _ _ _)
      | (with_reducible exact impl_AreaOfSheet.mono _ _ _)
      | (with_reducible exact impl_FirstWrong.mono _ _)
      | (with_reducible exact impl_LastEntryOf.mono _ _ _)
      | (with_reducible exact impl_LedgerOk.mono _ _)
      | (with_reducible exact impl_NextNumber.mono _ _)
      | (with_reducible exact impl_SheetsAfter.mono _ _)
      | (with_reducible exact impl_TotalsOf.mono _ _)
      | (with_reducible exact spec_MakeLedger.mono _ _ _)
      | (with_reducible exact LeO.refl _)
      | (with_reducible exact LeO.none _)
      | (with_reducible refine LeO.ite ?_ ?_)
      | (with_reducible refine LeO.bind ?_ (fun _ => ?_))
      | exact ih0 _ _ _ _
      | exact ih1 _ _ _ _ _ _ _
      | exact ih2 _ _ _ _
      | exact ih3 _ _ _ _ _
      | exact ih4 _ _ _ _ _ _
      | exact impl_AddEntry.mono _ _ _
      | exact impl_AreaOfSheet.mono _ _ _
      | exact impl_FirstWrong.mono _ _
      | exact impl_LastEntryOf.mono _ _ _
      | exact impl_LedgerOk.mono _ _
      | exact impl_NextNumber.mono _ _
      | exact impl_SheetsAfter.mono _ _
      | exact impl_TotalsOf.mono _ _
      | exact spec_MakeLedger.mono _ _ _
      | exact LeO.none _
      | refine LeO.ite ?_ ?_
      | refine LeO.bind ?_ (fun _ => ?_)
def laws_FnLedger.T6 : Bool × List (List Nat × List Nat) := (true, [([], []), ([0], [0]), ([1], [1]), ([2], [2]), ([3, 2, 2], [2, 3]), ([4, 2], [2, 4]), ([2, 5], [2, 5]), ([6, 4], [6]), ([7], [7]), ([8, 7, 7], [7, 8]), ([9, 7], [7, 9]), ([7, 10], [7, 10]), ([11, 9], [11]), ([12], [12]), ([13, 12], [12, 13]), ([14, 12], [12, 14]), ([12, 15], [12, 15]), ([16, 12], [16]), ([17], [17]), ([18, 17], [17, 18]), ([19, 17], [17, 19]), ([17], [17]), ([21, 17], [17, 21]), ([22, 17], [17, 22]), ([17], [17]), ([24, 17], [17, 24]), ([25, 17], [17, 25]), ([23, 26, 17], [17, 23, 26]), ([17], [17]), ([28, 17], [17, 28]), ([29, 17], [17, 29]), ([27, 30, 17], [17, 27, 30]), ([20, 31, 17], [17, 20, 31]), ([17, 32], [17, 32])])
def laws_FnLedger.B6 : List Nat := [0, 1, 3, 7, 15, 31, 63, 127, 255, 511, 1023, 2047, 4095, 8191, 16383, 32767, 65535, 131071, 262143, 524287, 1048575, 262143, 2359295, 6553599, 262143, 17039359, 50593791, 132382719, 262143, 268697599, 805568511, 2145648639, 4294967295, 8589934591]
theorem laws_FnLedger.tab6 : rtab .any (opsOf Try.f3 6) = laws_FnLedger.T6 := by kernel_rfl
theorem laws_FnLedger.bits6 : waitsOk laws_FnLedger.T6.2 laws_FnLedger.B6 = true := by kernel_rfl
def laws_FnLedger.T12 : Bool × List (List Nat × List Nat) := (true, [([], []), ([0], [0]), ([1], [1]), ([2], [2]), ([3], [3]), ([4, 3], [3, 4]), ([5, 3], [3, 5]), ([6, 3], [3, 6]), ([3, 7], [3, 7]), ([8, 3], [8]), ([9], [9]), ([10, 9], [9, 10]), ([11, 9, 9], [9, 11]), ([12], [12]), ([13, 12], [12, 13]), ([14, 12], [12, 14]), ([12], [12]), ([12], [12]), ([17, 12], [12, 17]), ([16, 18, 12], [12, 16, 18]), ([19, 12], [12, 19]), ([20, 12], [12, 20]), ([21, 12], [12, 21]), ([15, 22, 12], [12, 15, 22]), ([12, 23, 9], [9, 12, 23]), ([9, 24], [9, 24]), ([25, 12], [25]), ([26], [26]), ([26], [26]), ([28, 26], [26, 28]), ([29, 26], [26, 29]), ([27, 30, 26, 26], [26, 27, 30]), ([26], [26]), ([32, 26], [26, 32]), ([33, 26], [26, 33]), ([31, 34, 26], [26, 31, 34]), ([26, 35], [26, 35])])
def laws_FnLedger.B12 : List Nat := [0, 1, 3, 7, 15, 31, 63, 127, 255, 511, 1023, 2047, 4095, 8191, 16383, 32767, 8191, 8191, 139263, 466943, 991231, 2039807, 4136959, 8388607, 16777215, 33554431, 67108863, 134217727, 134217727, 402653183, 939524095, 2147483647, 134217727, 4429185023, 13019119615, 34359738367, 68719476735]
theorem laws_FnLedger.tab12 : rtab .any (opsOf Try.f3 12) = laws_FnLedger.T12 := by kernel_rfl
theorem laws_FnLedger.bits12 : waitsOk laws_FnLedger.T12.2 laws_FnLedger.B12 = true := by kernel_rfl
def laws_FnLedger.T39 : Bool × List (List Nat × List Nat) := (true, [([], []), ([0], [0]), ([1], [1]), ([1, 2], [1, 2]), ([3, 1], [3]), ([4], [4]), ([4, 5], [4, 5]), ([6, 4], [6]), ([7], [7]), ([7, 8], [7, 8]), ([9, 7], [9]), ([10], [10]), ([11, 10], [10, 11]), ([10, 12], [10, 12]), ([13, 10], [13]), ([14], [14]), ([15, 14], [14, 15]), ([14, 16], [14, 16]), ([17, 14], [17]), ([18], [18]), ([19, 18], [18, 19]), ([18], [18]), ([21, 18], [18, 21]), ([22, 18], [18, 22]), ([20, 23, 18], [18, 20, 23]), ([18, 24], [18, 24]), ([25, 18], [25]), ([26], [26]), ([26], [26]), ([27, 28, 26, 26], [26, 27, 28]), ([29, 26], [26, 29]), ([26, 30], [26, 30]), ([31, 29], [31]), ([32], [32]), ([32], [32]), ([33, 34, 32, 32], [32, 33, 34]), ([35, 32], [32, 35]), ([32, 36], [32, 36]), ([37, 35], [37]), ([38], [38]), ([38], [38]), ([39, 40, 38, 38], [38, 39, 40]), ([41, 38], [38, 41]), ([38, 42], [38, 42]), ([43, 41], [43]), ([44], [44]), ([44], [44]), ([45, 46, 44, 44], [44, 45, 46]), ([47, 44], [44, 47]), ([44, 48], [44, 48]), ([49, 47], [49]), ([50], [50]), ([51, 50], [50, 51]), ([52, 50], [50, 52]), ([50, 53], [50, 53]), ([54, 50], [54]), ([55], [55]), ([56, 55], [55, 56]), ([57, 55], [55, 57]), ([55], [55]), ([59, 55], [55, 59]), ([60, 55], [55, 60]), ([58, 61, 55], [55, 58, 61]), ([55, 62], [55, 62]), ([63, 55], [63]), ([64], [64]), ([65, 64], [64, 65]), ([66, 64], [64, 66]), ([64], [64]), ([68, 64], [64, 68]), ([69, 64], [64, 69]), ([70, 64], [64, 70]), ([67, 71, 64], [64, 67, 71]), ([64, 72], [64, 72]), ([73, 64, 0, 1, 2, 3, 4, 5, 6, 7, 8, 9, 10, 11, 12, 13, 14, 15, 16, 17, 18, 19, 20, 21, 22, 23, 24, 25, 26, 27, 28, 29, 30, 31, 32, 33, 34, 35, 36, 37, 38, 39, 40, 41, 42, 43, 44, 45, 46, 47, 48, 49, 50, 51, 52, 53, 54, 55, 56, 57, 58, 59, 60, 61, 62, 63, 64, 65, 66, 67, 68, 69, 70, 71, 72, 73], [73])])
def laws_FnLedger.B39 : List Nat := [0, 1, 3, 7, 15, 31, 63, 127, 255, 511, 1023, 2047, 4095, 8191, 16383, 32767, 65535, 131071, 262143, 524287, 1048575, 524287, 2621439, 6815743, 16777215, 33554431, 67108863, 134217727, 134217727, 536870911, 1073741823, 2147483647, 4294967295, 8589934591, 8589934591, 34359738367, 68719476735, 137438953471, 274877906943, 549755813887, 549755813887, 2199023255551, 4398046511103, 8796093022207, 17592186044415, 35184372088831, 35184372088831, 140737488355327, 281474976710655, 562949953421311, 1125899906842623, 2251799813685247, 4503599627370495, 9007199254740991, 18014398509481983, 36028797018963967, 72057594037927935, 144115188075855871, 288230376151711743, 72057594037927935, 648518346341351423, 1801439850948198399, 4611686018427387903, 9223372036854775807, 18446744073709551615, 36893488147419103231, 73786976294838206463, 147573952589676412927, 36893488147419103231, 332041393326771929087, 922337203685477580799, 2102928824402888884223, 4722366482869645213695, 9444732965739290427391, 18889465931478580854783]
theorem laws_FnLedger.tab39 : rtab .any (opsOf Try.f3 39) = laws_FnLedger.T39 := by kernel_rfl
theorem laws_FnLedger.bits39 : waitsOk laws_FnLedger.T39.2 laws_FnLedger.B39 = true := by kernel_rfl
theorem laws_FnLedger.b1 {w : World} {g : Nat} {o : Obj} (h : w.heap[g]? = some o) (n : Nat) : (w.drewN n).heap[g]? = some o := blk_drewN h n
theorem laws_FnLedger.b2 {w : World} {g : Nat} {o : Obj} (h : w.heap[g]? = some o) : w.drew.heap[g]? = some o := blk_drew h
theorem laws_FnLedger.b3 {w : World} {g : Nat} {o : Obj} (h : w.heap[g]? = some o) (o' : Obj) : (w.alloc o').heap[g]? = some o := blk_alloc h o'
theorem laws_FnLedger.c1 {w W : World} (h : Below w.heap.size w W) (o : Obj) : Below w.heap.size w (W.alloc o) := below_alloc h o
theorem laws_FnLedger.c2 {B : Nat} {w W : World} (h : Below B w W) (n : Nat) : Below B w (W.drewN n) := pw_below_drewN h n
theorem laws_FnLedger.c3 {base : Nat} {w W : World} (h : Below base w W) : Below base w W.drew := below_drew1 h
theorem laws_FnLedger.c4 {w W : World} {g j : Nat} {v : Value} (h : Below w.heap.size w W) (hg : w.heap.size ≤ g) : Below w.heap.size w (W.setCell ⟨g, j, none⟩ v) := below_set h hg
theorem laws_FnLedger.c5 {w W : World} (h : Below w.heap.size w W) : w.heap.size ≤ W.heap.size := below_size h
theorem laws_FnLedger.c6 {w W w2 : World} (h : Below w.heap.size w W) (k : Below W.heap.size W w2) : Below w.heap.size w w2 := below_step h k
theorem laws_FnLedger.d1 {w w1 : World} {g : Nat} {o : Obj} (h : w.heap[g]? = some o) (hb : Below w.heap.size w w1) : w1.heap[g]? = some o := blk_below h hb
theorem laws_FnLedger.d2 {w : World} {g : Nat} {o : Obj} (h : w.heap[g]? = some o) : g < w.heap.size := blk_lt h
theorem laws_FnLedger.m1 {p : Prop} (h : p) : Aside0 p := ⟨h⟩
structure laws_FnLedger.Kp (w W : World) : Prop where
  k : ∀ (g : Nat) (o : Obj), w.heap[g]? = some o → W.heap[g]? = some o
attribute [class] laws_FnLedger.Kp
instance laws_FnLedger.i0 (w : World) : laws_FnLedger.Kp w w := ⟨fun _ _ h => h⟩
instance laws_FnLedger.i1 (w W : World) (n : Nat) [i : laws_FnLedger.Kp w W] : laws_FnLedger.Kp w (W.drewN n) := ⟨fun g o h => blk_drewN (i.k g o h) n⟩
instance laws_FnLedger.i2 (w W : World) [i : laws_FnLedger.Kp w W] : laws_FnLedger.Kp w W.drew := ⟨fun g o h => blk_drew (i.k g o h)⟩
instance laws_FnLedger.i3 (w W : World) (o' : Obj) [i : laws_FnLedger.Kp w W] : laws_FnLedger.Kp w (W.alloc o') := ⟨fun g o h => blk_alloc (i.k g o h) o'⟩
theorem laws_FnLedger.b4 {w W : World} {g : Nat} {o : Obj} (h : w.heap[g]? = some o) [i : laws_FnLedger.Kp w W] : W.heap[g]? = some o := i.k g o h
abbrev laws_FnLedger.Y : Bool := true
abbrev laws_FnLedger.Z : Bool := false
theorem laws_FnLedger.q1 {α : Type} (l : List α) (i : Nat) (a : α) : l.toArray.setIfInBounds i a = (l.set i a).toArray := List.setIfInBounds_toArray ..
theorem laws_FnLedger.q2 {α : Type} (x a : α) (l : List α) : (x :: l).set 0 a = a :: l := List.set_cons_zero ..
theorem laws_FnLedger.q3 {α : Type} (x a : α) (l : List α) (n : Nat) : (x :: l).set (n + 1) a = x :: l.set n a := List.set_cons_succ ..
abbrev laws_FnLedger.sA := @Kd.S_alloc
abbrev laws_FnLedger.sB := @Kd.S_drewN
abbrev laws_FnLedger.sC := @Kd.S_drew
abbrev laws_FnLedger.rA := @Kd.R_alloc
abbrev laws_FnLedger.rB := @Kd.R_drewN
abbrev laws_FnLedger.rC := @Kd.R_drew
theorem laws_FnLedger.j0_true {k : Nat} {y0 : List (List Int)} {y1 : List (List Int)} {y2 : List Int} : ¬ laws_FnLedger.j0 k y0 y1 y2 true = some true := by
  cases k <;> simp [laws_FnLedger.j0]
theorem laws_FnLedger.j2_true {k : Nat} {y0 : List (List Int)} {y1 : List Int} {y2 : Int} : ¬ laws_FnLedger.j2 k y0 y1 y2 true = some true := by
  cases k <;> simp [laws_FnLedger.j2]
set_option maxHeartbeats 8000000 in
set_option maxRecDepth 100000 in
theorem laws_FnLedger.calls (k : Nat) (A0 : Option Addr) (c0 : Nat) (l0 : List Int) (r : Bool) (w : World) (hr0 : Kd.C (Kd.int .u8) w A0 l0.length l0) (hc0 : l0.length ≤ c0) (h : laws_FnLedger.f k l0 = some r) (hr : r = true) :
  Calls Try.prog 3 #[.slice A0 l0.length c0] w fun e w' => e = .returned (.bool r) ∧ Below w.heap.size w w' := by
 have HR0 := m1 hr0; have HC0 := m1 hc0; clear hr0 hc0; have HR_ := Aside0.mk hr; clear hr; have HB := m1 (Below.refl w.heap.size w); have H : (if (l0.length : Int) > 1048576 then (some true) else ((spec_MakeLedger.f k l0 0).bind fun t284 => ((impl_SheetsAfter.f k t284).bind fun bt287 => ((impl_TotalsOf.f k t284).bind fun t291 => (if bt287.2 = true then ((impl_LedgerOk.f k t284).bind fun t294 => (if t294 = true then ((impl_FirstWrong.f k t284).bind fun t295 => (if t295 = (-1) then (if (t291.length : Int) = 4 then (if 0 < (t291.length : Int) then (if 1 < (t291.length : Int) then (if 2 < (t291.length : Int) then (if 3 < (t291.length : Int) then (laws_FnLedger.j0 k t284 bt287.1 t291 ((rd t291 0) != (wrap64 ((wrap64 ((rd t291 1) + (rd t291 2))) + (rd t291 3))))) else (none)) else (none)) else (none)) else (none)) else (laws_FnLedger.j0 k t284 bt287.1 t291 true)) else (laws_FnLedger.j0 k t284 bt287.1 t291 true))) else (laws_FnLedger.j0 k t284 bt287.1 t291 true))) else (laws_FnLedger.j0 k t284 bt287.1 t291 true)))))) = some r := h
 clear h; by_cases c2 : (l0.length : Int) > 1048576
 ·rw [if_pos c2] at H
  have c2b0 : decide (1048576 < (l0.length : Int)) = true := decide_eq_true c2; have c2b1 : decide (1048576 < l0.length) = true := decide_eq_true (by omega)
  clear c2; obtain rfl := Option.some.inj H; go_enter Try.func3, Try.ntmps3
  go_wp2
  go_ret
  exact ⟨by first | rfl | (simp [errW_none, errW_some] <;> rfl) | (simp [*, errW_none, errW_some] <;> rfl), by repeat (first | (with_reducible first | exact HB.out | apply c1 | apply c2 | apply c3) | exact HB.out)⟩
 rw [if_neg c2] at H; have c2b0 : decide (1048576 < (l0.length : Int)) = false := decide_eq_false c2; have c2b1 : decide (1048576 < l0.length) = false := decide_eq_false (by omega)
 clear c2; replace H := Option.bind_eq_some_iff.mp H; obtain ⟨t284, A30, H⟩ := H; replace H : ((impl_SheetsAfter.f k t284).bind fun bt287 => ((impl_TotalsOf.f k t284).bind fun t291 => (if bt287.2 = true then ((impl_LedgerOk.f k t284).bind fun t294 => (if t294 = true then ((impl_FirstWrong.f k t284).bind fun t295 => (if t295 = (-1) then (if (t291.length : Int) = 4 then (if 0 < (t291.length : Int) then (if 1 < (t291.length : Int) then (if 2 < (t291.length : Int) then (if 3 < (t291.length : Int) then (laws_FnLedger.j0 k t284 bt287.1 t291 ((rd t291 0) != (wrap64 ((wrap64 ((rd t291 1) + (rd t291 2))) + (rd t291 3))))) else (none)) else (none)) else (none)) else (none)) else (laws_FnLedger.j0 k t284 bt287.1 t291 true)) else (laws_FnLedger.j0 k t284 bt287.1 t291 true))) else (laws_FnLedger.j0 k t284 bt287.1 t291 true))) else (laws_FnLedger.j0 k t284 bt287.1 t291 true)))) = some r := H
 have A3 := m1 A30; clear A30; replace H := Option.bind_eq_some_iff.mp H; obtain ⟨⟨t287, t288⟩, A40, H⟩ := H; replace H : ((impl_TotalsOf.f k t284).bind fun t291 => (if t288 = true then ((impl_LedgerOk.f k t284).bind fun t294 => (if t294 = true then ((impl_FirstWrong.f k t284).bind fun t295 => (if t295 = (-1) then (if (t291.length : Int) = 4 then (if 0 < (t291.length : Int) then (if 1 < (t291.length : Int) then (if 2 < (t291.length : Int) then (if 3 < (t291.length : Int) then (laws_FnLedger.j0 k t284 t287 t291 ((rd t291 0) != (wrap64 ((wrap64 ((rd t291 1) + (rd t291 2))) + (rd t291 3))))) else (none)) else (none)) else (none)) else (none)) else (laws_FnLedger.j0 k t284 t287 t291 true)) else (laws_FnLedger.j0 k t284 t287 t291 true))) else (laws_FnLedger.j0 k t284 t287 t291 true))) else (laws_FnLedger.j0 k t284 t287 t291 true))) = some r := H
 have A4 := m1 A40; clear A40; replace H := Option.bind_eq_some_iff.mp H; obtain ⟨t291, A50, H⟩ := H; replace H : (if t288 = true then ((impl_LedgerOk.f k t284).bind fun t294 => (if t294 = true then ((impl_FirstWrong.f k t284).bind fun t295 => (if t295 = (-1) then (if (t291.length : Int) = 4 then (if 0 < (t291.length : Int) then (if 1 < (t291.length : Int) then (if 2 < (t291.length : Int) then (if 3 < (t291.length : Int) then (laws_FnLedger.j0 k t284 t287 t291 ((rd t291 0) != (wrap64 ((wrap64 ((rd t291 1) + (rd t291 2))) + (rd t291 3))))) else (none)) else (none)) else (none)) else (none)) else (laws_FnLedger.j0 k t284 t287 t291 true)) else (laws_FnLedger.j0 k t284 t287 t291 true))) else (laws_FnLedger.j0 k t284 t287 t291 true))) else (laws_FnLedger.j0 k t284 t287 t291 true)) = some r := H
 have A5 := m1 A50; clear A50; have HC6 := m1 H; clear H; go_enter Try.func3, Try.ntmps3
 go_upto_region 6 with (first | ((with_reducible refine gate_callee (f := 4) rfl ?_); refine goesL_ (some 32) rfl rfl Try.func4 (by kernel_rfl) rfl #[.slice A0 l0.length c0, .int .i64 0] rfl (by (try simp only [List.map_toArray, List.map_cons, List.map_nil]); first | done | rfl | (simp only [List.length_drop, List.length_take]; rfl)) ?_; (with_reducible refine (spec_MakeLedger.calls k _ _ l0 0 t284 _ ?side1 ?side2 A3.out).mono ?_); (case side1 => repeat (first | exact HR0.out | (with_reducible refine Kd.C_alloc ?_ _) | (with_reducible refine Kd.C_drewN ?_ _) | (with_reducible refine Kd.C_drew ?_))); (case side2 => exact HC0.out); rintro e w7 ⟨v285, rfl, ho0, hb⟩; refine ⟨_, rfl, ?_⟩; have n0_ := m1 (Kd.S_lower ho0 (c5 (by repeat (first | (with_reducible first | exact HB.out | apply c1 | apply c2 | apply c3) | exact HB.out)))); have n1_ := m1 (c6 (by repeat (first | (with_reducible first | exact HB.out | apply c1 | apply c2 | apply c3) | exact HB.out)) hb); clear HB; have HO286 := n0_; have HB := n1_; clear n0_ n1_; (try clear hb); (try clear hb2); (try clear hk); (try clear hi); (try clear ho0); obtain ⟨Ao8, co8, eo8⟩ := Kd.S_slice HO286.out; subst eo8) | ((with_reducible refine gate_callee (f := 5) rfl ?_); refine goesL_ (some 35) rfl rfl Try.func5 (by kernel_rfl) rfl #[.slice Ao8 t284.length co8] rfl (by (try simp only [List.map_toArray, List.map_cons, List.map_nil]); first | done | rfl | (simp only [List.length_drop, List.length_take]; rfl)) ?_; (with_reducible refine (impl_SheetsAfter.calls k _ _ t284 t287 t288 _ ?side1 ?side2 A4.out).mono ?_); (case side1 => repeat (first | exact (Kd.S_reads' HO286.out).2.2 | (with_reducible refine Kd.C_alloc ?_ _) | (with_reducible refine Kd.C_drewN ?_ _) | (with_reducible refine Kd.C_drew ?_))); (case side2 => exact (Kd.S_reads' HO286.out).2.1); rintro e w9 ⟨v289, rfl, ho0, hb⟩; refine ⟨_, rfl, ?_⟩; have n0_ := m1 (Kd.S_elder' (by (with_reducible repeat (first | apply sA | apply sB | apply sC)); exact HO286.out) (Kd.S_base ho0) hb); have n1_ := m1 (Kd.S_lower (Kd.S_new' ho0 (Kd.S_lt (by (with_reducible repeat (first | apply sA | apply sB | apply sC)); exact HO286.out))) (c5 (by repeat (first | (with_reducible first | exact HB.out | apply c1 | apply c2 | apply c3) | exact HB.out)))); have n2_ := m1 (c6 (by repeat (first | (with_reducible first | exact HB.out | apply c1 | apply c2 | apply c3) | exact HB.out)) hb); clear HO286; clear HB; have HO286 := n0_; have HO290 := n1_; have HB := n2_; clear n0_ n1_ n2_; (try clear hb); (try clear hb2); (try clear hk); (try clear hi); (try clear ho0)) | ((with_reducible refine gate_callee (f := 6) rfl ?_); refine goesL_ (some 39) rfl rfl Try.func6 (by kernel_rfl) rfl #[.slice Ao8 t284.length co8] rfl (by (try simp only [List.map_toArray, List.map_cons, List.map_nil]); first | done | rfl | (simp only [List.length_drop, List.length_take]; rfl)) ?_; (with_reducible refine (impl_TotalsOf.calls k _ _ t284 t291 _ ?side1 ?side2 A5.out).mono ?_); (case side1 => repeat (first | exact (Kd.S_reads' HO286.out).2.2 | (with_reducible refine Kd.C_alloc ?_ _) | (with_reducible refine Kd.C_drewN ?_ _) | (with_reducible refine Kd.C_drew ?_))); (case side2 => exact (Kd.S_reads' HO286.out).2.1); rintro e w10 ⟨v292, rfl, ho0, hb⟩; refine ⟨_, rfl, ?_⟩; have n0_ := m1 (Kd.S_elder' (by (with_reducible repeat (first | apply sA | apply sB | apply sC)); exact HO286.out) (Kd.R_base ho0) hb); have n1_ := m1 (Kd.S_elder' (by (with_reducible repeat (first | apply sA | apply sB | apply sC)); exact HO290.out) (Kd.R_base ho0) hb); have n2_ := m1 (Kd.R_lower ho0 (c5 (by repeat (first | (with_reducible first | exact HB.out | apply c1 | apply c2 | apply c3) | exact HB.out)))); have n3_ := m1 (c6 (by repeat (first | (with_reducible first | exact HB.out | apply c1 | apply c2 | apply c3) | exact HB.out)) hb); clear HO286; clear HO290; clear HB; have HO286 := n0_; have HO290 := n1_; have HO293 := n2_; have HB := n3_; clear n0_ n1_ n2_ n3_; (try clear hb); (try clear hb2); (try clear hk); (try clear hi); (try clear ho0)))
 (try simp only [Act.put, q1, q2, q3])
 go_cut [73] (fun v73 wc => ∃ (kq : Nat) (x73_5 : Bool), v73 = .bool x73_5 ∧ Aside0 (laws_FnLedger.j0 kq t284 t287 t291 x73_5 = some r) ∧ Aside0 (kq ≤ k) ∧ Aside0 (Kd.S (Kd.slice 3 (Kd.int .i64)) 27 wc w.heap.size (fun k_ => some k_ ≠ (v289 : Value).ownBlock ∧ some k_ ≠ (v292 : Value).ownBlock) (.slice Ao8 t284.length co8) t284) ∧ Aside0 (Kd.S (Kd.slice 3 (Kd.int .i64)) 27 wc w.heap.size (fun k_ => some k_ ≠ ((.slice Ao8 t284.length co8) : Value).ownBlock ∧ some k_ ≠ (v292 : Value).ownBlock) v289 t287) ∧ Aside0 (Kd.R (Kd.int .i64) 3 wc w.heap.size (fun _ => True) v292 t291) ∧ Aside0 (Below w.heap.size w wc))
 case first =>
  have H := HC6.out; clear HC6; by_cases c11 : t288 = true
  rotate_left
  ·replace c11 := Bool.eq_false_iff.mpr c11
   subst c11; have H1 : (laws_FnLedger.j0 k t284 t287 t291 true) = some r := by rw [if_neg (show ¬ (false = true) by decide)] at H; exact H
   clear H; have H := H1; clear H1; exact absurd H (by rw [HR_.out]; exact laws_FnLedger.j0_true)
  subst c11; have H1 : ((impl_LedgerOk.f k t284).bind fun t294 => (if t294 = true then ((impl_FirstWrong.f k t284).bind fun t295 => (if t295 = (-1) then (if (t291.length : Int) = 4 then (if 0 < (t291.length : Int) then (if 1 < (t291.length : Int) then (if 2 < (t291.length : Int) then (if 3 < (t291.length : Int) then (laws_FnLedger.j0 k t284 t287 t291 ((rd t291 0) != (wrap64 ((wrap64 ((rd t291 1) + (rd t291 2))) + (rd t291 3))))) else (none)) else (none)) else (none)) else (none)) else (laws_FnLedger.j0 k t284 t287 t291 true)) else (laws_FnLedger.j0 k t284 t287 t291 true))) else (laws_FnLedger.j0 k t284 t287 t291 true))) = some r := by rw [if_pos rfl] at H; exact H
  clear H; have H := H1; clear H1; replace H := Option.bind_eq_some_iff.mp H; obtain ⟨t294, A120, H⟩ := H; replace H : (if t294 = true then ((impl_FirstWrong.f k t284).bind fun t295 => (if t295 = (-1) then (if (t291.length : Int) = 4 then (if 0 < (t291.length : Int) then (if 1 < (t291.length : Int) then (if 2 < (t291.length : Int) then (if 3 < (t291.length : Int) then (laws_FnLedger.j0 k t284 t287 t291 ((rd t291 0) != (wrap64 ((wrap64 ((rd t291 1) + (rd t291 2))) + (rd t291 3))))) else (none)) else (none)) else (none)) else (none)) else (laws_FnLedger.j0 k t284 t287 t291 true)) else (laws_FnLedger.j0 k t284 t287 t291 true))) else (laws_FnLedger.j0 k t284 t287 t291 true)) = some r := H
  have A12 := m1 A120; clear A120; by_cases c13 : t294 = true
  rotate_left
  ·replace c13 := Bool.eq_false_iff.mpr c13
   subst c13; have H1 : (laws_FnLedger.j0 k t284 t287 t291 true) = some r := by rw [if_neg (show ¬ (false = true) by decide)] at H; exact H
   clear H; have H := H1; clear H1; exact absurd H (by rw [HR_.out]; exact laws_FnLedger.j0_true)
  subst c13; have H1 : ((impl_FirstWrong.f k t284).bind fun t295 => (if t295 = (-1) then (if (t291.length : Int) = 4 then (if 0 < (t291.length : Int) then (if 1 < (t291.length : Int) then (if 2 < (t291.length : Int) then (if 3 < (t291.length : Int) then (laws_FnLedger.j0 k t284 t287 t291 ((rd t291 0) != (wrap64 ((wrap64 ((rd t291 1) + (rd t291 2))) + (rd t291 3))))) else (none)) else (none)) else (none)) else (none)) else (laws_FnLedger.j0 k t284 t287 t291 true)) else (laws_FnLedger.j0 k t284 t287 t291 true))) = some r := by rw [if_pos rfl] at H; exact H
  clear H; have H := H1; clear H1; replace H := Option.bind_eq_some_iff.mp H; obtain ⟨t295, A140, H⟩ := H; replace H : (if t295 = (-1) then (if (t291.length : Int) = 4 then (if 0 < (t291.length : Int) then (if 1 < (t291.length : Int) then (if 2 < (t291.length : Int) then (if 3 < (t291.length : Int) then (laws_FnLedger.j0 k t284 t287 t291 ((rd t291 0) != (wrap64 ((wrap64 ((rd t291 1) + (rd t291 2))) + (rd t291 3))))) else (none)) else (none)) else (none)) else (none)) else (laws_FnLedger.j0 k t284 t287 t291 true)) else (laws_FnLedger.j0 k t284 t287 t291 true)) = some r := H; have A14 := m1 A140; clear A140; by_cases c15 : t295 = (-1)
  rotate_left
  ·rw [if_neg c15] at H
   have c15b0 : (t295 == (-1)) = false := beq_eq_false_iff_ne.mpr c15; have c15b1 : (t295 != (-1)) = true := bne_iff_ne.mpr c15; (first | rw [c15b0] | (simp only [i64_w, i32_w]; rw [c15b0]) | skip)
   exact absurd H (by rw [HR_.out]; exact laws_FnLedger.j0_true)
  rw [if_pos c15] at H; have c15b0 : (t295 == (-1)) = true := beq_iff_eq.mpr c15; have c15b1 : (t295 != (-1)) = false := bne_eq_false_iff_eq.mpr c15; clear c15; (first | rw [c15b0] | (simp only [i64_w, i32_w]; rw [c15b0]) | skip)
  by_cases c16 : (t291.length : Int) = 4
  rotate_left
  ·rw [if_neg c16] at H
   have c16b0 : ((t291.length : Int) == 4) = false := beq_eq_false_iff_ne.mpr c16; have c16b1 : ((t291.length : Int) != 4) = true := bne_iff_ne.mpr c16; exact absurd H (by rw [HR_.out]; exact laws_FnLedger.j0_true)
  rw [if_pos c16] at H; have c16b0 : ((t291.length : Int) == 4) = true := beq_iff_eq.mpr c16; have c16b1 : ((t291.length : Int) != 4) = false := bne_eq_false_iff_eq.mpr c16; clear c16; by_cases c17 : 0 < (t291.length : Int)
  rotate_left
  ·rw [if_neg c17] at H
   exact absurd H (by simp)
  rw [if_pos c17] at H; have c17b0 : decide (0 < (t291.length : Int)) = true := decide_eq_true c17; have c17b1 : decide (0 < t291.length) = true := decide_eq_true (by omega)
  clear c17; by_cases c18 : 1 < (t291.length : Int)
  rotate_left
  ·rw [if_neg c18] at H
   exact absurd H (by simp)
  rw [if_pos c18] at H; have c18b0 : decide (1 < (t291.length : Int)) = true := decide_eq_true c18; have c18b1 : decide (1 < t291.length) = true := decide_eq_true (by omega)
  clear c18; by_cases c19 : 2 < (t291.length : Int)
  rotate_left
  ·rw [if_neg c19] at H
   exact absurd H (by simp)
  rw [if_pos c19] at H; have c19b0 : decide (2 < (t291.length : Int)) = true := decide_eq_true c19; have c19b1 : decide (2 < t291.length) = true := decide_eq_true (by omega)
  clear c19; by_cases c20 : 3 < (t291.length : Int)
  rotate_left
  ·rw [if_neg c20] at H
   exact absurd H (by simp)
  rw [if_pos c20] at H; have c20b0 : decide (3 < (t291.length : Int)) = true := decide_eq_true c20; have c20b1 : decide (3 < t291.length) = true := decide_eq_true (by omega)
  clear c20; have H' := m1 H; clear H; try go_wp2
  have n0_ := m1 (sC HO286.out); have n1_ := m1 (sC HO290.out); have n2_ := m1 (rC HO293.out); have n3_ := m1 (below_drew1 HB.out); clear HO286 HO290 HO293 HB; have HO286 := n0_; have HO290 := n1_; have HO293 := n2_; have HB := n3_; clear n0_ n1_ n2_ n3_; have p296 : 0 ≤ (0 : Int) := (by omega)
  have q296 : 0 < (t291.length : Int) := of_decide_eq_true (by first | (with_reducible assumption) | assumption)
  (try (obtain ⟨A_, c_, e_⟩ := Kd.R_slice HO293.out; subst e_)); obtain ⟨ad296, e296, hx296_0⟩ := Kd.at_int (Kd.R_reads' HO293.out).2.2 0 p296 q296
  cases e296
  have qi296 : (0 < t291.length) = True := eq_true (by omega)
  (try rw [show ((0 : Int)).toNat = 0 from rfl] at hx296_0)
  (try rw [Addr.add_zero'] at hx296_0)
  replace p296 := eq_true p296; replace q296 := eq_true q296; have p297 : 0 ≤ (1 : Int) := (by omega)
  have q297 : 1 < (t291.length : Int) := of_decide_eq_true (by first | (with_reducible assumption) | assumption)
  (try (obtain ⟨A_, c_, e_⟩ := Kd.R_slice HO293.out; subst e_)); obtain ⟨ad297, e297, hx297_0⟩ := Kd.at_int (Kd.R_reads' HO293.out).2.2 1 p297 q297; obtain rfl : ad296 = ad297 := (by injection e297)
  (try simp only [show (1 : Int).toNat = 1 from rfl, Nat.reduceMul, Nat.reduceEqDiff, Go.Addr.add, ↓reduceIte] at hx297_0)
  have qi297 : (1 < t291.length) = True := eq_true (by omega)
  (try rw [show ((1 : Int)).toNat = 1 from rfl] at hx297_0)
  replace p297 := eq_true p297; replace q297 := eq_true q297; have p298 : 0 ≤ (2 : Int) := (by omega)
  have q298 : 2 < (t291.length : Int) := of_decide_eq_true (by first | (with_reducible assumption) | assumption)
  (try (obtain ⟨A_, c_, e_⟩ := Kd.R_slice HO293.out; subst e_)); obtain ⟨ad298, e298, hx298_0⟩ := Kd.at_int (Kd.R_reads' HO293.out).2.2 2 p298 q298; obtain rfl : ad296 = ad298 := (by injection e298)
  (try simp only [show (2 : Int).toNat = 2 from rfl, Nat.reduceMul, Nat.reduceEqDiff, Go.Addr.add, ↓reduceIte] at hx298_0)
  have qi298 : (2 < t291.length) = True := eq_true (by omega)
  (try rw [show ((2 : Int)).toNat = 2 from rfl] at hx298_0)
  replace p298 := eq_true p298; replace q298 := eq_true q298; have p299 : 0 ≤ (3 : Int) := (by omega)
  have q299 : 3 < (t291.length : Int) := of_decide_eq_true (by first | (with_reducible assumption) | assumption)
  (try (obtain ⟨A_, c_, e_⟩ := Kd.R_slice HO293.out; subst e_)); obtain ⟨ad299, e299, hx299_0⟩ := Kd.at_int (Kd.R_reads' HO293.out).2.2 3 p299 q299; obtain rfl : ad296 = ad299 := (by injection e299)
  (try simp only [show (3 : Int).toNat = 3 from rfl, Nat.reduceMul, Nat.reduceEqDiff, Go.Addr.add, ↓reduceIte] at hx299_0)
  have qi299 : (3 < t291.length) = True := eq_true (by omega)
  (try rw [show ((3 : Int)).toNat = 3 from rfl] at hx299_0)
  replace p299 := eq_true p299; replace q299 := eq_true q299; refine start_ (n := 34) (S := fun w' => w'.cell? ad296 = some (.int .i64 (rd t291 0)) ∧ w'.cell? ⟨ad296.block, ad296.off + 1, none⟩ = some (.int .i64 (rd t291 1)) ∧ w'.cell? ⟨ad296.block, ad296.off + 2, none⟩ = some (.int .i64 (rd t291 2)) ∧ w'.cell? ⟨ad296.block, ad296.off + 3, none⟩ = some (.int .i64 (rd t291 3))) (ds := []) #[Z,Z,Z,Z,Z,Z,Z,Z,Z,Z,Z,Z,Z,Z,Z,Z,Z,Z,Z,Z,Z,Z,Z,Z,Z,Z,Z,Z,Z,Z,Z,Z,Z,Z] (by kernel_rfl) rfl rfl ⟨hx296_0, hx297_0, hx298_0, hx299_0⟩ (fun hHeld => ?_); refine with_tabW laws_FnLedger.tab6 laws_FnLedger.bits6 (fun HT_ HW_ => ?_)
  generalize w10.drew = w21 at HO286 HO290 HO293 HB hx296_0 hx297_0 hx298_0 hx299_0 hHeld ⊢
  refine pure_ (i := 0) (N := some 40) (v := ?_) (a' := ?_) #[Y,Z,Z,Z,Z,Z,Z,Z,Z,Z,Z,Z,Z,Z,Z,Z,Z,Z,Z,Z,Z,Z,Z,Z,Z,Z,Z,Z,Z,Z,Z,Z,Z,Z] rfl rfl (any_of HT_.out (by kernel_rfl)) (fun _ _ _ h => h) (Or.inl ⟨by rfl, ?_⟩) ?_ ?_
  rotate_left
  ·intro w'
   go_simp; with_reducible rfl
  rotate_left
  ·simp only [Act.put, q1, q2, q3, i64_w, i32_w]
   rfl
  refine pure_ (i := 1) (N := some 41) (v := ?_) (a' := ?_) #[Y,Y,Z,Z,Z,Z,Z,Z,Z,Z,Z,Z,Z,Z,Z,Z,Z,Z,Z,Z,Z,Z,Z,Z,Z,Z,Z,Z,Z,Z,Z,Z,Z,Z] rfl rfl (any_of HT_.out (by kernel_rfl)) (fun _ _ _ h => h) (Or.inl ⟨by rfl, ?_⟩) ?_ ?_
  rotate_left
  ·intro w'
   go_simp; with_reducible rfl
  rotate_left
  ·simp only [Act.put, q1, q2, q3, i64_w, i32_w]
   rfl
  refine pure_ (i := 2) (N := some 42) (v := ?_) (a' := ?_) #[Y,Y,Y,Z,Z,Z,Z,Z,Z,Z,Z,Z,Z,Z,Z,Z,Z,Z,Z,Z,Z,Z,Z,Z,Z,Z,Z,Z,Z,Z,Z,Z,Z,Z] rfl rfl (any_of HT_.out (by kernel_rfl)) (fun _ _ _ h => h) (Or.inl ⟨by rfl, ?_⟩) ?_ ?_
  rotate_left
  ·intro w'
   go_simp; with_reducible rfl
  rotate_left
  ·simp only [Act.put, q1, q2, q3, i64_w, i32_w]
   rfl
  refine pure_ (i := 3) (N := some 43) (v := ?_) (a' := ?_) #[Y,Y,Y,Y,Z,Z,Z,Z,Z,Z,Z,Z,Z,Z,Z,Z,Z,Z,Z,Z,Z,Z,Z,Z,Z,Z,Z,Z,Z,Z,Z,Z,Z,Z] rfl rfl (any_of HT_.out (by kernel_rfl)) (fun _ _ _ h => h) (Or.inl ⟨by rfl, ?_⟩) ?_ ?_
  rotate_left
  ·intro w'
   go_simp; with_reducible rfl
  rotate_left
  ·simp only [Act.put, q1, q2, q3, i64_w, i32_w]
   rfl
  refine one_ (i := 4) (N := some 44) #[Y,Y,Y,Y,Y,Z,Z,Z,Z,Z,Z,Z,Z,Z,Z,Z,Z,Z,Z,Z,Z,Z,Z,Z,Z,Z,Z,Z,Z,Z,Z,Z,Z,Z] rfl rfl (one_of HT_.out (by kernel_rfl)) (by decide) (fun K hK => ?_)
  refine goes_ Try.func7 (by kernel_rfl) rfl #[.slice Ao8 t284.length co8] (by rfl) rfl rfl (by (try simp only [List.map_toArray, List.map_cons, List.map_nil]); first | done | rfl | (simp only [List.length_drop, List.length_take]; rfl)) ?_
  with_reducible refine (impl_LedgerOk.calls k _ _ t284 true _ ?side1 ?side2 A12.out).mono ?_
  (case side1 => repeat (first | exact (Kd.S_reads' HO286.out).2.2 | (with_reducible refine Kd.C_alloc ?_ _) | (with_reducible refine Kd.C_drewN ?_ _) | (with_reducible refine Kd.C_drew ?_)))
  (case side2 => exact (Kd.S_reads' HO286.out).2.1)
  rintro e w22 ⟨rfl, hb⟩
  have HS0_ := (hb.cell (World.block_lt_of_cell? _ _ (hHeld.1))).trans (hHeld.1); have HS1_ := (hb.cell (World.block_lt_of_cell? _ _ (hHeld.2.1))).trans (hHeld.2.1); have HS2_ := (hb.cell (World.block_lt_of_cell? _ _ (hHeld.2.2.1))).trans (hHeld.2.2.1); have HS3_ := (hb.cell (World.block_lt_of_cell? _ _ (hHeld.2.2.2))).trans (hHeld.2.2.2); refine ⟨_, rfl, ?_⟩; have n0_ := m1 (Kd.S_below (by (with_reducible repeat (first | apply sA | apply sB | apply sC)); exact HO286.out) hb)
  have n1_ := m1 (Kd.S_below (by (with_reducible repeat (first | apply sA | apply sB | apply sC)); exact HO290.out) hb)
  have n2_ := m1 (Kd.R_below (by (with_reducible repeat (first | apply rA | apply rB | apply rC)); exact HO293.out) hb)
  have n3_ := m1 (c6 (by repeat (first | (with_reducible first | exact HB.out | apply c1 | apply c2 | apply c3) | exact HB.out)) hb)
  clear HO286 HO290 HO293 HB; have HO286 := n0_; have HO290 := n1_; have HO293 := n2_; have HB := n3_; clear n0_ n1_ n2_ n3_; (try clear hb)
  (try clear hb2)
  (try clear hk)
  (try clear hi)
  refine hK.out _ _ ⟨HS0_, HS1_, HS2_, HS3_⟩ (fun hHeld => ?_)
  clear hK K; refine norm_ (a' := ?_) ?_ ?_; rotate_left
  ·show Act.put _ (some 44) _ = _
   simp only [Act.put, q1, q2, q3, i64_w, i32_w]; rfl
  refine pure_ (i := 5) (N := some 45) (v := ?_) (a' := ?_) #[Y,Y,Y,Y,Y,Y,Z,Z,Z,Z,Z,Z,Z,Z,Z,Z,Z,Z,Z,Z,Z,Z,Z,Z,Z,Z,Z,Z,Z,Z,Z,Z,Z,Z] rfl rfl (any_of HT_.out (by kernel_rfl)) (fun _ _ _ h => h) (Or.inl ⟨by rfl, ?_⟩) ?_ ?_
  rotate_left
  ·intro w'
   go_simp; with_reducible rfl
  rotate_left
  ·simp only [Act.put, q1, q2, q3, i64_w, i32_w]
   rfl
  refine pure_ (i := 6) (N := some 46) (v := ?_) (a' := ?_) #[Y,Y,Y,Y,Y,Y,Y,Z,Z,Z,Z,Z,Z,Z,Z,Z,Z,Z,Z,Z,Z,Z,Z,Z,Z,Z,Z,Z,Z,Z,Z,Z,Z,Z] rfl rfl (any_of HT_.out (by kernel_rfl)) (fun _ _ _ h => h) (Or.inl ⟨by rfl, ?_⟩) ?_ ?_
  rotate_left
  ·intro w'
   go_simp; with_reducible rfl
  rotate_left
  ·simp only [Act.put, q1, q2, q3, i64_w, i32_w]
   rfl
  refine pure_ (i := 7) (N := some 47) (v := ?_) (a' := ?_) #[Y,Y,Y,Y,Y,Y,Y,Y,Z,Z,Z,Z,Z,Z,Z,Z,Z,Z,Z,Z,Z,Z,Z,Z,Z,Z,Z,Z,Z,Z,Z,Z,Z,Z] rfl rfl (any_of HT_.out (by kernel_rfl)) (fun _ _ _ h => h) (Or.inl ⟨by rfl, ?_⟩) ?_ ?_
  rotate_left
  ·intro w'
   go_simp; with_reducible rfl
  rotate_left
  ·simp only [Act.put, q1, q2, q3, i64_w, i32_w]
   rfl
  refine pure_ (i := 8) (N := some 48) (v := ?_) (a' := ?_) #[Y,Y,Y,Y,Y,Y,Y,Y,Y,Z,Z,Z,Z,Z,Z,Z,Z,Z,Z,Z,Z,Z,Z,Z,Z,Z,Z,Z,Z,Z,Z,Z,Z,Z] rfl rfl (any_of HT_.out (by kernel_rfl)) (fun _ _ _ h => h) (Or.inl ⟨by rfl, ?_⟩) ?_ ?_
  rotate_left
  ·intro w'
   go_simp; with_reducible rfl
  rotate_left
  ·simp only [Act.put, q1, q2, q3, i64_w, i32_w]
   rfl
  refine one_ (i := 9) (N := some 49) #[Y,Y,Y,Y,Y,Y,Y,Y,Y,Y,Z,Z,Z,Z,Z,Z,Z,Z,Z,Z,Z,Z,Z,Z,Z,Z,Z,Z,Z,Z,Z,Z,Z,Z] rfl rfl (one_of HT_.out (by kernel_rfl)) (by decide) (fun K hK => ?_)
  refine goes_ Try.func8 (by kernel_rfl) rfl #[.slice Ao8 t284.length co8] (by rfl) rfl rfl (by (try simp only [List.map_toArray, List.map_cons, List.map_nil]); first | done | rfl | (simp only [List.length_drop, List.length_take]; rfl)) ?_
  with_reducible refine (impl_FirstWrong.calls k _ _ t284 t295 _ ?side1 ?side2 A14.out).mono ?_
  (case side1 => repeat (first | exact (Kd.S_reads' HO286.out).2.2 | (with_reducible refine Kd.C_alloc ?_ _) | (with_reducible refine Kd.C_drewN ?_ _) | (with_reducible refine Kd.C_drew ?_)))
  (case side2 => exact (Kd.S_reads' HO286.out).2.1)
  rintro e w23 ⟨rfl, hb⟩
  have HS0_ := (hb.cell (World.block_lt_of_cell? _ _ (hHeld.1))).trans (hHeld.1); have HS1_ := (hb.cell (World.block_lt_of_cell? _ _ (hHeld.2.1))).trans (hHeld.2.1); have HS2_ := (hb.cell (World.block_lt_of_cell? _ _ (hHeld.2.2.1))).trans (hHeld.2.2.1); have HS3_ := (hb.cell (World.block_lt_of_cell? _ _ (hHeld.2.2.2))).trans (hHeld.2.2.2); refine ⟨_, rfl, ?_⟩; have n0_ := m1 (Kd.S_below (by (with_reducible repeat (first | apply sA | apply sB | apply sC)); exact HO286.out) hb)
  have n1_ := m1 (Kd.S_below (by (with_reducible repeat (first | apply sA | apply sB | apply sC)); exact HO290.out) hb)
  have n2_ := m1 (Kd.R_below (by (with_reducible repeat (first | apply rA | apply rB | apply rC)); exact HO293.out) hb)
  have n3_ := m1 (c6 (by repeat (first | (with_reducible first | exact HB.out | apply c1 | apply c2 | apply c3) | exact HB.out)) hb)
  clear HO286 HO290 HO293 HB; have HO286 := n0_; have HO290 := n1_; have HO293 := n2_; have HB := n3_; clear n0_ n1_ n2_ n3_; (try clear hb)
  (try clear hb2)
  (try clear hk)
  (try clear hi)
  obtain ⟨Ao24, co24, eo24⟩ := Kd.R_slice HO293.out; (first | subst eo24 | (injection eo24 with f1_ f2_ f3_; have f4_ := f1_.symm; have f5_ := f3_.symm; clear f1_ f2_ f3_; subst f4_; subst f5_))
  refine hK.out _ _ ⟨HS0_, HS1_, HS2_, HS3_⟩ (fun hHeld => ?_)
  clear hK K; refine norm_ (a' := ?_) ?_ ?_; rotate_left
  ·show Act.put _ (some 49) _ = _
   simp only [Act.put, q1, q2, q3, i64_w, i32_w]; rfl
  refine pure_ (i := 10) (N := some 50) (v := ?_) (a' := ?_) #[Y,Y,Y,Y,Y,Y,Y,Y,Y,Y,Y,Z,Z,Z,Z,Z,Z,Z,Z,Z,Z,Z,Z,Z,Z,Z,Z,Z,Z,Z,Z,Z,Z,Z] rfl rfl (any_of HT_.out (by kernel_rfl)) (fun _ _ _ h => h) (Or.inl ⟨by rfl, ?_⟩) ?_ ?_
  rotate_left
  ·intro w'
   go_simp; with_reducible rfl
  rotate_left
  ·simp only [Act.put, q1, q2, q3, i64_w, i32_w]
   rfl
  refine pure_ (i := 11) (N := some 51) (v := ?_) (a' := ?_) #[Y,Y,Y,Y,Y,Y,Y,Y,Y,Y,Y,Y,Z,Z,Z,Z,Z,Z,Z,Z,Z,Z,Z,Z,Z,Z,Z,Z,Z,Z,Z,Z,Z,Z] rfl rfl (any_of HT_.out (by kernel_rfl)) (fun _ _ _ h => h) (Or.inl ⟨by rfl, ?_⟩) ?_ ?_
  rotate_left
  ·intro w'
   go_simp; with_reducible rfl
  rotate_left
  ·simp only [Act.put, q1, q2, q3, i64_w, i32_w]
   rfl
  refine pure_ (i := 12) (N := some 52) (v := ?_) (a' := ?_) #[Y,Y,Y,Y,Y,Y,Y,Y,Y,Y,Y,Y,Y,Z,Z,Z,Z,Z,Z,Z,Z,Z,Z,Z,Z,Z,Z,Z,Z,Z,Z,Z,Z,Z] rfl rfl (any_of HT_.out (by kernel_rfl)) (fun _ _ _ h => h) (Or.inl ⟨by rfl, ?_⟩) ?_ ?_
  rotate_left
  ·intro w'
   go_simp; with_reducible rfl
  rotate_left
  ·simp only [Act.put, q1, q2, q3, i64_w, i32_w]
   rfl
  refine pure_ (i := 13) (N := some 53) (v := ?_) (a' := ?_) #[Y,Y,Y,Y,Y,Y,Y,Y,Y,Y,Y,Y,Y,Y,Z,Z,Z,Z,Z,Z,Z,Z,Z,Z,Z,Z,Z,Z,Z,Z,Z,Z,Z,Z] rfl rfl (any_of HT_.out (by kernel_rfl)) (fun _ _ _ h => h) (Or.inl ⟨by rfl, ?_⟩) ?_ ?_
  rotate_left
  ·intro w'
   go_simp; with_reducible rfl
  rotate_left
  ·simp only [Act.put, q1, q2, q3, i64_w, i32_w]
   rfl
  refine pure_ (i := 14) (N := some 54) (v := ?_) (a' := ?_) #[Y,Y,Y,Y,Y,Y,Y,Y,Y,Y,Y,Y,Y,Y,Y,Z,Z,Z,Z,Z,Z,Z,Z,Z,Z,Z,Z,Z,Z,Z,Z,Z,Z,Z] rfl rfl (any_of HT_.out (by kernel_rfl)) (fun _ _ _ h => h) (Or.inl ⟨by rfl, ?_⟩) ?_ ?_
  rotate_left
  ·intro w'
   go_simp; with_reducible rfl
  rotate_left
  ·simp only [Act.put, q1, q2, q3, i64_w, i32_w]
   rfl
  refine pure_ (i := 15) (N := some 55) (v := ?_) (a' := ?_) #[Y,Y,Y,Y,Y,Y,Y,Y,Y,Y,Y,Y,Y,Y,Y,Y,Z,Z,Z,Z,Z,Z,Z,Z,Z,Z,Z,Z,Z,Z,Z,Z,Z,Z] rfl rfl (any_of HT_.out (by kernel_rfl)) (fun _ _ _ h => h) (Or.inl ⟨by rfl, ?_⟩) ?_ ?_
  rotate_left
  ·intro w'
   go_simp; with_reducible rfl
  rotate_left
  ·simp only [Act.put, q1, q2, q3, i64_w, i32_w]
   rfl
  refine pure_ (i := 16) (N := some 56) (v := ?_) (a' := ?_) #[Y,Y,Y,Y,Y,Y,Y,Y,Y,Y,Y,Y,Y,Y,Y,Y,Y,Z,Z,Z,Z,Z,Z,Z,Z,Z,Z,Z,Z,Z,Z,Z,Z,Z] rfl rfl (any_of HT_.out (by kernel_rfl)) (fun _ _ _ h => h) (Or.inl ⟨by rfl, ?_⟩) ?_ ?_
  rotate_left
  ·intro w'
   go_simp; with_reducible rfl
  rotate_left
  ·simp only [Act.put, q1, q2, q3, i64_w, i32_w]
   rfl
  refine pure_ (i := 17) (N := some 57) (v := ?_) (a' := ?_) #[Y,Y,Y,Y,Y,Y,Y,Y,Y,Y,Y,Y,Y,Y,Y,Y,Y,Y,Z,Z,Z,Z,Z,Z,Z,Z,Z,Z,Z,Z,Z,Z,Z,Z] rfl rfl (any_of HT_.out (by kernel_rfl)) (fun _ _ _ h => h) (Or.inl ⟨by rfl, ?_⟩) ?_ ?_
  rotate_left
  ·intro w'
   go_simp; with_reducible rfl
  rotate_left
  ·simp only [Act.put, q1, q2, q3, i64_w, i32_w]
   rfl
  refine pure_ (i := 18) (N := some 58) (v := ?_) (a' := ?_) #[Y,Y,Y,Y,Y,Y,Y,Y,Y,Y,Y,Y,Y,Y,Y,Y,Y,Y,Y,Z,Z,Z,Z,Z,Z,Z,Z,Z,Z,Z,Z,Z,Z,Z] rfl rfl (any_of HT_.out (by kernel_rfl)) (fun _ _ _ h => h) (Or.inl ⟨by rfl, ?_⟩) ?_ ?_
  rotate_left
  ·intro w'
   go_simp; with_reducible rfl
  rotate_left
  ·simp only [Act.put, q1, q2, q3, i64_w, i32_w]
   rfl
  refine pure_ (i := 19) (N := some 59) (v := ?_) (a' := ?_) #[Y,Y,Y,Y,Y,Y,Y,Y,Y,Y,Y,Y,Y,Y,Y,Y,Y,Y,Y,Y,Z,Z,Z,Z,Z,Z,Z,Z,Z,Z,Z,Z,Z,Z] rfl rfl (any_of HT_.out (by kernel_rfl)) (fun _ _ _ h => h) (Or.inl ⟨by rfl, ?_⟩) ?_ ?_
  rotate_left
  ·intro w'
   go_simp; with_reducible rfl
  rotate_left
  ·simp only [Act.put, q1, q2, q3, i64_w, i32_w]
   rfl
  refine pure_ (i := 21) (N := some 61) (v := ?_) (a' := ?_) #[Y,Y,Y,Y,Y,Y,Y,Y,Y,Y,Y,Y,Y,Y,Y,Y,Y,Y,Y,Y,Z,Y,Z,Z,Z,Z,Z,Z,Z,Z,Z,Z,Z,Z] rfl rfl (any_of HT_.out (by kernel_rfl)) (fun _ _ _ h => h) (Or.inl ⟨by rfl, ?_⟩) ?_ ?_
  rotate_left
  ·intro w'
   go_simp; with_reducible rfl
  rotate_left
  ·simp only [Act.put, q1, q2, q3, i64_w, i32_w]
   rfl
  refine pure_ (i := 22) (N := some 62) (v := ?_) (a' := ?_) #[Y,Y,Y,Y,Y,Y,Y,Y,Y,Y,Y,Y,Y,Y,Y,Y,Y,Y,Y,Y,Z,Y,Y,Z,Z,Z,Z,Z,Z,Z,Z,Z,Z,Z] rfl rfl (any_of HT_.out (by kernel_rfl)) (fun _ _ _ h => h) (Or.inl ⟨by rfl, ?_⟩) ?_ ?_
  rotate_left
  ·intro w'
   go_simp; with_reducible rfl
  rotate_left
  ·simp only [Act.put, q1, q2, q3, i64_w, i32_w]
   rfl
  refine pure_ (i := 24) (N := some 64) (v := ?_) (a' := ?_) #[Y,Y,Y,Y,Y,Y,Y,Y,Y,Y,Y,Y,Y,Y,Y,Y,Y,Y,Y,Y,Z,Y,Y,Z,Y,Z,Z,Z,Z,Z,Z,Z,Z,Z] rfl rfl (any_of HT_.out (by kernel_rfl)) (fun _ _ _ h => h) (Or.inl ⟨by rfl, ?_⟩) ?_ ?_
  rotate_left
  ·intro w'
   go_simp; with_reducible rfl
  rotate_left
  ·simp only [Act.put, q1, q2, q3, i64_w, i32_w]
   rfl
  refine pure_ (i := 25) (N := some 65) (v := ?_) (a' := ?_) #[Y,Y,Y,Y,Y,Y,Y,Y,Y,Y,Y,Y,Y,Y,Y,Y,Y,Y,Y,Y,Z,Y,Y,Z,Y,Y,Z,Z,Z,Z,Z,Z,Z,Z] rfl rfl (any_of HT_.out (by kernel_rfl)) (fun _ _ _ h => h) (Or.inl ⟨by rfl, ?_⟩) ?_ ?_
  rotate_left
  ·intro w'
   go_simp; with_reducible rfl
  rotate_left
  ·simp only [Act.put, q1, q2, q3, i64_w, i32_w]
   rfl
  refine pure_ (i := 28) (N := some 68) (v := ?_) (a' := ?_) #[Y,Y,Y,Y,Y,Y,Y,Y,Y,Y,Y,Y,Y,Y,Y,Y,Y,Y,Y,Y,Z,Y,Y,Z,Y,Y,Z,Z,Y,Z,Z,Z,Z,Z] rfl rfl (any_of HT_.out (by kernel_rfl)) (fun _ _ _ h => h) (Or.inl ⟨by rfl, ?_⟩) ?_ ?_
  rotate_left
  ·intro w'
   go_simp; with_reducible rfl
  rotate_left
  ·simp only [Act.put, q1, q2, q3, i64_w, i32_w]
   rfl
  refine pure_ (i := 29) (N := some 69) (v := ?_) (a' := ?_) #[Y,Y,Y,Y,Y,Y,Y,Y,Y,Y,Y,Y,Y,Y,Y,Y,Y,Y,Y,Y,Z,Y,Y,Z,Y,Y,Z,Z,Y,Y,Z,Z,Z,Z] rfl rfl (any_of HT_.out (by kernel_rfl)) (fun _ _ _ h => h) (Or.inl ⟨by rfl, ?_⟩) ?_ ?_
  rotate_left
  ·intro w'
   go_simp; with_reducible rfl
  rotate_left
  ·simp only [Act.put, q1, q2, q3, i64_w, i32_w]
   rfl
  refine take_ (i := 20) (N := some 60) (v := ?_) (a' := ?_) #[Y,Y,Y,Y,Y,Y,Y,Y,Y,Y,Y,Y,Y,Y,Y,Y,Y,Y,Y,Y,Y,Y,Y,Z,Y,Y,Z,Z,Y,Y,Z,Z,Z,Z] rfl rfl (take_ofW HT_.out HW_.out (by kernel_rfl)) (fun _ _ _ h => h) (Or.inl ⟨by rfl, ?_⟩) hHeld ?_ ?_
  rotate_left
  ·rintro w' ⟨s0, s1, s2, s3⟩
   go_simp; with_reducible rfl
  rotate_left
  ·simp only [Act.put, q1, q2, q3, i64_w, i32_w]
   rfl
  refine take_ (i := 23) (N := some 63) (v := ?_) (a' := ?_) #[Y,Y,Y,Y,Y,Y,Y,Y,Y,Y,Y,Y,Y,Y,Y,Y,Y,Y,Y,Y,Y,Y,Y,Y,Y,Y,Z,Z,Y,Y,Z,Z,Z,Z] rfl rfl (take_ofW HT_.out HW_.out (by kernel_rfl)) (fun _ _ _ h => h) (Or.inl ⟨by rfl, ?_⟩) hHeld ?_ ?_
  rotate_left
  ·rintro w' ⟨s0, s1, s2, s3⟩
   go_simp; with_reducible rfl
  rotate_left
  ·simp only [Act.put, q1, q2, q3, i64_w, i32_w]
   rfl
  refine take_ (i := 26) (N := some 66) (v := ?_) (a' := ?_) #[Y,Y,Y,Y,Y,Y,Y,Y,Y,Y,Y,Y,Y,Y,Y,Y,Y,Y,Y,Y,Y,Y,Y,Y,Y,Y,Y,Z,Y,Y,Z,Z,Z,Z] rfl rfl (take_ofW HT_.out HW_.out (by kernel_rfl)) (fun _ _ _ h => h) (Or.inl ⟨by rfl, ?_⟩) hHeld ?_ ?_
  rotate_left
  ·rintro w' ⟨s0, s1, s2, s3⟩
   go_simp; with_reducible rfl
  rotate_left
  ·simp only [Act.put, q1, q2, q3, i64_w, i32_w]
   rfl
  refine pure_ (i := 27) (N := some 67) (v := ?_) (a' := ?_) #[Y,Y,Y,Y,Y,Y,Y,Y,Y,Y,Y,Y,Y,Y,Y,Y,Y,Y,Y,Y,Y,Y,Y,Y,Y,Y,Y,Y,Y,Y,Z,Z,Z,Z] rfl rfl (any_of HT_.out (by kernel_rfl)) (fun _ _ _ h => h) (Or.inl ⟨by rfl, ?_⟩) ?_ ?_
  rotate_left
  ·intro w'
   go_simp; with_reducible rfl
  rotate_left
  ·simp only [Act.put, q1, q2, q3, i64_w, i32_w]
   rfl
  refine take_ (i := 30) (N := some 70) (v := ?_) (a' := ?_) #[Y,Y,Y,Y,Y,Y,Y,Y,Y,Y,Y,Y,Y,Y,Y,Y,Y,Y,Y,Y,Y,Y,Y,Y,Y,Y,Y,Y,Y,Y,Y,Z,Z,Z] rfl rfl (take_ofW HT_.out HW_.out (by kernel_rfl)) (fun _ _ _ h => h) (Or.inl ⟨by rfl, ?_⟩) hHeld ?_ ?_
  rotate_left
  ·rintro w' ⟨s0, s1, s2, s3⟩
   go_simp; with_reducible rfl
  rotate_left
  ·simp only [Act.put, q1, q2, q3, i64_w, i32_w]
   rfl
  refine pure_ (i := 31) (N := some 71) (v := ?_) (a' := ?_) #[Y,Y,Y,Y,Y,Y,Y,Y,Y,Y,Y,Y,Y,Y,Y,Y,Y,Y,Y,Y,Y,Y,Y,Y,Y,Y,Y,Y,Y,Y,Y,Y,Z,Z] rfl rfl (any_of HT_.out (by kernel_rfl)) (fun _ _ _ h => h) (Or.inl ⟨by rfl, ?_⟩) ?_ ?_
  rotate_left
  ·intro w'
   go_simp; with_reducible rfl
  rotate_left
  ·simp only [Act.put, q1, q2, q3, i64_w, i32_w]
   rfl
  refine pure_ (i := 32) (N := some 72) (v := ?_) (a' := ?_) #[Y,Y,Y,Y,Y,Y,Y,Y,Y,Y,Y,Y,Y,Y,Y,Y,Y,Y,Y,Y,Y,Y,Y,Y,Y,Y,Y,Y,Y,Y,Y,Y,Y,Z] rfl rfl (any_of HT_.out (by kernel_rfl)) (fun _ _ _ h => h) (Or.inl ⟨by rfl, ?_⟩) ?_ ?_
  rotate_left
  ·intro w'
   go_simp; with_reducible rfl
  rotate_left
  ·simp only [Act.put, q1, q2, q3, i64_w, i32_w]
   rfl
  refine pure_ (i := 33) (N := some 73) (v := ?_) (a' := ?_) #[Y,Y,Y,Y,Y,Y,Y,Y,Y,Y,Y,Y,Y,Y,Y,Y,Y,Y,Y,Y,Y,Y,Y,Y,Y,Y,Y,Y,Y,Y,Y,Y,Y,Y] rfl rfl (any_of HT_.out (by kernel_rfl)) (fun _ _ _ h => h) (Or.inl ⟨by rfl, ?_⟩) ?_ ?_
  rotate_left
  ·intro w'
   go_simp; with_reducible rfl
  rotate_left
  ·simp only [Act.put, q1, q2, q3, i64_w, i32_w]
   rfl
  refine done_ (done_of HT_.out (by kernel_rfl)) ?_
  try go_wp2
  go_meet
  case rel => exact ⟨_, (((rd t291 0) != (wrap64 ((wrap64 ((rd t291 1) + (rd t291 2))) + (rd t291 3))))), (by first | rfl | (simp; done) | (simp [*]; done)), H', ⟨by first | omega | exact Nat.le_refl _⟩, ⟨by (with_reducible repeat (first | apply sA | apply sB | apply sC)); exact Kd.S_mono HO286.out (fun _ hk => ⟨hk.1.2, hk.2⟩)⟩, ⟨by (with_reducible repeat (first | apply sA | apply sB | apply sC)); exact Kd.S_mono HO290.out (fun _ hk => ⟨hk.1.2, hk.2⟩)⟩, ⟨by (with_reducible repeat (first | apply rA | apply rB | apply rC)); exact HO293.out⟩, ⟨by repeat (first | (with_reducible first | exact HB.out | apply c1 | apply c2 | apply c3) | exact HB.out)⟩⟩
 case rest => as_aux_lemma =>
  clear HC6; try clear c1
  try clear c2
  try clear c2b0
  try clear c2b1
  try clear p2
  try clear q2
  try clear hx2
  try clear qi2
  try clear c3
  try clear c4
  try clear c5
  try clear c6
  try clear p6
  try clear c7
  try clear c8
  try clear c11
  try clear c13
  try clear c15
  try clear c15b0
  try clear c15b1
  try clear c16
  try clear c16b0
  try clear c16b1
  try clear c17
  try clear c17b0
  try clear c17b1
  try clear c18
  try clear c18b0
  try clear c18b1
  try clear c19
  try clear c19b0
  try clear c19b1
  try clear c20
  try clear c20b0
  try clear c20b1
  try clear hx296_0
  try clear hx297_0
  try clear hx298_0
  try clear hx299_0
  try clear p296
  try clear p297
  try clear p298
  try clear p299
  try clear q296
  try clear q297
  try clear q298
  try clear q299
  obtain ⟨kq, x73_5, rfl, HA, HJ5, HO_3, HO_4, HO_6, HB⟩ := hcut
  cases kq with
  | zero => exact absurd HA.out (by simp [laws_FnLedger.j0])
  | succ kj5 =>
   have H := HA.out; clear HA; simp only [laws_FnLedger.j0] at H; by_cases c25 : x73_5 = true
   ·subst c25
    have H1 : (some false) = some r := by rw [if_pos rfl] at H; exact H
    clear H; have H := H1; clear H1; exact absurd (Option.some.inj H) (by rw [HR_.out]; decide)
   replace c25 := Bool.eq_false_iff.mpr c25; subst c25; have H1 : (laws_FnLedger.l0 kj5 t284 t287 t291 0 t287 (t287.length : Int) 0) = some r := by rw [if_neg (show ¬ (false = true) by decide)] at H; exact H
   clear H; have H := H1; clear H1; have H' := m1 H; clear H; obtain ⟨Ao26, co26, eo26⟩ := Kd.S_slice HO_4.out; subst eo26; go_wp2
   go_loopg [7, 76] kj5 (fun kq v7 v76 w' => ∃ (x7_2 : Int) (x76_2 : Int), v7 = .int .i64 x7_2 ∧ v76 = .int .i64 x76_2 ∧ Aside0 (laws_FnLedger.l0 kq t284 t287 t291 x7_2 t287 (t287.length : Int) x76_2 = some r) ∧ Aside0 (kq ≤ kj5) ∧ Aside0 (Kd.S (Kd.slice 3 (Kd.int .i64)) 27 w' w.heap.size (fun k_ => some k_ ≠ ((.slice Ao26 t287.length co26) : Value).ownBlock ∧ some k_ ≠ (v292 : Value).ownBlock ∧ some k_ ≠ ((.slice Ao26 t287.length co26) : Value).ownBlock) (.slice Ao8 t284.length co8) t284) ∧ Aside0 (Kd.S (Kd.slice 3 (Kd.int .i64)) 27 w' w.heap.size (fun k_ => some k_ ≠ ((.slice Ao8 t284.length co8) : Value).ownBlock ∧ some k_ ≠ (v292 : Value).ownBlock) (.slice Ao26 t287.length co26) t287) ∧ Aside0 (Kd.R (Kd.int .i64) 3 w' w.heap.size (fun _ => True) v292 t291) ∧ Aside0 (Kd.S (Kd.slice 3 (Kd.int .i64)) 27 w' w.heap.size (fun k_ => some k_ ≠ ((.slice Ao8 t284.length co8) : Value).ownBlock ∧ some k_ ≠ (v292 : Value).ownBlock) (.slice Ao26 t287.length co26) t287) ∧ Aside0 (Below w.heap.size w w'))
   case atStart => exact ⟨(0), (0), (by first | rfl | (simp; done) | (simp [*]; done)), (by first | rfl | (simp; done) | (simp [*]; done)), H', ⟨Nat.le_refl _⟩, ⟨by (with_reducible repeat (first | apply sA | apply sB | apply sC)); exact Kd.S_mono HO_3.out (fun _ hk => ⟨hk.1, ⟨hk.2, hk.1⟩⟩)⟩, ⟨by (with_reducible repeat (first | apply sA | apply sB | apply sC)); exact HO_4.out⟩, ⟨by (with_reducible repeat (first | apply rA | apply rB | apply rC)); exact HO_6.out⟩, ⟨by (with_reducible repeat (first | apply sA | apply sB | apply sC)); exact HO_4.out⟩, ⟨by repeat (first | (with_reducible first | exact HB.out | apply c1 | apply c2 | apply c3) | exact HB.out)⟩⟩
   case round => as_aux_lemma =>
    clear H'; try clear c1
    try clear c2
    try clear c2b0
    try clear c2b1
    try clear p2
    try clear q2
    try clear hx2
    try clear qi2
    try clear c3
    try clear c4
    try clear c5
    try clear c6
    try clear p6
    try clear c7
    try clear c8
    try clear c11
    try clear c13
    try clear c15
    try clear c15b0
    try clear c15b1
    try clear c16
    try clear c16b0
    try clear c16b1
    try clear c17
    try clear c17b0
    try clear c17b1
    try clear c18
    try clear c18b0
    try clear c18b1
    try clear c19
    try clear c19b0
    try clear c19b1
    try clear c20
    try clear c20b0
    try clear c20b1
    try clear c25
    try clear hx296_0
    try clear hx297_0
    try clear hx298_0
    try clear hx299_0
    try clear p2
    try clear p296
    try clear p297
    try clear p298
    try clear p299
    try clear p6
    try clear q2
    try clear q296
    try clear q297
    try clear q298
    try clear q299
    obtain ⟨x7_2, x76_2, rfl, rfl, HA, HK2, HO_3, HO_4, HO_6, HO_74, HB⟩ := hrel
    cases gk with
    | zero => exact absurd HA.out (by simp [laws_FnLedger.l0])
    | succ k2 =>
     have H := HA.out; clear HA; simp only [laws_FnLedger.l0] at H; by_cases c27 : x76_2 < (t287.length : Int)
     ·rw [if_pos c27] at H
      have c27b0 : decide (x76_2 < (t287.length : Int)) = true := decide_eq_true c27; clear c27; by_cases c28 : 0 ≤ x76_2
      rotate_left
      ·rw [if_neg c28] at H
       exact absurd H (by simp)
      rw [if_pos c28] at H; have c28b0 : decide (0 ≤ x76_2) = true := decide_eq_true c28; clear c28; by_cases c29 : x76_2 < (t287.length : Int)
      rotate_left
      ·rw [if_neg c29] at H
       exact absurd H (by simp)
      rw [if_pos c29] at H; have c29b0 : decide (x76_2 < (t287.length : Int)) = true := decide_eq_true c29; clear c29; by_cases c30 : ((rd_L2 t287 x76_2).length : Int) = 2
      rotate_left
      ·rw [if_neg c30] at H
       have c30b0 : (((rd_L2 t287 x76_2).length : Int) == 2) = false := beq_eq_false_iff_ne.mpr c30; have c30b1 : (((rd_L2 t287 x76_2).length : Int) != 2) = true := bne_iff_ne.mpr c30; exact absurd (Option.some.inj H) (by rw [HR_.out]; decide)
      rw [if_pos c30] at H; have c30b0 : (((rd_L2 t287 x76_2).length : Int) == 2) = true := beq_iff_eq.mpr c30; have c30b1 : (((rd_L2 t287 x76_2).length : Int) != 2) = false := bne_eq_false_iff_eq.mpr c30; clear c30; by_cases c31 : 1 < ((rd_L2 t287 x76_2).length : Int)
      rotate_left
      ·rw [if_neg c31] at H
       exact absurd H (by simp)
      rw [if_pos c31] at H; have c31b0 : decide (1 < ((rd_L2 t287 x76_2).length : Int)) = true := decide_eq_true c31; have c31b1 : decide (1 < (rd_L2 t287 x76_2).length) = true := decide_eq_true (by omega)
      clear c31; by_cases c32 : (rd (rd_L2 t287 x76_2) 1) < 1
      ·rw [if_pos c32] at H
       have c32b0 : decide ((rd (rd_L2 t287 x76_2) 1) < 1) = true := decide_eq_true c32; clear c32; exact absurd (Option.some.inj H) (by rw [HR_.out]; decide)
      rw [if_neg c32] at H; have c32b0 : decide ((rd (rd_L2 t287 x76_2) 1) < 1) = false := decide_eq_false c32; clear c32; by_cases c33 : x76_2 > 0
      rotate_left
      ·rw [if_neg c33] at H
       have c33b0 : decide (0 < x76_2) = false := decide_eq_false c33; clear c33; by_cases c44 : 0 < ((rd_L2 t287 x76_2).length : Int)
       rotate_left
       ·rw [if_neg c44] at H
        exact absurd H (by simp)
       rw [if_pos c44] at H; have c44b0 : decide (0 < ((rd_L2 t287 x76_2).length : Int)) = true := decide_eq_true c44; have c44b1 : decide (0 < (rd_L2 t287 x76_2).length) = true := decide_eq_true (by omega)
       clear c44; replace H := Option.bind_eq_some_iff.mp H; obtain ⟨t310, A450, H⟩ := H; replace H : (if t310 = (rd (rd_L2 t287 x76_2) 1) then (laws_FnLedger.l0 k2 t284 t287 t291 (wrap64 (x7_2 + (rd (rd_L2 t287 x76_2) 1))) t287 (t287.length : Int) (wrap64 (x76_2 + 1))) else (some false)) = some r := H; have A45 := m1 A450; clear A450; by_cases c46 : t310 = (rd (rd_L2 t287 x76_2) 1)
       rotate_left
       ·rw [if_neg c46] at H
        have c46b0 : (t310 == (rd (rd_L2 t287 x76_2) 1)) = false := beq_eq_false_iff_ne.mpr c46; have c46b1 : (t310 != (rd (rd_L2 t287 x76_2) 1)) = true := bne_iff_ne.mpr c46; exact absurd (Option.some.inj H) (by rw [HR_.out]; decide)
       rw [if_pos c46] at H; have c46b0 : (t310 == (rd (rd_L2 t287 x76_2) 1)) = true := beq_iff_eq.mpr c46; have c46b1 : (t310 != (rd (rd_L2 t287 x76_2) 1)) = false := bne_eq_false_iff_eq.mpr c46; clear c46; have H' := m1 H; clear H; have p300 : 0 ≤ (x76_2 : Int) := of_decide_eq_true (by first | (with_reducible assumption) | assumption)
       have q300 : x76_2 < (t287.length : Int) := of_decide_eq_true (by first | (with_reducible assumption) | assumption)
       obtain ⟨ad300, A300_0, c300_0, e300, hx300_0, hl300_0, hi300_0⟩ := at_L2 (Kd.S_reads' HO_74.out).2.2 x76_2 p300 q300
       cases e300
       obtain ⟨ce300, hce300, hMe300, hcc300⟩ := Kd.S_get HO_74.out [] x76_2 p300 (by first | exact q300 | exact of_decide_eq_true (by first | (with_reducible assumption) | assumption) | (have e_ := (Kd.S_reads' HO_74.out).1; omega))
       obtain ⟨ve300_0, rfl, ge300_0⟩ := hMe300; have hv300_0 := hcc300 0 _ rfl; rw [Nat.add_zero, show ((Kd.slice 3 (Kd.int .i64))).sz = 1 from rfl, Nat.mul_one] at hv300_0; replace hv300_0 := Option.some.inj (hv300_0.symm.trans hx300_0); rw [hv300_0] at ge300_0; have HL300_0 := m1 (show Kd.R (Kd.int .i64) 3 _ _ _ _ (rd_L2 t287 x76_2) from ge300_0); clear hv300_0 ge300_0 hcc300 hce300; have HR300_0 := m1 hi300_0; have HC300_0 := m1 hl300_0; clear hi300_0 hl300_0; replace p300 := eq_true p300; replace q300 := eq_true q300; try go_wp2
       have n0_ := m1 (sC HO_3.out); have n1_ := m1 (sC HO_4.out); have n2_ := m1 (rC HO_6.out); have n3_ := m1 (sC HO_74.out); have n4_ := m1 (rC HL300_0.out); have n5_ := m1 (Kd.C_drew HR300_0.out); have n6_ := m1 (below_drew1 HB.out); clear HO_3 HO_4 HO_6 HO_74 HL300_0 HR300_0 HB; have HO_3 := n0_; have HO_4 := n1_; have HO_6 := n2_; have HO_74 := n3_; have HL300_0 := n4_; have HR300_0 := n5_; have HB := n6_; clear n0_ n1_ n2_ n3_ n4_ n5_ n6_; have p301 : 0 ≤ (1 : Int) := (by omega)
       have q301 : 1 < ((rd_L2 t287 x76_2).length : Int) := of_decide_eq_true (by first | (with_reducible assumption) | assumption)
       obtain ⟨ad301, e301, hx301_0⟩ := Kd.at_int (by repeat (first | (with_reducible exact HR300_0.out) | (with_reducible refine Kd.C_alloc ?_ _) | (with_reducible refine Kd.C_drewN ?_ _) | (with_reducible refine Kd.C_drew ?_) | exact HR300_0.out)) 1 p301 q301
       cases e301
       (try simp only [show (1 : Int).toNat = 1 from rfl, Nat.reduceMul, Nat.reduceEqDiff, Go.Addr.add, ↓reduceIte] at hx301_0)
       have qi301 : (1 < (rd_L2 t287 x76_2).length) = True := eq_true (by omega)
       (try rw [show ((1 : Int)).toNat = 1 from rfl] at hx301_0)
       replace p301 := eq_true p301; replace q301 := eq_true q301; have p309 : 0 ≤ (0 : Int) := (by omega)
       have q309 : 0 < ((rd_L2 t287 x76_2).length : Int) := of_decide_eq_true (by first | (with_reducible assumption) | assumption)
       obtain ⟨ad309, e309, hx309_0⟩ := Kd.at_int (by repeat (first | (with_reducible exact HR300_0.out) | (with_reducible refine Kd.C_alloc ?_ _) | (with_reducible refine Kd.C_drewN ?_ _) | (with_reducible refine Kd.C_drew ?_) | exact HR300_0.out)) 0 p309 q309
       obtain rfl : ad301 = ad309 := (by injection e309)
       have qi309 : (0 < (rd_L2 t287 x76_2).length) = True := eq_true (by omega)
       (try rw [show ((0 : Int)).toNat = 0 from rfl] at hx309_0)
       (try rw [Addr.add_zero'] at hx309_0)
       replace p309 := eq_true p309; replace q309 := eq_true q309; have p311 : 0 ≤ (1 : Int) := (by omega)
       have q311 : 1 < ((rd_L2 t287 x76_2).length : Int) := of_decide_eq_true (by first | (with_reducible assumption) | assumption)
       obtain ⟨ad311, e311, hx311_0⟩ := Kd.at_int (by repeat (first | (with_reducible exact HR300_0.out) | (with_reducible refine Kd.C_alloc ?_ _) | (with_reducible refine Kd.C_drewN ?_ _) | (with_reducible refine Kd.C_drew ?_) | exact HR300_0.out)) 1 p311 q311
       obtain rfl : ad301 = ad311 := (by injection e311)
       (try simp only [show (1 : Int).toNat = 1 from rfl, Nat.reduceMul, Nat.reduceEqDiff, Go.Addr.add, ↓reduceIte] at hx311_0)
       have qi311 : (1 < (rd_L2 t287 x76_2).length) = True := eq_true (by omega)
       (try rw [show ((1 : Int)).toNat = 1 from rfl] at hx311_0)
       replace p311 := eq_true p311; replace q311 := eq_true q311; refine start_ (n := 37) (S := fun w' => w'.cell? ⟨ad301.block, ad301.off + 1, none⟩ = some (.int .i64 (rd (rd_L2 t287 x76_2) 1)) ∧ w'.cell? ad301 = some (.int .i64 (rd (rd_L2 t287 x76_2) 0)) ∧ w'.cell? ⟨ad301.block, ad301.off + 1, none⟩ = some (.int .i64 (rd (rd_L2 t287 x76_2) 1))) (ds := []) #[Z,Z,Z,Z,Z,Z,Z,Z,Z,Z,Z,Z,Z,Z,Z,Z,Z,Z,Z,Z,Z,Z,Z,Z,Z,Z,Z,Z,Z,Z,Z,Z,Z,Z,Z,Z,Z] (by kernel_rfl) rfl rfl ⟨hx301_0, hx309_0, hx311_0⟩ (fun hHeld => ?_); refine with_tabW laws_FnLedger.tab12 laws_FnLedger.bits12 (fun HT_ HW_ => ?_)
       generalize wr.drew = w47 at HO_3 HO_4 HO_6 HO_74 HL300_0 HR300_0 HB hx301_0 hx309_0 hx311_0 hHeld ⊢
       refine pure_ (i := 0) (N := some 81) (v := ?_) (a' := ?_) #[Y,Z,Z,Z,Z,Z,Z,Z,Z,Z,Z,Z,Z,Z,Z,Z,Z,Z,Z,Z,Z,Z,Z,Z,Z,Z,Z,Z,Z,Z,Z,Z,Z,Z,Z,Z,Z] rfl rfl (any_of HT_.out (by kernel_rfl)) (fun _ _ _ h => h) (Or.inl ⟨by rfl, ?_⟩) ?_ ?_
       rotate_left
       ·intro w'
        go_simp; with_reducible rfl
       rotate_left
       ·simp only [Act.put, q1, q2, q3, i64_w, i32_w]
        rfl
       refine pure_ (i := 1) (N := some 82) (v := ?_) (a' := ?_) #[Y,Y,Z,Z,Z,Z,Z,Z,Z,Z,Z,Z,Z,Z,Z,Z,Z,Z,Z,Z,Z,Z,Z,Z,Z,Z,Z,Z,Z,Z,Z,Z,Z,Z,Z,Z,Z] rfl rfl (any_of HT_.out (by kernel_rfl)) (fun _ _ _ h => h) (Or.inl ⟨by rfl, ?_⟩) ?_ ?_
       rotate_left
       ·intro w'
        go_simp; with_reducible rfl
       rotate_left
       ·simp only [Act.put, q1, q2, q3, i64_w, i32_w]
        rfl
       refine pure_ (i := 2) (N := some 83) (v := ?_) (a' := ?_) #[Y,Y,Y,Z,Z,Z,Z,Z,Z,Z,Z,Z,Z,Z,Z,Z,Z,Z,Z,Z,Z,Z,Z,Z,Z,Z,Z,Z,Z,Z,Z,Z,Z,Z,Z,Z,Z] rfl rfl (any_of HT_.out (by kernel_rfl)) (fun _ _ _ h => h) (Or.inl ⟨by rfl, ?_⟩) ?_ ?_
       rotate_left
       ·intro w'
        go_simp; with_reducible rfl
       rotate_left
       ·simp only [Act.put, q1, q2, q3, i64_w, i32_w]
        rfl
       refine pure_ (i := 3) (N := some 84) (v := ?_) (a' := ?_) #[Y,Y,Y,Y,Z,Z,Z,Z,Z,Z,Z,Z,Z,Z,Z,Z,Z,Z,Z,Z,Z,Z,Z,Z,Z,Z,Z,Z,Z,Z,Z,Z,Z,Z,Z,Z,Z] rfl rfl (any_of HT_.out (by kernel_rfl)) (fun _ _ _ h => h) (Or.inl ⟨by rfl, ?_⟩) ?_ ?_
       rotate_left
       ·intro w'
        go_simp; with_reducible rfl
       rotate_left
       ·simp only [Act.put, q1, q2, q3, i64_w, i32_w]
        rfl
       refine pure_ (i := 4) (N := some 85) (v := ?_) (a' := ?_) #[Y,Y,Y,Y,Y,Z,Z,Z,Z,Z,Z,Z,Z,Z,Z,Z,Z,Z,Z,Z,Z,Z,Z,Z,Z,Z,Z,Z,Z,Z,Z,Z,Z,Z,Z,Z,Z] rfl rfl (any_of HT_.out (by kernel_rfl)) (fun _ _ _ h => h) (Or.inl ⟨by rfl, ?_⟩) ?_ ?_
       rotate_left
       ·intro w'
        go_simp; with_reducible rfl
       rotate_left
       ·simp only [Act.put, q1, q2, q3, i64_w, i32_w]
        rfl
       refine pure_ (i := 5) (N := some 86) (v := ?_) (a' := ?_) #[Y,Y,Y,Y,Y,Y,Z,Z,Z,Z,Z,Z,Z,Z,Z,Z,Z,Z,Z,Z,Z,Z,Z,Z,Z,Z,Z,Z,Z,Z,Z,Z,Z,Z,Z,Z,Z] rfl rfl (any_of HT_.out (by kernel_rfl)) (fun _ _ _ h => h) (Or.inl ⟨by rfl, ?_⟩) ?_ ?_
       rotate_left
       ·intro w'
        go_simp; with_reducible rfl
       rotate_left
       ·simp only [Act.put, q1, q2, q3, i64_w, i32_w]
        rfl
       refine take_ (i := 6) (N := some 87) (v := ?_) (a' := ?_) #[Y,Y,Y,Y,Y,Y,Y,Z,Z,Z,Z,Z,Z,Z,Z,Z,Z,Z,Z,Z,Z,Z,Z,Z,Z,Z,Z,Z,Z,Z,Z,Z,Z,Z,Z,Z,Z] rfl rfl (take_ofW HT_.out HW_.out (by kernel_rfl)) (fun _ _ _ h => h) (Or.inl ⟨by rfl, ?_⟩) hHeld ?_ ?_
       rotate_left
       ·rintro w' ⟨s0, s1, s2⟩
        go_simp; with_reducible rfl
       rotate_left
       ·simp only [Act.put, q1, q2, q3, i64_w, i32_w]
        rfl
       refine pure_ (i := 7) (N := some 88) (v := ?_) (a' := ?_) #[Y,Y,Y,Y,Y,Y,Y,Y,Z,Z,Z,Z,Z,Z,Z,Z,Z,Z,Z,Z,Z,Z,Z,Z,Z,Z,Z,Z,Z,Z,Z,Z,Z,Z,Z,Z,Z] rfl rfl (any_of HT_.out (by kernel_rfl)) (fun _ _ _ h => h) (Or.inl ⟨by rfl, ?_⟩) ?_ ?_
       rotate_left
       ·intro w'
        go_simp; with_reducible rfl
       rotate_left
       ·simp only [Act.put, q1, q2, q3, i64_w, i32_w]
        rfl
       refine pure_ (i := 8) (N := some 89) (v := ?_) (a' := ?_) #[Y,Y,Y,Y,Y,Y,Y,Y,Y,Z,Z,Z,Z,Z,Z,Z,Z,Z,Z,Z,Z,Z,Z,Z,Z,Z,Z,Z,Z,Z,Z,Z,Z,Z,Z,Z,Z] rfl rfl (any_of HT_.out (by kernel_rfl)) (fun _ _ _ h => h) (Or.inl ⟨by rfl, ?_⟩) ?_ ?_
       rotate_left
       ·intro w'
        go_simp; with_reducible rfl
       rotate_left
       ·simp only [Act.put, q1, q2, q3, i64_w, i32_w]
        rfl
       refine pure_ (i := 9) (N := some 90) (v := ?_) (a' := ?_) #[Y,Y,Y,Y,Y,Y,Y,Y,Y,Y,Z,Z,Z,Z,Z,Z,Z,Z,Z,Z,Z,Z,Z,Z,Z,Z,Z,Z,Z,Z,Z,Z,Z,Z,Z,Z,Z] rfl rfl (any_of HT_.out (by kernel_rfl)) (fun _ _ _ h => h) (Or.inl ⟨by rfl, ?_⟩) ?_ ?_
       rotate_left
       ·intro w'
        go_simp; with_reducible rfl
       rotate_left
       ·simp only [Act.put, q1, q2, q3, i64_w, i32_w]
        rfl
       refine pure_ (i := 10) (N := some 91) (v := ?_) (a' := ?_) #[Y,Y,Y,Y,Y,Y,Y,Y,Y,Y,Y,Z,Z,Z,Z,Z,Z,Z,Z,Z,Z,Z,Z,Z,Z,Z,Z,Z,Z,Z,Z,Z,Z,Z,Z,Z,Z] rfl rfl (any_of HT_.out (by kernel_rfl)) (fun _ _ _ h => h) (Or.inl ⟨by rfl, ?_⟩) ?_ ?_
       rotate_left
       ·intro w'
        go_simp; with_reducible rfl
       rotate_left
       ·simp only [Act.put, q1, q2, q3, i64_w, i32_w]
        rfl
       refine pure_ (i := 11) (N := some 92) (v := ?_) (a' := ?_) #[Y,Y,Y,Y,Y,Y,Y,Y,Y,Y,Y,Y,Z,Z,Z,Z,Z,Z,Z,Z,Z,Z,Z,Z,Z,Z,Z,Z,Z,Z,Z,Z,Z,Z,Z,Z,Z] rfl rfl (any_of HT_.out (by kernel_rfl)) (fun _ _ _ h => h) (Or.inl ⟨by rfl, ?_⟩) ?_ ?_
       rotate_left
       ·intro w'
        go_simp; with_reducible rfl
       rotate_left
       ·simp only [Act.put, q1, q2, q3, i64_w, i32_w]
        rfl
       refine pure_ (i := 12) (N := some 93) (v := ?_) (a' := ?_) #[Y,Y,Y,Y,Y,Y,Y,Y,Y,Y,Y,Y,Y,Z,Z,Z,Z,Z,Z,Z,Z,Z,Z,Z,Z,Z,Z,Z,Z,Z,Z,Z,Z,Z,Z,Z,Z] rfl rfl (any_of HT_.out (by kernel_rfl)) (fun _ _ _ h => h) (Or.inl ⟨by rfl, ?_⟩) ?_ ?_
       rotate_left
       ·intro w'
        go_simp; with_reducible rfl
       rotate_left
       ·simp only [Act.put, q1, q2, q3, i64_w, i32_w]
        rfl
       refine pure_ (i := 13) (N := some 94) (v := undef) (a' := ?_) #[Y,Y,Y,Y,Y,Y,Y,Y,Y,Y,Y,Y,Y,Y,Z,Z,Z,Z,Z,Z,Z,Z,Z,Z,Z,Z,Z,Z,Z,Z,Z,Z,Z,Z,Z,Z,Z] rfl rfl (any_of HT_.out (by kernel_rfl)) (fun _ _ _ h => h) (Or.inr ⟨by rfl, rfl⟩) ?_ ?_
       rotate_left
       ·simp only [Act.put, q1, q2, q3, i64_w, i32_w]
        rfl
       refine pure_ (i := 14) (N := some 95) (v := undef) (a' := ?_) #[Y,Y,Y,Y,Y,Y,Y,Y,Y,Y,Y,Y,Y,Y,Y,Z,Z,Z,Z,Z,Z,Z,Z,Z,Z,Z,Z,Z,Z,Z,Z,Z,Z,Z,Z,Z,Z] rfl rfl (any_of HT_.out (by kernel_rfl)) (fun _ _ _ h => h) (Or.inr ⟨by rfl, rfl⟩) ?_ ?_
       rotate_left
       ·simp only [Act.put, q1, q2, q3, i64_w, i32_w]
        rfl
       refine pure_ (i := 15) (N := some 96) (v := undef) (a' := ?_) #[Y,Y,Y,Y,Y,Y,Y,Y,Y,Y,Y,Y,Y,Y,Y,Y,Z,Z,Z,Z,Z,Z,Z,Z,Z,Z,Z,Z,Z,Z,Z,Z,Z,Z,Z,Z,Z] rfl rfl (any_of HT_.out (by kernel_rfl)) (fun _ _ _ h => h) (Or.inr ⟨by rfl, rfl⟩) ?_ ?_
       rotate_left
       ·simp only [Act.put, q1, q2, q3, i64_w, i32_w]
        rfl
       refine pure_ (i := 16) (N := some 97) (v := undef) (a' := ?_) #[Y,Y,Y,Y,Y,Y,Y,Y,Y,Y,Y,Y,Y,Y,Y,Y,Y,Z,Z,Z,Z,Z,Z,Z,Z,Z,Z,Z,Z,Z,Z,Z,Z,Z,Z,Z,Z] rfl rfl (any_of HT_.out (by kernel_rfl)) (fun _ _ _ h => h) (Or.inr ⟨by rfl, rfl⟩) ?_ ?_
       rotate_left
       ·simp only [Act.put, q1, q2, q3, i64_w, i32_w]
        rfl
       refine pure_ (i := 17) (N := some 98) (v := undef) (a' := ?_) #[Y,Y,Y,Y,Y,Y,Y,Y,Y,Y,Y,Y,Y,Y,Y,Y,Y,Y,Z,Z,Z,Z,Z,Z,Z,Z,Z,Z,Z,Z,Z,Z,Z,Z,Z,Z,Z] rfl rfl (any_of HT_.out (by kernel_rfl)) (fun _ _ _ h => h) (Or.inr ⟨by rfl, rfl⟩) ?_ ?_
       rotate_left
       ·simp only [Act.put, q1, q2, q3, i64_w, i32_w]
        rfl
       refine pure_ (i := 18) (N := some 99) (v := undef) (a' := ?_) #[Y,Y,Y,Y,Y,Y,Y,Y,Y,Y,Y,Y,Y,Y,Y,Y,Y,Y,Y,Z,Z,Z,Z,Z,Z,Z,Z,Z,Z,Z,Z,Z,Z,Z,Z,Z,Z] rfl rfl (any_of HT_.out (by kernel_rfl)) (fun _ _ _ h => h) (Or.inr ⟨by rfl, rfl⟩) ?_ ?_
       rotate_left
       ·simp only [Act.put, q1, q2, q3, i64_w, i32_w]
        rfl
       refine pure_ (i := 19) (N := some 100) (v := undef) (a' := ?_) #[Y,Y,Y,Y,Y,Y,Y,Y,Y,Y,Y,Y,Y,Y,Y,Y,Y,Y,Y,Y,Z,Z,Z,Z,Z,Z,Z,Z,Z,Z,Z,Z,Z,Z,Z,Z,Z] rfl rfl (any_of HT_.out (by kernel_rfl)) (fun _ _ _ h => h) (Or.inr ⟨by rfl, rfl⟩) ?_ ?_
       rotate_left
       ·simp only [Act.put, q1, q2, q3, i64_w, i32_w]
        rfl
       refine pure_ (i := 20) (N := some 101) (v := undef) (a' := ?_) #[Y,Y,Y,Y,Y,Y,Y,Y,Y,Y,Y,Y,Y,Y,Y,Y,Y,Y,Y,Y,Y,Z,Z,Z,Z,Z,Z,Z,Z,Z,Z,Z,Z,Z,Z,Z,Z] rfl rfl (any_of HT_.out (by kernel_rfl)) (fun _ _ _ h => h) (Or.inr ⟨by rfl, rfl⟩) ?_ ?_
       rotate_left
       ·simp only [Act.put, q1, q2, q3, i64_w, i32_w]
        rfl
       refine pure_ (i := 21) (N := some 102) (v := undef) (a' := ?_) #[Y,Y,Y,Y,Y,Y,Y,Y,Y,Y,Y,Y,Y,Y,Y,Y,Y,Y,Y,Y,Y,Y,Z,Z,Z,Z,Z,Z,Z,Z,Z,Z,Z,Z,Z,Z,Z] rfl rfl (any_of HT_.out (by kernel_rfl)) (fun _ _ _ h => h) (Or.inr ⟨by rfl, rfl⟩) ?_ ?_
       rotate_left
       ·simp only [Act.put, q1, q2, q3, i64_w, i32_w]
        rfl
       refine pure_ (i := 22) (N := some 103) (v := undef) (a' := ?_) #[Y,Y,Y,Y,Y,Y,Y,Y,Y,Y,Y,Y,Y,Y,Y,Y,Y,Y,Y,Y,Y,Y,Y,Z,Z,Z,Z,Z,Z,Z,Z,Z,Z,Z,Z,Z,Z] rfl rfl (any_of HT_.out (by kernel_rfl)) (fun _ _ _ h => h) (Or.inr ⟨by rfl, rfl⟩) ?_ ?_
       rotate_left
       ·simp only [Act.put, q1, q2, q3, i64_w, i32_w]
        rfl
       refine pure_ (i := 23) (N := some 104) (v := undef) (a' := ?_) #[Y,Y,Y,Y,Y,Y,Y,Y,Y,Y,Y,Y,Y,Y,Y,Y,Y,Y,Y,Y,Y,Y,Y,Y,Z,Z,Z,Z,Z,Z,Z,Z,Z,Z,Z,Z,Z] rfl rfl (any_of HT_.out (by kernel_rfl)) (fun _ _ _ h => h) (Or.inr ⟨by rfl, rfl⟩) ?_ ?_
       rotate_left
       ·simp only [Act.put, q1, q2, q3, i64_w, i32_w]
        rfl
       refine pure_ (i := 24) (N := some 105) (v := ?_) (a' := ?_) #[Y,Y,Y,Y,Y,Y,Y,Y,Y,Y,Y,Y,Y,Y,Y,Y,Y,Y,Y,Y,Y,Y,Y,Y,Y,Z,Z,Z,Z,Z,Z,Z,Z,Z,Z,Z,Z] rfl rfl (any_of HT_.out (by kernel_rfl)) (fun _ _ _ h => h) (Or.inl ⟨by rfl, ?_⟩) ?_ ?_
       rotate_left
       ·intro w'
        go_simp; with_reducible rfl
       rotate_left
       ·simp only [Act.put, q1, q2, q3, i64_w, i32_w]
        rfl
       refine pure_ (i := 25) (N := some 106) (v := ?_) (a' := ?_) #[Y,Y,Y,Y,Y,Y,Y,Y,Y,Y,Y,Y,Y,Y,Y,Y,Y,Y,Y,Y,Y,Y,Y,Y,Y,Y,Z,Z,Z,Z,Z,Z,Z,Z,Z,Z,Z] rfl rfl (any_of HT_.out (by kernel_rfl)) (fun _ _ _ h => h) (Or.inl ⟨by rfl, ?_⟩) ?_ ?_
       rotate_left
       ·intro w'
        go_simp; with_reducible rfl
       rotate_left
       ·simp only [Act.put, q1, q2, q3, i64_w, i32_w]
        rfl
       refine pure_ (i := 26) (N := some 107) (v := ?_) (a' := ?_) #[Y,Y,Y,Y,Y,Y,Y,Y,Y,Y,Y,Y,Y,Y,Y,Y,Y,Y,Y,Y,Y,Y,Y,Y,Y,Y,Y,Z,Z,Z,Z,Z,Z,Z,Z,Z,Z] rfl rfl (any_of HT_.out (by kernel_rfl)) (fun _ _ _ h => h) (Or.inl ⟨by rfl, ?_⟩) ?_ ?_
       rotate_left
       ·intro w'
        go_simp; with_reducible rfl
       rotate_left
       ·simp only [Act.put, q1, q2, q3, i64_w, i32_w]
        rfl
       refine pure_ (i := 27) (N := some 108) (v := ?_) (a' := ?_) #[Y,Y,Y,Y,Y,Y,Y,Y,Y,Y,Y,Y,Y,Y,Y,Y,Y,Y,Y,Y,Y,Y,Y,Y,Y,Y,Y,Y,Z,Z,Z,Z,Z,Z,Z,Z,Z] rfl rfl (any_of HT_.out (by kernel_rfl)) (fun _ _ _ h => h) (Or.inl ⟨by rfl, ?_⟩) ?_ ?_
       rotate_left
       ·intro w'
        go_simp; with_reducible rfl
       rotate_left
       ·simp only [Act.put, q1, q2, q3, i64_w, i32_w]
        rfl
       refine pure_ (i := 28) (N := some 109) (v := ?_) (a' := ?_) #[Y,Y,Y,Y,Y,Y,Y,Y,Y,Y,Y,Y,Y,Y,Y,Y,Y,Y,Y,Y,Y,Y,Y,Y,Y,Y,Y,Y,Y,Z,Z,Z,Z,Z,Z,Z,Z] rfl rfl (any_of HT_.out (by kernel_rfl)) (fun _ _ _ h => h) (Or.inl ⟨by rfl, ?_⟩) ?_ ?_
       rotate_left
       ·intro w'
        go_simp; with_reducible rfl
       rotate_left
       ·simp only [Act.put, q1, q2, q3, i64_w, i32_w]
        rfl
       refine pure_ (i := 29) (N := some 110) (v := ?_) (a' := ?_) #[Y,Y,Y,Y,Y,Y,Y,Y,Y,Y,Y,Y,Y,Y,Y,Y,Y,Y,Y,Y,Y,Y,Y,Y,Y,Y,Y,Y,Y,Y,Z,Z,Z,Z,Z,Z,Z] rfl rfl (any_of HT_.out (by kernel_rfl)) (fun _ _ _ h => h) (Or.inl ⟨by rfl, ?_⟩) ?_ ?_
       rotate_left
       ·intro w'
        go_simp; with_reducible rfl
       rotate_left
       ·simp only [Act.put, q1, q2, q3, i64_w, i32_w]
        rfl
       refine pure_ (i := 32) (N := some 113) (v := ?_) (a' := ?_) #[Y,Y,Y,Y,Y,Y,Y,Y,Y,Y,Y,Y,Y,Y,Y,Y,Y,Y,Y,Y,Y,Y,Y,Y,Y,Y,Y,Y,Y,Y,Z,Z,Y,Z,Z,Z,Z] rfl rfl (any_of HT_.out (by kernel_rfl)) (fun _ _ _ h => h) (Or.inl ⟨by rfl, ?_⟩) ?_ ?_
       rotate_left
       ·intro w'
        go_simp; with_reducible rfl
       rotate_left
       ·simp only [Act.put, q1, q2, q3, i64_w, i32_w]
        rfl
       refine pure_ (i := 33) (N := some 114) (v := ?_) (a' := ?_) #[Y,Y,Y,Y,Y,Y,Y,Y,Y,Y,Y,Y,Y,Y,Y,Y,Y,Y,Y,Y,Y,Y,Y,Y,Y,Y,Y,Y,Y,Y,Z,Z,Y,Y,Z,Z,Z] rfl rfl (any_of HT_.out (by kernel_rfl)) (fun _ _ _ h => h) (Or.inl ⟨by rfl, ?_⟩) ?_ ?_
       rotate_left
       ·intro w'
        go_simp; with_reducible rfl
       rotate_left
       ·simp only [Act.put, q1, q2, q3, i64_w, i32_w]
        rfl
       refine take_ (i := 30) (N := some 111) (v := ?_) (a' := ?_) #[Y,Y,Y,Y,Y,Y,Y,Y,Y,Y,Y,Y,Y,Y,Y,Y,Y,Y,Y,Y,Y,Y,Y,Y,Y,Y,Y,Y,Y,Y,Y,Z,Y,Y,Z,Z,Z] rfl rfl (take_ofW HT_.out HW_.out (by kernel_rfl)) (fun _ _ _ h => h) (Or.inl ⟨by rfl, ?_⟩) hHeld ?_ ?_
       rotate_left
       ·rintro w' ⟨s0, s1, s2⟩
        go_simp; with_reducible rfl
       rotate_left
       ·simp only [Act.put, q1, q2, q3, i64_w, i32_w]
        rfl
       refine take_ (i := 34) (N := some 115) (v := ?_) (a' := ?_) #[Y,Y,Y,Y,Y,Y,Y,Y,Y,Y,Y,Y,Y,Y,Y,Y,Y,Y,Y,Y,Y,Y,Y,Y,Y,Y,Y,Y,Y,Y,Y,Z,Y,Y,Y,Z,Z] rfl rfl (take_ofW HT_.out HW_.out (by kernel_rfl)) (fun _ _ _ h => h) (Or.inl ⟨by rfl, ?_⟩) hHeld ?_ ?_
       rotate_left
       ·rintro w' ⟨s0, s1, s2⟩
        go_simp; with_reducible rfl
       rotate_left
       ·simp only [Act.put, q1, q2, q3, i64_w, i32_w]
        rfl
       refine one_ (i := 31) (N := some 112) #[Y,Y,Y,Y,Y,Y,Y,Y,Y,Y,Y,Y,Y,Y,Y,Y,Y,Y,Y,Y,Y,Y,Y,Y,Y,Y,Y,Y,Y,Y,Y,Y,Y,Y,Y,Z,Z] rfl rfl (one_of HT_.out (by kernel_rfl)) (by decide) (fun K hK => ?_)
       refine goes_ Try.func9 (by kernel_rfl) rfl #[.slice Ao8 t284.length co8, .int .i64 (rd (rd_L2 t287 x76_2) 0)] (by rfl) rfl rfl (by (try simp only [List.map_toArray, List.map_cons, List.map_nil]); first | done | rfl | (simp only [List.length_drop, List.length_take]; rfl)) ?_
       with_reducible refine (impl_AreaOfSheet.calls k2 _ _ t284 (rd (rd_L2 t287 x76_2) 0) t310 _ ?side1 ?side2 A45.out).mono ?_
       (case side1 => repeat (first | exact (Kd.S_reads' HO_3.out).2.2 | (with_reducible refine Kd.C_alloc ?_ _) | (with_reducible refine Kd.C_drewN ?_ _) | (with_reducible refine Kd.C_drew ?_)))
       (case side2 => exact (Kd.S_reads' HO_3.out).2.1)
       rintro e w48 ⟨rfl, hb⟩
       have HS0_ := (hb.cell (World.block_lt_of_cell? _ _ (hHeld.1))).trans (hHeld.1); have HS1_ := (hb.cell (World.block_lt_of_cell? _ _ (hHeld.2.1))).trans (hHeld.2.1); have HS2_ := (hb.cell (World.block_lt_of_cell? _ _ (hHeld.2.2))).trans (hHeld.2.2); refine ⟨_, rfl, ?_⟩; have n0_ := m1 (Kd.S_below (by (with_reducible repeat (first | apply sA | apply sB | apply sC)); exact HO_3.out) hb)
       have n1_ := m1 (Kd.S_below (by (with_reducible repeat (first | apply sA | apply sB | apply sC)); exact HO_4.out) hb)
       have n2_ := m1 (Kd.R_below (by (with_reducible repeat (first | apply rA | apply rB | apply rC)); exact HO_6.out) hb)
       have n3_ := m1 (Kd.S_below (by (with_reducible repeat (first | apply sA | apply sB | apply sC)); exact HO_74.out) hb)
       have n4_ := m1 (Kd.R_below (by (with_reducible repeat (first | apply rA | apply rB | apply rC)); exact HL300_0.out) hb)
       have n5_ := m1 (Kd.C_below (by repeat (first | (with_reducible exact HR300_0.out) | (with_reducible refine Kd.C_alloc ?_ _) | (with_reducible refine Kd.C_drewN ?_ _) | (with_reducible refine Kd.C_drew ?_) | exact HR300_0.out)) hb)
       have n6_ := m1 (c6 (by repeat (first | (with_reducible first | exact HB.out | apply c1 | apply c2 | apply c3) | exact HB.out)) hb)
       clear HO_3 HO_4 HO_6 HO_74 HL300_0 HR300_0 HB; have HO_3 := n0_; have HO_4 := n1_; have HO_6 := n2_; have HO_74 := n3_; have HL300_0 := n4_; have HR300_0 := n5_; have HB := n6_; clear n0_ n1_ n2_ n3_ n4_ n5_ n6_; (try clear hb)
       (try clear hb2)
       (try clear hk)
       (try clear hi)
       refine hK.out _ _ ⟨HS0_, HS1_, HS2_⟩ (fun hHeld => ?_)
       clear hK K; refine norm_ (a' := ?_) ?_ ?_; rotate_left
       ·show Act.put _ (some 112) _ = _
        simp only [Act.put, q1, q2, q3, i64_w, i32_w]; rfl
       refine pure_ (i := 35) (N := some 116) (v := ?_) (a' := ?_) #[Y,Y,Y,Y,Y,Y,Y,Y,Y,Y,Y,Y,Y,Y,Y,Y,Y,Y,Y,Y,Y,Y,Y,Y,Y,Y,Y,Y,Y,Y,Y,Y,Y,Y,Y,Y,Z] rfl rfl (any_of HT_.out (by kernel_rfl)) (fun _ _ _ h => h) (Or.inl ⟨by rfl, ?_⟩) ?_ ?_
       rotate_left
       ·intro w'
        go_simp; with_reducible rfl
       rotate_left
       ·simp only [Act.put, q1, q2, q3, i64_w, i32_w]
        rfl
       refine pure_ (i := 36) (N := some 117) (v := ?_) (a' := ?_) #[Y,Y,Y,Y,Y,Y,Y,Y,Y,Y,Y,Y,Y,Y,Y,Y,Y,Y,Y,Y,Y,Y,Y,Y,Y,Y,Y,Y,Y,Y,Y,Y,Y,Y,Y,Y,Y] rfl rfl (any_of HT_.out (by kernel_rfl)) (fun _ _ _ h => h) (Or.inl ⟨by rfl, ?_⟩) ?_ ?_
       rotate_left
       ·intro w'
        go_simp; with_reducible rfl
       rotate_left
       ·simp only [Act.put, q1, q2, q3, i64_w, i32_w]
        rfl
       refine done_ (done_of HT_.out (by kernel_rfl)) ?_
       have p312 : 0 ≤ (1 : Int) := (by omega)
       have q312 : 1 < ((rd_L2 t287 x76_2).length : Int) := of_decide_eq_true (by first | (with_reducible assumption) | assumption)
       obtain ⟨ad312, e312, hx312_0⟩ := Kd.at_int (by repeat (first | (with_reducible exact HR300_0.out) | (with_reducible refine Kd.C_alloc ?_ _) | (with_reducible refine Kd.C_drewN ?_ _) | (with_reducible refine Kd.C_drew ?_) | exact HR300_0.out)) 1 p312 q312
       obtain rfl : ad301 = ad312 := (by injection e312)
       (try simp only [show (1 : Int).toNat = 1 from rfl, Nat.reduceMul, Nat.reduceEqDiff, Go.Addr.add, ↓reduceIte] at hx312_0)
       have qi312 : (1 < (rd_L2 t287 x76_2).length) = True := eq_true (by omega)
       (try rw [show ((1 : Int)).toNat = 1 from rfl] at hx312_0)
       replace p312 := eq_true p312; replace q312 := eq_true q312; try go_wp2
       go_roundg k2
       case measure => have := HJ5.out; have := HK2.out; omega
       case rel => exact ⟨(wrap64 (x7_2 + (rd (rd_L2 t287 x76_2) 1))), (wrap64 (x76_2 + 1)), (by first | rfl | (simp; done) | (simp [*]; done)), (by first | rfl | (simp; done) | (simp [*]; done)), H', ⟨by have := HJ5.out; have := HK2.out; omega⟩, ⟨by (with_reducible repeat (first | apply sA | apply sB | apply sC)); exact HO_3.out⟩, ⟨by (with_reducible repeat (first | apply sA | apply sB | apply sC)); exact HO_4.out⟩, ⟨by (with_reducible repeat (first | apply rA | apply rB | apply rC)); exact HO_6.out⟩, ⟨by (with_reducible repeat (first | apply sA | apply sB | apply sC)); exact HO_74.out⟩, ⟨by repeat (first | (with_reducible first | exact HB.out | apply c1 | apply c2 | apply c3) | exact HB.out)⟩⟩
      rw [if_pos c33] at H; have c33b0 : decide (0 < x76_2) = true := decide_eq_true c33; clear c33; by_cases c34 : 0 < ((rd_L2 t287 x76_2).length : Int)
      rotate_left
      ·rw [if_neg c34] at H
       exact absurd H (by simp)
      rw [if_pos c34] at H; have c34b0 : decide (0 < ((rd_L2 t287 x76_2).length : Int)) = true := decide_eq_true c34; have c34b1 : decide (0 < (rd_L2 t287 x76_2).length) = true := decide_eq_true (by omega)
      clear c34; obtain ⟨ji35, hji35⟩ : ∃ j_ : Int, (wrap64 (x76_2 - 1)) = j_ := ⟨_, rfl⟩; replace H : (if 0 ≤ (ji35) then (if (ji35) < (t287.length : Int) then (if 0 < ((rd_L2 t287 (ji35)).length : Int) then (if (rd (rd_L2 t287 x76_2) 0) ≤ (rd (rd_L2 t287 (ji35)) 0) then (some false) else ((impl_AreaOfSheet.f k2 t284 (rd (rd_L2 t287 x76_2) 0)).bind fun t306 => (if t306 = (rd (rd_L2 t287 x76_2) 1) then (laws_FnLedger.l0 k2 t284 t287 t291 (wrap64 (x7_2 + (rd (rd_L2 t287 x76_2) 1))) t287 (t287.length : Int) (wrap64 (x76_2 + 1))) else (some false)))) else (none)) else (none)) else (none)) = some r := by first | (rw [hji35] at H; exact H) | (simp only [hji35] at H ⊢; exact H)
      have hji35w : (IntKind.i64.wrap (x76_2 - 1)) = ji35 := (i64_w _).trans hji35; by_cases c36 : 0 ≤ (ji35)
      rotate_left
      ·rw [if_neg c36] at H
       exact absurd H (by simp)
      rw [if_pos c36] at H; have c36b0 : decide (0 ≤ (ji35)) = true := decide_eq_true c36; clear c36; by_cases c37 : (ji35) < (t287.length : Int)
      rotate_left
      ·rw [if_neg c37] at H
       exact absurd H (by simp)
      rw [if_pos c37] at H; have c37b0 : decide ((ji35) < (t287.length : Int)) = true := decide_eq_true c37; clear c37; by_cases c38 : 0 < ((rd_L2 t287 (ji35)).length : Int)
      rotate_left
      ·rw [if_neg c38] at H
       exact absurd H (by simp)
      rw [if_pos c38] at H; have c38b0 : decide (0 < ((rd_L2 t287 (ji35)).length : Int)) = true := decide_eq_true c38; have c38b1 : decide (0 < (rd_L2 t287 (ji35)).length) = true := decide_eq_true (by omega)
      clear c38; by_cases c39 : (rd (rd_L2 t287 x76_2) 0) ≤ (rd (rd_L2 t287 (ji35)) 0)
      ·rw [if_pos c39] at H
       have c39b0 : decide ((rd (rd_L2 t287 x76_2) 0) ≤ (rd (rd_L2 t287 (ji35)) 0)) = true := decide_eq_true c39; clear c39; exact absurd (Option.some.inj H) (by rw [HR_.out]; decide)
      rw [if_neg c39] at H; have c39b0 : decide ((rd (rd_L2 t287 x76_2) 0) ≤ (rd (rd_L2 t287 (ji35)) 0)) = false := decide_eq_false c39; clear c39; replace H := Option.bind_eq_some_iff.mp H; obtain ⟨t306, A400, H⟩ := H; replace H : (if t306 = (rd (rd_L2 t287 x76_2) 1) then (laws_FnLedger.l0 k2 t284 t287 t291 (wrap64 (x7_2 + (rd (rd_L2 t287 x76_2) 1))) t287 (t287.length : Int) (wrap64 (x76_2 + 1))) else (some false)) = some r := H; have A40 := m1 A400; clear A400; by_cases c41 : t306 = (rd (rd_L2 t287 x76_2) 1)
      rotate_left
      ·rw [if_neg c41] at H
       have c41b0 : (t306 == (rd (rd_L2 t287 x76_2) 1)) = false := beq_eq_false_iff_ne.mpr c41; have c41b1 : (t306 != (rd (rd_L2 t287 x76_2) 1)) = true := bne_iff_ne.mpr c41; exact absurd (Option.some.inj H) (by rw [HR_.out]; decide)
      rw [if_pos c41] at H; have c41b0 : (t306 == (rd (rd_L2 t287 x76_2) 1)) = true := beq_iff_eq.mpr c41; have c41b1 : (t306 != (rd (rd_L2 t287 x76_2) 1)) = false := bne_eq_false_iff_eq.mpr c41; clear c41; have H' := m1 H; clear H; have p300 : 0 ≤ (x76_2 : Int) := of_decide_eq_true (by first | (with_reducible assumption) | assumption)
      have q300 : x76_2 < (t287.length : Int) := of_decide_eq_true (by first | (with_reducible assumption) | assumption)
      obtain ⟨ad300, A300_0, c300_0, e300, hx300_0, hl300_0, hi300_0⟩ := at_L2 (Kd.S_reads' HO_74.out).2.2 x76_2 p300 q300
      cases e300
      obtain ⟨ce300, hce300, hMe300, hcc300⟩ := Kd.S_get HO_74.out [] x76_2 p300 (by first | exact q300 | exact of_decide_eq_true (by first | (with_reducible assumption) | assumption) | (have e_ := (Kd.S_reads' HO_74.out).1; omega))
      obtain ⟨ve300_0, rfl, ge300_0⟩ := hMe300; have hv300_0 := hcc300 0 _ rfl; rw [Nat.add_zero, show ((Kd.slice 3 (Kd.int .i64))).sz = 1 from rfl, Nat.mul_one] at hv300_0; replace hv300_0 := Option.some.inj (hv300_0.symm.trans hx300_0); rw [hv300_0] at ge300_0; have HL300_0 := m1 (show Kd.R (Kd.int .i64) 3 _ _ _ _ (rd_L2 t287 x76_2) from ge300_0); clear hv300_0 ge300_0 hcc300 hce300; have HR300_0 := m1 hi300_0; have HC300_0 := m1 hl300_0; clear hi300_0 hl300_0; replace p300 := eq_true p300; replace q300 := eq_true q300; try go_wp2
      have n0_ := m1 (sC HO_3.out); have n1_ := m1 (sC HO_4.out); have n2_ := m1 (rC HO_6.out); have n3_ := m1 (sC HO_74.out); have n4_ := m1 (rC HL300_0.out); have n5_ := m1 (Kd.C_drew HR300_0.out); have n6_ := m1 (below_drew1 HB.out); clear HO_3 HO_4 HO_6 HO_74 HL300_0 HR300_0 HB; have HO_3 := n0_; have HO_4 := n1_; have HO_6 := n2_; have HO_74 := n3_; have HL300_0 := n4_; have HR300_0 := n5_; have HB := n6_; clear n0_ n1_ n2_ n3_ n4_ n5_ n6_; have p301 : 0 ≤ (1 : Int) := (by omega)
      have q301 : 1 < ((rd_L2 t287 x76_2).length : Int) := of_decide_eq_true (by first | (with_reducible assumption) | assumption)
      obtain ⟨ad301, e301, hx301_0⟩ := Kd.at_int (by repeat (first | (with_reducible exact HR300_0.out) | (with_reducible refine Kd.C_alloc ?_ _) | (with_reducible refine Kd.C_drewN ?_ _) | (with_reducible refine Kd.C_drew ?_) | exact HR300_0.out)) 1 p301 q301
      cases e301
      (try simp only [show (1 : Int).toNat = 1 from rfl, Nat.reduceMul, Nat.reduceEqDiff, Go.Addr.add, ↓reduceIte] at hx301_0)
      have qi301 : (1 < (rd_L2 t287 x76_2).length) = True := eq_true (by omega)
      (try rw [show ((1 : Int)).toNat = 1 from rfl] at hx301_0)
      replace p301 := eq_true p301; replace q301 := eq_true q301; have p302 : 0 ≤ (0 : Int) := (by omega)
      have q302 : 0 < ((rd_L2 t287 x76_2).length : Int) := of_decide_eq_true (by first | (with_reducible assumption) | assumption)
      obtain ⟨ad302, e302, hx302_0⟩ := Kd.at_int (by repeat (first | (with_reducible exact HR300_0.out) | (with_reducible refine Kd.C_alloc ?_ _) | (with_reducible refine Kd.C_drewN ?_ _) | (with_reducible refine Kd.C_drew ?_) | exact HR300_0.out)) 0 p302 q302
      obtain rfl : ad301 = ad302 := (by injection e302)
      have qi302 : (0 < (rd_L2 t287 x76_2).length) = True := eq_true (by omega)
      (try rw [show ((0 : Int)).toNat = 0 from rfl] at hx302_0)
      (try rw [Addr.add_zero'] at hx302_0)
      replace p302 := eq_true p302; replace q302 := eq_true q302; have p303 : 0 ≤ ((ji35) : Int) := of_decide_eq_true (by first | (with_reducible assumption) | assumption)
      have q303 : (ji35) < (t287.length : Int) := of_decide_eq_true (by first | (with_reducible assumption) | assumption)
      obtain ⟨ad303, A303_0, c303_0, e303, hx303_0, hl303_0, hi303_0⟩ := at_L2 (Kd.S_reads' HO_4.out).2.2 (ji35) p303 q303; obtain rfl : ad300 = ad303 := (by injection e303)
      obtain ⟨ce303, hce303, hMe303, hcc303⟩ := Kd.S_get HO_4.out [] (ji35) p303 (by first | exact q303 | exact of_decide_eq_true (by first | (with_reducible assumption) | assumption) | (have e_ := (Kd.S_reads' HO_4.out).1; omega))
      obtain ⟨ve303_0, rfl, ge303_0⟩ := hMe303; have hv303_0 := hcc303 0 _ rfl; rw [Nat.add_zero, show ((Kd.slice 3 (Kd.int .i64))).sz = 1 from rfl, Nat.mul_one] at hv303_0; replace hv303_0 := Option.some.inj (hv303_0.symm.trans hx303_0); rw [hv303_0] at ge303_0; have HL303_0 := m1 (show Kd.R (Kd.int .i64) 3 _ _ _ _ (rd_L2 t287 (ji35)) from ge303_0); clear hv303_0 ge303_0 hcc303 hce303; have HR303_0 := m1 hi303_0; have HC303_0 := m1 hl303_0; clear hi303_0 hl303_0; replace p303 := eq_true p303; replace q303 := eq_true q303; have p304 : 0 ≤ (0 : Int) := (by omega)
      have q304 : 0 < ((rd_L2 t287 (ji35)).length : Int) := of_decide_eq_true (by first | (with_reducible assumption) | assumption)
      obtain ⟨ad304, e304, hx304_0⟩ := Kd.at_int (by repeat (first | (with_reducible exact HR303_0.out) | (with_reducible refine Kd.C_alloc ?_ _) | (with_reducible refine Kd.C_drewN ?_ _) | (with_reducible refine Kd.C_drew ?_) | exact HR303_0.out)) 0 p304 q304
      cases e304
      have qi304 : (0 < (rd_L2 t287 (ji35)).length) = True := eq_true (by omega)
      (try rw [show ((0 : Int)).toNat = 0 from rfl] at hx304_0)
      (try rw [Addr.add_zero'] at hx304_0)
      replace p304 := eq_true p304; replace q304 := eq_true q304; have p305 : 0 ≤ (0 : Int) := (by omega)
      have q305 : 0 < ((rd_L2 t287 x76_2).length : Int) := of_decide_eq_true (by first | (with_reducible assumption) | assumption)
      obtain ⟨ad305, e305, hx305_0⟩ := Kd.at_int (by repeat (first | (with_reducible exact HR300_0.out) | (with_reducible refine Kd.C_alloc ?_ _) | (with_reducible refine Kd.C_drewN ?_ _) | (with_reducible refine Kd.C_drew ?_) | exact HR300_0.out)) 0 p305 q305
      obtain rfl : ad301 = ad305 := (by injection e305)
      have qi305 : (0 < (rd_L2 t287 x76_2).length) = True := eq_true (by omega)
      (try rw [show ((0 : Int)).toNat = 0 from rfl] at hx305_0)
      (try rw [Addr.add_zero'] at hx305_0)
      replace p305 := eq_true p305; replace q305 := eq_true q305; have p307 : 0 ≤ (1 : Int) := (by omega)
      have q307 : 1 < ((rd_L2 t287 x76_2).length : Int) := of_decide_eq_true (by first | (with_reducible assumption) | assumption)
      obtain ⟨ad307, e307, hx307_0⟩ := Kd.at_int (by repeat (first | (with_reducible exact HR300_0.out) | (with_reducible refine Kd.C_alloc ?_ _) | (with_reducible refine Kd.C_drewN ?_ _) | (with_reducible refine Kd.C_drew ?_) | exact HR300_0.out)) 1 p307 q307
      obtain rfl : ad301 = ad307 := (by injection e307)
      (try simp only [show (1 : Int).toNat = 1 from rfl, Nat.reduceMul, Nat.reduceEqDiff, Go.Addr.add, ↓reduceIte] at hx307_0)
      have qi307 : (1 < (rd_L2 t287 x76_2).length) = True := eq_true (by omega)
      (try rw [show ((1 : Int)).toNat = 1 from rfl] at hx307_0)
      replace p307 := eq_true p307; replace q307 := eq_true q307; refine start_ (n := 37) (S := fun w' => w'.cell? ⟨ad301.block, ad301.off + 1, none⟩ = some (.int .i64 (rd (rd_L2 t287 x76_2) 1)) ∧ w'.cell? ad301 = some (.int .i64 (rd (rd_L2 t287 x76_2) 0)) ∧ w'.cell? (ad300.add ((ji35)).toNat) = some (.slice (some ad304) (rd_L2 t287 (ji35)).length c303_0) ∧ w'.cell? ad304 = some (.int .i64 (rd (rd_L2 t287 (ji35)) 0)) ∧ w'.cell? ad301 = some (.int .i64 (rd (rd_L2 t287 x76_2) 0)) ∧ w'.cell? ⟨ad301.block, ad301.off + 1, none⟩ = some (.int .i64 (rd (rd_L2 t287 x76_2) 1))) (ds := []) #[Z,Z,Z,Z,Z,Z,Z,Z,Z,Z,Z,Z,Z,Z,Z,Z,Z,Z,Z,Z,Z,Z,Z,Z,Z,Z,Z,Z,Z,Z,Z,Z,Z,Z,Z,Z,Z] (by kernel_rfl) rfl rfl ⟨hx301_0, hx302_0, hx303_0, hx304_0, hx305_0, hx307_0⟩ (fun hHeld => ?_); refine with_tabW laws_FnLedger.tab12 laws_FnLedger.bits12 (fun HT_ HW_ => ?_)
      generalize wr.drew = w42 at HO_3 HO_4 HO_6 HO_74 HL300_0 HR300_0 HB HL303_0 HR303_0 hx301_0 hx302_0 hx303_0 hx304_0 hx305_0 hx307_0 hHeld ⊢
      refine pure_ (i := 0) (N := some 81) (v := ?_) (a' := ?_) #[Y,Z,Z,Z,Z,Z,Z,Z,Z,Z,Z,Z,Z,Z,Z,Z,Z,Z,Z,Z,Z,Z,Z,Z,Z,Z,Z,Z,Z,Z,Z,Z,Z,Z,Z,Z,Z] rfl rfl (any_of HT_.out (by kernel_rfl)) (fun _ _ _ h => h) (Or.inl ⟨by rfl, ?_⟩) ?_ ?_
      rotate_left
      ·intro w'
       go_simp; with_reducible rfl
      rotate_left
      ·simp only [Act.put, q1, q2, q3, i64_w, i32_w]
       rfl
      refine pure_ (i := 1) (N := some 82) (v := ?_) (a' := ?_) #[Y,Y,Z,Z,Z,Z,Z,Z,Z,Z,Z,Z,Z,Z,Z,Z,Z,Z,Z,Z,Z,Z,Z,Z,Z,Z,Z,Z,Z,Z,Z,Z,Z,Z,Z,Z,Z] rfl rfl (any_of HT_.out (by kernel_rfl)) (fun _ _ _ h => h) (Or.inl ⟨by rfl, ?_⟩) ?_ ?_
      rotate_left
      ·intro w'
       go_simp; with_reducible rfl
      rotate_left
      ·simp only [Act.put, q1, q2, q3, i64_w, i32_w]
       rfl
      refine pure_ (i := 2) (N := some 83) (v := ?_) (a' := ?_) #[Y,Y,Y,Z,Z,Z,Z,Z,Z,Z,Z,Z,Z,Z,Z,Z,Z,Z,Z,Z,Z,Z,Z,Z,Z,Z,Z,Z,Z,Z,Z,Z,Z,Z,Z,Z,Z] rfl rfl (any_of HT_.out (by kernel_rfl)) (fun _ _ _ h => h) (Or.inl ⟨by rfl, ?_⟩) ?_ ?_
      rotate_left
      ·intro w'
       go_simp; with_reducible rfl
      rotate_left
      ·simp only [Act.put, q1, q2, q3, i64_w, i32_w]
       rfl
      refine pure_ (i := 3) (N := some 84) (v := ?_) (a' := ?_) #[Y,Y,Y,Y,Z,Z,Z,Z,Z,Z,Z,Z,Z,Z,Z,Z,Z,Z,Z,Z,Z,Z,Z,Z,Z,Z,Z,Z,Z,Z,Z,Z,Z,Z,Z,Z,Z] rfl rfl (any_of HT_.out (by kernel_rfl)) (fun _ _ _ h => h) (Or.inl ⟨by rfl, ?_⟩) ?_ ?_
      rotate_left
      ·intro w'
       go_simp; with_reducible rfl
      rotate_left
      ·simp only [Act.put, q1, q2, q3, i64_w, i32_w]
       rfl
      refine pure_ (i := 4) (N := some 85) (v := ?_) (a' := ?_) #[Y,Y,Y,Y,Y,Z,Z,Z,Z,Z,Z,Z,Z,Z,Z,Z,Z,Z,Z,Z,Z,Z,Z,Z,Z,Z,Z,Z,Z,Z,Z,Z,Z,Z,Z,Z,Z] rfl rfl (any_of HT_.out (by kernel_rfl)) (fun _ _ _ h => h) (Or.inl ⟨by rfl, ?_⟩) ?_ ?_
      rotate_left
      ·intro w'
       go_simp; with_reducible rfl
      rotate_left
      ·simp only [Act.put, q1, q2, q3, i64_w, i32_w]
       rfl
      refine pure_ (i := 5) (N := some 86) (v := ?_) (a' := ?_) #[Y,Y,Y,Y,Y,Y,Z,Z,Z,Z,Z,Z,Z,Z,Z,Z,Z,Z,Z,Z,Z,Z,Z,Z,Z,Z,Z,Z,Z,Z,Z,Z,Z,Z,Z,Z,Z] rfl rfl (any_of HT_.out (by kernel_rfl)) (fun _ _ _ h => h) (Or.inl ⟨by rfl, ?_⟩) ?_ ?_
      rotate_left
      ·intro w'
       go_simp; with_reducible rfl
      rotate_left
      ·simp only [Act.put, q1, q2, q3, i64_w, i32_w]
       rfl
      refine take_ (i := 6) (N := some 87) (v := ?_) (a' := ?_) #[Y,Y,Y,Y,Y,Y,Y,Z,Z,Z,Z,Z,Z,Z,Z,Z,Z,Z,Z,Z,Z,Z,Z,Z,Z,Z,Z,Z,Z,Z,Z,Z,Z,Z,Z,Z,Z] rfl rfl (take_ofW HT_.out HW_.out (by kernel_rfl)) (fun _ _ _ h => h) (Or.inl ⟨by rfl, ?_⟩) hHeld ?_ ?_
      rotate_left
      ·rintro w' ⟨s0, s1, s2, s3, s4, s5⟩
       go_simp; with_reducible rfl
      rotate_left
      ·simp only [Act.put, q1, q2, q3, i64_w, i32_w]
       rfl
      refine pure_ (i := 7) (N := some 88) (v := ?_) (a' := ?_) #[Y,Y,Y,Y,Y,Y,Y,Y,Z,Z,Z,Z,Z,Z,Z,Z,Z,Z,Z,Z,Z,Z,Z,Z,Z,Z,Z,Z,Z,Z,Z,Z,Z,Z,Z,Z,Z] rfl rfl (any_of HT_.out (by kernel_rfl)) (fun _ _ _ h => h) (Or.inl ⟨by rfl, ?_⟩) ?_ ?_
      rotate_left
      ·intro w'
       go_simp; with_reducible rfl
      rotate_left
      ·simp only [Act.put, q1, q2, q3, i64_w, i32_w]
       rfl
      refine pure_ (i := 8) (N := some 89) (v := ?_) (a' := ?_) #[Y,Y,Y,Y,Y,Y,Y,Y,Y,Z,Z,Z,Z,Z,Z,Z,Z,Z,Z,Z,Z,Z,Z,Z,Z,Z,Z,Z,Z,Z,Z,Z,Z,Z,Z,Z,Z] rfl rfl (any_of HT_.out (by kernel_rfl)) (fun _ _ _ h => h) (Or.inl ⟨by rfl, ?_⟩) ?_ ?_
      rotate_left
      ·intro w'
       go_simp; with_reducible rfl
      rotate_left
      ·simp only [Act.put, q1, q2, q3, i64_w, i32_w]
       rfl
      refine pure_ (i := 9) (N := some 90) (v := ?_) (a' := ?_) #[Y,Y,Y,Y,Y,Y,Y,Y,Y,Y,Z,Z,Z,Z,Z,Z,Z,Z,Z,Z,Z,Z,Z,Z,Z,Z,Z,Z,Z,Z,Z,Z,Z,Z,Z,Z,Z] rfl rfl (any_of HT_.out (by kernel_rfl)) (fun _ _ _ h => h) (Or.inl ⟨by rfl, ?_⟩) ?_ ?_
      rotate_left
      ·intro w'
       go_simp; with_reducible rfl
      rotate_left
      ·simp only [Act.put, q1, q2, q3, i64_w, i32_w]
       rfl
      refine pure_ (i := 10) (N := some 91) (v := ?_) (a' := ?_) #[Y,Y,Y,Y,Y,Y,Y,Y,Y,Y,Y,Z,Z,Z,Z,Z,Z,Z,Z,Z,Z,Z,Z,Z,Z,Z,Z,Z,Z,Z,Z,Z,Z,Z,Z,Z,Z] rfl rfl (any_of HT_.out (by kernel_rfl)) (fun _ _ _ h => h) (Or.inl ⟨by rfl, ?_⟩) ?_ ?_
      rotate_left
      ·intro w'
       go_simp; with_reducible rfl
      rotate_left
      ·simp only [Act.put, q1, q2, q3, i64_w, i32_w]
       rfl
      refine pure_ (i := 11) (N := some 92) (v := ?_) (a' := ?_) #[Y,Y,Y,Y,Y,Y,Y,Y,Y,Y,Y,Y,Z,Z,Z,Z,Z,Z,Z,Z,Z,Z,Z,Z,Z,Z,Z,Z,Z,Z,Z,Z,Z,Z,Z,Z,Z] rfl rfl (any_of HT_.out (by kernel_rfl)) (fun _ _ _ h => h) (Or.inl ⟨by rfl, ?_⟩) ?_ ?_
      rotate_left
      ·intro w'
       go_simp; with_reducible rfl
      rotate_left
      ·simp only [Act.put, q1, q2, q3, i64_w, i32_w]
       rfl
      refine pure_ (i := 12) (N := some 93) (v := ?_) (a' := ?_) #[Y,Y,Y,Y,Y,Y,Y,Y,Y,Y,Y,Y,Y,Z,Z,Z,Z,Z,Z,Z,Z,Z,Z,Z,Z,Z,Z,Z,Z,Z,Z,Z,Z,Z,Z,Z,Z] rfl rfl (any_of HT_.out (by kernel_rfl)) (fun _ _ _ h => h) (Or.inl ⟨by rfl, ?_⟩) ?_ ?_
      rotate_left
      ·intro w'
       go_simp; with_reducible rfl
      rotate_left
      ·simp only [Act.put, q1, q2, q3, i64_w, i32_w]
       rfl
      refine pure_ (i := 13) (N := some 94) (v := ?_) (a' := ?_) #[Y,Y,Y,Y,Y,Y,Y,Y,Y,Y,Y,Y,Y,Y,Z,Z,Z,Z,Z,Z,Z,Z,Z,Z,Z,Z,Z,Z,Z,Z,Z,Z,Z,Z,Z,Z,Z] rfl rfl (any_of HT_.out (by kernel_rfl)) (fun _ _ _ h => h) (Or.inl ⟨by rfl, ?_⟩) ?_ ?_
      rotate_left
      ·intro w'
       go_simp; with_reducible rfl
      rotate_left
      ·simp only [Act.put, q1, q2, q3, i64_w, i32_w]
       rfl
      refine pure_ (i := 14) (N := some 95) (v := ?_) (a' := ?_) #[Y,Y,Y,Y,Y,Y,Y,Y,Y,Y,Y,Y,Y,Y,Y,Z,Z,Z,Z,Z,Z,Z,Z,Z,Z,Z,Z,Z,Z,Z,Z,Z,Z,Z,Z,Z,Z] rfl rfl (any_of HT_.out (by kernel_rfl)) (fun _ _ _ h => h) (Or.inl ⟨by rfl, ?_⟩) ?_ ?_
      rotate_left
      ·intro w'
       go_simp; with_reducible rfl
      rotate_left
      ·simp only [Act.put, q1, q2, q3, i64_w, i32_w]
       rfl
      refine pure_ (i := 16) (N := some 97) (v := ?_) (a' := ?_) #[Y,Y,Y,Y,Y,Y,Y,Y,Y,Y,Y,Y,Y,Y,Y,Z,Y,Z,Z,Z,Z,Z,Z,Z,Z,Z,Z,Z,Z,Z,Z,Z,Z,Z,Z,Z,Z] rfl rfl (any_of HT_.out (by kernel_rfl)) (fun _ _ _ h => h) (Or.inl ⟨by rfl, ?_⟩) ?_ ?_
      rotate_left
      ·intro w'
       go_simp; with_reducible rfl
      rotate_left
      ·simp only [Act.put, q1, q2, q3, i64_w, i32_w]
       rfl
      refine pure_ (i := 17) (N := some 98) (v := ?_) (a' := ?_) #[Y,Y,Y,Y,Y,Y,Y,Y,Y,Y,Y,Y,Y,Y,Y,Z,Y,Y,Z,Z,Z,Z,Z,Z,Z,Z,Z,Z,Z,Z,Z,Z,Z,Z,Z,Z,Z] rfl rfl (any_of HT_.out (by kernel_rfl)) (fun _ _ _ h => h) (Or.inl ⟨by rfl, ?_⟩) ?_ ?_
      rotate_left
      ·intro w'
       go_simp; with_reducible rfl
      rotate_left
      ·simp only [Act.put, q1, q2, q3, i64_w, i32_w]
       rfl
      refine pure_ (i := 18) (N := some 99) (v := ?_) (a' := ?_) #[Y,Y,Y,Y,Y,Y,Y,Y,Y,Y,Y,Y,Y,Y,Y,Z,Y,Y,Y,Z,Z,Z,Z,Z,Z,Z,Z,Z,Z,Z,Z,Z,Z,Z,Z,Z,Z] rfl rfl (any_of HT_.out (by kernel_rfl)) (fun _ _ _ h => h) (Or.inl ⟨by rfl, ?_⟩) ?_ ?_
      rotate_left
      ·intro w'
       go_simp; with_reducible rfl
      rotate_left
      ·simp only [Act.put, q1, q2, q3, i64_w, i32_w]
       rfl
      refine pure_ (i := 19) (N := some 100) (v := ?_) (a' := ?_) #[Y,Y,Y,Y,Y,Y,Y,Y,Y,Y,Y,Y,Y,Y,Y,Z,Y,Y,Y,Y,Z,Z,Z,Z,Z,Z,Z,Z,Z,Z,Z,Z,Z,Z,Z,Z,Z] rfl rfl (any_of HT_.out (by kernel_rfl)) (fun _ _ _ h => h) (Or.inl ⟨by rfl, ?_⟩) ?_ ?_
      rotate_left
      ·intro w'
       go_simp; with_reducible rfl
      rotate_left
      ·simp only [Act.put, q1, q2, q3, i64_w, i32_w]
       rfl
      refine take_ (i := 15) (N := some 96) (v := ?_) (a' := ?_) #[Y,Y,Y,Y,Y,Y,Y,Y,Y,Y,Y,Y,Y,Y,Y,Y,Y,Y,Y,Y,Z,Z,Z,Z,Z,Z,Z,Z,Z,Z,Z,Z,Z,Z,Z,Z,Z] rfl rfl (take_ofW HT_.out HW_.out (by kernel_rfl)) (fun _ _ _ h => h) (Or.inl ⟨by rfl, ?_⟩) hHeld ?_ ?_
      rotate_left
      ·rintro w' ⟨s0, s1, s2, s3, s4, s5⟩
       go_simp; with_reducible rfl
      rotate_left
      ·simp only [Act.put, q1, q2, q3, i64_w, i32_w]
       rfl
      refine take_ (i := 20) (N := some 101) (v := ?_) (a' := ?_) #[Y,Y,Y,Y,Y,Y,Y,Y,Y,Y,Y,Y,Y,Y,Y,Y,Y,Y,Y,Y,Y,Z,Z,Z,Z,Z,Z,Z,Z,Z,Z,Z,Z,Z,Z,Z,Z] rfl rfl (take_ofW HT_.out HW_.out (by kernel_rfl)) (fun _ _ _ h => h) (Or.inl ⟨by rfl, ?_⟩) hHeld ?_ ?_
      rotate_left
      ·rintro w' ⟨s0, s1, s2, s3, s4, s5⟩
       go_simp; with_reducible rfl
      rotate_left
      ·simp only [Act.put, q1, q2, q3, i64_w, i32_w]
       rfl
      refine pure_ (i := 21) (N := some 102) (v := ?_) (a' := ?_) #[Y,Y,Y,Y,Y,Y,Y,Y,Y,Y,Y,Y,Y,Y,Y,Y,Y,Y,Y,Y,Y,Y,Z,Z,Z,Z,Z,Z,Z,Z,Z,Z,Z,Z,Z,Z,Z] rfl rfl (any_of HT_.out (by kernel_rfl)) (fun _ _ _ h => h) (Or.inl ⟨by rfl, ?_⟩) ?_ ?_
      rotate_left
      ·intro w'
       go_simp; with_reducible rfl
      rotate_left
      ·simp only [Act.put, q1, q2, q3, i64_w, i32_w]
       rfl
      refine take_ (i := 22) (N := some 103) (v := ?_) (a' := ?_) #[Y,Y,Y,Y,Y,Y,Y,Y,Y,Y,Y,Y,Y,Y,Y,Y,Y,Y,Y,Y,Y,Y,Y,Z,Z,Z,Z,Z,Z,Z,Z,Z,Z,Z,Z,Z,Z] rfl rfl (take_ofW HT_.out HW_.out (by kernel_rfl)) (fun _ _ _ h => h) (Or.inl ⟨by rfl, ?_⟩) hHeld ?_ ?_
      rotate_left
      ·rintro w' ⟨s0, s1, s2, s3, s4, s5⟩
       go_simp; with_reducible rfl
      rotate_left
      ·simp only [Act.put, q1, q2, q3, i64_w, i32_w]
       rfl
      refine pure_ (i := 23) (N := some 104) (v := ?_) (a' := ?_) #[Y,Y,Y,Y,Y,Y,Y,Y,Y,Y,Y,Y,Y,Y,Y,Y,Y,Y,Y,Y,Y,Y,Y,Y,Z,Z,Z,Z,Z,Z,Z,Z,Z,Z,Z,Z,Z] rfl rfl (any_of HT_.out (by kernel_rfl)) (fun _ _ _ h => h) (Or.inl ⟨by rfl, ?_⟩) ?_ ?_
      rotate_left
      ·intro w'
       go_simp; with_reducible rfl
      rotate_left
      ·simp only [Act.put, q1, q2, q3, i64_w, i32_w]
       rfl
      refine pure_ (i := 24) (N := some 105) (v := ?_) (a' := ?_) #[Y,Y,Y,Y,Y,Y,Y,Y,Y,Y,Y,Y,Y,Y,Y,Y,Y,Y,Y,Y,Y,Y,Y,Y,Y,Z,Z,Z,Z,Z,Z,Z,Z,Z,Z,Z,Z] rfl rfl (any_of HT_.out (by kernel_rfl)) (fun _ _ _ h => h) (Or.inl ⟨by rfl, ?_⟩) ?_ ?_
      rotate_left
      ·intro w'
       go_simp; with_reducible rfl
      rotate_left
      ·simp only [Act.put, q1, q2, q3, i64_w, i32_w]
       rfl
      refine pure_ (i := 25) (N := some 106) (v := ?_) (a' := ?_) #[Y,Y,Y,Y,Y,Y,Y,Y,Y,Y,Y,Y,Y,Y,Y,Y,Y,Y,Y,Y,Y,Y,Y,Y,Y,Y,Z,Z,Z,Z,Z,Z,Z,Z,Z,Z,Z] rfl rfl (any_of HT_.out (by kernel_rfl)) (fun _ _ _ h => h) (Or.inl ⟨by rfl, ?_⟩) ?_ ?_
      rotate_left
      ·intro w'
       go_simp; with_reducible rfl
      rotate_left
      ·simp only [Act.put, q1, q2, q3, i64_w, i32_w]
       rfl
      refine pure_ (i := 26) (N := some 107) (v := ?_) (a' := ?_) #[Y,Y,Y,Y,Y,Y,Y,Y,Y,Y,Y,Y,Y,Y,Y,Y,Y,Y,Y,Y,Y,Y,Y,Y,Y,Y,Y,Z,Z,Z,Z,Z,Z,Z,Z,Z,Z] rfl rfl (any_of HT_.out (by kernel_rfl)) (fun _ _ _ h => h) (Or.inl ⟨by rfl, ?_⟩) ?_ ?_
      rotate_left
      ·intro w'
       go_simp; with_reducible rfl
      rotate_left
      ·simp only [Act.put, q1, q2, q3, i64_w, i32_w]
       rfl
      refine pure_ (i := 27) (N := some 108) (v := ?_) (a' := ?_) #[Y,Y,Y,Y,Y,Y,Y,Y,Y,Y,Y,Y,Y,Y,Y,Y,Y,Y,Y,Y,Y,Y,Y,Y,Y,Y,Y,Y,Z,Z,Z,Z,Z,Z,Z,Z,Z] rfl rfl (any_of HT_.out (by kernel_rfl)) (fun _ _ _ h => h) (Or.inl ⟨by rfl, ?_⟩) ?_ ?_
      rotate_left
      ·intro w'
       go_simp; with_reducible rfl
      rotate_left
      ·simp only [Act.put, q1, q2, q3, i64_w, i32_w]
       rfl
      refine pure_ (i := 28) (N := some 109) (v := ?_) (a' := ?_) #[Y,Y,Y,Y,Y,Y,Y,Y,Y,Y,Y,Y,Y,Y,Y,Y,Y,Y,Y,Y,Y,Y,Y,Y,Y,Y,Y,Y,Y,Z,Z,Z,Z,Z,Z,Z,Z] rfl rfl (any_of HT_.out (by kernel_rfl)) (fun _ _ _ h => h) (Or.inl ⟨by rfl, ?_⟩) ?_ ?_
      rotate_left
      ·intro w'
       go_simp; with_reducible rfl
      rotate_left
      ·simp only [Act.put, q1, q2, q3, i64_w, i32_w]
       rfl
      refine pure_ (i := 29) (N := some 110) (v := ?_) (a' := ?_) #[Y,Y,Y,Y,Y,Y,Y,Y,Y,Y,Y,Y,Y,Y,Y,Y,Y,Y,Y,Y,Y,Y,Y,Y,Y,Y,Y,Y,Y,Y,Z,Z,Z,Z,Z,Z,Z] rfl rfl (any_of HT_.out (by kernel_rfl)) (fun _ _ _ h => h) (Or.inl ⟨by rfl, ?_⟩) ?_ ?_
      rotate_left
      ·intro w'
       go_simp; with_reducible rfl
      rotate_left
      ·simp only [Act.put, q1, q2, q3, i64_w, i32_w]
       rfl
      refine pure_ (i := 32) (N := some 113) (v := ?_) (a' := ?_) #[Y,Y,Y,Y,Y,Y,Y,Y,Y,Y,Y,Y,Y,Y,Y,Y,Y,Y,Y,Y,Y,Y,Y,Y,Y,Y,Y,Y,Y,Y,Z,Z,Y,Z,Z,Z,Z] rfl rfl (any_of HT_.out (by kernel_rfl)) (fun _ _ _ h => h) (Or.inl ⟨by rfl, ?_⟩) ?_ ?_
      rotate_left
      ·intro w'
       go_simp; with_reducible rfl
      rotate_left
      ·simp only [Act.put, q1, q2, q3, i64_w, i32_w]
       rfl
      refine pure_ (i := 33) (N := some 114) (v := ?_) (a' := ?_) #[Y,Y,Y,Y,Y,Y,Y,Y,Y,Y,Y,Y,Y,Y,Y,Y,Y,Y,Y,Y,Y,Y,Y,Y,Y,Y,Y,Y,Y,Y,Z,Z,Y,Y,Z,Z,Z] rfl rfl (any_of HT_.out (by kernel_rfl)) (fun _ _ _ h => h) (Or.inl ⟨by rfl, ?_⟩) ?_ ?_
      rotate_left
      ·intro w'
       go_simp; with_reducible rfl
      rotate_left
      ·simp only [Act.put, q1, q2, q3, i64_w, i32_w]
       rfl
      refine take_ (i := 30) (N := some 111) (v := ?_) (a' := ?_) #[Y,Y,Y,Y,Y,Y,Y,Y,Y,Y,Y,Y,Y,Y,Y,Y,Y,Y,Y,Y,Y,Y,Y,Y,Y,Y,Y,Y,Y,Y,Y,Z,Y,Y,Z,Z,Z] rfl rfl (take_ofW HT_.out HW_.out (by kernel_rfl)) (fun _ _ _ h => h) (Or.inl ⟨by rfl, ?_⟩) hHeld ?_ ?_
      rotate_left
      ·rintro w' ⟨s0, s1, s2, s3, s4, s5⟩
       go_simp; with_reducible rfl
      rotate_left
      ·simp only [Act.put, q1, q2, q3, i64_w, i32_w]
       rfl
      refine take_ (i := 34) (N := some 115) (v := ?_) (a' := ?_) #[Y,Y,Y,Y,Y,Y,Y,Y,Y,Y,Y,Y,Y,Y,Y,Y,Y,Y,Y,Y,Y,Y,Y,Y,Y,Y,Y,Y,Y,Y,Y,Z,Y,Y,Y,Z,Z] rfl rfl (take_ofW HT_.out HW_.out (by kernel_rfl)) (fun _ _ _ h => h) (Or.inl ⟨by rfl, ?_⟩) hHeld ?_ ?_
      rotate_left
      ·rintro w' ⟨s0, s1, s2, s3, s4, s5⟩
       go_simp; with_reducible rfl
      rotate_left
      ·simp only [Act.put, q1, q2, q3, i64_w, i32_w]
       rfl
      refine one_ (i := 31) (N := some 112) #[Y,Y,Y,Y,Y,Y,Y,Y,Y,Y,Y,Y,Y,Y,Y,Y,Y,Y,Y,Y,Y,Y,Y,Y,Y,Y,Y,Y,Y,Y,Y,Y,Y,Y,Y,Z,Z] rfl rfl (one_of HT_.out (by kernel_rfl)) (by decide) (fun K hK => ?_)
      refine goes_ Try.func9 (by kernel_rfl) rfl #[.slice Ao8 t284.length co8, .int .i64 (rd (rd_L2 t287 x76_2) 0)] (by rfl) rfl rfl (by (try simp only [List.map_toArray, List.map_cons, List.map_nil]); first | done | rfl | (simp only [List.length_drop, List.length_take]; rfl)) ?_
      with_reducible refine (impl_AreaOfSheet.calls k2 _ _ t284 (rd (rd_L2 t287 x76_2) 0) t306 _ ?side1 ?side2 A40.out).mono ?_
      (case side1 => repeat (first | exact (Kd.S_reads' HO_3.out).2.2 | (with_reducible refine Kd.C_alloc ?_ _) | (with_reducible refine Kd.C_drewN ?_ _) | (with_reducible refine Kd.C_drew ?_)))
      (case side2 => exact (Kd.S_reads' HO_3.out).2.1)
      rintro e w43 ⟨rfl, hb⟩
      have HS0_ := (hb.cell (World.block_lt_of_cell? _ _ (hHeld.1))).trans (hHeld.1); have HS1_ := (hb.cell (World.block_lt_of_cell? _ _ (hHeld.2.1))).trans (hHeld.2.1); have HS2_ := (hb.cell (World.block_lt_of_cell? _ _ (hHeld.2.2.1))).trans (hHeld.2.2.1); have HS3_ := (hb.cell (World.block_lt_of_cell? _ _ (hHeld.2.2.2.1))).trans (hHeld.2.2.2.1); have HS4_ := (hb.cell (World.block_lt_of_cell? _ _ (hHeld.2.2.2.2.1))).trans (hHeld.2.2.2.2.1); have HS5_ := (hb.cell (World.block_lt_of_cell? _ _ (hHeld.2.2.2.2.2))).trans (hHeld.2.2.2.2.2); refine ⟨_, rfl, ?_⟩; have n0_ := m1 (Kd.S_below (by (with_reducible repeat (first | apply sA | apply sB | apply sC)); exact HO_3.out) hb)
      have n1_ := m1 (Kd.S_below (by (with_reducible repeat (first | apply sA | apply sB | apply sC)); exact HO_4.out) hb)
      have n2_ := m1 (Kd.R_below (by (with_reducible repeat (first | apply rA | apply rB | apply rC)); exact HO_6.out) hb)
      have n3_ := m1 (Kd.S_below (by (with_reducible repeat (first | apply sA | apply sB | apply sC)); exact HO_74.out) hb)
      have n4_ := m1 (Kd.R_below (by (with_reducible repeat (first | apply rA | apply rB | apply rC)); exact HL300_0.out) hb)
      have n5_ := m1 (Kd.R_below (by (with_reducible repeat (first | apply rA | apply rB | apply rC)); exact HL303_0.out) hb)
      have n6_ := m1 (Kd.C_below (by repeat (first | (with_reducible exact HR300_0.out) | (with_reducible refine Kd.C_alloc ?_ _) | (with_reducible refine Kd.C_drewN ?_ _) | (with_reducible refine Kd.C_drew ?_) | exact HR300_0.out)) hb)
      have n7_ := m1 (Kd.C_below (by repeat (first | (with_reducible exact HR303_0.out) | (with_reducible refine Kd.C_alloc ?_ _) | (with_reducible refine Kd.C_drewN ?_ _) | (with_reducible refine Kd.C_drew ?_) | exact HR303_0.out)) hb)
      have n8_ := m1 (c6 (by repeat (first | (with_reducible first | exact HB.out | apply c1 | apply c2 | apply c3) | exact HB.out)) hb)
      clear HO_3 HO_4 HO_6 HO_74 HL300_0 HL303_0 HR300_0 HR303_0 HB; have HO_3 := n0_; have HO_4 := n1_; have HO_6 := n2_; have HO_74 := n3_; have HL300_0 := n4_; have HL303_0 := n5_; have HR300_0 := n6_; have HR303_0 := n7_; have HB := n8_; clear n0_ n1_ n2_ n3_ n4_ n5_ n6_ n7_ n8_; (try clear hb)
      (try clear hb2)
      (try clear hk)
      (try clear hi)
      refine hK.out _ _ ⟨HS0_, HS1_, HS2_, HS3_, HS4_, HS5_⟩ (fun hHeld => ?_)
      clear hK K; refine norm_ (a' := ?_) ?_ ?_; rotate_left
      ·show Act.put _ (some 112) _ = _
       simp only [Act.put, q1, q2, q3, i64_w, i32_w]; rfl
      refine pure_ (i := 35) (N := some 116) (v := ?_) (a' := ?_) #[Y,Y,Y,Y,Y,Y,Y,Y,Y,Y,Y,Y,Y,Y,Y,Y,Y,Y,Y,Y,Y,Y,Y,Y,Y,Y,Y,Y,Y,Y,Y,Y,Y,Y,Y,Y,Z] rfl rfl (any_of HT_.out (by kernel_rfl)) (fun _ _ _ h => h) (Or.inl ⟨by rfl, ?_⟩) ?_ ?_
      rotate_left
      ·intro w'
       go_simp; with_reducible rfl
      rotate_left
      ·simp only [Act.put, q1, q2, q3, i64_w, i32_w]
       rfl
      refine pure_ (i := 36) (N := some 117) (v := ?_) (a' := ?_) #[Y,Y,Y,Y,Y,Y,Y,Y,Y,Y,Y,Y,Y,Y,Y,Y,Y,Y,Y,Y,Y,Y,Y,Y,Y,Y,Y,Y,Y,Y,Y,Y,Y,Y,Y,Y,Y] rfl rfl (any_of HT_.out (by kernel_rfl)) (fun _ _ _ h => h) (Or.inl ⟨by rfl, ?_⟩) ?_ ?_
      rotate_left
      ·intro w'
       go_simp; with_reducible rfl
      rotate_left
      ·simp only [Act.put, q1, q2, q3, i64_w, i32_w]
       rfl
      refine done_ (done_of HT_.out (by kernel_rfl)) ?_
      have p308 : 0 ≤ (1 : Int) := (by omega)
      have q308 : 1 < ((rd_L2 t287 x76_2).length : Int) := of_decide_eq_true (by first | (with_reducible assumption) | assumption)
      obtain ⟨ad308, e308, hx308_0⟩ := Kd.at_int (by repeat (first | (with_reducible exact HR300_0.out) | (with_reducible refine Kd.C_alloc ?_ _) | (with_reducible refine Kd.C_drewN ?_ _) | (with_reducible refine Kd.C_drew ?_) | exact HR300_0.out)) 1 p308 q308
      obtain rfl : ad301 = ad308 := (by injection e308)
      (try simp only [show (1 : Int).toNat = 1 from rfl, Nat.reduceMul, Nat.reduceEqDiff, Go.Addr.add, ↓reduceIte] at hx308_0)
      have qi308 : (1 < (rd_L2 t287 x76_2).length) = True := eq_true (by omega)
      (try rw [show ((1 : Int)).toNat = 1 from rfl] at hx308_0)
      replace p308 := eq_true p308; replace q308 := eq_true q308; try go_wp2
      go_roundg k2
      case measure => have := HJ5.out; have := HK2.out; omega
      case rel => exact ⟨(wrap64 (x7_2 + (rd (rd_L2 t287 x76_2) 1))), (wrap64 (x76_2 + 1)), (by first | rfl | (simp; done) | (simp [*]; done)), (by first | rfl | (simp; done) | (simp [*]; done)), H', ⟨by have := HJ5.out; have := HK2.out; omega⟩, ⟨by (with_reducible repeat (first | apply sA | apply sB | apply sC)); exact HO_3.out⟩, ⟨by (with_reducible repeat (first | apply sA | apply sB | apply sC)); exact HO_4.out⟩, ⟨by (with_reducible repeat (first | apply rA | apply rB | apply rC)); exact HO_6.out⟩, ⟨by (with_reducible repeat (first | apply sA | apply sB | apply sC)); exact HO_74.out⟩, ⟨by repeat (first | (with_reducible first | exact HB.out | apply c1 | apply c2 | apply c3) | exact HB.out)⟩⟩
     rw [if_neg c27] at H; have c27b0 : decide (x76_2 < (t287.length : Int)) = false := decide_eq_false c27; clear c27; replace H := Option.bind_eq_some_iff.mp H; obtain ⟨t313, A490, H⟩ := H; replace H : (if 3 < (t291.length : Int) then (if x7_2 = (rd t291 3) then (if t313 < 1 then (laws_FnLedger.j2 k2 t284 t291 t313 true) else ((impl_AreaOfSheet.f k2 t284 t313).bind fun t315 => (if t315 = 0 then ((impl_LastEntryOf.f k2 t284 t313).bind fun t316 => (laws_FnLedger.j2 k2 t284 t291 t313 (t316 != (-1)))) else (laws_FnLedger.j2 k2 t284 t291 t313 true)))) else (laws_FnLedger.j2 k2 t284 t291 t313 true)) else (none)) = some r := H
     have A49 := m1 A490; clear A490; have HC50 := m1 H; clear H; go_upto_region 17 with (first | ((with_reducible refine gate_callee (f := 10) rfl ?_); refine goesL_ (some 125) rfl rfl Try.func10 (by kernel_rfl) rfl #[.slice Ao8 t284.length co8] rfl (by (try simp only [List.map_toArray, List.map_cons, List.map_nil]); first | done | rfl | (simp only [List.length_drop, List.length_take]; rfl)) ?_; (with_reducible refine (impl_NextNumber.calls k2 _ _ t284 t313 _ ?side1 ?side2 A49.out).mono ?_); (case side1 => repeat (first | exact (Kd.S_reads' HO_3.out).2.2 | (with_reducible refine Kd.C_alloc ?_ _) | (with_reducible refine Kd.C_drewN ?_ _) | (with_reducible refine Kd.C_drew ?_))); (case side2 => exact (Kd.S_reads' HO_3.out).2.1); rintro e w51 ⟨rfl, hb⟩; refine ⟨_, rfl, ?_⟩; have n0_ := m1 (Kd.S_below (by (with_reducible repeat (first | apply sA | apply sB | apply sC)); exact HO_3.out) hb); have n1_ := m1 (Kd.S_below (by (with_reducible repeat (first | apply sA | apply sB | apply sC)); exact HO_4.out) hb); have n2_ := m1 (Kd.R_below (by (with_reducible repeat (first | apply rA | apply rB | apply rC)); exact HO_6.out) hb); have n3_ := m1 (Kd.S_below (by (with_reducible repeat (first | apply sA | apply sB | apply sC)); exact HO_74.out) hb); have n4_ := m1 (c6 (by repeat (first | (with_reducible first | exact HB.out | apply c1 | apply c2 | apply c3) | exact HB.out)) hb); clear HO_3; clear HO_4; clear HO_6; clear HO_74; clear HB; have HO_3 := n0_; have HO_4 := n1_; have HO_6 := n2_; have HO_74 := n3_; have HB := n4_; clear n0_ n1_ n2_ n3_ n4_; (try clear hb); (try clear hb2); (try clear hk); (try clear hi)))
     (try simp only [Act.put, q1, q2, q3])
     go_cut [146] (fun v146 wc => ∃ (kq : Nat) (x146_49 : Bool), v146 = .bool x146_49 ∧ Aside0 (laws_FnLedger.j2 kq t284 t291 t313 x146_49 = some r) ∧ Aside0 (kq ≤ k2) ∧ Aside0 (Kd.S (Kd.slice 3 (Kd.int .i64)) 27 wc w.heap.size (fun k_ => some k_ ≠ (v292 : Value).ownBlock) (.slice Ao8 t284.length co8) t284) ∧ Aside0 (Kd.R (Kd.int .i64) 3 wc w.heap.size (fun _ => True) v292 t291) ∧ Aside0 (Below w.heap.size w wc))
     case first =>
      have H := HC50.out; clear HC50; by_cases c52 : 3 < (t291.length : Int)
      rotate_left
      ·rw [if_neg c52] at H
       exact absurd H (by simp)
      rw [if_pos c52] at H; have c52b0 : decide (3 < (t291.length : Int)) = true := decide_eq_true c52; have c52b1 : decide (3 < t291.length) = true := decide_eq_true (by omega)
      clear c52; (first | rw [c52b0] | (simp only [i64_w, i32_w]; rw [c52b0]) | skip)
      by_cases c53 : x7_2 = (rd t291 3)
      rotate_left
      ·rw [if_neg c53] at H
       have c53b0 : (x7_2 == (rd t291 3)) = false := beq_eq_false_iff_ne.mpr c53; have c53b1 : (x7_2 != (rd t291 3)) = true := bne_iff_ne.mpr c53; exact absurd H (by rw [HR_.out]; exact laws_FnLedger.j2_true)
      rw [if_pos c53] at H; have c53b0 : (x7_2 == (rd t291 3)) = true := beq_iff_eq.mpr c53; have c53b1 : (x7_2 != (rd t291 3)) = false := bne_eq_false_iff_eq.mpr c53; clear c53; by_cases c54 : t313 < 1
      ·rw [if_pos c54] at H
       have c54b0 : decide (t313 < 1) = true := decide_eq_true c54; clear c54; exact absurd H (by rw [HR_.out]; exact laws_FnLedger.j2_true)
      rw [if_neg c54] at H; have c54b0 : decide (t313 < 1) = false := decide_eq_false c54; clear c54; replace H := Option.bind_eq_some_iff.mp H; obtain ⟨t315, A550, H⟩ := H; replace H : (if t315 = 0 then ((impl_LastEntryOf.f k2 t284 t313).bind fun t316 => (laws_FnLedger.j2 k2 t284 t291 t313 (t316 != (-1)))) else (laws_FnLedger.j2 k2 t284 t291 t313 true)) = some r := H
      have A55 := m1 A550; clear A550; by_cases c56 : t315 = 0
      rotate_left
      ·rw [if_neg c56] at H
       have c56b0 : (t315 == 0) = false := beq_eq_false_iff_ne.mpr c56; have c56b1 : (t315 != 0) = true := bne_iff_ne.mpr c56; exact absurd H (by rw [HR_.out]; exact laws_FnLedger.j2_true)
      rw [if_pos c56] at H; have c56b0 : (t315 == 0) = true := beq_iff_eq.mpr c56; have c56b1 : (t315 != 0) = false := bne_eq_false_iff_eq.mpr c56; clear c56; replace H := Option.bind_eq_some_iff.mp H; obtain ⟨t316, A570, H⟩ := H; replace H : (laws_FnLedger.j2 k2 t284 t291 t313 (t316 != (-1))) = some r := H; have A57 := m1 A570; clear A570; have H' := m1 H; clear H; obtain ⟨Ao58, co58, eo58⟩ := Kd.R_slice HO_6.out; subst eo58; have p314 : 0 ≤ (3 : Int) := (by omega)
      have q314 : 3 < (t291.length : Int) := of_decide_eq_true (by first | (with_reducible assumption) | assumption)
      (try (obtain ⟨A_, c_, e_⟩ := Kd.R_slice HO_6.out; subst e_)); obtain ⟨ad314, e314, hx314_0⟩ := Kd.at_int (Kd.R_reads' HO_6.out).2.2 3 p314 q314
      cases e314
      (try simp only [show (3 : Int).toNat = 3 from rfl, Nat.reduceMul, Nat.reduceEqDiff, Go.Addr.add, ↓reduceIte] at hx314_0)
      have qi314 : (3 < t291.length) = True := eq_true (by omega)
      (try rw [show ((3 : Int)).toNat = 3 from rfl] at hx314_0)
      replace p314 := eq_true p314; replace q314 := eq_true q314; go_wp2_with (first | (go_at_call 9; (with_reducible refine (impl_AreaOfSheet.calls k2 _ _ t284 t313 t315 _ ?side1 ?side2 A55.out).mono ?_); (case side1 => repeat (first | exact (Kd.S_reads' HO_3.out).2.2 | (with_reducible refine Kd.C_alloc ?_ _) | (with_reducible refine Kd.C_drewN ?_ _) | (with_reducible refine Kd.C_drew ?_))); (case side2 => exact (Kd.S_reads' HO_3.out).2.1); rintro e w59 ⟨rfl, hb⟩; have n0_ := m1 (Kd.S_below (by (with_reducible repeat (first | apply sA | apply sB | apply sC)); exact HO_3.out) hb); have n1_ := m1 (Kd.S_below (by (with_reducible repeat (first | apply sA | apply sB | apply sC)); exact HO_4.out) hb); have n2_ := m1 (Kd.R_below (by (with_reducible repeat (first | apply rA | apply rB | apply rC)); exact HO_6.out) hb); have n3_ := m1 (Kd.S_below (by (with_reducible repeat (first | apply sA | apply sB | apply sC)); exact HO_74.out) hb); have n4_ := m1 (c6 (by repeat (first | (with_reducible first | exact HB.out | apply c1 | apply c2 | apply c3) | exact HB.out)) hb); clear HO_3; clear HO_4; clear HO_6; clear HO_74; clear HB; have HO_3 := n0_; have HO_4 := n1_; have HO_6 := n2_; have HO_74 := n3_; have HB := n4_; clear n0_ n1_ n2_ n3_ n4_; (try clear hb); (try clear hb2); (try clear hk); (try clear hi)) | (go_at_call 11; (with_reducible refine (impl_LastEntryOf.calls k2 _ _ t284 t313 t316 _ ?side1 ?side2 A57.out).mono ?_); (case side1 => repeat (first | exact (Kd.S_reads' HO_3.out).2.2 | (with_reducible refine Kd.C_alloc ?_ _) | (with_reducible refine Kd.C_drewN ?_ _) | (with_reducible refine Kd.C_drew ?_))); (case side2 => exact (Kd.S_reads' HO_3.out).2.1); rintro e w60 ⟨rfl, hb⟩; have n0_ := m1 (Kd.S_below (by (with_reducible repeat (first | apply sA | apply sB | apply sC)); exact HO_3.out) hb); have n1_ := m1 (Kd.S_below (by (with_reducible repeat (first | apply sA | apply sB | apply sC)); exact HO_4.out) hb); have n2_ := m1 (Kd.R_below (by (with_reducible repeat (first | apply rA | apply rB | apply rC)); exact HO_6.out) hb); have n3_ := m1 (Kd.S_below (by (with_reducible repeat (first | apply sA | apply sB | apply sC)); exact HO_74.out) hb); have n4_ := m1 (c6 (by repeat (first | (with_reducible first | exact HB.out | apply c1 | apply c2 | apply c3) | exact HB.out)) hb); clear HO_3; clear HO_4; clear HO_6; clear HO_74; clear HB; have HO_3 := n0_; have HO_4 := n1_; have HO_6 := n2_; have HO_74 := n3_; have HB := n4_; clear n0_ n1_ n2_ n3_ n4_; (try clear hb); (try clear hb2); (try clear hk); (try clear hi)))
      go_meet
      case rel => exact ⟨_, ((t316 != (-1))), (by first | rfl | (simp; done) | (simp [*]; done)), H', ⟨by have := HJ5.out; have := HK2.out; first | omega | exact Nat.le_refl _⟩, ⟨by (with_reducible repeat (first | apply sA | apply sB | apply sC)); exact Kd.S_mono HO_3.out (fun _ hk => hk.2.1)⟩, ⟨by (with_reducible repeat (first | apply rA | apply rB | apply rC)); exact HO_6.out⟩, ⟨by repeat (first | (with_reducible first | exact HB.out | apply c1 | apply c2 | apply c3) | exact HB.out)⟩⟩
     case rest => as_aux_lemma =>
      clear HC50; try clear c1
      try clear c2
      try clear p2
      try clear c3
      try clear p3
      try clear q3
      try clear hx3
      try clear qi3
      try clear c4
      try clear c5
      try clear p6
      try clear c9
      try clear c10
      try clear c27
      try clear c27b0
      try clear c28
      try clear c29
      try clear c30
      try clear c30b0
      try clear c30b1
      try clear p30
      try clear q30
      try clear hx30
      try clear qi30
      try clear c31
      try clear p31
      try clear q31
      try clear hx31
      try clear qi31
      try clear c33
      try clear c33b0
      try clear c34
      try clear c36
      try clear c37
      try clear c38
      try clear c41
      try clear c41b0
      try clear c41b1
      try clear c44
      try clear c44b0
      try clear c44b1
      try clear c46
      try clear c46b0
      try clear c46b1
      try clear c52
      try clear c52b0
      try clear c52b1
      try clear c53
      try clear c53b0
      try clear c53b1
      try clear c54
      try clear c54b0
      try clear c56
      try clear c56b0
      try clear c56b1
      try clear hx300_0
      try clear hx301_0
      try clear hx308_0
      try clear hx309_0
      try clear hx311_0
      try clear hx312_0
      try clear hx314_0
      try clear p300
      try clear p301
      try clear p308
      try clear p309
      try clear p311
      try clear p312
      try clear p314
      try clear q300
      try clear q301
      try clear q308
      try clear q309
      try clear q311
      try clear q312
      try clear q314
      obtain ⟨kq, x146_49, rfl, HA, HJ49, HO_3, HO_6, HB⟩ := hcut
      cases kq with
      | zero => exact absurd HA.out (by simp [laws_FnLedger.j2])
      | succ kj49 =>
       have H := HA.out; clear HA; simp only [laws_FnLedger.j2] at H; by_cases c61 : x146_49 = true
       ·subst c61
        have H1 : (some false) = some r := by rw [if_pos rfl] at H; exact H
        clear H; have H := H1; clear H1; exact absurd (Option.some.inj H) (by rw [HR_.out]; decide)
       replace c61 := Bool.eq_false_iff.mpr c61; subst c61; have H1 : (laws_FnLedger.l1 kj49 t284 t291 t313 (t284.length : Int) 0) = some r := by rw [if_neg (show ¬ (false = true) by decide)] at H; exact H
       clear H; have H := H1; clear H1; have H' := m1 H; clear H; go_wp2
       go_loopg [149] kj49 (fun kq v149 w' => ∃ (x149_4 : Int), v149 = .int .i64 x149_4 ∧ Aside0 (laws_FnLedger.l1 kq t284 t291 t313 (t284.length : Int) x149_4 = some r) ∧ Aside0 (kq ≤ kj49) ∧ Aside0 (Kd.S (Kd.slice 3 (Kd.int .i64)) 27 w' w.heap.size (fun k_ => some k_ ≠ (v292 : Value).ownBlock) (.slice Ao8 t284.length co8) t284) ∧ Aside0 (Kd.R (Kd.int .i64) 3 w' w.heap.size (fun _ => True) v292 t291) ∧ Aside0 (Below w.heap.size w w'))
       case atStart => exact ⟨(0), (by first | rfl | (simp; done) | (simp [*]; done)), H', ⟨Nat.le_refl _⟩, ⟨by (with_reducible repeat (first | apply sA | apply sB | apply sC)); exact HO_3.out⟩, ⟨by (with_reducible repeat (first | apply rA | apply rB | apply rC)); exact HO_6.out⟩, ⟨by repeat (first | (with_reducible first | exact HB.out | apply c1 | apply c2 | apply c3) | exact HB.out)⟩⟩
       case round => as_aux_lemma =>
        clear H'; try clear c1
        try clear c2
        try clear p2
        try clear c3
        try clear p3
        try clear q3
        try clear hx3
        try clear qi3
        try clear c4
        try clear c5
        try clear c6
        try clear p6
        try clear c9
        try clear c10
        try clear c27
        try clear c27b0
        try clear c28
        try clear c29
        try clear c30
        try clear c30b0
        try clear c30b1
        try clear p30
        try clear q30
        try clear hx30
        try clear qi30
        try clear c31
        try clear p31
        try clear q31
        try clear hx31
        try clear qi31
        try clear c33
        try clear c33b0
        try clear c34
        try clear c36
        try clear c37
        try clear c38
        try clear c41
        try clear c41b0
        try clear c41b1
        try clear c44
        try clear c44b0
        try clear c44b1
        try clear c46
        try clear c46b0
        try clear c46b1
        try clear c52
        try clear c52b0
        try clear c52b1
        try clear c53
        try clear c53b0
        try clear c53b1
        try clear c54
        try clear c54b0
        try clear c56
        try clear c56b0
        try clear c56b1
        try clear c61
        try clear hx300_0
        try clear hx301_0
        try clear hx308_0
        try clear hx309_0
        try clear hx311_0
        try clear hx312_0
        try clear hx314_0
        try clear p2
        try clear p3
        try clear p30
        try clear p300
        try clear p301
        try clear p308
        try clear p309
        try clear p31
        try clear p311
        try clear p312
        try clear p314
        try clear p6
        try clear q3
        try clear q30
        try clear q300
        try clear q301
        try clear q308
        try clear q309
        try clear q31
        try clear q311
        try clear q312
        try clear q314
        obtain ⟨x149_4, rfl, HA, HK4, HO_3, HO_6, HB⟩ := hrel
        cases gk with
        | zero => exact absurd HA.out (by simp [laws_FnLedger.l1])
        | succ k4 =>
         have H := HA.out; clear HA; simp only [laws_FnLedger.l1] at H; by_cases c62 : x149_4 < (t284.length : Int)
         ·rw [if_pos c62] at H
          have c62b0 : decide (x149_4 < (t284.length : Int)) = true := decide_eq_true c62; clear c62; by_cases c63 : 0 ≤ x149_4
          rotate_left
          ·rw [if_neg c63] at H
           exact absurd H (by simp)
          rw [if_pos c63] at H; have c63b0 := eq_true c63; have c63b1 : decide (0 ≤ x149_4) = true := decide_eq_true c63; clear c63; by_cases c64 : x149_4 ≤ (t284.length : Int)
          rotate_left
          ·rw [if_neg c64] at H
           exact absurd H (by simp)
          rw [if_pos c64] at H; have c64b0 := eq_true c64; have c64b1 : decide (x149_4 ≤ (t284.length : Int)) = true := decide_eq_true c64; clear c64; obtain ⟨y317, hy317⟩ : ∃ y_ : List (List Int), y_ = (t284.take (x149_4 : Int).toNat) := ⟨_, rfl⟩; replace H : ((impl_LedgerOk.f k4 y317).bind fun t321 => (if t321 = true then (laws_FnLedger.l1 k4 t284 t291 t313 (t284.length : Int) (wrap64 (x149_4 + 1))) else (some false))) = some r := by first | (rw [hy317]; with_reducible exact H) | (have H2_ := (Option.bind_some _ _).symm.trans H; rw [hy317]; with_reducible exact H2_) | (have H2_ := (Option.bind_some _ _).symm.trans H; with_reducible exact H2_) | with_reducible exact H | (rw [hy317]; exact H) | exact H
          have Ny317 := m1 hy317; clear hy317; replace H := Option.bind_eq_some_iff.mp H; obtain ⟨t321, A650, H⟩ := H; replace H : (if t321 = true then (laws_FnLedger.l1 k4 t284 t291 t313 (t284.length : Int) (wrap64 (x149_4 + 1))) else (some false)) = some r := H; have A65 := m1 A650; clear A650; by_cases c66 : t321 = true
          rotate_left
          ·replace c66 := Bool.eq_false_iff.mpr c66
           subst c66; have H1 : (some false) = some r := by rw [if_neg (show ¬ (false = true) by decide)] at H; exact H
           clear H; have H := H1; clear H1; exact absurd (Option.some.inj H) (by rw [HR_.out]; decide)
          subst c66; have H1 : (laws_FnLedger.l1 k4 t284 t291 t313 (t284.length : Int) (wrap64 (x149_4 + 1))) = some r := by rw [if_pos rfl] at H; exact H
          clear H; have H := H1; clear H1; have H' := m1 H; clear H; have q67 : (x149_4 : Int) ≤ ((t284.length : Int) : Int) := of_decide_eq_true (by first | (with_reducible assumption) | assumption)
          obtain ⟨i067, hi067, _, hsz67, _⟩ := info_parts info27; have hroom67 : t284.length ≤ co8 := (Kd.S_reads' HO_3.out).2.1; have hC67 : Kd.C (Kd.slice 3 (Kd.int .i64)) _ Ao8 t284.length t284 := (Kd.S_reads' HO_3.out).2.2; have hcut67 := cut_to (P := Try.prog) 23 27 .i64 Try.underlying23 hi067 Ao8 t284.length co8 x149_4 (of_decide_eq_true (by first | (with_reducible assumption) | assumption)) q67 hroom67
          have hr67 := Kd.C_take (m := (x149_4 : Int).toNat) hC67 (by omega)
          have hy67 : y317.length = (x149_4 : Int).toNat := (by rw [Ny317.out, List.length_take]; omega)
          rw [← Ny317.out] at hr67; rw [← hy67] at hcut67; have HR320 := m1 hr67; have HC320 := m1 (show y317.length ≤ co8 from by omega)
          clear hr67 hC67 hroom67 hi067 hsz67; have KY67 := m1 hy67; clear hy67; have KL67 := m1 (show (x149_4 : Int).toNat ≤ t284.length from by omega)
          replace q67 := eq_true q67; go_wp2_with (first | ((with_reducible refine gate_callee (f := 7) rfl ?_); refine goesL_ (some 155) rfl rfl Try.func7 (by kernel_rfl) rfl #[.slice Ao8 y317.length co8] rfl (by (try simp only [List.map_toArray, List.map_cons, List.map_nil]); first | done | rfl | (simp only [List.length_drop, List.length_take]; rfl)) ?_; (with_reducible refine (impl_LedgerOk.calls k4 _ _ y317 true _ ?side1 ?side2 A65.out).mono ?_); (case side1 => repeat (first | exact (by repeat (first | (with_reducible exact HR320.out) | (with_reducible refine Kd.C_alloc ?_ _) | (with_reducible refine Kd.C_drewN ?_ _) | (with_reducible refine Kd.C_drew ?_) | exact HR320.out)) | (with_reducible refine Kd.C_alloc ?_ _) | (with_reducible refine Kd.C_drewN ?_ _) | (with_reducible refine Kd.C_drew ?_))); (case side2 => exact HC320.out); rintro e w68 ⟨rfl, hb⟩; refine ⟨_, rfl, ?_⟩; have n0_ := m1 (Kd.S_below (by (with_reducible repeat (first | apply sA | apply sB | apply sC)); exact HO_3.out) hb); have n1_ := m1 (Kd.R_below (by (with_reducible repeat (first | apply rA | apply rB | apply rC)); exact HO_6.out) hb); have n2_ := m1 (Kd.C_below (by repeat (first | (with_reducible exact HR320.out) | (with_reducible refine Kd.C_alloc ?_ _) | (with_reducible refine Kd.C_drewN ?_ _) | (with_reducible refine Kd.C_drew ?_) | exact HR320.out)) hb); have n3_ := m1 (c6 (by repeat (first | (with_reducible first | exact HB.out | apply c1 | apply c2 | apply c3) | exact HB.out)) hb); clear HO_3; clear HO_6; clear HR320; clear HB; have HO_3 := n0_; have HO_6 := n1_; have HR320 := n2_; have HB := n3_; clear n0_ n1_ n2_ n3_; (try clear hb); (try clear hb2); (try clear hk); (try clear hi)))
          go_roundg k4
          case measure => have := HJ5.out; have := HK2.out; have := HJ49.out; have := HK4.out; omega
          case rel => exact ⟨(wrap64 (x149_4 + 1)), (by first | rfl | (simp; done) | (simp [*]; done)), H', ⟨by have := HJ5.out; have := HK2.out; have := HJ49.out; have := HK4.out; omega⟩, ⟨by (with_reducible repeat (first | apply sA | apply sB | apply sC)); exact HO_3.out⟩, ⟨by (with_reducible repeat (first | apply rA | apply rB | apply rC)); exact HO_6.out⟩, ⟨by repeat (first | (with_reducible first | exact HB.out | apply c1 | apply c2 | apply c3) | exact HB.out)⟩⟩
         rw [if_neg c62] at H; have c62b0 : decide (x149_4 < (t284.length : Int)) = false := decide_eq_false c62; clear c62; have H' := m1 H; clear H; go_wp2
         go_loopg [160] k4 (fun kq v160 w' => ∃ (x160_5 : Int), v160 = .int .i64 x160_5 ∧ Aside0 (laws_FnLedger.l2 kq t284 t291 t313 t284 (t284.length : Int) x160_5 = some r) ∧ Aside0 (kq ≤ k4) ∧ Aside0 (Kd.S (Kd.slice 3 (Kd.int .i64)) 27 w' w.heap.size (fun k_ => some k_ ≠ (v292 : Value).ownBlock) (.slice Ao8 t284.length co8) t284) ∧ Aside0 (Kd.R (Kd.int .i64) 3 w' w.heap.size (fun _ => True) v292 t291) ∧ Aside0 (Kd.S (Kd.slice 3 (Kd.int .i64)) 27 w' w.heap.size (fun k_ => some k_ ≠ (v292 : Value).ownBlock) (.slice Ao8 t284.length co8) t284) ∧ Aside0 (Below w.heap.size w w'))
         case atStart => exact ⟨(0), (by first | rfl | (simp; done) | (simp [*]; done)), H', ⟨Nat.le_refl _⟩, ⟨by (with_reducible repeat (first | apply sA | apply sB | apply sC)); exact HO_3.out⟩, ⟨by (with_reducible repeat (first | apply rA | apply rB | apply rC)); exact HO_6.out⟩, ⟨by (with_reducible repeat (first | apply sA | apply sB | apply sC)); exact HO_3.out⟩, ⟨by repeat (first | (with_reducible first | exact HB.out | apply c1 | apply c2 | apply c3) | exact HB.out)⟩⟩
         case round => as_aux_lemma =>
          clear H'; try clear c1
          try clear c2
          try clear p2
          try clear c3
          try clear p3
          try clear q3
          try clear hx3
          try clear qi3
          try clear c4
          try clear c5
          try clear c6
          try clear p6
          try clear q6
          try clear c7
          try clear c9
          try clear c10
          try clear c27
          try clear c27b0
          try clear c28
          try clear c29
          try clear c30
          try clear c30b0
          try clear c30b1
          try clear p30
          try clear q30
          try clear hx30
          try clear qi30
          try clear c31
          try clear p31
          try clear q31
          try clear hx31
          try clear qi31
          try clear c33
          try clear c33b0
          try clear c34
          try clear c36
          try clear c37
          try clear c38
          try clear c41
          try clear c41b0
          try clear c41b1
          try clear c44
          try clear c44b0
          try clear c44b1
          try clear c46
          try clear c46b0
          try clear c46b1
          try clear c52
          try clear c52b0
          try clear c52b1
          try clear c53
          try clear c53b0
          try clear c53b1
          try clear c54
          try clear c54b0
          try clear c56
          try clear c56b0
          try clear c56b1
          try clear c61
          try clear c62
          try clear c62b0
          try clear c63
          try clear c63b0
          try clear c63b1
          try clear c64
          try clear c64b0
          try clear c64b1
          try clear p64
          try clear c66
          try clear q67
          try clear hx300_0
          try clear hx301_0
          try clear hx308_0
          try clear hx309_0
          try clear hx311_0
          try clear hx312_0
          try clear hx314_0
          try clear p2
          try clear p3
          try clear p30
          try clear p300
          try clear p301
          try clear p308
          try clear p309
          try clear p31
          try clear p311
          try clear p312
          try clear p314
          try clear p6
          try clear q3
          try clear q30
          try clear q300
          try clear q301
          try clear q308
          try clear q309
          try clear q31
          try clear q311
          try clear q312
          try clear q314
          try clear q67
          obtain ⟨x160_5, rfl, HA, HK5, HO_3, HO_6, HO_158, HB⟩ := hrel
          cases gk with
          | zero => exact absurd HA.out (by simp [laws_FnLedger.l2])
          | succ k5 =>
           have H := HA.out; clear HA; simp only [laws_FnLedger.l2] at H; by_cases c69 : x160_5 < (t284.length : Int)
           ·rw [if_pos c69] at H
            have c69b0 : decide (x160_5 < (t284.length : Int)) = true := decide_eq_true c69; clear c69; by_cases c70 : 0 ≤ x160_5
            rotate_left
            ·rw [if_neg c70] at H
             exact absurd H (by simp)
            rw [if_pos c70] at H; have c70b0 : decide (0 ≤ x160_5) = true := decide_eq_true c70; clear c70; by_cases c71 : x160_5 < (t284.length : Int)
            rotate_left
            ·rw [if_neg c71] at H
             exact absurd H (by simp)
            rw [if_pos c71] at H; have c71b0 : decide (x160_5 < (t284.length : Int)) = true := decide_eq_true c71; clear c71; by_cases c72 : 1 < ((rd_L2 t284 x160_5).length : Int)
            rotate_left
            ·rw [if_neg c72] at H
             exact absurd H (by simp)
            rw [if_pos c72] at H; have c72b0 : decide (1 < ((rd_L2 t284 x160_5).length : Int)) = true := decide_eq_true c72; have c72b1 : decide (1 < (rd_L2 t284 x160_5).length) = true := decide_eq_true (by omega)
            clear c72; replace H := Option.bind_eq_some_iff.mp H; obtain ⟨t324, A730, H⟩ := H; replace H : (if t324 < x160_5 then (some false) else (laws_FnLedger.l2 k5 t284 t291 t313 t284 (t284.length : Int) (wrap64 (x160_5 + 1)))) = some r := H; have A73 := m1 A730; clear A730; by_cases c74 : t324 < x160_5
            ·rw [if_pos c74] at H
             have c74b0 : decide (t324 < x160_5) = true := decide_eq_true c74; clear c74; exact absurd (Option.some.inj H) (by rw [HR_.out]; decide)
            rw [if_neg c74] at H; have c74b0 : decide (t324 < x160_5) = false := decide_eq_false c74; clear c74; have H' := m1 H; clear H; have p322 : 0 ≤ (x160_5 : Int) := of_decide_eq_true (by first | (with_reducible assumption) | assumption)
            have q322 : x160_5 < (t284.length : Int) := of_decide_eq_true (by first | (with_reducible assumption) | assumption)
            obtain ⟨ad322, A322_0, c322_0, e322, hx322_0, hl322_0, hi322_0⟩ := at_L2 (Kd.S_reads' HO_158.out).2.2 x160_5 p322 q322
            cases e322
            obtain ⟨ce322, hce322, hMe322, hcc322⟩ := Kd.S_get HO_158.out [] x160_5 p322 (by first | exact q322 | exact of_decide_eq_true (by first | (with_reducible assumption) | assumption) | (have e_ := (Kd.S_reads' HO_158.out).1; omega))
            obtain ⟨ve322_0, rfl, ge322_0⟩ := hMe322; have hv322_0 := hcc322 0 _ rfl; rw [Nat.add_zero, show ((Kd.slice 3 (Kd.int .i64))).sz = 1 from rfl, Nat.mul_one] at hv322_0; replace hv322_0 := Option.some.inj (hv322_0.symm.trans hx322_0); rw [hv322_0] at ge322_0; have HL322_0 := m1 (show Kd.R (Kd.int .i64) 3 _ _ _ _ (rd_L2 t284 x160_5) from ge322_0); clear hv322_0 ge322_0 hcc322 hce322; have HR322_0 := m1 hi322_0; have HC322_0 := m1 hl322_0; clear hi322_0 hl322_0; replace p322 := eq_true p322; replace q322 := eq_true q322; have p323 : 0 ≤ (1 : Int) := (by omega)
            have q323 : 1 < ((rd_L2 t284 x160_5).length : Int) := of_decide_eq_true (by first | (with_reducible assumption) | assumption)
            obtain ⟨ad323, e323, hx323_0⟩ := Kd.at_int (by repeat (first | (with_reducible exact HR322_0.out) | (with_reducible refine Kd.C_alloc ?_ _) | (with_reducible refine Kd.C_drewN ?_ _) | (with_reducible refine Kd.C_drew ?_) | exact HR322_0.out)) 1 p323 q323
            cases e323
            (try simp only [show (1 : Int).toNat = 1 from rfl, Nat.reduceMul, Nat.reduceEqDiff, Go.Addr.add, ↓reduceIte] at hx323_0)
            have qi323 : (1 < (rd_L2 t284 x160_5).length) = True := eq_true (by omega)
            (try rw [show ((1 : Int)).toNat = 1 from rfl] at hx323_0)
            replace p323 := eq_true p323; replace q323 := eq_true q323; go_wp2_with (first | ((with_reducible refine gate_callee (f := 11) rfl ?_); refine goesL_ (some 169) rfl rfl Try.func11 (by kernel_rfl) rfl #[.slice (some ad322) t284.length co8, .int .i64 (rd (rd_L2 t284 x160_5) 1)] rfl (by (try simp only [List.map_toArray, List.map_cons, List.map_nil]); first | done | rfl | (simp only [List.length_drop, List.length_take]; rfl)) ?_; (with_reducible refine (impl_LastEntryOf.calls k5 _ _ t284 (rd (rd_L2 t284 x160_5) 1) t324 _ ?side1 ?side2 A73.out).mono ?_); (case side1 => repeat (first | exact (Kd.S_reads' HO_3.out).2.2 | (with_reducible refine Kd.C_alloc ?_ _) | (with_reducible refine Kd.C_drewN ?_ _) | (with_reducible refine Kd.C_drew ?_))); (case side2 => exact (Kd.S_reads' HO_3.out).2.1); rintro e w75 ⟨rfl, hb⟩; refine ⟨_, rfl, ?_⟩; have n0_ := m1 (Kd.S_below (by (with_reducible repeat (first | apply sA | apply sB | apply sC)); exact HO_3.out) hb); have n1_ := m1 (Kd.R_below (by (with_reducible repeat (first | apply rA | apply rB | apply rC)); exact HO_6.out) hb); have n2_ := m1 (Kd.S_below (by (with_reducible repeat (first | apply sA | apply sB | apply sC)); exact HO_158.out) hb); have n3_ := m1 (Kd.R_below (by (with_reducible repeat (first | apply rA | apply rB | apply rC)); exact HL322_0.out) hb); have n4_ := m1 (Kd.C_below (by repeat (first | (with_reducible exact HR322_0.out) | (with_reducible refine Kd.C_alloc ?_ _) | (with_reducible refine Kd.C_drewN ?_ _) | (with_reducible refine Kd.C_drew ?_) | exact HR322_0.out)) hb); have n5_ := m1 (c6 (by repeat (first | (with_reducible first | exact HB.out | apply c1 | apply c2 | apply c3) | exact HB.out)) hb); clear HO_3; clear HO_6; clear HO_158; clear HL322_0; clear HR322_0; clear HB; have HO_3 := n0_; have HO_6 := n1_; have HO_158 := n2_; have HL322_0 := n3_; have HR322_0 := n4_; have HB := n5_; clear n0_ n1_ n2_ n3_ n4_ n5_; (try clear hb); (try clear hb2); (try clear hk); (try clear hi)))
            go_roundg k5
            case measure => have := HJ5.out; have := HK2.out; have := HJ49.out; have := HK4.out; have := HK5.out; omega
            case rel => exact ⟨(wrap64 (x160_5 + 1)), (by first | rfl | (simp; done) | (simp [*]; done)), H', ⟨by have := HJ5.out; have := HK2.out; have := HJ49.out; have := HK4.out; have := HK5.out; omega⟩, ⟨by (with_reducible repeat (first | apply sA | apply sB | apply sC)); exact HO_3.out⟩, ⟨by (with_reducible repeat (first | apply rA | apply rB | apply rC)); exact HO_6.out⟩, ⟨by (with_reducible repeat (first | apply sA | apply sB | apply sC)); exact HO_158.out⟩, ⟨by repeat (first | (with_reducible first | exact HB.out | apply c1 | apply c2 | apply c3) | exact HB.out)⟩⟩
           rw [if_neg c69] at H; have c69b0 : decide (x160_5 < (t284.length : Int)) = false := decide_eq_false c69; clear c69; obtain ⟨y325, hy325⟩ : ∃ y_ : List Int, y_ = (([1, t313, 50] : List Int)) := ⟨_, rfl⟩; replace H : ((impl_AddEntry.f k5 t284 y325).bind fun bt328 => ((impl_AddEntry.f k5 bt328.1 (([3, t313, 20] : List Int))).bind fun bt335 => ((impl_NextNumber.f k5 bt328.1).bind fun t339 => ((impl_AddEntry.f k5 bt335.1 (([4, t339, t313] : List Int))).bind fun bt343 => ((impl_AddEntry.f k5 bt343.1 (([5, t313, 50] : List Int))).bind fun bt350 => ((impl_AddEntry.f k5 t284 (([1, t313, 0] : List Int))).bind fun bt357 => ((impl_AddEntry.f k5 bt350.1 (([1, t313, 5] : List Int))).bind fun bt364 => ((impl_TotalsOf.f k5 bt350.1).bind fun t368 => (if bt328.2 = true then (if bt335.2 = true then (if bt343.2 = true then (if bt350.2 = true then (if bt357.2 = true then (some false) else (if bt364.2 = true then (some false) else (if (bt328.1.length : Int) = (wrap64 ((t284.length : Int) + 1)) then ((impl_AreaOfSheet.f k5 bt335.1 t313).bind fun t371 => (if t371 = 30 then ((impl_AreaOfSheet.f k5 bt335.1 t339).bind fun t372 => (if t372 = 20 then ((impl_AreaOfSheet.f k5 bt343.1 t313).bind fun t373 => (if t373 = 50 then ((impl_AreaOfSheet.f k5 bt343.1 t339).bind fun t374 => (if t374 = 0 then (if (t368.length : Int) = 4 then (if 3 < (t368.length : Int) then (if 3 < (t291.length : Int) then (if (rd t368 3) = (rd t291 3) then (if 2 < (t368.length : Int) then (if 2 < (t291.length : Int) then (some ((rd t368 2) == (wrap64 ((rd t291 2) + 50)))) else (none)) else (none)) else (some false)) else (none)) else (none)) else (some false)) else (some false))) else (some false))) else (some false))) else (some false))) else (some false)))) else (some false)) else (some false)) else (some false)) else (some false)))))))))) = some r := by first | (rw [hy325]; with_reducible exact H) | (have H2_ := (Option.bind_some _ _).symm.trans H; rw [hy325]; with_reducible exact H2_) | (have H2_ := (Option.bind_some _ _).symm.trans H; with_reducible exact H2_) | with_reducible exact H | (rw [hy325]; exact H) | exact H
           have Ny325 := m1 hy325; clear hy325; replace H := Option.bind_eq_some_iff.mp H; obtain ⟨⟨t328, t329⟩, A760, H⟩ := H; replace H : ((impl_AddEntry.f k5 t328 (([3, t313, 20] : List Int))).bind fun bt335 => ((impl_NextNumber.f k5 t328).bind fun t339 => ((impl_AddEntry.f k5 bt335.1 (([4, t339, t313] : List Int))).bind fun bt343 => ((impl_AddEntry.f k5 bt343.1 (([5, t313, 50] : List Int))).bind fun bt350 => ((impl_AddEntry.f k5 t284 (([1, t313, 0] : List Int))).bind fun bt357 => ((impl_AddEntry.f k5 bt350.1 (([1, t313, 5] : List Int))).bind fun bt364 => ((impl_TotalsOf.f k5 bt350.1).bind fun t368 => (if t329 = true then (if bt335.2 = true then (if bt343.2 = true then (if bt350.2 = true then (if bt357.2 = true then (some false) else (if bt364.2 = true then (some false) else (if (t328.length : Int) = (wrap64 ((t284.length : Int) + 1)) then ((impl_AreaOfSheet.f k5 bt335.1 t313).bind fun t371 => (if t371 = 30 then ((impl_AreaOfSheet.f k5 bt335.1 t339).bind fun t372 => (if t372 = 20 then ((impl_AreaOfSheet.f k5 bt343.1 t313).bind fun t373 => (if t373 = 50 then ((impl_AreaOfSheet.f k5 bt343.1 t339).bind fun t374 => (if t374 = 0 then (if (t368.length : Int) = 4 then (if 3 < (t368.length : Int) then (if 3 < (t291.length : Int) then (if (rd t368 3) = (rd t291 3) then (if 2 < (t368.length : Int) then (if 2 < (t291.length : Int) then (some ((rd t368 2) == (wrap64 ((rd t291 2) + 50)))) else (none)) else (none)) else (some false)) else (none)) else (none)) else (some false)) else (some false))) else (some false))) else (some false))) else (some false))) else (some false)))) else (some false)) else (some false)) else (some false)) else (some false))))))))) = some r := H
           have A76 := m1 A760; clear A760; obtain ⟨y332, hy332⟩ : ∃ y_ : List Int, y_ = (([3, t313, 20] : List Int)) := ⟨_, rfl⟩; replace H : ((impl_AddEntry.f k5 t328 y332).bind fun bt335 => ((impl_NextNumber.f k5 t328).bind fun t339 => ((impl_AddEntry.f k5 bt335.1 (([4, t339, t313] : List Int))).bind fun bt343 => ((impl_AddEntry.f k5 bt343.1 (([5, t313, 50] : List Int))).bind fun bt350 => ((impl_AddEntry.f k5 t284 (([1, t313, 0] : List Int))).bind fun bt357 => ((impl_AddEntry.f k5 bt350.1 (([1, t313, 5] : List Int))).bind fun bt364 => ((impl_TotalsOf.f k5 bt350.1).bind fun t368 => (if t329 = true then (if bt335.2 = true then (if bt343.2 = true then (if bt350.2 = true then (if bt357.2 = true then (some false) else (if bt364.2 = true then (some false) else (if (t328.length : Int) = (wrap64 ((t284.length : Int) + 1)) then ((impl_AreaOfSheet.f k5 bt335.1 t313).bind fun t371 => (if t371 = 30 then ((impl_AreaOfSheet.f k5 bt335.1 t339).bind fun t372 => (if t372 = 20 then ((impl_AreaOfSheet.f k5 bt343.1 t313).bind fun t373 => (if t373 = 50 then ((impl_AreaOfSheet.f k5 bt343.1 t339).bind fun t374 => (if t374 = 0 then (if (t368.length : Int) = 4 then (if 3 < (t368.length : Int) then (if 3 < (t291.length : Int) then (if (rd t368 3) = (rd t291 3) then (if 2 < (t368.length : Int) then (if 2 < (t291.length : Int) then (some ((rd t368 2) == (wrap64 ((rd t291 2) + 50)))) else (none)) else (none)) else (some false)) else (none)) else (none)) else (some false)) else (some false))) else (some false))) else (some false))) else (some false))) else (some false)))) else (some false)) else (some false)) else (some false)) else (some false))))))))) = some r := by first | (rw [hy332]; with_reducible exact H) | (have H2_ := (Option.bind_some _ _).symm.trans H; rw [hy332]; with_reducible exact H2_) | (have H2_ := (Option.bind_some _ _).symm.trans H; with_reducible exact H2_) | with_reducible exact H | (rw [hy332]; exact H) | exact H
           have Ny332 := m1 hy332; clear hy332; replace H := Option.bind_eq_some_iff.mp H; obtain ⟨⟨t335, t336⟩, A770, H⟩ := H; replace H : ((impl_NextNumber.f k5 t328).bind fun t339 => ((impl_AddEntry.f k5 t335 (([4, t339, t313] : List Int))).bind fun bt343 => ((impl_AddEntry.f k5 bt343.1 (([5, t313, 50] : List Int))).bind fun bt350 => ((impl_AddEntry.f k5 t284 (([1, t313, 0] : List Int))).bind fun bt357 => ((impl_AddEntry.f k5 bt350.1 (([1, t313, 5] : List Int))).bind fun bt364 => ((impl_TotalsOf.f k5 bt350.1).bind fun t368 => (if t329 = true then (if t336 = true then (if bt343.2 = true then (if bt350.2 = true then (if bt357.2 = true then (some false) else (if bt364.2 = true then (some false) else (if (t328.length : Int) = (wrap64 ((t284.length : Int) + 1)) then ((impl_AreaOfSheet.f k5 t335 t313).bind fun t371 => (if t371 = 30 then ((impl_AreaOfSheet.f k5 t335 t339).bind fun t372 => (if t372 = 20 then ((impl_AreaOfSheet.f k5 bt343.1 t313).bind fun t373 => (if t373 = 50 then ((impl_AreaOfSheet.f k5 bt343.1 t339).bind fun t374 => (if t374 = 0 then (if (t368.length : Int) = 4 then (if 3 < (t368.length : Int) then (if 3 < (t291.length : Int) then (if (rd t368 3) = (rd t291 3) then (if 2 < (t368.length : Int) then (if 2 < (t291.length : Int) then (some ((rd t368 2) == (wrap64 ((rd t291 2) + 50)))) else (none)) else (none)) else (some false)) else (none)) else (none)) else (some false)) else (some false))) else (some false))) else (some false))) else (some false))) else (some false)))) else (some false)) else (some false)) else (some false)) else (some false)))))))) = some r := H
           have A77 := m1 A770; clear A770; replace H := Option.bind_eq_some_iff.mp H; obtain ⟨t339, A780, H⟩ := H; replace H : ((impl_AddEntry.f k5 t335 (([4, t339, t313] : List Int))).bind fun bt343 => ((impl_AddEntry.f k5 bt343.1 (([5, t313, 50] : List Int))).bind fun bt350 => ((impl_AddEntry.f k5 t284 (([1, t313, 0] : List Int))).bind fun bt357 => ((impl_AddEntry.f k5 bt350.1 (([1, t313, 5] : List Int))).bind fun bt364 => ((impl_TotalsOf.f k5 bt350.1).bind fun t368 => (if t329 = true then (if t336 = true then (if bt343.2 = true then (if bt350.2 = true then (if bt357.2 = true then (some false) else (if bt364.2 = true then (some false) else (if (t328.length : Int) = (wrap64 ((t284.length : Int) + 1)) then ((impl_AreaOfSheet.f k5 t335 t313).bind fun t371 => (if t371 = 30 then ((impl_AreaOfSheet.f k5 t335 t339).bind fun t372 => (if t372 = 20 then ((impl_AreaOfSheet.f k5 bt343.1 t313).bind fun t373 => (if t373 = 50 then ((impl_AreaOfSheet.f k5 bt343.1 t339).bind fun t374 => (if t374 = 0 then (if (t368.length : Int) = 4 then (if 3 < (t368.length : Int) then (if 3 < (t291.length : Int) then (if (rd t368 3) = (rd t291 3) then (if 2 < (t368.length : Int) then (if 2 < (t291.length : Int) then (some ((rd t368 2) == (wrap64 ((rd t291 2) + 50)))) else (none)) else (none)) else (some false)) else (none)) else (none)) else (some false)) else (some false))) else (some false))) else (some false))) else (some false))) else (some false)))) else (some false)) else (some false)) else (some false)) else (some false))))))) = some r := H
           have A78 := m1 A780; clear A780; obtain ⟨y340, hy340⟩ : ∃ y_ : List Int, y_ = (([4, t339, t313] : List Int)) := ⟨_, rfl⟩; replace H : ((impl_AddEntry.f k5 t335 y340).bind fun bt343 => ((impl_AddEntry.f k5 bt343.1 (([5, t313, 50] : List Int))).bind fun bt350 => ((impl_AddEntry.f k5 t284 (([1, t313, 0] : List Int))).bind fun bt357 => ((impl_AddEntry.f k5 bt350.1 (([1, t313, 5] : List Int))).bind fun bt364 => ((impl_TotalsOf.f k5 bt350.1).bind fun t368 => (if t329 = true then (if t336 = true then (if bt343.2 = true then (if bt350.2 = true then (if bt357.2 = true then (some false) else (if bt364.2 = true then (some false) else (if (t328.length : Int) = (wrap64 ((t284.length : Int) + 1)) then ((impl_AreaOfSheet.f k5 t335 t313).bind fun t371 => (if t371 = 30 then ((impl_AreaOfSheet.f k5 t335 t339).bind fun t372 => (if t372 = 20 then ((impl_AreaOfSheet.f k5 bt343.1 t313).bind fun t373 => (if t373 = 50 then ((impl_AreaOfSheet.f k5 bt343.1 t339).bind fun t374 => (if t374 = 0 then (if (t368.length : Int) = 4 then (if 3 < (t368.length : Int) then (if 3 < (t291.length : Int) then (if (rd t368 3) = (rd t291 3) then (if 2 < (t368.length : Int) then (if 2 < (t291.length : Int) then (some ((rd t368 2) == (wrap64 ((rd t291 2) + 50)))) else (none)) else (none)) else (some false)) else (none)) else (none)) else (some false)) else (some false))) else (some false))) else (some false))) else (some false))) else (some false)))) else (some false)) else (some false)) else (some false)) else (some false))))))) = some r := by first | (rw [hy340]; with_reducible exact H) | (have H2_ := (Option.bind_some _ _).symm.trans H; rw [hy340]; with_reducible exact H2_) | (have H2_ := (Option.bind_some _ _).symm.trans H; with_reducible exact H2_) | with_reducible exact H | (rw [hy340]; exact H) | exact H
           have Ny340 := m1 hy340; clear hy340; replace H := Option.bind_eq_some_iff.mp H; obtain ⟨⟨t343, t344⟩, A790, H⟩ := H; replace H : ((impl_AddEntry.f k5 t343 (([5, t313, 50] : List Int))).bind fun bt350 => ((impl_AddEntry.f k5 t284 (([1, t313, 0] : List Int))).bind fun bt357 => ((impl_AddEntry.f k5 bt350.1 (([1, t313, 5] : List Int))).bind fun bt364 => ((impl_TotalsOf.f k5 bt350.1).bind fun t368 => (if t329 = true then (if t336 = true then (if t344 = true then (if bt350.2 = true then (if bt357.2 = true then (some false) else (if bt364.2 = true then (some false) else (if (t328.length : Int) = (wrap64 ((t284.length : Int) + 1)) then ((impl_AreaOfSheet.f k5 t335 t313).bind fun t371 => (if t371 = 30 then ((impl_AreaOfSheet.f k5 t335 t339).bind fun t372 => (if t372 = 20 then ((impl_AreaOfSheet.f k5 t343 t313).bind fun t373 => (if t373 = 50 then ((impl_AreaOfSheet.f k5 t343 t339).bind fun t374 => (if t374 = 0 then (if (t368.length : Int) = 4 then (if 3 < (t368.length : Int) then (if 3 < (t291.length : Int) then (if (rd t368 3) = (rd t291 3) then (if 2 < (t368.length : Int) then (if 2 < (t291.length : Int) then (some ((rd t368 2) == (wrap64 ((rd t291 2) + 50)))) else (none)) else (none)) else (some false)) else (none)) else (none)) else (some false)) else (some false))) else (some false))) else (some false))) else (some false))) else (some false)))) else (some false)) else (some false)) else (some false)) else (some false)))))) = some r := H
           have A79 := m1 A790; clear A790; obtain ⟨y347, hy347⟩ : ∃ y_ : List Int, y_ = (([5, t313, 50] : List Int)) := ⟨_, rfl⟩; replace H : ((impl_AddEntry.f k5 t343 y347).bind fun bt350 => ((impl_AddEntry.f k5 t284 (([1, t313, 0] : List Int))).bind fun bt357 => ((impl_AddEntry.f k5 bt350.1 (([1, t313, 5] : List Int))).bind fun bt364 => ((impl_TotalsOf.f k5 bt350.1).bind fun t368 => (if t329 = true then (if t336 = true then (if t344 = true then (if bt350.2 = true then (if bt357.2 = true then (some false) else (if bt364.2 = true then (some false) else (if (t328.length : Int) = (wrap64 ((t284.length : Int) + 1)) then ((impl_AreaOfSheet.f k5 t335 t313).bind fun t371 => (if t371 = 30 then ((impl_AreaOfSheet.f k5 t335 t339).bind fun t372 => (if t372 = 20 then ((impl_AreaOfSheet.f k5 t343 t313).bind fun t373 => (if t373 = 50 then ((impl_AreaOfSheet.f k5 t343 t339).bind fun t374 => (if t374 = 0 then (if (t368.length : Int) = 4 then (if 3 < (t368.length : Int) then (if 3 < (t291.length : Int) then (if (rd t368 3) = (rd t291 3) then (if 2 < (t368.length : Int) then (if 2 < (t291.length : Int) then (some ((rd t368 2) == (wrap64 ((rd t291 2) + 50)))) else (none)) else (none)) else (some false)) else (none)) else (none)) else (some false)) else (some false))) else (some false))) else (some false))) else (some false))) else (some false)))) else (some false)) else (some false)) else (some false)) else (some false)))))) = some r := by first | (rw [hy347]; with_reducible exact H) | (have H2_ := (Option.bind_some _ _).symm.trans H; rw [hy347]; with_reducible exact H2_) | (have H2_ := (Option.bind_some _ _).symm.trans H; with_reducible exact H2_) | with_reducible exact H | (rw [hy347]; exact H) | exact H
           have Ny347 := m1 hy347; clear hy347; replace H := Option.bind_eq_some_iff.mp H; obtain ⟨⟨t350, t351⟩, A800, H⟩ := H; replace H : ((impl_AddEntry.f k5 t284 (([1, t313, 0] : List Int))).bind fun bt357 => ((impl_AddEntry.f k5 t350 (([1, t313, 5] : List Int))).bind fun bt364 => ((impl_TotalsOf.f k5 t350).bind fun t368 => (if t329 = true then (if t336 = true then (if t344 = true then (if t351 = true then (if bt357.2 = true then (some false) else (if bt364.2 = true then (some false) else (if (t328.length : Int) = (wrap64 ((t284.length : Int) + 1)) then ((impl_AreaOfSheet.f k5 t335 t313).bind fun t371 => (if t371 = 30 then ((impl_AreaOfSheet.f k5 t335 t339).bind fun t372 => (if t372 = 20 then ((impl_AreaOfSheet.f k5 t343 t313).bind fun t373 => (if t373 = 50 then ((impl_AreaOfSheet.f k5 t343 t339).bind fun t374 => (if t374 = 0 then (if (t368.length : Int) = 4 then (if 3 < (t368.length : Int) then (if 3 < (t291.length : Int) then (if (rd t368 3) = (rd t291 3) then (if 2 < (t368.length : Int) then (if 2 < (t291.length : Int) then (some ((rd t368 2) == (wrap64 ((rd t291 2) + 50)))) else (none)) else (none)) else (some false)) else (none)) else (none)) else (some false)) else (some false))) else (some false))) else (some false))) else (some false))) else (some false)))) else (some false)) else (some false)) else (some false)) else (some false))))) = some r := H
           have A80 := m1 A800; clear A800; obtain ⟨y354, hy354⟩ : ∃ y_ : List Int, y_ = (([1, t313, 0] : List Int)) := ⟨_, rfl⟩; replace H : ((impl_AddEntry.f k5 t284 y354).bind fun bt357 => ((impl_AddEntry.f k5 t350 (([1, t313, 5] : List Int))).bind fun bt364 => ((impl_TotalsOf.f k5 t350).bind fun t368 => (if t329 = true then (if t336 = true then (if t344 = true then (if t351 = true then (if bt357.2 = true then (some false) else (if bt364.2 = true then (some false) else (if (t328.length : Int) = (wrap64 ((t284.length : Int) + 1)) then ((impl_AreaOfSheet.f k5 t335 t313).bind fun t371 => (if t371 = 30 then ((impl_AreaOfSheet.f k5 t335 t339).bind fun t372 => (if t372 = 20 then ((impl_AreaOfSheet.f k5 t343 t313).bind fun t373 => (if t373 = 50 then ((impl_AreaOfSheet.f k5 t343 t339).bind fun t374 => (if t374 = 0 then (if (t368.length : Int) = 4 then (if 3 < (t368.length : Int) then (if 3 < (t291.length : Int) then (if (rd t368 3) = (rd t291 3) then (if 2 < (t368.length : Int) then (if 2 < (t291.length : Int) then (some ((rd t368 2) == (wrap64 ((rd t291 2) + 50)))) else (none)) else (none)) else (some false)) else (none)) else (none)) else (some false)) else (some false))) else (some false))) else (some false))) else (some false))) else (some false)))) else (some false)) else (some false)) else (some false)) else (some false))))) = some r := by first | (rw [hy354]; with_reducible exact H) | (have H2_ := (Option.bind_some _ _).symm.trans H; rw [hy354]; with_reducible exact H2_) | (have H2_ := (Option.bind_some _ _).symm.trans H; with_reducible exact H2_) | with_reducible exact H | (rw [hy354]; exact H) | exact H
           have Ny354 := m1 hy354; clear hy354; replace H := Option.bind_eq_some_iff.mp H; obtain ⟨⟨t357, t358⟩, A810, H⟩ := H; replace H : ((impl_AddEntry.f k5 t350 (([1, t313, 5] : List Int))).bind fun bt364 => ((impl_TotalsOf.f k5 t350).bind fun t368 => (if t329 = true then (if t336 = true then (if t344 = true then (if t351 = true then (if t358 = true then (some false) else (if bt364.2 = true then (some false) else (if (t328.length : Int) = (wrap64 ((t284.length : Int) + 1)) then ((impl_AreaOfSheet.f k5 t335 t313).bind fun t371 => (if t371 = 30 then ((impl_AreaOfSheet.f k5 t335 t339).bind fun t372 => (if t372 = 20 then ((impl_AreaOfSheet.f k5 t343 t313).bind fun t373 => (if t373 = 50 then ((impl_AreaOfSheet.f k5 t343 t339).bind fun t374 => (if t374 = 0 then (if (t368.length : Int) = 4 then (if 3 < (t368.length : Int) then (if 3 < (t291.length : Int) then (if (rd t368 3) = (rd t291 3) then (if 2 < (t368.length : Int) then (if 2 < (t291.length : Int) then (some ((rd t368 2) == (wrap64 ((rd t291 2) + 50)))) else (none)) else (none)) else (some false)) else (none)) else (none)) else (some false)) else (some false))) else (some false))) else (some false))) else (some false))) else (some false)))) else (some false)) else (some false)) else (some false)) else (some false)))) = some r := H
           have A81 := m1 A810; clear A810; obtain ⟨y361, hy361⟩ : ∃ y_ : List Int, y_ = (([1, t313, 5] : List Int)) := ⟨_, rfl⟩; replace H : ((impl_AddEntry.f k5 t350 y361).bind fun bt364 => ((impl_TotalsOf.f k5 t350).bind fun t368 => (if t329 = true then (if t336 = true then (if t344 = true then (if t351 = true then (if t358 = true then (some false) else (if bt364.2 = true then (some false) else (if (t328.length : Int) = (wrap64 ((t284.length : Int) + 1)) then ((impl_AreaOfSheet.f k5 t335 t313).bind fun t371 => (if t371 = 30 then ((impl_AreaOfSheet.f k5 t335 t339).bind fun t372 => (if t372 = 20 then ((impl_AreaOfSheet.f k5 t343 t313).bind fun t373 => (if t373 = 50 then ((impl_AreaOfSheet.f k5 t343 t339).bind fun t374 => (if t374 = 0 then (if (t368.length : Int) = 4 then (if 3 < (t368.length : Int) then (if 3 < (t291.length : Int) then (if (rd t368 3) = (rd t291 3) then (if 2 < (t368.length : Int) then (if 2 < (t291.length : Int) then (some ((rd t368 2) == (wrap64 ((rd t291 2) + 50)))) else (none)) else (none)) else (some false)) else (none)) else (none)) else (some false)) else (some false))) else (some false))) else (some false))) else (some false))) else (some false)))) else (some false)) else (some false)) else (some false)) else (some false)))) = some r := by first | (rw [hy361]; with_reducible exact H) | (have H2_ := (Option.bind_some _ _).symm.trans H; rw [hy361]; with_reducible exact H2_) | (have H2_ := (Option.bind_some _ _).symm.trans H; with_reducible exact H2_) | with_reducible exact H | (rw [hy361]; exact H) | exact H
           have Ny361 := m1 hy361; clear hy361; replace H := Option.bind_eq_some_iff.mp H; obtain ⟨⟨t364, t365⟩, A820, H⟩ := H; replace H : ((impl_TotalsOf.f k5 t350).bind fun t368 => (if t329 = true then (if t336 = true then (if t344 = true then (if t351 = true then (if t358 = true then (some false) else (if t365 = true then (some false) else (if (t328.length : Int) = (wrap64 ((t284.length : Int) + 1)) then ((impl_AreaOfSheet.f k5 t335 t313).bind fun t371 => (if t371 = 30 then ((impl_AreaOfSheet.f k5 t335 t339).bind fun t372 => (if t372 = 20 then ((impl_AreaOfSheet.f k5 t343 t313).bind fun t373 => (if t373 = 50 then ((impl_AreaOfSheet.f k5 t343 t339).bind fun t374 => (if t374 = 0 then (if (t368.length : Int) = 4 then (if 3 < (t368.length : Int) then (if 3 < (t291.length : Int) then (if (rd t368 3) = (rd t291 3) then (if 2 < (t368.length : Int) then (if 2 < (t291.length : Int) then (some ((rd t368 2) == (wrap64 ((rd t291 2) + 50)))) else (none)) else (none)) else (some false)) else (none)) else (none)) else (some false)) else (some false))) else (some false))) else (some false))) else (some false))) else (some false)))) else (some false)) else (some false)) else (some false)) else (some false))) = some r := H
           have A82 := m1 A820; clear A820; replace H := Option.bind_eq_some_iff.mp H; obtain ⟨t368, A830, H⟩ := H; replace H : (if t329 = true then (if t336 = true then (if t344 = true then (if t351 = true then (if t358 = true then (some false) else (if t365 = true then (some false) else (if (t328.length : Int) = (wrap64 ((t284.length : Int) + 1)) then ((impl_AreaOfSheet.f k5 t335 t313).bind fun t371 => (if t371 = 30 then ((impl_AreaOfSheet.f k5 t335 t339).bind fun t372 => (if t372 = 20 then ((impl_AreaOfSheet.f k5 t343 t313).bind fun t373 => (if t373 = 50 then ((impl_AreaOfSheet.f k5 t343 t339).bind fun t374 => (if t374 = 0 then (if (t368.length : Int) = 4 then (if 3 < (t368.length : Int) then (if 3 < (t291.length : Int) then (if (rd t368 3) = (rd t291 3) then (if 2 < (t368.length : Int) then (if 2 < (t291.length : Int) then (some ((rd t368 2) == (wrap64 ((rd t291 2) + 50)))) else (none)) else (none)) else (some false)) else (none)) else (none)) else (some false)) else (some false))) else (some false))) else (some false))) else (some false))) else (some false)))) else (some false)) else (some false)) else (some false)) else (some false)) = some r := H
           have A83 := m1 A830; clear A830; by_cases c84 : t329 = true
           rotate_left
           ·replace c84 := Bool.eq_false_iff.mpr c84
            subst c84; have H1 : (some false) = some r := by rw [if_neg (show ¬ (false = true) by decide)] at H; exact H
            clear H; have H := H1; clear H1; exact absurd (Option.some.inj H) (by rw [HR_.out]; decide)
           subst c84; have H1 : (if t336 = true then (if t344 = true then (if t351 = true then (if t358 = true then (some false) else (if t365 = true then (some false) else (if (t328.length : Int) = (wrap64 ((t284.length : Int) + 1)) then ((impl_AreaOfSheet.f k5 t335 t313).bind fun t371 => (if t371 = 30 then ((impl_AreaOfSheet.f k5 t335 t339).bind fun t372 => (if t372 = 20 then ((impl_AreaOfSheet.f k5 t343 t313).bind fun t373 => (if t373 = 50 then ((impl_AreaOfSheet.f k5 t343 t339).bind fun t374 => (if t374 = 0 then (if (t368.length : Int) = 4 then (if 3 < (t368.length : Int) then (if 3 < (t291.length : Int) then (if (rd t368 3) = (rd t291 3) then (if 2 < (t368.length : Int) then (if 2 < (t291.length : Int) then (some ((rd t368 2) == (wrap64 ((rd t291 2) + 50)))) else (none)) else (none)) else (some false)) else (none)) else (none)) else (some false)) else (some false))) else (some false))) else (some false))) else (some false))) else (some false)))) else (some false)) else (some false)) else (some false)) = some r := by rw [if_pos rfl] at H; exact H
           clear H; have H := H1; clear H1; by_cases c85 : t336 = true
           rotate_left
           ·replace c85 := Bool.eq_false_iff.mpr c85
            subst c85; have H1 : (some false) = some r := by rw [if_neg (show ¬ (false = true) by decide)] at H; exact H
            clear H; have H := H1; clear H1; exact absurd (Option.some.inj H) (by rw [HR_.out]; decide)
           subst c85; have H1 : (if t344 = true then (if t351 = true then (if t358 = true then (some false) else (if t365 = true then (some false) else (if (t328.length : Int) = (wrap64 ((t284.length : Int) + 1)) then ((impl_AreaOfSheet.f k5 t335 t313).bind fun t371 => (if t371 = 30 then ((impl_AreaOfSheet.f k5 t335 t339).bind fun t372 => (if t372 = 20 then ((impl_AreaOfSheet.f k5 t343 t313).bind fun t373 => (if t373 = 50 then ((impl_AreaOfSheet.f k5 t343 t339).bind fun t374 => (if t374 = 0 then (if (t368.length : Int) = 4 then (if 3 < (t368.length : Int) then (if 3 < (t291.length : Int) then (if (rd t368 3) = (rd t291 3) then (if 2 < (t368.length : Int) then (if 2 < (t291.length : Int) then (some ((rd t368 2) == (wrap64 ((rd t291 2) + 50)))) else (none)) else (none)) else (some false)) else (none)) else (none)) else (some false)) else (some false))) else (some false))) else (some false))) else (some false))) else (some false)))) else (some false)) else (some false)) = some r := by rw [if_pos rfl] at H; exact H
           clear H; have H := H1; clear H1; by_cases c86 : t344 = true
           rotate_left
           ·replace c86 := Bool.eq_false_iff.mpr c86
            subst c86; have H1 : (some false) = some r := by rw [if_neg (show ¬ (false = true) by decide)] at H; exact H
            clear H; have H := H1; clear H1; exact absurd (Option.some.inj H) (by rw [HR_.out]; decide)
           subst c86; have H1 : (if t351 = true then (if t358 = true then (some false) else (if t365 = true then (some false) else (if (t328.length : Int) = (wrap64 ((t284.length : Int) + 1)) then ((impl_AreaOfSheet.f k5 t335 t313).bind fun t371 => (if t371 = 30 then ((impl_AreaOfSheet.f k5 t335 t339).bind fun t372 => (if t372 = 20 then ((impl_AreaOfSheet.f k5 t343 t313).bind fun t373 => (if t373 = 50 then ((impl_AreaOfSheet.f k5 t343 t339).bind fun t374 => (if t374 = 0 then (if (t368.length : Int) = 4 then (if 3 < (t368.length : Int) then (if 3 < (t291.length : Int) then (if (rd t368 3) = (rd t291 3) then (if 2 < (t368.length : Int) then (if 2 < (t291.length : Int) then (some ((rd t368 2) == (wrap64 ((rd t291 2) + 50)))) else (none)) else (none)) else (some false)) else (none)) else (none)) else (some false)) else (some false))) else (some false))) else (some false))) else (some false))) else (some false)))) else (some false)) = some r := by rw [if_pos rfl] at H; exact H
           clear H; have H := H1; clear H1; by_cases c87 : t351 = true
           rotate_left
           ·replace c87 := Bool.eq_false_iff.mpr c87
            subst c87; have H1 : (some false) = some r := by rw [if_neg (show ¬ (false = true) by decide)] at H; exact H
            clear H; have H := H1; clear H1; exact absurd (Option.some.inj H) (by rw [HR_.out]; decide)
           subst c87; have H1 : (if t358 = true then (some false) else (if t365 = true then (some false) else (if (t328.length : Int) = (wrap64 ((t284.length : Int) + 1)) then ((impl_AreaOfSheet.f k5 t335 t313).bind fun t371 => (if t371 = 30 then ((impl_AreaOfSheet.f k5 t335 t339).bind fun t372 => (if t372 = 20 then ((impl_AreaOfSheet.f k5 t343 t313).bind fun t373 => (if t373 = 50 then ((impl_AreaOfSheet.f k5 t343 t339).bind fun t374 => (if t374 = 0 then (if (t368.length : Int) = 4 then (if 3 < (t368.length : Int) then (if 3 < (t291.length : Int) then (if (rd t368 3) = (rd t291 3) then (if 2 < (t368.length : Int) then (if 2 < (t291.length : Int) then (some ((rd t368 2) == (wrap64 ((rd t291 2) + 50)))) else (none)) else (none)) else (some false)) else (none)) else (none)) else (some false)) else (some false))) else (some false))) else (some false))) else (some false))) else (some false)))) = some r := by rw [if_pos rfl] at H; exact H
           clear H; have H := H1; clear H1; by_cases c88 : t358 = true
           ·subst c88
            have H1 : (some false) = some r := by rw [if_pos rfl] at H; exact H
            clear H; have H := H1; clear H1; exact absurd (Option.some.inj H) (by rw [HR_.out]; decide)
           replace c88 := Bool.eq_false_iff.mpr c88; subst c88; have H1 : (if t365 = true then (some false) else (if (t328.length : Int) = (wrap64 ((t284.length : Int) + 1)) then ((impl_AreaOfSheet.f k5 t335 t313).bind fun t371 => (if t371 = 30 then ((impl_AreaOfSheet.f k5 t335 t339).bind fun t372 => (if t372 = 20 then ((impl_AreaOfSheet.f k5 t343 t313).bind fun t373 => (if t373 = 50 then ((impl_AreaOfSheet.f k5 t343 t339).bind fun t374 => (if t374 = 0 then (if (t368.length : Int) = 4 then (if 3 < (t368.length : Int) then (if 3 < (t291.length : Int) then (if (rd t368 3) = (rd t291 3) then (if 2 < (t368.length : Int) then (if 2 < (t291.length : Int) then (some ((rd t368 2) == (wrap64 ((rd t291 2) + 50)))) else (none)) else (none)) else (some false)) else (none)) else (none)) else (some false)) else (some false))) else (some false))) else (some false))) else (some false))) else (some false))) = some r := by rw [if_neg (show ¬ (false = true) by decide)] at H; exact H
           clear H; have H := H1; clear H1; by_cases c89 : t365 = true
           ·subst c89
            have H1 : (some false) = some r := by rw [if_pos rfl] at H; exact H
            clear H; have H := H1; clear H1; exact absurd (Option.some.inj H) (by rw [HR_.out]; decide)
           replace c89 := Bool.eq_false_iff.mpr c89; subst c89; have H1 : (if (t328.length : Int) = (wrap64 ((t284.length : Int) + 1)) then ((impl_AreaOfSheet.f k5 t335 t313).bind fun t371 => (if t371 = 30 then ((impl_AreaOfSheet.f k5 t335 t339).bind fun t372 => (if t372 = 20 then ((impl_AreaOfSheet.f k5 t343 t313).bind fun t373 => (if t373 = 50 then ((impl_AreaOfSheet.f k5 t343 t339).bind fun t374 => (if t374 = 0 then (if (t368.length : Int) = 4 then (if 3 < (t368.length : Int) then (if 3 < (t291.length : Int) then (if (rd t368 3) = (rd t291 3) then (if 2 < (t368.length : Int) then (if 2 < (t291.length : Int) then (some ((rd t368 2) == (wrap64 ((rd t291 2) + 50)))) else (none)) else (none)) else (some false)) else (none)) else (none)) else (some false)) else (some false))) else (some false))) else (some false))) else (some false))) else (some false)) = some r := by rw [if_neg (show ¬ (false = true) by decide)] at H; exact H
           clear H; have H := H1; clear H1; by_cases c90 : (t328.length : Int) = (wrap64 ((t284.length : Int) + 1))
           rotate_left
           ·rw [if_neg c90] at H
            have c90b0 : ((t328.length : Int) == (wrap64 ((t284.length : Int) + 1))) = false := beq_eq_false_iff_ne.mpr c90; have c90b1 : ((t328.length : Int) != (wrap64 ((t284.length : Int) + 1))) = true := bne_iff_ne.mpr c90; exact absurd (Option.some.inj H) (by rw [HR_.out]; decide)
           rw [if_pos c90] at H; have c90b0 : ((t328.length : Int) == (wrap64 ((t284.length : Int) + 1))) = true := beq_iff_eq.mpr c90; have c90b1 : ((t328.length : Int) != (wrap64 ((t284.length : Int) + 1))) = false := bne_eq_false_iff_eq.mpr c90; clear c90; replace H := Option.bind_eq_some_iff.mp H; obtain ⟨t371, A910, H⟩ := H; replace H : (if t371 = 30 then ((impl_AreaOfSheet.f k5 t335 t339).bind fun t372 => (if t372 = 20 then ((impl_AreaOfSheet.f k5 t343 t313).bind fun t373 => (if t373 = 50 then ((impl_AreaOfSheet.f k5 t343 t339).bind fun t374 => (if t374 = 0 then (if (t368.length : Int) = 4 then (if 3 < (t368.length : Int) then (if 3 < (t291.length : Int) then (if (rd t368 3) = (rd t291 3) then (if 2 < (t368.length : Int) then (if 2 < (t291.length : Int) then (some ((rd t368 2) == (wrap64 ((rd t291 2) + 50)))) else (none)) else (none)) else (some false)) else (none)) else (none)) else (some false)) else (some false))) else (some false))) else (some false))) else (some false)) = some r := H
           have A91 := m1 A910; clear A910; by_cases c92 : t371 = 30
           rotate_left
           ·rw [if_neg c92] at H
            have c92b0 : (t371 == 30) = false := beq_eq_false_iff_ne.mpr c92; have c92b1 : (t371 != 30) = true := bne_iff_ne.mpr c92; exact absurd (Option.some.inj H) (by rw [HR_.out]; decide)
           rw [if_pos c92] at H; have c92b0 : (t371 == 30) = true := beq_iff_eq.mpr c92; have c92b1 : (t371 != 30) = false := bne_eq_false_iff_eq.mpr c92; clear c92; replace H := Option.bind_eq_some_iff.mp H; obtain ⟨t372, A930, H⟩ := H; replace H : (if t372 = 20 then ((impl_AreaOfSheet.f k5 t343 t313).bind fun t373 => (if t373 = 50 then ((impl_AreaOfSheet.f k5 t343 t339).bind fun t374 => (if t374 = 0 then (if (t368.length : Int) = 4 then (if 3 < (t368.length : Int) then (if 3 < (t291.length : Int) then (if (rd t368 3) = (rd t291 3) then (if 2 < (t368.length : Int) then (if 2 < (t291.length : Int) then (some ((rd t368 2) == (wrap64 ((rd t291 2) + 50)))) else (none)) else (none)) else (some false)) else (none)) else (none)) else (some false)) else (some false))) else (some false))) else (some false)) = some r := H
           have A93 := m1 A930; clear A930; by_cases c94 : t372 = 20
           rotate_left
           ·rw [if_neg c94] at H
            have c94b0 : (t372 == 20) = false := beq_eq_false_iff_ne.mpr c94; have c94b1 : (t372 != 20) = true := bne_iff_ne.mpr c94; exact absurd (Option.some.inj H) (by rw [HR_.out]; decide)
           rw [if_pos c94] at H; have c94b0 : (t372 == 20) = true := beq_iff_eq.mpr c94; have c94b1 : (t372 != 20) = false := bne_eq_false_iff_eq.mpr c94; clear c94; replace H := Option.bind_eq_some_iff.mp H; obtain ⟨t373, A950, H⟩ := H; replace H : (if t373 = 50 then ((impl_AreaOfSheet.f k5 t343 t339).bind fun t374 => (if t374 = 0 then (if (t368.length : Int) = 4 then (if 3 < (t368.length : Int) then (if 3 < (t291.length : Int) then (if (rd t368 3) = (rd t291 3) then (if 2 < (t368.length : Int) then (if 2 < (t291.length : Int) then (some ((rd t368 2) == (wrap64 ((rd t291 2) + 50)))) else (none)) else (none)) else (some false)) else (none)) else (none)) else (some false)) else (some false))) else (some false)) = some r := H
           have A95 := m1 A950; clear A950; by_cases c96 : t373 = 50
           rotate_left
           ·rw [if_neg c96] at H
            have c96b0 : (t373 == 50) = false := beq_eq_false_iff_ne.mpr c96; have c96b1 : (t373 != 50) = true := bne_iff_ne.mpr c96; exact absurd (Option.some.inj H) (by rw [HR_.out]; decide)
           rw [if_pos c96] at H; have c96b0 : (t373 == 50) = true := beq_iff_eq.mpr c96; have c96b1 : (t373 != 50) = false := bne_eq_false_iff_eq.mpr c96; clear c96; replace H := Option.bind_eq_some_iff.mp H; obtain ⟨t374, A970, H⟩ := H; replace H : (if t374 = 0 then (if (t368.length : Int) = 4 then (if 3 < (t368.length : Int) then (if 3 < (t291.length : Int) then (if (rd t368 3) = (rd t291 3) then (if 2 < (t368.length : Int) then (if 2 < (t291.length : Int) then (some ((rd t368 2) == (wrap64 ((rd t291 2) + 50)))) else (none)) else (none)) else (some false)) else (none)) else (none)) else (some false)) else (some false)) = some r := H; have A97 := m1 A970; clear A970; by_cases c98 : t374 = 0
           rotate_left
           ·rw [if_neg c98] at H
            have c98b0 : (t374 == 0) = false := beq_eq_false_iff_ne.mpr c98; have c98b1 : (t374 != 0) = true := bne_iff_ne.mpr c98; exact absurd (Option.some.inj H) (by rw [HR_.out]; decide)
           rw [if_pos c98] at H; have c98b0 : (t374 == 0) = true := beq_iff_eq.mpr c98; have c98b1 : (t374 != 0) = false := bne_eq_false_iff_eq.mpr c98; clear c98; by_cases c99 : (t368.length : Int) = 4
           rotate_left
           ·rw [if_neg c99] at H
            have c99b0 : ((t368.length : Int) == 4) = false := beq_eq_false_iff_ne.mpr c99; have c99b1 : ((t368.length : Int) != 4) = true := bne_iff_ne.mpr c99; exact absurd (Option.some.inj H) (by rw [HR_.out]; decide)
           rw [if_pos c99] at H; have c99b0 : ((t368.length : Int) == 4) = true := beq_iff_eq.mpr c99; have c99b1 : ((t368.length : Int) != 4) = false := bne_eq_false_iff_eq.mpr c99; clear c99; by_cases c100 : 3 < (t368.length : Int)
           rotate_left
           ·rw [if_neg c100] at H
            exact absurd H (by simp)
           rw [if_pos c100] at H; have c100b0 : decide (3 < (t368.length : Int)) = true := decide_eq_true c100; have c100b1 : decide (3 < t368.length) = true := decide_eq_true (by omega)
           clear c100; by_cases c101 : 3 < (t291.length : Int)
           rotate_left
           ·rw [if_neg c101] at H
            exact absurd H (by simp)
           rw [if_pos c101] at H; have c101b0 : decide (3 < (t291.length : Int)) = true := decide_eq_true c101; have c101b1 : decide (3 < t291.length) = true := decide_eq_true (by omega)
           clear c101; by_cases c102 : (rd t368 3) = (rd t291 3)
           rotate_left
           ·rw [if_neg c102] at H
            have c102b0 : ((rd t368 3) == (rd t291 3)) = false := beq_eq_false_iff_ne.mpr c102; have c102b1 : ((rd t368 3) != (rd t291 3)) = true := bne_iff_ne.mpr c102; exact absurd (Option.some.inj H) (by rw [HR_.out]; decide)
           rw [if_pos c102] at H; have c102b0 : ((rd t368 3) == (rd t291 3)) = true := beq_iff_eq.mpr c102; have c102b1 : ((rd t368 3) != (rd t291 3)) = false := bne_eq_false_iff_eq.mpr c102; clear c102; by_cases c103 : 2 < (t368.length : Int)
           rotate_left
           ·rw [if_neg c103] at H
            exact absurd H (by simp)
           rw [if_pos c103] at H; have c103b0 : decide (2 < (t368.length : Int)) = true := decide_eq_true c103; have c103b1 : decide (2 < t368.length) = true := decide_eq_true (by omega)
           clear c103; by_cases c104 : 2 < (t291.length : Int)
           rotate_left
           ·rw [if_neg c104] at H
            exact absurd H (by simp)
           rw [if_pos c104] at H; have c104b0 : decide (2 < (t291.length : Int)) = true := decide_eq_true c104; have c104b1 : decide (2 < t291.length) = true := decide_eq_true (by omega)
           clear c104; obtain rfl := Option.some.inj H; try go_wp2_with (first | ((with_reducible refine gate_dst (N := 176) rfl ?_); (try (refine gate_guard (by rfl) ?_; dsimp only)); refine Kd.R_lit (Kd.int .i64) _ 3 ?hg (N := 176) ?hd (xs := ([1, t313, 50] : List Int)) (inner := [.int .i64 1, .int .i64 t313, .int .i64 50]) (ok := fun _ => True) (okp := fun _ => True) ?hr ?hp (fun _ hk => hk) trivial (Below.refl _ _) (Nat.le_refl _) (by simp) ?_; (case hd => rfl); (case hg => rfl); (case hr => first | (go_simp; done) | (go_simp; rfl)); (case hp => exact (Reps.one (show Kd.M (Kd.int .i64) _ _ _ 1 [.int .i64 1] from rfl) (Reps.one (show Kd.M (Kd.int .i64) _ _ _ t313 [.int .i64 t313] from rfl) (Reps.one (show Kd.M (Kd.int .i64) _ _ _ 50 [.int .i64 50] from rfl) (Reps.none _ _))))); intro v326 w105 ho106 hb hg_ hnew_; clear hg_ hnew_; (first | rw [← Ny325.out] at ho106 | (simp only [Int.reduceToNat] at ho106; rw [← Ny325.out] at ho106)); have n0_ := m1 (Kd.S_elder' (by (with_reducible repeat (first | apply sA | apply sB | apply sC)); exact HO_3.out) (Kd.R_base ho106) hb); have n1_ := m1 (Kd.R_elder' (by (with_reducible repeat (first | apply rA | apply rB | apply rC)); exact HO_6.out) (Kd.R_base ho106) hb); have n2_ := m1 (Kd.S_elder' (by (with_reducible repeat (first | apply sA | apply sB | apply sC)); exact HO_158.out) (Kd.R_base ho106) hb); have n3_ := m1 (Kd.R_lower (Kd.R_new' ho106 (Kd.R_lt (by (with_reducible repeat (first | apply rA | apply rB | apply rC)); exact HO_6.out))) (c5 (by repeat (first | (with_reducible first | exact HB.out | apply c1 | apply c2 | apply c3) | exact HB.out)))); have n4_ := m1 (c6 (by repeat (first | (with_reducible first | exact HB.out | apply c1 | apply c2 | apply c3) | exact HB.out)) hb); clear HO_3; clear HO_6; clear HO_158; clear HB; have HO_3 := n0_; have HO_6 := n1_; have HO_158 := n2_; have HO327 := n3_; have HB := n4_; clear n0_ n1_ n2_ n3_ n4_; clear hb ho106; obtain ⟨Ao107, co107, eo107⟩ := Kd.R_slice HO327.out; subst eo107) | ((with_reducible refine gate_callee (f := 12) rfl ?_); refine goesL_ (some 177) rfl rfl Try.func12 (by kernel_rfl) rfl #[.slice Ao8 t284.length co8, .slice Ao107 y325.length co107] rfl (by (try simp only [List.map_toArray, List.map_cons, List.map_nil]); first | done | rfl | (simp only [List.length_drop, List.length_take]; rfl)) ?_; (with_reducible refine (impl_AddEntry.calls k5 _ _ t284 _ _ y325 t328 true _ ?side1 ?side2 ?side3 ?side4 A76.out).mono ?_); (case side1 => repeat (first | exact (Kd.S_reads' HO_3.out).2.2 | (with_reducible refine Kd.C_alloc ?_ _) | (with_reducible refine Kd.C_drewN ?_ _) | (with_reducible refine Kd.C_drew ?_))); (case side2 => exact (Kd.S_reads' HO_3.out).2.1); (case side3 => repeat (first | exact (Kd.R_reads' HO327.out).2.2 | (with_reducible refine Kd.C_alloc ?_ _) | (with_reducible refine Kd.C_drewN ?_ _) | (with_reducible refine Kd.C_drew ?_))); (case side4 => exact (Kd.R_reads' HO327.out).2.1); rintro e w108 ⟨v330, rfl, ho0, hb⟩; refine ⟨_, rfl, ?_⟩; have n0_ := m1 (Kd.S_elder' (by (with_reducible repeat (first | apply sA | apply sB | apply sC)); exact HO_3.out) (Kd.S_base ho0) hb); have n1_ := m1 (Kd.R_below (by (with_reducible repeat (first | apply rA | apply rB | apply rC)); exact HO_6.out) hb); have n2_ := m1 (Kd.S_elder' (by (with_reducible repeat (first | apply sA | apply sB | apply sC)); exact HO_158.out) (Kd.S_base ho0) hb); have n3_ := m1 (Kd.R_below (by (with_reducible repeat (first | apply rA | apply rB | apply rC)); exact HO327.out) hb); have n4_ := m1 (Kd.S_lower (Kd.S_new' (Kd.S_new' (Kd.S_new' (Kd.S_new' ho0 (Kd.S_lt (by (with_reducible repeat (first | apply sA | apply sB | apply sC)); exact HO_3.out))) (Kd.R_lt (by (with_reducible repeat (first | apply rA | apply rB | apply rC)); exact HO_6.out))) (Kd.S_lt (by (with_reducible repeat (first | apply sA | apply sB | apply sC)); exact HO_158.out))) (Kd.R_lt (by (with_reducible repeat (first | apply rA | apply rB | apply rC)); exact HO327.out))) (c5 (by repeat (first | (with_reducible first | exact HB.out | apply c1 | apply c2 | apply c3) | exact HB.out)))); have n5_ := m1 (c6 (by repeat (first | (with_reducible first | exact HB.out | apply c1 | apply c2 | apply c3) | exact HB.out)) hb); clear HO_3; clear HO_6; clear HO_158; clear HO327; clear HB; have HO_3 := n0_; have HO_6 := n1_; have HO_158 := n2_; have HO327 := n3_; have HO331 := n4_; have HB := n5_; clear n0_ n1_ n2_ n3_ n4_ n5_; (try clear hb); (try clear hb2); (try clear hk); (try clear hi); (try clear ho0)) | ((with_reducible refine gate_dst (N := 183) rfl ?_); (try (refine gate_guard (by rfl) ?_; dsimp only)); refine Kd.R_lit (Kd.int .i64) _ 3 ?hg (N := 183) ?hd (xs := ([3, t313, 20] : List Int)) (inner := [.int .i64 3, .int .i64 t313, .int .i64 20]) (ok := fun _ => True) (okp := fun _ => True) ?hr ?hp (fun _ hk => hk) trivial (Below.refl _ _) (Nat.le_refl _) (by simp) ?_; (case hd => rfl); (case hg => rfl); (case hr => first | (go_simp; done) | (go_simp; rfl)); (case hp => exact (Reps.one (show Kd.M (Kd.int .i64) _ _ _ 3 [.int .i64 3] from rfl) (Reps.one (show Kd.M (Kd.int .i64) _ _ _ t313 [.int .i64 t313] from rfl) (Reps.one (show Kd.M (Kd.int .i64) _ _ _ 20 [.int .i64 20] from rfl) (Reps.none _ _))))); intro v333 w109 ho110 hb hg_ hnew_; clear hg_ hnew_; (first | rw [← Ny332.out] at ho110 | (simp only [Int.reduceToNat] at ho110; rw [← Ny332.out] at ho110)); have n0_ := m1 (Kd.S_elder' (by (with_reducible repeat (first | apply sA | apply sB | apply sC)); exact HO_3.out) (Kd.R_base ho110) hb); have n1_ := m1 (Kd.R_elder' (by (with_reducible repeat (first | apply rA | apply rB | apply rC)); exact HO_6.out) (Kd.R_base ho110) hb); have n2_ := m1 (Kd.S_elder' (by (with_reducible repeat (first | apply sA | apply sB | apply sC)); exact HO_158.out) (Kd.R_base ho110) hb); have n3_ := m1 (Kd.R_elder' (by (with_reducible repeat (first | apply rA | apply rB | apply rC)); exact HO327.out) (Kd.R_base ho110) hb); have n4_ := m1 (Kd.S_elder' (by (with_reducible repeat (first | apply sA | apply sB | apply sC)); exact HO331.out) (Kd.R_base ho110) hb); have n5_ := m1 (Kd.R_lower (Kd.R_new' (Kd.R_new' ho110 (Kd.R_lt (by (with_reducible repeat (first | apply rA | apply rB | apply rC)); exact HO_6.out))) (Kd.R_lt (by (with_reducible repeat (first | apply rA | apply rB | apply rC)); exact HO327.out))) (c5 (by repeat (first | (with_reducible first | exact HB.out | apply c1 | apply c2 | apply c3) | exact HB.out)))); have n6_ := m1 (c6 (by repeat (first | (with_reducible first | exact HB.out | apply c1 | apply c2 | apply c3) | exact HB.out)) hb); clear HO_3; clear HO_6; clear HO_158; clear HO327; clear HO331; clear HB; have HO_3 := n0_; have HO_6 := n1_; have HO_158 := n2_; have HO327 := n3_; have HO331 := n4_; have HO334 := n5_; have HB := n6_; clear n0_ n1_ n2_ n3_ n4_ n5_ n6_; clear hb ho110; obtain ⟨Ao111, co111, eo111⟩ := Kd.S_slice HO331.out; subst eo111; obtain ⟨Ao112, co112, eo112⟩ := Kd.R_slice HO334.out; subst eo112) | ((with_reducible refine gate_callee (f := 12) rfl ?_); refine goesL_ (some 184) rfl rfl Try.func12 (by kernel_rfl) rfl #[.slice Ao111 t328.length co111, .slice Ao112 y332.length co112] rfl (by (try simp only [List.map_toArray, List.map_cons, List.map_nil]); first | done | rfl | (simp only [List.length_drop, List.length_take]; rfl)) ?_; (with_reducible refine (impl_AddEntry.calls k5 _ _ t328 _ _ y332 t335 true _ ?side1 ?side2 ?side3 ?side4 A77.out).mono ?_); (case side1 => repeat (first | exact (Kd.S_reads' HO331.out).2.2 | (with_reducible refine Kd.C_alloc ?_ _) | (with_reducible refine Kd.C_drewN ?_ _) | (with_reducible refine Kd.C_drew ?_))); (case side2 => exact (Kd.S_reads' HO331.out).2.1); (case side3 => repeat (first | exact (Kd.R_reads' HO334.out).2.2 | (with_reducible refine Kd.C_alloc ?_ _) | (with_reducible refine Kd.C_drewN ?_ _) | (with_reducible refine Kd.C_drew ?_))); (case side4 => exact (Kd.R_reads' HO334.out).2.1); rintro e w113 ⟨v337, rfl, ho0, hb⟩; refine ⟨_, rfl, ?_⟩; have n0_ := m1 (Kd.S_elder' (by (with_reducible repeat (first | apply sA | apply sB | apply sC)); exact HO_3.out) (Kd.S_base ho0) hb); have n1_ := m1 (Kd.R_below (by (with_reducible repeat (first | apply rA | apply rB | apply rC)); exact HO_6.out) hb); have n2_ := m1 (Kd.S_elder' (by (with_reducible repeat (first | apply sA | apply sB | apply sC)); exact HO_158.out) (Kd.S_base ho0) hb); have n3_ := m1 (Kd.R_below (by (with_reducible repeat (first | apply rA | apply rB | apply rC)); exact HO327.out) hb); have n4_ := m1 (Kd.S_elder' (by (with_reducible repeat (first | apply sA | apply sB | apply sC)); exact HO331.out) (Kd.S_base ho0) hb); have n5_ := m1 (Kd.R_below (by (with_reducible repeat (first | apply rA | apply rB | apply rC)); exact HO334.out) hb); have n6_ := m1 (Kd.S_lower (Kd.S_new' (Kd.S_new' (Kd.S_new' (Kd.S_new' (Kd.S_new' (Kd.S_new' ho0 (Kd.S_lt (by (with_reducible repeat (first | apply sA | apply sB | apply sC)); exact HO_3.out))) (Kd.R_lt (by (with_reducible repeat (first | apply rA | apply rB | apply rC)); exact HO_6.out))) (Kd.S_lt (by (with_reducible repeat (first | apply sA | apply sB | apply sC)); exact HO_158.out))) (Kd.R_lt (by (with_reducible repeat (first | apply rA | apply rB | apply rC)); exact HO327.out))) (Kd.S_lt (by (with_reducible repeat (first | apply sA | apply sB | apply sC)); exact HO331.out))) (Kd.R_lt (by (with_reducible repeat (first | apply rA | apply rB | apply rC)); exact HO334.out))) (c5 (by repeat (first | (with_reducible first | exact HB.out | apply c1 | apply c2 | apply c3) | exact HB.out)))); have n7_ := m1 (c6 (by repeat (first | (with_reducible first | exact HB.out | apply c1 | apply c2 | apply c3) | exact HB.out)) hb); clear HO_3; clear HO_6; clear HO_158; clear HO327; clear HO331; clear HO334; clear HB; have HO_3 := n0_; have HO_6 := n1_; have HO_158 := n2_; have HO327 := n3_; have HO331 := n4_; have HO334 := n5_; have HO338 := n6_; have HB := n7_; clear n0_ n1_ n2_ n3_ n4_ n5_ n6_ n7_; (try clear hb); (try clear hb2); (try clear hk); (try clear hi); (try clear ho0)) | ((with_reducible refine gate_callee (f := 10) rfl ?_); refine goesL_ (some 188) rfl rfl Try.func10 (by kernel_rfl) rfl #[.slice Ao111 t328.length co111] rfl (by (try simp only [List.map_toArray, List.map_cons, List.map_nil]); first | done | rfl | (simp only [List.length_drop, List.length_take]; rfl)) ?_; (with_reducible refine (impl_NextNumber.calls k5 _ _ t328 t339 _ ?side1 ?side2 A78.out).mono ?_); (case side1 => repeat (first | exact (Kd.S_reads' HO331.out).2.2 | (with_reducible refine Kd.C_alloc ?_ _) | (with_reducible refine Kd.C_drewN ?_ _) | (with_reducible refine Kd.C_drew ?_))); (case side2 => exact (Kd.S_reads' HO331.out).2.1); rintro e w114 ⟨rfl, hb⟩; refine ⟨_, rfl, ?_⟩; have n0_ := m1 (Kd.S_below (by (with_reducible repeat (first | apply sA | apply sB | apply sC)); exact HO_3.out) hb); have n1_ := m1 (Kd.R_below (by (with_reducible repeat (first | apply rA | apply rB | apply rC)); exact HO_6.out) hb); have n2_ := m1 (Kd.S_below (by (with_reducible repeat (first | apply sA | apply sB | apply sC)); exact HO_158.out) hb); have n3_ := m1 (Kd.R_below (by (with_reducible repeat (first | apply rA | apply rB | apply rC)); exact HO327.out) hb); have n4_ := m1 (Kd.S_below (by (with_reducible repeat (first | apply sA | apply sB | apply sC)); exact HO331.out) hb); have n5_ := m1 (Kd.R_below (by (with_reducible repeat (first | apply rA | apply rB | apply rC)); exact HO334.out) hb); have n6_ := m1 (Kd.S_below (by (with_reducible repeat (first | apply sA | apply sB | apply sC)); exact HO338.out) hb); have n7_ := m1 (c6 (by repeat (first | (with_reducible first | exact HB.out | apply c1 | apply c2 | apply c3) | exact HB.out)) hb); clear HO_3; clear HO_6; clear HO_158; clear HO327; clear HO331; clear HO334; clear HO338; clear HB; have HO_3 := n0_; have HO_6 := n1_; have HO_158 := n2_; have HO327 := n3_; have HO331 := n4_; have HO334 := n5_; have HO338 := n6_; have HB := n7_; clear n0_ n1_ n2_ n3_ n4_ n5_ n6_ n7_; (try clear hb); (try clear hb2); (try clear hk); (try clear hi)) | ((with_reducible refine gate_dst (N := 193) rfl ?_); (try (refine gate_guard (by rfl) ?_; dsimp only)); refine Kd.R_lit (Kd.int .i64) _ 3 ?hg (N := 193) ?hd (xs := ([4, t339, t313] : List Int)) (inner := [.int .i64 4, .int .i64 t339, .int .i64 t313]) (ok := fun _ => True) (okp := fun _ => True) ?hr ?hp (fun _ hk => hk) trivial (Below.refl _ _) (Nat.le_refl _) (by simp) ?_; (case hd => rfl); (case hg => rfl); (case hr => first | (go_simp; done) | (go_simp; rfl)); (case hp => exact (Reps.one (show Kd.M (Kd.int .i64) _ _ _ 4 [.int .i64 4] from rfl) (Reps.one (show Kd.M (Kd.int .i64) _ _ _ t339 [.int .i64 t339] from rfl) (Reps.one (show Kd.M (Kd.int .i64) _ _ _ t313 [.int .i64 t313] from rfl) (Reps.none _ _))))); intro v341 w115 ho116 hb hg_ hnew_; clear hg_ hnew_; (first | rw [← Ny340.out] at ho116 | (simp only [Int.reduceToNat] at ho116; rw [← Ny340.out] at ho116)); have n0_ := m1 (Kd.S_elder' (by (with_reducible repeat (first | apply sA | apply sB | apply sC)); exact HO_3.out) (Kd.R_base ho116) hb); have n1_ := m1 (Kd.R_elder' (by (with_reducible repeat (first | apply rA | apply rB | apply rC)); exact HO_6.out) (Kd.R_base ho116) hb); have n2_ := m1 (Kd.S_elder' (by (with_reducible repeat (first | apply sA | apply sB | apply sC)); exact HO_158.out) (Kd.R_base ho116) hb); have n3_ := m1 (Kd.R_elder' (by (with_reducible repeat (first | apply rA | apply rB | apply rC)); exact HO327.out) (Kd.R_base ho116) hb); have n4_ := m1 (Kd.S_elder' (by (with_reducible repeat (first | apply sA | apply sB | apply sC)); exact HO331.out) (Kd.R_base ho116) hb); have n5_ := m1 (Kd.R_elder' (by (with_reducible repeat (first | apply rA | apply rB | apply rC)); exact HO334.out) (Kd.R_base ho116) hb); have n6_ := m1 (Kd.S_elder' (by (with_reducible repeat (first | apply sA | apply sB | apply sC)); exact HO338.out) (Kd.R_base ho116) hb); have n7_ := m1 (Kd.R_lower (Kd.R_new' (Kd.R_new' (Kd.R_new' ho116 (Kd.R_lt (by (with_reducible repeat (first | apply rA | apply rB | apply rC)); exact HO_6.out))) (Kd.R_lt (by (with_reducible repeat (first | apply rA | apply rB | apply rC)); exact HO327.out))) (Kd.R_lt (by (with_reducible repeat (first | apply rA | apply rB | apply rC)); exact HO334.out))) (c5 (by repeat (first | (with_reducible first | exact HB.out | apply c1 | apply c2 | apply c3) | exact HB.out)))); have n8_ := m1 (c6 (by repeat (first | (with_reducible first | exact HB.out | apply c1 | apply c2 | apply c3) | exact HB.out)) hb); clear HO_3; clear HO_6; clear HO_158; clear HO327; clear HO331; clear HO334; clear HO338; clear HB; have HO_3 := n0_; have HO_6 := n1_; have HO_158 := n2_; have HO327 := n3_; have HO331 := n4_; have HO334 := n5_; have HO338 := n6_; have HO342 := n7_; have HB := n8_; clear n0_ n1_ n2_ n3_ n4_ n5_ n6_ n7_ n8_; clear hb ho116; obtain ⟨Ao117, co117, eo117⟩ := Kd.S_slice HO338.out; subst eo117; obtain ⟨Ao118, co118, eo118⟩ := Kd.R_slice HO342.out; subst eo118) | ((with_reducible refine gate_callee (f := 12) rfl ?_); refine goesL_ (some 194) rfl rfl Try.func12 (by kernel_rfl) rfl #[.slice Ao117 t335.length co117, .slice Ao118 y340.length co118] rfl (by (try simp only [List.map_toArray, List.map_cons, List.map_nil]); first | done | rfl | (simp only [List.length_drop, List.length_take]; rfl)) ?_; (with_reducible refine (impl_AddEntry.calls k5 _ _ t335 _ _ y340 t343 true _ ?side1 ?side2 ?side3 ?side4 A79.out).mono ?_); (case side1 => repeat (first | exact (Kd.S_reads' HO338.out).2.2 | (with_reducible refine Kd.C_alloc ?_ _) | (with_reducible refine Kd.C_drewN ?_ _) | (with_reducible refine Kd.C_drew ?_))); (case side2 => exact (Kd.S_reads' HO338.out).2.1); (case side3 => repeat (first | exact (Kd.R_reads' HO342.out).2.2 | (with_reducible refine Kd.C_alloc ?_ _) | (with_reducible refine Kd.C_drewN ?_ _) | (with_reducible refine Kd.C_drew ?_))); (case side4 => exact (Kd.R_reads' HO342.out).2.1); rintro e w119 ⟨v345, rfl, ho0, hb⟩; refine ⟨_, rfl, ?_⟩; have n0_ := m1 (Kd.S_elder' (by (with_reducible repeat (first | apply sA | apply sB | apply sC)); exact HO_3.out) (Kd.S_base ho0) hb); have n1_ := m1 (Kd.R_below (by (with_reducible repeat (first | apply rA | apply rB | apply rC)); exact HO_6.out) hb); have n2_ := m1 (Kd.S_elder' (by (with_reducible repeat (first | apply sA | apply sB | apply sC)); exact HO_158.out) (Kd.S_base ho0) hb); have n3_ := m1 (Kd.R_below (by (with_reducible repeat (first | apply rA | apply rB | apply rC)); exact HO327.out) hb); have n4_ := m1 (Kd.S_elder' (by (with_reducible repeat (first | apply sA | apply sB | apply sC)); exact HO331.out) (Kd.S_base ho0) hb); have n5_ := m1 (Kd.R_below (by (with_reducible repeat (first | apply rA | apply rB | apply rC)); exact HO334.out) hb); have n6_ := m1 (Kd.S_elder' (by (with_reducible repeat (first | apply sA | apply sB | apply sC)); exact HO338.out) (Kd.S_base ho0) hb); have n7_ := m1 (Kd.R_below (by (with_reducible repeat (first | apply rA | apply rB | apply rC)); exact HO342.out) hb); have n8_ := m1 (Kd.S_lower (Kd.S_new' (Kd.S_new' (Kd.S_new' (Kd.S_new' (Kd.S_new' (Kd.S_new' (Kd.S_new' (Kd.S_new' ho0 (Kd.S_lt (by (with_reducible repeat (first | apply sA | apply sB | apply sC)); exact HO_3.out))) (Kd.R_lt (by (with_reducible repeat (first | apply rA | apply rB | apply rC)); exact HO_6.out))) (Kd.S_lt (by (with_reducible repeat (first | apply sA | apply sB | apply sC)); exact HO_158.out))) (Kd.R_lt (by (with_reducible repeat (first | apply rA | apply rB | apply rC)); exact HO327.out))) (Kd.S_lt (by (with_reducible repeat (first | apply sA | apply sB | apply sC)); exact HO331.out))) (Kd.R_lt (by (with_reducible repeat (first | apply rA | apply rB | apply rC)); exact HO334.out))) (Kd.S_lt (by (with_reducible repeat (first | apply sA | apply sB | apply sC)); exact HO338.out))) (Kd.R_lt (by (with_reducible repeat (first | apply rA | apply rB | apply rC)); exact HO342.out))) (c5 (by repeat (first | (with_reducible first | exact HB.out | apply c1 | apply c2 | apply c3) | exact HB.out)))); have n9_ := m1 (c6 (by repeat (first | (with_reducible first | exact HB.out | apply c1 | apply c2 | apply c3) | exact HB.out)) hb); clear HO_3; clear HO_6; clear HO_158; clear HO327; clear HO331; clear HO334; clear HO338; clear HO342; clear HB; have HO_3 := n0_; have HO_6 := n1_; have HO_158 := n2_; have HO327 := n3_; have HO331 := n4_; have HO334 := n5_; have HO338 := n6_; have HO342 := n7_; have HO346 := n8_; have HB := n9_; clear n0_ n1_ n2_ n3_ n4_ n5_ n6_ n7_ n8_ n9_; (try clear hb); (try clear hb2); (try clear hk); (try clear hi); (try clear ho0)) | ((with_reducible refine gate_dst (N := 200) rfl ?_); (try (refine gate_guard (by rfl) ?_; dsimp only)); refine Kd.R_lit (Kd.int .i64) _ 3 ?hg (N := 200) ?hd (xs := ([5, t313, 50] : List Int)) (inner := [.int .i64 5, .int .i64 t313, .int .i64 50]) (ok := fun _ => True) (okp := fun _ => True) ?hr ?hp (fun _ hk => hk) trivial (Below.refl _ _) (Nat.le_refl _) (by simp) ?_; (case hd => rfl); (case hg => rfl); (case hr => first | (go_simp; done) | (go_simp; rfl)); (case hp => exact (Reps.one (show Kd.M (Kd.int .i64) _ _ _ 5 [.int .i64 5] from rfl) (Reps.one (show Kd.M (Kd.int .i64) _ _ _ t313 [.int .i64 t313] from rfl) (Reps.one (show Kd.M (Kd.int .i64) _ _ _ 50 [.int .i64 50] from rfl) (Reps.none _ _))))); intro v348 w120 ho121 hb hg_ hnew_; clear hg_ hnew_; (first | rw [← Ny347.out] at ho121 | (simp only [Int.reduceToNat] at ho121; rw [← Ny347.out] at ho121)); have n0_ := m1 (Kd.S_elder' (by (with_reducible repeat (first | apply sA | apply sB | apply sC)); exact HO_3.out) (Kd.R_base ho121) hb); have n1_ := m1 (Kd.R_elder' (by (with_reducible repeat (first | apply rA | apply rB | apply rC)); exact HO_6.out) (Kd.R_base ho121) hb); have n2_ := m1 (Kd.S_elder' (by (with_reducible repeat (first | apply sA | apply sB | apply sC)); exact HO_158.out) (Kd.R_base ho121) hb); have n3_ := m1 (Kd.R_elder' (by (with_reducible repeat (first | apply rA | apply rB | apply rC)); exact HO327.out) (Kd.R_base ho121) hb); have n4_ := m1 (Kd.S_elder' (by (with_reducible repeat (first | apply sA | apply sB | apply sC)); exact HO331.out) (Kd.R_base ho121) hb); have n5_ := m1 (Kd.R_elder' (by (with_reducible repeat (first | apply rA | apply rB | apply rC)); exact HO334.out) (Kd.R_base ho121) hb); have n6_ := m1 (Kd.S_elder' (by (with_reducible repeat (first | apply sA | apply sB | apply sC)); exact HO338.out) (Kd.R_base ho121) hb); have n7_ := m1 (Kd.R_elder' (by (with_reducible repeat (first | apply rA | apply rB | apply rC)); exact HO342.out) (Kd.R_base ho121) hb); have n8_ := m1 (Kd.S_elder' (by (with_reducible repeat (first | apply sA | apply sB | apply sC)); exact HO346.out) (Kd.R_base ho121) hb); have n9_ := m1 (Kd.R_lower (Kd.R_new' (Kd.R_new' (Kd.R_new' (Kd.R_new' ho121 (Kd.R_lt (by (with_reducible repeat (first | apply rA | apply rB | apply rC)); exact HO_6.out))) (Kd.R_lt (by (with_reducible repeat (first | apply rA | apply rB | apply rC)); exact HO327.out))) (Kd.R_lt (by (with_reducible repeat (first | apply rA | apply rB | apply rC)); exact HO334.out))) (Kd.R_lt (by (with_reducible repeat (first | apply rA | apply rB | apply rC)); exact HO342.out))) (c5 (by repeat (first | (with_reducible first | exact HB.out | apply c1 | apply c2 | apply c3) | exact HB.out)))); have n10_ := m1 (c6 (by repeat (first | (with_reducible first | exact HB.out | apply c1 | apply c2 | apply c3) | exact HB.out)) hb); clear HO_3; clear HO_6; clear HO_158; clear HO327; clear HO331; clear HO334; clear HO338; clear HO342; clear HO346; clear HB; have HO_3 := n0_; have HO_6 := n1_; have HO_158 := n2_; have HO327 := n3_; have HO331 := n4_; have HO334 := n5_; have HO338 := n6_; have HO342 := n7_; have HO346 := n8_; have HO349 := n9_; have HB := n10_; clear n0_ n1_ n2_ n3_ n4_ n5_ n6_ n7_ n8_ n9_ n10_; clear hb ho121; obtain ⟨Ao122, co122, eo122⟩ := Kd.S_slice HO346.out; subst eo122; obtain ⟨Ao123, co123, eo123⟩ := Kd.R_slice HO349.out; subst eo123) | ((with_reducible refine gate_callee (f := 12) rfl ?_); refine goesL_ (some 201) rfl rfl Try.func12 (by kernel_rfl) rfl #[.slice Ao122 t343.length co122, .slice Ao123 y347.length co123] rfl (by (try simp only [List.map_toArray, List.map_cons, List.map_nil]); first | done | rfl | (simp only [List.length_drop, List.length_take]; rfl)) ?_; (with_reducible refine (impl_AddEntry.calls k5 _ _ t343 _ _ y347 t350 true _ ?side1 ?side2 ?side3 ?side4 A80.out).mono ?_); (case side1 => repeat (first | exact (Kd.S_reads' HO346.out).2.2 | (with_reducible refine Kd.C_alloc ?_ _) | (with_reducible refine Kd.C_drewN ?_ _) | (with_reducible refine Kd.C_drew ?_))); (case side2 => exact (Kd.S_reads' HO346.out).2.1); (case side3 => repeat (first | exact (Kd.R_reads' HO349.out).2.2 | (with_reducible refine Kd.C_alloc ?_ _) | (with_reducible refine Kd.C_drewN ?_ _) | (with_reducible refine Kd.C_drew ?_))); (case side4 => exact (Kd.R_reads' HO349.out).2.1); rintro e w124 ⟨v352, rfl, ho0, hb⟩; refine ⟨_, rfl, ?_⟩; have n0_ := m1 (Kd.S_elder' (by (with_reducible repeat (first | apply sA | apply sB | apply sC)); exact HO_3.out) (Kd.S_base ho0) hb); have n1_ := m1 (Kd.R_below (by (with_reducible repeat (first | apply rA | apply rB | apply rC)); exact HO_6.out) hb); have n2_ := m1 (Kd.S_elder' (by (with_reducible repeat (first | apply sA | apply sB | apply sC)); exact HO_158.out) (Kd.S_base ho0) hb); have n3_ := m1 (Kd.R_below (by (with_reducible repeat (first | apply rA | apply rB | apply rC)); exact HO327.out) hb); have n4_ := m1 (Kd.S_elder' (by (with_reducible repeat (first | apply sA | apply sB | apply sC)); exact HO331.out) (Kd.S_base ho0) hb); have n5_ := m1 (Kd.R_below (by (with_reducible repeat (first | apply rA | apply rB | apply rC)); exact HO334.out) hb); have n6_ := m1 (Kd.S_elder' (by (with_reducible repeat (first | apply sA | apply sB | apply sC)); exact HO338.out) (Kd.S_base ho0) hb); have n7_ := m1 (Kd.R_below (by (with_reducible repeat (first | apply rA | apply rB | apply rC)); exact HO342.out) hb); have n8_ := m1 (Kd.S_elder' (by (with_reducible repeat (first | apply sA | apply sB | apply sC)); exact HO346.out) (Kd.S_base ho0) hb); have n9_ := m1 (Kd.R_below (by (with_reducible repeat (first | apply rA | apply rB | apply rC)); exact HO349.out) hb); have n10_ := m1 (Kd.S_lower (Kd.S_new' (Kd.S_new' (Kd.S_new' (Kd.S_new' (Kd.S_new' (Kd.S_new' (Kd.S_new' (Kd.S_new' (Kd.S_new' (Kd.S_new' ho0 (Kd.S_lt (by (with_reducible repeat (first | apply sA | apply sB | apply sC)); exact HO_3.out))) (Kd.R_lt (by (with_reducible repeat (first | apply rA | apply rB | apply rC)); exact HO_6.out))) (Kd.S_lt (by (with_reducible repeat (first | apply sA | apply sB | apply sC)); exact HO_158.out))) (Kd.R_lt (by (with_reducible repeat (first | apply rA | apply rB | apply rC)); exact HO327.out))) (Kd.S_lt (by (with_reducible repeat (first | apply sA | apply sB | apply sC)); exact HO331.out))) (Kd.R_lt (by (with_reducible repeat (first | apply rA | apply rB | apply rC)); exact HO334.out))) (Kd.S_lt (by (with_reducible repeat (first | apply sA | apply sB | apply sC)); exact HO338.out))) (Kd.R_lt (by (with_reducible repeat (first | apply rA | apply rB | apply rC)); exact HO342.out))) (Kd.S_lt (by (with_reducible repeat (first | apply sA | apply sB | apply sC)); exact HO346.out))) (Kd.R_lt (by (with_reducible repeat (first | apply rA | apply rB | apply rC)); exact HO349.out))) (c5 (by repeat (first | (with_reducible first | exact HB.out | apply c1 | apply c2 | apply c3) | exact HB.out)))); have n11_ := m1 (c6 (by repeat (first | (with_reducible first | exact HB.out | apply c1 | apply c2 | apply c3) | exact HB.out)) hb); clear HO_3; clear HO_6; clear HO_158; clear HO327; clear HO331; clear HO334; clear HO338; clear HO342; clear HO346; clear HO349; clear HB; have HO_3 := n0_; have HO_6 := n1_; have HO_158 := n2_; have HO327 := n3_; have HO331 := n4_; have HO334 := n5_; have HO338 := n6_; have HO342 := n7_; have HO346 := n8_; have HO349 := n9_; have HO353 := n10_; have HB := n11_; clear n0_ n1_ n2_ n3_ n4_ n5_ n6_ n7_ n8_ n9_ n10_ n11_; (try clear hb); (try clear hb2); (try clear hk); (try clear hi); (try clear ho0)) | ((with_reducible refine gate_dst (N := 207) rfl ?_); (try (refine gate_guard (by rfl) ?_; dsimp only)); refine Kd.R_lit (Kd.int .i64) _ 3 ?hg (N := 207) ?hd (xs := ([1, t313, 0] : List Int)) (inner := [.int .i64 1, .int .i64 t313, .int .i64 0]) (ok := fun _ => True) (okp := fun _ => True) ?hr ?hp (fun _ hk => hk) trivial (Below.refl _ _) (Nat.le_refl _) (by simp) ?_; (case hd => rfl); (case hg => rfl); (case hr => first | (go_simp; done) | (go_simp; rfl)); (case hp => exact (Reps.one (show Kd.M (Kd.int .i64) _ _ _ 1 [.int .i64 1] from rfl) (Reps.one (show Kd.M (Kd.int .i64) _ _ _ t313 [.int .i64 t313] from rfl) (Reps.one (show Kd.M (Kd.int .i64) _ _ _ 0 [.int .i64 0] from rfl) (Reps.none _ _))))); intro v355 w125 ho126 hb hg_ hnew_; clear hg_ hnew_; (first | rw [← Ny354.out] at ho126 | (simp only [Int.reduceToNat] at ho126; rw [← Ny354.out] at ho126)); have n0_ := m1 (Kd.S_elder' (by (with_reducible repeat (first | apply sA | apply sB | apply sC)); exact HO_3.out) (Kd.R_base ho126) hb); have n1_ := m1 (Kd.R_elder' (by (with_reducible repeat (first | apply rA | apply rB | apply rC)); exact HO_6.out) (Kd.R_base ho126) hb); have n2_ := m1 (Kd.S_elder' (by (with_reducible repeat (first | apply sA | apply sB | apply sC)); exact HO_158.out) (Kd.R_base ho126) hb); have n3_ := m1 (Kd.R_elder' (by (with_reducible repeat (first | apply rA | apply rB | apply rC)); exact HO327.out) (Kd.R_base ho126) hb); have n4_ := m1 (Kd.S_elder' (by (with_reducible repeat (first | apply sA | apply sB | apply sC)); exact HO331.out) (Kd.R_base ho126) hb); have n5_ := m1 (Kd.R_elder' (by (with_reducible repeat (first | apply rA | apply rB | apply rC)); exact HO334.out) (Kd.R_base ho126) hb); have n6_ := m1 (Kd.S_elder' (by (with_reducible repeat (first | apply sA | apply sB | apply sC)); exact HO338.out) (Kd.R_base ho126) hb); have n7_ := m1 (Kd.R_elder' (by (with_reducible repeat (first | apply rA | apply rB | apply rC)); exact HO342.out) (Kd.R_base ho126) hb); have n8_ := m1 (Kd.S_elder' (by (with_reducible repeat (first | apply sA | apply sB | apply sC)); exact HO346.out) (Kd.R_base ho126) hb); have n9_ := m1 (Kd.R_elder' (by (with_reducible repeat (first | apply rA | apply rB | apply rC)); exact HO349.out) (Kd.R_base ho126) hb); have n10_ := m1 (Kd.S_elder' (by (with_reducible repeat (first | apply sA | apply sB | apply sC)); exact HO353.out) (Kd.R_base ho126) hb); have n11_ := m1 (Kd.R_lower (Kd.R_new' (Kd.R_new' (Kd.R_new' (Kd.R_new' (Kd.R_new' ho126 (Kd.R_lt (by (with_reducible repeat (first | apply rA | apply rB | apply rC)); exact HO_6.out))) (Kd.R_lt (by (with_reducible repeat (first | apply rA | apply rB | apply rC)); exact HO327.out))) (Kd.R_lt (by (with_reducible repeat (first | apply rA | apply rB | apply rC)); exact HO334.out))) (Kd.R_lt (by (with_reducible repeat (first | apply rA | apply rB | apply rC)); exact HO342.out))) (Kd.R_lt (by (with_reducible repeat (first | apply rA | apply rB | apply rC)); exact HO349.out))) (c5 (by repeat (first | (with_reducible first | exact HB.out | apply c1 | apply c2 | apply c3) | exact HB.out)))); have n12_ := m1 (c6 (by repeat (first | (with_reducible first | exact HB.out | apply c1 | apply c2 | apply c3) | exact HB.out)) hb); clear HO_3; clear HO_6; clear HO_158; clear HO327; clear HO331; clear HO334; clear HO338; clear HO342; clear HO346; clear HO349; clear HO353; clear HB; have HO_3 := n0_; have HO_6 := n1_; have HO_158 := n2_; have HO327 := n3_; have HO331 := n4_; have HO334 := n5_; have HO338 := n6_; have HO342 := n7_; have HO346 := n8_; have HO349 := n9_; have HO353 := n10_; have HO356 := n11_; have HB := n12_; clear n0_ n1_ n2_ n3_ n4_ n5_ n6_ n7_ n8_ n9_ n10_ n11_ n12_; clear hb ho126; obtain ⟨Ao127, co127, eo127⟩ := Kd.R_slice HO356.out; subst eo127) | ((with_reducible refine gate_callee (f := 12) rfl ?_); refine goesL_ (some 208) rfl rfl Try.func12 (by kernel_rfl) rfl #[.slice Ao8 t284.length co8, .slice Ao127 y354.length co127] rfl (by (try simp only [List.map_toArray, List.map_cons, List.map_nil]); first | done | rfl | (simp only [List.length_drop, List.length_take]; rfl)) ?_; (with_reducible refine (impl_AddEntry.calls k5 _ _ t284 _ _ y354 t357 false _ ?side1 ?side2 ?side3 ?side4 A81.out).mono ?_); (case side1 => repeat (first | exact (Kd.S_reads' HO_3.out).2.2 | (with_reducible refine Kd.C_alloc ?_ _) | (with_reducible refine Kd.C_drewN ?_ _) | (with_reducible refine Kd.C_drew ?_))); (case side2 => exact (Kd.S_reads' HO_3.out).2.1); (case side3 => repeat (first | exact (Kd.R_reads' HO356.out).2.2 | (with_reducible refine Kd.C_alloc ?_ _) | (with_reducible refine Kd.C_drewN ?_ _) | (with_reducible refine Kd.C_drew ?_))); (case side4 => exact (Kd.R_reads' HO356.out).2.1); rintro e w128 ⟨v359, rfl, ho0, hb⟩; refine ⟨_, rfl, ?_⟩; have n0_ := m1 (Kd.S_elder' (by (with_reducible repeat (first | apply sA | apply sB | apply sC)); exact HO_3.out) (Kd.S_base ho0) hb); have n1_ := m1 (Kd.R_below (by (with_reducible repeat (first | apply rA | apply rB | apply rC)); exact HO_6.out) hb); have n2_ := m1 (Kd.S_elder' (by (with_reducible repeat (first | apply sA | apply sB | apply sC)); exact HO_158.out) (Kd.S_base ho0) hb); have n3_ := m1 (Kd.R_below (by (with_reducible repeat (first | apply rA | apply rB | apply rC)); exact HO327.out) hb); have n4_ := m1 (Kd.S_elder' (by (with_reducible repeat (first | apply sA | apply sB | apply sC)); exact HO331.out) (Kd.S_base ho0) hb); have n5_ := m1 (Kd.R_below (by (with_reducible repeat (first | apply rA | apply rB | apply rC)); exact HO334.out) hb); have n6_ := m1 (Kd.S_elder' (by (with_reducible repeat (first | apply sA | apply sB | apply sC)); exact HO338.out) (Kd.S_base ho0) hb); have n7_ := m1 (Kd.R_below (by (with_reducible repeat (first | apply rA | apply rB | apply rC)); exact HO342.out) hb); have n8_ := m1 (Kd.S_elder' (by (with_reducible repeat (first | apply sA | apply sB | apply sC)); exact HO346.out) (Kd.S_base ho0) hb); have n9_ := m1 (Kd.R_below (by (with_reducible repeat (first | apply rA | apply rB | apply rC)); exact HO349.out) hb); have n10_ := m1 (Kd.S_elder' (by (with_reducible repeat (first | apply sA | apply sB | apply sC)); exact HO353.out) (Kd.S_base ho0) hb); have n11_ := m1 (Kd.R_below (by (with_reducible repeat (first | apply rA | apply rB | apply rC)); exact HO356.out) hb); have n12_ := m1 (Kd.S_lower (Kd.S_new' (Kd.S_new' (Kd.S_new' (Kd.S_new' (Kd.S_new' (Kd.S_new' (Kd.S_new' (Kd.S_new' (Kd.S_new' (Kd.S_new' (Kd.S_new' (Kd.S_new' ho0 (Kd.S_lt (by (with_reducible repeat (first | apply sA | apply sB | apply sC)); exact HO_3.out))) (Kd.R_lt (by (with_reducible repeat (first | apply rA | apply rB | apply rC)); exact HO_6.out))) (Kd.S_lt (by (with_reducible repeat (first | apply sA | apply sB | apply sC)); exact HO_158.out))) (Kd.R_lt (by (with_reducible repeat (first | apply rA | apply rB | apply rC)); exact HO327.out))) (Kd.S_lt (by (with_reducible repeat (first | apply sA | apply sB | apply sC)); exact HO331.out))) (Kd.R_lt (by (with_reducible repeat (first | apply rA | apply rB | apply rC)); exact HO334.out))) (Kd.S_lt (by (with_reducible repeat (first | apply sA | apply sB | apply sC)); exact HO338.out))) (Kd.R_lt (by (with_reducible repeat (first | apply rA | apply rB | apply rC)); exact HO342.out))) (Kd.S_lt (by (with_reducible repeat (first | apply sA | apply sB | apply sC)); exact HO346.out))) (Kd.R_lt (by (with_reducible repeat (first | apply rA | apply rB | apply rC)); exact HO349.out))) (Kd.S_lt (by (with_reducible repeat (first | apply sA | apply sB | apply sC)); exact HO353.out))) (Kd.R_lt (by (with_reducible repeat (first | apply rA | apply rB | apply rC)); exact HO356.out))) (c5 (by repeat (first | (with_reducible first | exact HB.out | apply c1 | apply c2 | apply c3) | exact HB.out)))); have n13_ := m1 (c6 (by repeat (first | (with_reducible first | exact HB.out | apply c1 | apply c2 | apply c3) | exact HB.out)) hb); clear HO_3; clear HO_6; clear HO_158; clear HO327; clear HO331; clear HO334; clear HO338; clear HO342; clear HO346; clear HO349; clear HO353; clear HO356; clear HB; have HO_3 := n0_; have HO_6 := n1_; have HO_158 := n2_; have HO327 := n3_; have HO331 := n4_; have HO334 := n5_; have HO338 := n6_; have HO342 := n7_; have HO346 := n8_; have HO349 := n9_; have HO353 := n10_; have HO356 := n11_; have HO360 := n12_; have HB := n13_; clear n0_ n1_ n2_ n3_ n4_ n5_ n6_ n7_ n8_ n9_ n10_ n11_ n12_ n13_; (try clear hb); (try clear hb2); (try clear hk); (try clear hi); (try clear ho0)) | ((with_reducible refine gate_dst (N := 214) rfl ?_); (try (refine gate_guard (by rfl) ?_; dsimp only)); refine Kd.R_lit (Kd.int .i64) _ 3 ?hg (N := 214) ?hd (xs := ([1, t313, 5] : List Int)) (inner := [.int .i64 1, .int .i64 t313, .int .i64 5]) (ok := fun _ => True) (okp := fun _ => True) ?hr ?hp (fun _ hk => hk) trivial (Below.refl _ _) (Nat.le_refl _) (by simp) ?_; (case hd => rfl); (case hg => rfl); (case hr => first | (go_simp; done) | (go_simp; rfl)); (case hp => exact (Reps.one (show Kd.M (Kd.int .i64) _ _ _ 1 [.int .i64 1] from rfl) (Reps.one (show Kd.M (Kd.int .i64) _ _ _ t313 [.int .i64 t313] from rfl) (Reps.one (show Kd.M (Kd.int .i64) _ _ _ 5 [.int .i64 5] from rfl) (Reps.none _ _))))); intro v362 w129 ho130 hb hg_ hnew_; clear hg_ hnew_; (first | rw [← Ny361.out] at ho130 | (simp only [Int.reduceToNat] at ho130; rw [← Ny361.out] at ho130)); have n0_ := m1 (Kd.S_elder' (by (with_reducible repeat (first | apply sA | apply sB | apply sC)); exact HO_3.out) (Kd.R_base ho130) hb); have n1_ := m1 (Kd.R_elder' (by (with_reducible repeat (first | apply rA | apply rB | apply rC)); exact HO_6.out) (Kd.R_base ho130) hb); have n2_ := m1 (Kd.S_elder' (by (with_reducible repeat (first | apply sA | apply sB | apply sC)); exact HO_158.out) (Kd.R_base ho130) hb); have n3_ := m1 (Kd.R_elder' (by (with_reducible repeat (first | apply rA | apply rB | apply rC)); exact HO327.out) (Kd.R_base ho130) hb); have n4_ := m1 (Kd.S_elder' (by (with_reducible repeat (first | apply sA | apply sB | apply sC)); exact HO331.out) (Kd.R_base ho130) hb); have n5_ := m1 (Kd.R_elder' (by (with_reducible repeat (first | apply rA | apply rB | apply rC)); exact HO334.out) (Kd.R_base ho130) hb); have n6_ := m1 (Kd.S_elder' (by (with_reducible repeat (first | apply sA | apply sB | apply sC)); exact HO338.out) (Kd.R_base ho130) hb); have n7_ := m1 (Kd.R_elder' (by (with_reducible repeat (first | apply rA | apply rB | apply rC)); exact HO342.out) (Kd.R_base ho130) hb); have n8_ := m1 (Kd.S_elder' (by (with_reducible repeat (first | apply sA | apply sB | apply sC)); exact HO346.out) (Kd.R_base ho130) hb); have n9_ := m1 (Kd.R_elder' (by (with_reducible repeat (first | apply rA | apply rB | apply rC)); exact HO349.out) (Kd.R_base ho130) hb); have n10_ := m1 (Kd.S_elder' (by (with_reducible repeat (first | apply sA | apply sB | apply sC)); exact HO353.out) (Kd.R_base ho130) hb); have n11_ := m1 (Kd.R_elder' (by (with_reducible repeat (first | apply rA | apply rB | apply rC)); exact HO356.out) (Kd.R_base ho130) hb); have n12_ := m1 (Kd.S_elder' (by (with_reducible repeat (first | apply sA | apply sB | apply sC)); exact HO360.out) (Kd.R_base ho130) hb); have n13_ := m1 (Kd.R_lower (Kd.R_new' (Kd.R_new' (Kd.R_new' (Kd.R_new' (Kd.R_new' (Kd.R_new' ho130 (Kd.R_lt (by (with_reducible repeat (first | apply rA | apply rB | apply rC)); exact HO_6.out))) (Kd.R_lt (by (with_reducible repeat (first | apply rA | apply rB | apply rC)); exact HO327.out))) (Kd.R_lt (by (with_reducible repeat (first | apply rA | apply rB | apply rC)); exact HO334.out))) (Kd.R_lt (by (with_reducible repeat (first | apply rA | apply rB | apply rC)); exact HO342.out))) (Kd.R_lt (by (with_reducible repeat (first | apply rA | apply rB | apply rC)); exact HO349.out))) (Kd.R_lt (by (with_reducible repeat (first | apply rA | apply rB | apply rC)); exact HO356.out))) (c5 (by repeat (first | (with_reducible first | exact HB.out | apply c1 | apply c2 | apply c3) | exact HB.out)))); have n14_ := m1 (c6 (by repeat (first | (with_reducible first | exact HB.out | apply c1 | apply c2 | apply c3) | exact HB.out)) hb); clear HO_3; clear HO_6; clear HO_158; clear HO327; clear HO331; clear HO334; clear HO338; clear HO342; clear HO346; clear HO349; clear HO353; clear HO356; clear HO360; clear HB; have HO_3 := n0_; have HO_6 := n1_; have HO_158 := n2_; have HO327 := n3_; have HO331 := n4_; have HO334 := n5_; have HO338 := n6_; have HO342 := n7_; have HO346 := n8_; have HO349 := n9_; have HO353 := n10_; have HO356 := n11_; have HO360 := n12_; have HO363 := n13_; have HB := n14_; clear n0_ n1_ n2_ n3_ n4_ n5_ n6_ n7_ n8_ n9_ n10_ n11_ n12_ n13_ n14_; clear hb ho130; obtain ⟨Ao131, co131, eo131⟩ := Kd.S_slice HO353.out; subst eo131; obtain ⟨Ao132, co132, eo132⟩ := Kd.R_slice HO363.out; subst eo132) | ((with_reducible refine gate_callee (f := 12) rfl ?_); refine goesL_ (some 215) rfl rfl Try.func12 (by kernel_rfl) rfl #[.slice Ao131 t350.length co131, .slice Ao132 y361.length co132] rfl (by (try simp only [List.map_toArray, List.map_cons, List.map_nil]); first | done | rfl | (simp only [List.length_drop, List.length_take]; rfl)) ?_; (with_reducible refine (impl_AddEntry.calls k5 _ _ t350 _ _ y361 t364 false _ ?side1 ?side2 ?side3 ?side4 A82.out).mono ?_); (case side1 => repeat (first | exact (Kd.S_reads' HO353.out).2.2 | (with_reducible refine Kd.C_alloc ?_ _) | (with_reducible refine Kd.C_drewN ?_ _) | (with_reducible refine Kd.C_drew ?_))); (case side2 => exact (Kd.S_reads' HO353.out).2.1); (case side3 => repeat (first | exact (Kd.R_reads' HO363.out).2.2 | (with_reducible refine Kd.C_alloc ?_ _) | (with_reducible refine Kd.C_drewN ?_ _) | (with_reducible refine Kd.C_drew ?_))); (case side4 => exact (Kd.R_reads' HO363.out).2.1); rintro e w133 ⟨v366, rfl, ho0, hb⟩; refine ⟨_, rfl, ?_⟩; have n0_ := m1 (Kd.S_elder' (by (with_reducible repeat (first | apply sA | apply sB | apply sC)); exact HO_3.out) (Kd.S_base ho0) hb); have n1_ := m1 (Kd.R_below (by (with_reducible repeat (first | apply rA | apply rB | apply rC)); exact HO_6.out) hb); have n2_ := m1 (Kd.S_elder' (by (with_reducible repeat (first | apply sA | apply sB | apply sC)); exact HO_158.out) (Kd.S_base ho0) hb); have n3_ := m1 (Kd.R_below (by (with_reducible repeat (first | apply rA | apply rB | apply rC)); exact HO327.out) hb); have n4_ := m1 (Kd.S_elder' (by (with_reducible repeat (first | apply sA | apply sB | apply sC)); exact HO331.out) (Kd.S_base ho0) hb); have n5_ := m1 (Kd.R_below (by (with_reducible repeat (first | apply rA | apply rB | apply rC)); exact HO334.out) hb); have n6_ := m1 (Kd.S_elder' (by (with_reducible repeat (first | apply sA | apply sB | apply sC)); exact HO338.out) (Kd.S_base ho0) hb); have n7_ := m1 (Kd.R_below (by (with_reducible repeat (first | apply rA | apply rB | apply rC)); exact HO342.out) hb); have n8_ := m1 (Kd.S_elder' (by (with_reducible repeat (first | apply sA | apply sB | apply sC)); exact HO346.out) (Kd.S_base ho0) hb); have n9_ := m1 (Kd.R_below (by (with_reducible repeat (first | apply rA | apply rB | apply rC)); exact HO349.out) hb); have n10_ := m1 (Kd.S_elder' (by (with_reducible repeat (first | apply sA | apply sB | apply sC)); exact HO353.out) (Kd.S_base ho0) hb); have n11_ := m1 (Kd.R_below (by (with_reducible repeat (first | apply rA | apply rB | apply rC)); exact HO356.out) hb); have n12_ := m1 (Kd.S_elder' (by (with_reducible repeat (first | apply sA | apply sB | apply sC)); exact HO360.out) (Kd.S_base ho0) hb); have n13_ := m1 (Kd.R_below (by (with_reducible repeat (first | apply rA | apply rB | apply rC)); exact HO363.out) hb); have n14_ := m1 (Kd.S_lower (Kd.S_new' (Kd.S_new' (Kd.S_new' (Kd.S_new' (Kd.S_new' (Kd.S_new' (Kd.S_new' (Kd.S_new' (Kd.S_new' (Kd.S_new' (Kd.S_new' (Kd.S_new' (Kd.S_new' (Kd.S_new' ho0 (Kd.S_lt (by (with_reducible repeat (first | apply sA | apply sB | apply sC)); exact HO_3.out))) (Kd.R_lt (by (with_reducible repeat (first | apply rA | apply rB | apply rC)); exact HO_6.out))) (Kd.S_lt (by (with_reducible repeat (first | apply sA | apply sB | apply sC)); exact HO_158.out))) (Kd.R_lt (by (with_reducible repeat (first | apply rA | apply rB | apply rC)); exact HO327.out))) (Kd.S_lt (by (with_reducible repeat (first | apply sA | apply sB | apply sC)); exact HO331.out))) (Kd.R_lt (by (with_reducible repeat (first | apply rA | apply rB | apply rC)); exact HO334.out))) (Kd.S_lt (by (with_reducible repeat (first | apply sA | apply sB | apply sC)); exact HO338.out))) (Kd.R_lt (by (with_reducible repeat (first | apply rA | apply rB | apply rC)); exact HO342.out))) (Kd.S_lt (by (with_reducible repeat (first | apply sA | apply sB | apply sC)); exact HO346.out))) (Kd.R_lt (by (with_reducible repeat (first | apply rA | apply rB | apply rC)); exact HO349.out))) (Kd.S_lt (by (with_reducible repeat (first | apply sA | apply sB | apply sC)); exact HO353.out))) (Kd.R_lt (by (with_reducible repeat (first | apply rA | apply rB | apply rC)); exact HO356.out))) (Kd.S_lt (by (with_reducible repeat (first | apply sA | apply sB | apply sC)); exact HO360.out))) (Kd.R_lt (by (with_reducible repeat (first | apply rA | apply rB | apply rC)); exact HO363.out))) (c5 (by repeat (first | (with_reducible first | exact HB.out | apply c1 | apply c2 | apply c3) | exact HB.out)))); have n15_ := m1 (c6 (by repeat (first | (with_reducible first | exact HB.out | apply c1 | apply c2 | apply c3) | exact HB.out)) hb); clear HO_3; clear HO_6; clear HO_158; clear HO327; clear HO331; clear HO334; clear HO338; clear HO342; clear HO346; clear HO349; clear HO353; clear HO356; clear HO360; clear HO363; clear HB; have HO_3 := n0_; have HO_6 := n1_; have HO_158 := n2_; have HO327 := n3_; have HO331 := n4_; have HO334 := n5_; have HO338 := n6_; have HO342 := n7_; have HO346 := n8_; have HO349 := n9_; have HO353 := n10_; have HO356 := n11_; have HO360 := n12_; have HO363 := n13_; have HO367 := n14_; have HB := n15_; clear n0_ n1_ n2_ n3_ n4_ n5_ n6_ n7_ n8_ n9_ n10_ n11_ n12_ n13_ n14_ n15_; (try clear hb); (try clear hb2); (try clear hk); (try clear hi); (try clear ho0)) | ((with_reducible refine gate_callee (f := 6) rfl ?_); refine goesL_ (some 219) rfl rfl Try.func6 (by kernel_rfl) rfl #[.slice Ao131 t350.length co131] rfl (by (try simp only [List.map_toArray, List.map_cons, List.map_nil]); first | done | rfl | (simp only [List.length_drop, List.length_take]; rfl)) ?_; (with_reducible refine (impl_TotalsOf.calls k5 _ _ t350 t368 _ ?side1 ?side2 A83.out).mono ?_); (case side1 => repeat (first | exact (Kd.S_reads' HO353.out).2.2 | (with_reducible refine Kd.C_alloc ?_ _) | (with_reducible refine Kd.C_drewN ?_ _) | (with_reducible refine Kd.C_drew ?_))); (case side2 => exact (Kd.S_reads' HO353.out).2.1); rintro e w134 ⟨v369, rfl, ho0, hb⟩; refine ⟨_, rfl, ?_⟩; have n0_ := m1 (Kd.S_elder' (by (with_reducible repeat (first | apply sA | apply sB | apply sC)); exact HO_3.out) (Kd.R_base ho0) hb); have n1_ := m1 (Kd.R_elder' (by (with_reducible repeat (first | apply rA | apply rB | apply rC)); exact HO_6.out) (Kd.R_base ho0) hb); have n2_ := m1 (Kd.S_elder' (by (with_reducible repeat (first | apply sA | apply sB | apply sC)); exact HO_158.out) (Kd.R_base ho0) hb); have n3_ := m1 (Kd.R_elder' (by (with_reducible repeat (first | apply rA | apply rB | apply rC)); exact HO327.out) (Kd.R_base ho0) hb); have n4_ := m1 (Kd.S_elder' (by (with_reducible repeat (first | apply sA | apply sB | apply sC)); exact HO331.out) (Kd.R_base ho0) hb); have n5_ := m1 (Kd.R_elder' (by (with_reducible repeat (first | apply rA | apply rB | apply rC)); exact HO334.out) (Kd.R_base ho0) hb); have n6_ := m1 (Kd.S_elder' (by (with_reducible repeat (first | apply sA | apply sB | apply sC)); exact HO338.out) (Kd.R_base ho0) hb); have n7_ := m1 (Kd.R_elder' (by (with_reducible repeat (first | apply rA | apply rB | apply rC)); exact HO342.out) (Kd.R_base ho0) hb); have n8_ := m1 (Kd.S_elder' (by (with_reducible repeat (first | apply sA | apply sB | apply sC)); exact HO346.out) (Kd.R_base ho0) hb); have n9_ := m1 (Kd.R_elder' (by (with_reducible repeat (first | apply rA | apply rB | apply rC)); exact HO349.out) (Kd.R_base ho0) hb); have n10_ := m1 (Kd.S_elder' (by (with_reducible repeat (first | apply sA | apply sB | apply sC)); exact HO353.out) (Kd.R_base ho0) hb); have n11_ := m1 (Kd.R_elder' (by (with_reducible repeat (first | apply rA | apply rB | apply rC)); exact HO356.out) (Kd.R_base ho0) hb); have n12_ := m1 (Kd.S_elder' (by (with_reducible repeat (first | apply sA | apply sB | apply sC)); exact HO360.out) (Kd.R_base ho0) hb); have n13_ := m1 (Kd.R_elder' (by (with_reducible repeat (first | apply rA | apply rB | apply rC)); exact HO363.out) (Kd.R_base ho0) hb); have n14_ := m1 (Kd.S_elder' (by (with_reducible repeat (first | apply sA | apply sB | apply sC)); exact HO367.out) (Kd.R_base ho0) hb); have n15_ := m1 (Kd.R_lower (Kd.R_new' (Kd.R_new' (Kd.R_new' (Kd.R_new' (Kd.R_new' (Kd.R_new' (Kd.R_new' ho0 (Kd.R_lt (by (with_reducible repeat (first | apply rA | apply rB | apply rC)); exact HO_6.out))) (Kd.R_lt (by (with_reducible repeat (first | apply rA | apply rB | apply rC)); exact HO327.out))) (Kd.R_lt (by (with_reducible repeat (first | apply rA | apply rB | apply rC)); exact HO334.out))) (Kd.R_lt (by (with_reducible repeat (first | apply rA | apply rB | apply rC)); exact HO342.out))) (Kd.R_lt (by (with_reducible repeat (first | apply rA | apply rB | apply rC)); exact HO349.out))) (Kd.R_lt (by (with_reducible repeat (first | apply rA | apply rB | apply rC)); exact HO356.out))) (Kd.R_lt (by (with_reducible repeat (first | apply rA | apply rB | apply rC)); exact HO363.out))) (c5 (by repeat (first | (with_reducible first | exact HB.out | apply c1 | apply c2 | apply c3) | exact HB.out)))); have n16_ := m1 (c6 (by repeat (first | (with_reducible first | exact HB.out | apply c1 | apply c2 | apply c3) | exact HB.out)) hb); clear HO_3; clear HO_6; clear HO_158; clear HO327; clear HO331; clear HO334; clear HO338; clear HO342; clear HO346; clear HO349; clear HO353; clear HO356; clear HO360; clear HO363; clear HO367; clear HB; have HO_3 := n0_; have HO_6 := n1_; have HO_158 := n2_; have HO327 := n3_; have HO331 := n4_; have HO334 := n5_; have HO338 := n6_; have HO342 := n7_; have HO346 := n8_; have HO349 := n9_; have HO353 := n10_; have HO356 := n11_; have HO360 := n12_; have HO363 := n13_; have HO367 := n14_; have HO370 := n15_; have HB := n16_; clear n0_ n1_ n2_ n3_ n4_ n5_ n6_ n7_ n8_ n9_ n10_ n11_ n12_ n13_ n14_ n15_ n16_; (try clear hb); (try clear hb2); (try clear hk); (try clear hi); (try clear ho0)))
           have n0_ := m1 (sC HO_3.out); have n1_ := m1 (rC HO_6.out); have n2_ := m1 (sC HO_158.out); have n3_ := m1 (rC HO327.out); have n4_ := m1 (sC HO331.out); have n5_ := m1 (rC HO334.out); have n6_ := m1 (sC HO338.out); have n7_ := m1 (rC HO342.out); have n8_ := m1 (sC HO346.out); have n9_ := m1 (rC HO349.out); have n10_ := m1 (sC HO353.out); have n11_ := m1 (rC HO356.out); have n12_ := m1 (sC HO360.out); have n13_ := m1 (rC HO363.out); have n14_ := m1 (sC HO367.out); have n15_ := m1 (rC HO370.out); have n16_ := m1 (below_drew1 HB.out); clear HO_3 HO_6 HO_158 HO327 HO331 HO334 HO338 HO342 HO346 HO349 HO353 HO356 HO360 HO363 HO367 HO370 HB; have HO_3 := n0_; have HO_6 := n1_; have HO_158 := n2_; have HO327 := n3_; have HO331 := n4_; have HO334 := n5_; have HO338 := n6_; have HO342 := n7_; have HO346 := n8_; have HO349 := n9_; have HO353 := n10_; have HO356 := n11_; have HO360 := n12_; have HO363 := n13_; have HO367 := n14_; have HO370 := n15_; have HB := n16_; clear n0_ n1_ n2_ n3_ n4_ n5_ n6_ n7_ n8_ n9_ n10_ n11_ n12_ n13_ n14_ n15_ n16_; have p375 : 0 ≤ (3 : Int) := (by omega)
           have q375 : 3 < (t368.length : Int) := of_decide_eq_true (by first | (with_reducible assumption) | assumption)
           (try (obtain ⟨A_, c_, e_⟩ := Kd.R_slice HO370.out; subst e_)); obtain ⟨ad375, e375, hx375_0⟩ := Kd.at_int (Kd.R_reads' HO370.out).2.2 3 p375 q375
           cases e375
           (try simp only [show (3 : Int).toNat = 3 from rfl, Nat.reduceMul, Nat.reduceEqDiff, Go.Addr.add, ↓reduceIte] at hx375_0)
           have qi375 : (3 < t368.length) = True := eq_true (by omega)
           (try rw [show ((3 : Int)).toNat = 3 from rfl] at hx375_0)
           replace p375 := eq_true p375; replace q375 := eq_true q375; have p376 : 0 ≤ (3 : Int) := (by omega)
           have q376 : 3 < (t291.length : Int) := of_decide_eq_true (by first | (with_reducible assumption) | assumption)
           (try (obtain ⟨A_, c_, e_⟩ := Kd.R_slice HO_6.out; subst e_)); obtain ⟨ad376, e376, hx376_0⟩ := Kd.at_int (Kd.R_reads' HO_6.out).2.2 3 p376 q376
           cases e376
           (try simp only [show (3 : Int).toNat = 3 from rfl, Nat.reduceMul, Nat.reduceEqDiff, Go.Addr.add, ↓reduceIte] at hx376_0)
           have qi376 : (3 < t291.length) = True := eq_true (by omega)
           (try rw [show ((3 : Int)).toNat = 3 from rfl] at hx376_0)
           replace p376 := eq_true p376; replace q376 := eq_true q376; have p377 : 0 ≤ (2 : Int) := (by omega)
           have q377 : 2 < (t368.length : Int) := of_decide_eq_true (by first | (with_reducible assumption) | assumption)
           (try (obtain ⟨A_, c_, e_⟩ := Kd.R_slice HO370.out; subst e_)); obtain ⟨ad377, e377, hx377_0⟩ := Kd.at_int (Kd.R_reads' HO370.out).2.2 2 p377 q377; obtain rfl : ad375 = ad377 := (by injection e377)
           (try simp only [show (2 : Int).toNat = 2 from rfl, Nat.reduceMul, Nat.reduceEqDiff, Go.Addr.add, ↓reduceIte] at hx377_0)
           have qi377 : (2 < t368.length) = True := eq_true (by omega)
           (try rw [show ((2 : Int)).toNat = 2 from rfl] at hx377_0)
           replace p377 := eq_true p377; replace q377 := eq_true q377; have p378 : 0 ≤ (2 : Int) := (by omega)
           have q378 : 2 < (t291.length : Int) := of_decide_eq_true (by first | (with_reducible assumption) | assumption)
           (try (obtain ⟨A_, c_, e_⟩ := Kd.R_slice HO_6.out; subst e_)); obtain ⟨ad378, e378, hx378_0⟩ := Kd.at_int (Kd.R_reads' HO_6.out).2.2 2 p378 q378; obtain rfl : ad376 = ad378 := (by injection e378)
           (try simp only [show (2 : Int).toNat = 2 from rfl, Nat.reduceMul, Nat.reduceEqDiff, Go.Addr.add, ↓reduceIte] at hx378_0)
           have qi378 : (2 < t291.length) = True := eq_true (by omega)
           (try rw [show ((2 : Int)).toNat = 2 from rfl] at hx378_0)
           replace p378 := eq_true p378; replace q378 := eq_true q378; refine start_ (n := 75) (S := fun w' => w'.cell? ⟨ad375.block, ad375.off + 3, none⟩ = some (.int .i64 (rd t368 3)) ∧ w'.cell? ⟨ad376.block, ad376.off + 3, none⟩ = some (.int .i64 (rd t291 3)) ∧ w'.cell? ⟨ad375.block, ad375.off + 2, none⟩ = some (.int .i64 (rd t368 2)) ∧ w'.cell? ⟨ad376.block, ad376.off + 2, none⟩ = some (.int .i64 (rd t291 2))) (ds := []) #[Z,Z,Z,Z,Z,Z,Z,Z,Z,Z,Z,Z,Z,Z,Z,Z,Z,Z,Z,Z,Z,Z,Z,Z,Z,Z,Z,Z,Z,Z,Z,Z,Z,Z,Z,Z,Z,Z,Z,Z,Z,Z,Z,Z,Z,Z,Z,Z,Z,Z,Z,Z,Z,Z,Z,Z,Z,Z,Z,Z,Z,Z,Z,Z,Z,Z,Z,Z,Z,Z,Z,Z,Z,Z,Z] (by kernel_rfl) rfl rfl ⟨hx375_0, hx376_0, hx377_0, hx378_0⟩ (fun hHeld => ?_); refine with_tabW laws_FnLedger.tab39 laws_FnLedger.bits39 (fun HT_ HW_ => ?_)
           generalize w134.drew = w135 at HO_3 HO_6 HO_158 HO327 HO331 HO334 HO338 HO342 HO346 HO349 HO353 HO356 HO360 HO363 HO367 HO370 HB hx375_0 hx376_0 hx377_0 hx378_0 hHeld ⊢
           refine pure_ (i := 0) (N := some 220) (v := ?_) (a' := ?_) #[Y,Z,Z,Z,Z,Z,Z,Z,Z,Z,Z,Z,Z,Z,Z,Z,Z,Z,Z,Z,Z,Z,Z,Z,Z,Z,Z,Z,Z,Z,Z,Z,Z,Z,Z,Z,Z,Z,Z,Z,Z,Z,Z,Z,Z,Z,Z,Z,Z,Z,Z,Z,Z,Z,Z,Z,Z,Z,Z,Z,Z,Z,Z,Z,Z,Z,Z,Z,Z,Z,Z,Z,Z,Z,Z] rfl rfl (any_of HT_.out (by kernel_rfl)) (fun _ _ _ h => h) (Or.inl ⟨by rfl, ?_⟩) ?_ ?_
           rotate_left
           ·intro w'
            go_simp; with_reducible rfl
           rotate_left
           ·simp only [Act.put, q1, q2, q3, i64_w, i32_w]
            rfl
           refine pure_ (i := 1) (N := some 221) (v := ?_) (a' := ?_) #[Y,Y,Z,Z,Z,Z,Z,Z,Z,Z,Z,Z,Z,Z,Z,Z,Z,Z,Z,Z,Z,Z,Z,Z,Z,Z,Z,Z,Z,Z,Z,Z,Z,Z,Z,Z,Z,Z,Z,Z,Z,Z,Z,Z,Z,Z,Z,Z,Z,Z,Z,Z,Z,Z,Z,Z,Z,Z,Z,Z,Z,Z,Z,Z,Z,Z,Z,Z,Z,Z,Z,Z,Z,Z,Z] rfl rfl (any_of HT_.out (by kernel_rfl)) (fun _ _ _ h => h) (Or.inl ⟨by rfl, ?_⟩) ?_ ?_
           rotate_left
           ·intro w'
            go_simp; with_reducible rfl
           rotate_left
           ·simp only [Act.put, q1, q2, q3, i64_w, i32_w]
            rfl
           refine pure_ (i := 2) (N := some 222) (v := ?_) (a' := ?_) #[Y,Y,Y,Z,Z,Z,Z,Z,Z,Z,Z,Z,Z,Z,Z,Z,Z,Z,Z,Z,Z,Z,Z,Z,Z,Z,Z,Z,Z,Z,Z,Z,Z,Z,Z,Z,Z,Z,Z,Z,Z,Z,Z,Z,Z,Z,Z,Z,Z,Z,Z,Z,Z,Z,Z,Z,Z,Z,Z,Z,Z,Z,Z,Z,Z,Z,Z,Z,Z,Z,Z,Z,Z,Z,Z] rfl rfl (any_of HT_.out (by kernel_rfl)) (fun _ _ _ h => h) (Or.inl ⟨by rfl, ?_⟩) ?_ ?_
           rotate_left
           ·intro w'
            go_simp; with_reducible rfl
           rotate_left
           ·simp only [Act.put, q1, q2, q3, i64_w, i32_w]
            rfl
           refine pure_ (i := 3) (N := some 223) (v := ?_) (a' := ?_) #[Y,Y,Y,Y,Z,Z,Z,Z,Z,Z,Z,Z,Z,Z,Z,Z,Z,Z,Z,Z,Z,Z,Z,Z,Z,Z,Z,Z,Z,Z,Z,Z,Z,Z,Z,Z,Z,Z,Z,Z,Z,Z,Z,Z,Z,Z,Z,Z,Z,Z,Z,Z,Z,Z,Z,Z,Z,Z,Z,Z,Z,Z,Z,Z,Z,Z,Z,Z,Z,Z,Z,Z,Z,Z,Z] rfl rfl (any_of HT_.out (by kernel_rfl)) (fun _ _ _ h => h) (Or.inl ⟨by rfl, ?_⟩) ?_ ?_
           rotate_left
           ·intro w'
            go_simp; with_reducible rfl
           rotate_left
           ·simp only [Act.put, q1, q2, q3, i64_w, i32_w]
            rfl
           refine pure_ (i := 4) (N := some 224) (v := ?_) (a' := ?_) #[Y,Y,Y,Y,Y,Z,Z,Z,Z,Z,Z,Z,Z,Z,Z,Z,Z,Z,Z,Z,Z,Z,Z,Z,Z,Z,Z,Z,Z,Z,Z,Z,Z,Z,Z,Z,Z,Z,Z,Z,Z,Z,Z,Z,Z,Z,Z,Z,Z,Z,Z,Z,Z,Z,Z,Z,Z,Z,Z,Z,Z,Z,Z,Z,Z,Z,Z,Z,Z,Z,Z,Z,Z,Z,Z] rfl rfl (any_of HT_.out (by kernel_rfl)) (fun _ _ _ h => h) (Or.inl ⟨by rfl, ?_⟩) ?_ ?_
           rotate_left
           ·intro w'
            go_simp; with_reducible rfl
           rotate_left
           ·simp only [Act.put, q1, q2, q3, i64_w, i32_w]
            rfl
           refine pure_ (i := 5) (N := some 225) (v := ?_) (a' := ?_) #[Y,Y,Y,Y,Y,Y,Z,Z,Z,Z,Z,Z,Z,Z,Z,Z,Z,Z,Z,Z,Z,Z,Z,Z,Z,Z,Z,Z,Z,Z,Z,Z,Z,Z,Z,Z,Z,Z,Z,Z,Z,Z,Z,Z,Z,Z,Z,Z,Z,Z,Z,Z,Z,Z,Z,Z,Z,Z,Z,Z,Z,Z,Z,Z,Z,Z,Z,Z,Z,Z,Z,Z,Z,Z,Z] rfl rfl (any_of HT_.out (by kernel_rfl)) (fun _ _ _ h => h) (Or.inl ⟨by rfl, ?_⟩) ?_ ?_
           rotate_left
           ·intro w'
            go_simp; with_reducible rfl
           rotate_left
           ·simp only [Act.put, q1, q2, q3, i64_w, i32_w]
            rfl
           refine pure_ (i := 6) (N := some 226) (v := ?_) (a' := ?_) #[Y,Y,Y,Y,Y,Y,Y,Z,Z,Z,Z,Z,Z,Z,Z,Z,Z,Z,Z,Z,Z,Z,Z,Z,Z,Z,Z,Z,Z,Z,Z,Z,Z,Z,Z,Z,Z,Z,Z,Z,Z,Z,Z,Z,Z,Z,Z,Z,Z,Z,Z,Z,Z,Z,Z,Z,Z,Z,Z,Z,Z,Z,Z,Z,Z,Z,Z,Z,Z,Z,Z,Z,Z,Z,Z] rfl rfl (any_of HT_.out (by kernel_rfl)) (fun _ _ _ h => h) (Or.inl ⟨by rfl, ?_⟩) ?_ ?_
           rotate_left
           ·intro w'
            go_simp; with_reducible rfl
           rotate_left
           ·simp only [Act.put, q1, q2, q3, i64_w, i32_w]
            rfl
           refine pure_ (i := 7) (N := some 227) (v := ?_) (a' := ?_) #[Y,Y,Y,Y,Y,Y,Y,Y,Z,Z,Z,Z,Z,Z,Z,Z,Z,Z,Z,Z,Z,Z,Z,Z,Z,Z,Z,Z,Z,Z,Z,Z,Z,Z,Z,Z,Z,Z,Z,Z,Z,Z,Z,Z,Z,Z,Z,Z,Z,Z,Z,Z,Z,Z,Z,Z,Z,Z,Z,Z,Z,Z,Z,Z,Z,Z,Z,Z,Z,Z,Z,Z,Z,Z,Z] rfl rfl (any_of HT_.out (by kernel_rfl)) (fun _ _ _ h => h) (Or.inl ⟨by rfl, ?_⟩) ?_ ?_
           rotate_left
           ·intro w'
            go_simp; with_reducible rfl
           rotate_left
           ·simp only [Act.put, q1, q2, q3, i64_w, i32_w]
            rfl
           refine pure_ (i := 8) (N := some 228) (v := ?_) (a' := ?_) #[Y,Y,Y,Y,Y,Y,Y,Y,Y,Z,Z,Z,Z,Z,Z,Z,Z,Z,Z,Z,Z,Z,Z,Z,Z,Z,Z,Z,Z,Z,Z,Z,Z,Z,Z,Z,Z,Z,Z,Z,Z,Z,Z,Z,Z,Z,Z,Z,Z,Z,Z,Z,Z,Z,Z,Z,Z,Z,Z,Z,Z,Z,Z,Z,Z,Z,Z,Z,Z,Z,Z,Z,Z,Z,Z] rfl rfl (any_of HT_.out (by kernel_rfl)) (fun _ _ _ h => h) (Or.inl ⟨by rfl, ?_⟩) ?_ ?_
           rotate_left
           ·intro w'
            go_simp; with_reducible rfl
           rotate_left
           ·simp only [Act.put, q1, q2, q3, i64_w, i32_w]
            rfl
           refine pure_ (i := 9) (N := some 229) (v := ?_) (a' := ?_) #[Y,Y,Y,Y,Y,Y,Y,Y,Y,Y,Z,Z,Z,Z,Z,Z,Z,Z,Z,Z,Z,Z,Z,Z,Z,Z,Z,Z,Z,Z,Z,Z,Z,Z,Z,Z,Z,Z,Z,Z,Z,Z,Z,Z,Z,Z,Z,Z,Z,Z,Z,Z,Z,Z,Z,Z,Z,Z,Z,Z,Z,Z,Z,Z,Z,Z,Z,Z,Z,Z,Z,Z,Z,Z,Z] rfl rfl (any_of HT_.out (by kernel_rfl)) (fun _ _ _ h => h) (Or.inl ⟨by rfl, ?_⟩) ?_ ?_
           rotate_left
           ·intro w'
            go_simp; with_reducible rfl
           rotate_left
           ·simp only [Act.put, q1, q2, q3, i64_w, i32_w]
            rfl
           refine pure_ (i := 10) (N := some 230) (v := ?_) (a' := ?_) #[Y,Y,Y,Y,Y,Y,Y,Y,Y,Y,Y,Z,Z,Z,Z,Z,Z,Z,Z,Z,Z,Z,Z,Z,Z,Z,Z,Z,Z,Z,Z,Z,Z,Z,Z,Z,Z,Z,Z,Z,Z,Z,Z,Z,Z,Z,Z,Z,Z,Z,Z,Z,Z,Z,Z,Z,Z,Z,Z,Z,Z,Z,Z,Z,Z,Z,Z,Z,Z,Z,Z,Z,Z,Z,Z] rfl rfl (any_of HT_.out (by kernel_rfl)) (fun _ _ _ h => h) (Or.inl ⟨by rfl, ?_⟩) ?_ ?_
           rotate_left
           ·intro w'
            go_simp; with_reducible rfl
           rotate_left
           ·simp only [Act.put, q1, q2, q3, i64_w, i32_w]
            rfl
           refine pure_ (i := 11) (N := some 231) (v := ?_) (a' := ?_) #[Y,Y,Y,Y,Y,Y,Y,Y,Y,Y,Y,Y,Z,Z,Z,Z,Z,Z,Z,Z,Z,Z,Z,Z,Z,Z,Z,Z,Z,Z,Z,Z,Z,Z,Z,Z,Z,Z,Z,Z,Z,Z,Z,Z,Z,Z,Z,Z,Z,Z,Z,Z,Z,Z,Z,Z,Z,Z,Z,Z,Z,Z,Z,Z,Z,Z,Z,Z,Z,Z,Z,Z,Z,Z,Z] rfl rfl (any_of HT_.out (by kernel_rfl)) (fun _ _ _ h => h) (Or.inl ⟨by rfl, ?_⟩) ?_ ?_
           rotate_left
           ·intro w'
            go_simp; with_reducible rfl
           rotate_left
           ·simp only [Act.put, q1, q2, q3, i64_w, i32_w]
            rfl
           refine pure_ (i := 12) (N := some 232) (v := ?_) (a' := ?_) #[Y,Y,Y,Y,Y,Y,Y,Y,Y,Y,Y,Y,Y,Z,Z,Z,Z,Z,Z,Z,Z,Z,Z,Z,Z,Z,Z,Z,Z,Z,Z,Z,Z,Z,Z,Z,Z,Z,Z,Z,Z,Z,Z,Z,Z,Z,Z,Z,Z,Z,Z,Z,Z,Z,Z,Z,Z,Z,Z,Z,Z,Z,Z,Z,Z,Z,Z,Z,Z,Z,Z,Z,Z,Z,Z] rfl rfl (any_of HT_.out (by kernel_rfl)) (fun _ _ _ h => h) (Or.inl ⟨by rfl, ?_⟩) ?_ ?_
           rotate_left
           ·intro w'
            go_simp; with_reducible rfl
           rotate_left
           ·simp only [Act.put, q1, q2, q3, i64_w, i32_w]
            rfl
           refine pure_ (i := 13) (N := some 233) (v := ?_) (a' := ?_) #[Y,Y,Y,Y,Y,Y,Y,Y,Y,Y,Y,Y,Y,Y,Z,Z,Z,Z,Z,Z,Z,Z,Z,Z,Z,Z,Z,Z,Z,Z,Z,Z,Z,Z,Z,Z,Z,Z,Z,Z,Z,Z,Z,Z,Z,Z,Z,Z,Z,Z,Z,Z,Z,Z,Z,Z,Z,Z,Z,Z,Z,Z,Z,Z,Z,Z,Z,Z,Z,Z,Z,Z,Z,Z,Z] rfl rfl (any_of HT_.out (by kernel_rfl)) (fun _ _ _ h => h) (Or.inl ⟨by rfl, ?_⟩) ?_ ?_
           rotate_left
           ·intro w'
            go_simp; with_reducible rfl
           rotate_left
           ·simp only [Act.put, q1, q2, q3, i64_w, i32_w]
            rfl
           refine pure_ (i := 14) (N := some 234) (v := ?_) (a' := ?_) #[Y,Y,Y,Y,Y,Y,Y,Y,Y,Y,Y,Y,Y,Y,Y,Z,Z,Z,Z,Z,Z,Z,Z,Z,Z,Z,Z,Z,Z,Z,Z,Z,Z,Z,Z,Z,Z,Z,Z,Z,Z,Z,Z,Z,Z,Z,Z,Z,Z,Z,Z,Z,Z,Z,Z,Z,Z,Z,Z,Z,Z,Z,Z,Z,Z,Z,Z,Z,Z,Z,Z,Z,Z,Z,Z] rfl rfl (any_of HT_.out (by kernel_rfl)) (fun _ _ _ h => h) (Or.inl ⟨by rfl, ?_⟩) ?_ ?_
           rotate_left
           ·intro w'
            go_simp; with_reducible rfl
           rotate_left
           ·simp only [Act.put, q1, q2, q3, i64_w, i32_w]
            rfl
           refine pure_ (i := 15) (N := some 235) (v := ?_) (a' := ?_) #[Y,Y,Y,Y,Y,Y,Y,Y,Y,Y,Y,Y,Y,Y,Y,Y,Z,Z,Z,Z,Z,Z,Z,Z,Z,Z,Z,Z,Z,Z,Z,Z,Z,Z,Z,Z,Z,Z,Z,Z,Z,Z,Z,Z,Z,Z,Z,Z,Z,Z,Z,Z,Z,Z,Z,Z,Z,Z,Z,Z,Z,Z,Z,Z,Z,Z,Z,Z,Z,Z,Z,Z,Z,Z,Z] rfl rfl (any_of HT_.out (by kernel_rfl)) (fun _ _ _ h => h) (Or.inl ⟨by rfl, ?_⟩) ?_ ?_
           rotate_left
           ·intro w'
            go_simp; with_reducible rfl
           rotate_left
           ·simp only [Act.put, q1, q2, q3, i64_w, i32_w]
            rfl
           refine pure_ (i := 16) (N := some 236) (v := ?_) (a' := ?_) #[Y,Y,Y,Y,Y,Y,Y,Y,Y,Y,Y,Y,Y,Y,Y,Y,Y,Z,Z,Z,Z,Z,Z,Z,Z,Z,Z,Z,Z,Z,Z,Z,Z,Z,Z,Z,Z,Z,Z,Z,Z,Z,Z,Z,Z,Z,Z,Z,Z,Z,Z,Z,Z,Z,Z,Z,Z,Z,Z,Z,Z,Z,Z,Z,Z,Z,Z,Z,Z,Z,Z,Z,Z,Z,Z] rfl rfl (any_of HT_.out (by kernel_rfl)) (fun _ _ _ h => h) (Or.inl ⟨by rfl, ?_⟩) ?_ ?_
           rotate_left
           ·intro w'
            go_simp; with_reducible rfl
           rotate_left
           ·simp only [Act.put, q1, q2, q3, i64_w, i32_w]
            rfl
           refine pure_ (i := 17) (N := some 237) (v := ?_) (a' := ?_) #[Y,Y,Y,Y,Y,Y,Y,Y,Y,Y,Y,Y,Y,Y,Y,Y,Y,Y,Z,Z,Z,Z,Z,Z,Z,Z,Z,Z,Z,Z,Z,Z,Z,Z,Z,Z,Z,Z,Z,Z,Z,Z,Z,Z,Z,Z,Z,Z,Z,Z,Z,Z,Z,Z,Z,Z,Z,Z,Z,Z,Z,Z,Z,Z,Z,Z,Z,Z,Z,Z,Z,Z,Z,Z,Z] rfl rfl (any_of HT_.out (by kernel_rfl)) (fun _ _ _ h => h) (Or.inl ⟨by rfl, ?_⟩) ?_ ?_
           rotate_left
           ·intro w'
            go_simp; with_reducible rfl
           rotate_left
           ·simp only [Act.put, q1, q2, q3, i64_w, i32_w]
            rfl
           refine pure_ (i := 18) (N := some 238) (v := ?_) (a' := ?_) #[Y,Y,Y,Y,Y,Y,Y,Y,Y,Y,Y,Y,Y,Y,Y,Y,Y,Y,Y,Z,Z,Z,Z,Z,Z,Z,Z,Z,Z,Z,Z,Z,Z,Z,Z,Z,Z,Z,Z,Z,Z,Z,Z,Z,Z,Z,Z,Z,Z,Z,Z,Z,Z,Z,Z,Z,Z,Z,Z,Z,Z,Z,Z,Z,Z,Z,Z,Z,Z,Z,Z,Z,Z,Z,Z] rfl rfl (any_of HT_.out (by kernel_rfl)) (fun _ _ _ h => h) (Or.inl ⟨by rfl, ?_⟩) ?_ ?_
           rotate_left
           ·intro w'
            go_simp; with_reducible rfl
           rotate_left
           ·simp only [Act.put, q1, q2, q3, i64_w, i32_w]
            rfl
           refine pure_ (i := 19) (N := some 239) (v := ?_) (a' := ?_) #[Y,Y,Y,Y,Y,Y,Y,Y,Y,Y,Y,Y,Y,Y,Y,Y,Y,Y,Y,Y,Z,Z,Z,Z,Z,Z,Z,Z,Z,Z,Z,Z,Z,Z,Z,Z,Z,Z,Z,Z,Z,Z,Z,Z,Z,Z,Z,Z,Z,Z,Z,Z,Z,Z,Z,Z,Z,Z,Z,Z,Z,Z,Z,Z,Z,Z,Z,Z,Z,Z,Z,Z,Z,Z,Z] rfl rfl (any_of HT_.out (by kernel_rfl)) (fun _ _ _ h => h) (Or.inl ⟨by rfl, ?_⟩) ?_ ?_
           rotate_left
           ·intro w'
            go_simp; with_reducible rfl
           rotate_left
           ·simp only [Act.put, q1, q2, q3, i64_w, i32_w]
            rfl
           refine pure_ (i := 20) (N := some 240) (v := ?_) (a' := ?_) #[Y,Y,Y,Y,Y,Y,Y,Y,Y,Y,Y,Y,Y,Y,Y,Y,Y,Y,Y,Y,Y,Z,Z,Z,Z,Z,Z,Z,Z,Z,Z,Z,Z,Z,Z,Z,Z,Z,Z,Z,Z,Z,Z,Z,Z,Z,Z,Z,Z,Z,Z,Z,Z,Z,Z,Z,Z,Z,Z,Z,Z,Z,Z,Z,Z,Z,Z,Z,Z,Z,Z,Z,Z,Z,Z] rfl rfl (any_of HT_.out (by kernel_rfl)) (fun _ _ _ h => h) (Or.inl ⟨by rfl, ?_⟩) ?_ ?_
           rotate_left
           ·intro w'
            go_simp; with_reducible rfl
           rotate_left
           ·simp only [Act.put, q1, q2, q3, i64_w, i32_w]
            rfl
           refine pure_ (i := 21) (N := some 241) (v := ?_) (a' := ?_) #[Y,Y,Y,Y,Y,Y,Y,Y,Y,Y,Y,Y,Y,Y,Y,Y,Y,Y,Y,Y,Y,Y,Z,Z,Z,Z,Z,Z,Z,Z,Z,Z,Z,Z,Z,Z,Z,Z,Z,Z,Z,Z,Z,Z,Z,Z,Z,Z,Z,Z,Z,Z,Z,Z,Z,Z,Z,Z,Z,Z,Z,Z,Z,Z,Z,Z,Z,Z,Z,Z,Z,Z,Z,Z,Z] rfl rfl (any_of HT_.out (by kernel_rfl)) (fun _ _ _ h => h) (Or.inl ⟨by rfl, ?_⟩) ?_ ?_
           rotate_left
           ·intro w'
            go_simp; with_reducible rfl
           rotate_left
           ·simp only [Act.put, q1, q2, q3, i64_w, i32_w]
            rfl
           refine pure_ (i := 22) (N := some 242) (v := ?_) (a' := ?_) #[Y,Y,Y,Y,Y,Y,Y,Y,Y,Y,Y,Y,Y,Y,Y,Y,Y,Y,Y,Y,Y,Y,Y,Z,Z,Z,Z,Z,Z,Z,Z,Z,Z,Z,Z,Z,Z,Z,Z,Z,Z,Z,Z,Z,Z,Z,Z,Z,Z,Z,Z,Z,Z,Z,Z,Z,Z,Z,Z,Z,Z,Z,Z,Z,Z,Z,Z,Z,Z,Z,Z,Z,Z,Z,Z] rfl rfl (any_of HT_.out (by kernel_rfl)) (fun _ _ _ h => h) (Or.inl ⟨by rfl, ?_⟩) ?_ ?_
           rotate_left
           ·intro w'
            go_simp; with_reducible rfl
           rotate_left
           ·simp only [Act.put, q1, q2, q3, i64_w, i32_w]
            rfl
           refine pure_ (i := 23) (N := some 243) (v := ?_) (a' := ?_) #[Y,Y,Y,Y,Y,Y,Y,Y,Y,Y,Y,Y,Y,Y,Y,Y,Y,Y,Y,Y,Y,Y,Y,Y,Z,Z,Z,Z,Z,Z,Z,Z,Z,Z,Z,Z,Z,Z,Z,Z,Z,Z,Z,Z,Z,Z,Z,Z,Z,Z,Z,Z,Z,Z,Z,Z,Z,Z,Z,Z,Z,Z,Z,Z,Z,Z,Z,Z,Z,Z,Z,Z,Z,Z,Z] rfl rfl (any_of HT_.out (by kernel_rfl)) (fun _ _ _ h => h) (Or.inl ⟨by rfl, ?_⟩) ?_ ?_
           rotate_left
           ·intro w'
            go_simp; with_reducible rfl
           rotate_left
           ·simp only [Act.put, q1, q2, q3, i64_w, i32_w]
            rfl
           refine pure_ (i := 24) (N := some 244) (v := ?_) (a' := ?_) #[Y,Y,Y,Y,Y,Y,Y,Y,Y,Y,Y,Y,Y,Y,Y,Y,Y,Y,Y,Y,Y,Y,Y,Y,Y,Z,Z,Z,Z,Z,Z,Z,Z,Z,Z,Z,Z,Z,Z,Z,Z,Z,Z,Z,Z,Z,Z,Z,Z,Z,Z,Z,Z,Z,Z,Z,Z,Z,Z,Z,Z,Z,Z,Z,Z,Z,Z,Z,Z,Z,Z,Z,Z,Z,Z] rfl rfl (any_of HT_.out (by kernel_rfl)) (fun _ _ _ h => h) (Or.inl ⟨by rfl, ?_⟩) ?_ ?_
           rotate_left
           ·intro w'
            go_simp; with_reducible rfl
           rotate_left
           ·simp only [Act.put, q1, q2, q3, i64_w, i32_w]
            rfl
           refine pure_ (i := 25) (N := some 245) (v := ?_) (a' := ?_) #[Y,Y,Y,Y,Y,Y,Y,Y,Y,Y,Y,Y,Y,Y,Y,Y,Y,Y,Y,Y,Y,Y,Y,Y,Y,Y,Z,Z,Z,Z,Z,Z,Z,Z,Z,Z,Z,Z,Z,Z,Z,Z,Z,Z,Z,Z,Z,Z,Z,Z,Z,Z,Z,Z,Z,Z,Z,Z,Z,Z,Z,Z,Z,Z,Z,Z,Z,Z,Z,Z,Z,Z,Z,Z,Z] rfl rfl (any_of HT_.out (by kernel_rfl)) (fun _ _ _ h => h) (Or.inl ⟨by rfl, ?_⟩) ?_ ?_
           rotate_left
           ·intro w'
            go_simp; with_reducible rfl
           rotate_left
           ·simp only [Act.put, q1, q2, q3, i64_w, i32_w]
            rfl
           refine pure_ (i := 26) (N := some 246) (v := ?_) (a' := ?_) #[Y,Y,Y,Y,Y,Y,Y,Y,Y,Y,Y,Y,Y,Y,Y,Y,Y,Y,Y,Y,Y,Y,Y,Y,Y,Y,Y,Z,Z,Z,Z,Z,Z,Z,Z,Z,Z,Z,Z,Z,Z,Z,Z,Z,Z,Z,Z,Z,Z,Z,Z,Z,Z,Z,Z,Z,Z,Z,Z,Z,Z,Z,Z,Z,Z,Z,Z,Z,Z,Z,Z,Z,Z,Z,Z] rfl rfl (any_of HT_.out (by kernel_rfl)) (fun _ _ _ h => h) (Or.inl ⟨by rfl, ?_⟩) ?_ ?_
           rotate_left
           ·intro w'
            go_simp; with_reducible rfl
           rotate_left
           ·simp only [Act.put, q1, q2, q3, i64_w, i32_w]
            rfl
           refine pure_ (i := 27) (N := some 247) (v := ?_) (a' := ?_) #[Y,Y,Y,Y,Y,Y,Y,Y,Y,Y,Y,Y,Y,Y,Y,Y,Y,Y,Y,Y,Y,Y,Y,Y,Y,Y,Y,Y,Z,Z,Z,Z,Z,Z,Z,Z,Z,Z,Z,Z,Z,Z,Z,Z,Z,Z,Z,Z,Z,Z,Z,Z,Z,Z,Z,Z,Z,Z,Z,Z,Z,Z,Z,Z,Z,Z,Z,Z,Z,Z,Z,Z,Z,Z,Z] rfl rfl (any_of HT_.out (by kernel_rfl)) (fun _ _ _ h => h) (Or.inl ⟨by rfl, ?_⟩) ?_ ?_
           rotate_left
           ·intro w'
            go_simp; with_reducible rfl
           rotate_left
           ·simp only [Act.put, q1, q2, q3, i64_w, i32_w]
            rfl
           refine pure_ (i := 28) (N := some 248) (v := ?_) (a' := ?_) #[Y,Y,Y,Y,Y,Y,Y,Y,Y,Y,Y,Y,Y,Y,Y,Y,Y,Y,Y,Y,Y,Y,Y,Y,Y,Y,Y,Y,Y,Z,Z,Z,Z,Z,Z,Z,Z,Z,Z,Z,Z,Z,Z,Z,Z,Z,Z,Z,Z,Z,Z,Z,Z,Z,Z,Z,Z,Z,Z,Z,Z,Z,Z,Z,Z,Z,Z,Z,Z,Z,Z,Z,Z,Z,Z] rfl rfl (any_of HT_.out (by kernel_rfl)) (fun _ _ _ h => h) (Or.inl ⟨by rfl, ?_⟩) ?_ ?_
           rotate_left
           ·intro w'
            go_simp; with_reducible rfl
           rotate_left
           ·simp only [Act.put, q1, q2, q3, i64_w, i32_w]
            rfl
           refine one_ (i := 29) (N := some 249) #[Y,Y,Y,Y,Y,Y,Y,Y,Y,Y,Y,Y,Y,Y,Y,Y,Y,Y,Y,Y,Y,Y,Y,Y,Y,Y,Y,Y,Y,Y,Z,Z,Z,Z,Z,Z,Z,Z,Z,Z,Z,Z,Z,Z,Z,Z,Z,Z,Z,Z,Z,Z,Z,Z,Z,Z,Z,Z,Z,Z,Z,Z,Z,Z,Z,Z,Z,Z,Z,Z,Z,Z,Z,Z,Z] rfl rfl (one_of HT_.out (by kernel_rfl)) (by decide) (fun K hK => ?_)
           refine goes_ Try.func9 (by kernel_rfl) rfl #[.slice Ao117 t335.length co117, .int .i64 t313] (by rfl) rfl rfl (by (try simp only [List.map_toArray, List.map_cons, List.map_nil]); first | done | rfl | (simp only [List.length_drop, List.length_take]; rfl)) ?_
           with_reducible refine (impl_AreaOfSheet.calls k5 _ _ t335 t313 t371 _ ?side1 ?side2 A91.out).mono ?_
           (case side1 => repeat (first | exact (Kd.S_reads' HO338.out).2.2 | (with_reducible refine Kd.C_alloc ?_ _) | (with_reducible refine Kd.C_drewN ?_ _) | (with_reducible refine Kd.C_drew ?_)))
           (case side2 => exact (Kd.S_reads' HO338.out).2.1)
           rintro e w136 ⟨rfl, hb⟩
           have HS0_ := (hb.cell (World.block_lt_of_cell? _ _ (hHeld.1))).trans (hHeld.1); have HS1_ := (hb.cell (World.block_lt_of_cell? _ _ (hHeld.2.1))).trans (hHeld.2.1); have HS2_ := (hb.cell (World.block_lt_of_cell? _ _ (hHeld.2.2.1))).trans (hHeld.2.2.1); have HS3_ := (hb.cell (World.block_lt_of_cell? _ _ (hHeld.2.2.2))).trans (hHeld.2.2.2); refine ⟨_, rfl, ?_⟩; have n0_ := m1 (Kd.S_below (by (with_reducible repeat (first | apply sA | apply sB | apply sC)); exact HO_3.out) hb)
           have n1_ := m1 (Kd.R_below (by (with_reducible repeat (first | apply rA | apply rB | apply rC)); exact HO_6.out) hb)
           have n2_ := m1 (Kd.S_below (by (with_reducible repeat (first | apply sA | apply sB | apply sC)); exact HO_158.out) hb)
           have n3_ := m1 (Kd.R_below (by (with_reducible repeat (first | apply rA | apply rB | apply rC)); exact HO327.out) hb)
           have n4_ := m1 (Kd.S_below (by (with_reducible repeat (first | apply sA | apply sB | apply sC)); exact HO331.out) hb)
           have n5_ := m1 (Kd.R_below (by (with_reducible repeat (first | apply rA | apply rB | apply rC)); exact HO334.out) hb)
           have n6_ := m1 (Kd.S_below (by (with_reducible repeat (first | apply sA | apply sB | apply sC)); exact HO338.out) hb)
           have n7_ := m1 (Kd.R_below (by (with_reducible repeat (first | apply rA | apply rB | apply rC)); exact HO342.out) hb)
           have n8_ := m1 (Kd.S_below (by (with_reducible repeat (first | apply sA | apply sB | apply sC)); exact HO346.out) hb)
           have n9_ := m1 (Kd.R_below (by (with_reducible repeat (first | apply rA | apply rB | apply rC)); exact HO349.out) hb)
           have n10_ := m1 (Kd.S_below (by (with_reducible repeat (first | apply sA | apply sB | apply sC)); exact HO353.out) hb)
           have n11_ := m1 (Kd.R_below (by (with_reducible repeat (first | apply rA | apply rB | apply rC)); exact HO356.out) hb)
           have n12_ := m1 (Kd.S_below (by (with_reducible repeat (first | apply sA | apply sB | apply sC)); exact HO360.out) hb)
           have n13_ := m1 (Kd.R_below (by (with_reducible repeat (first | apply rA | apply rB | apply rC)); exact HO363.out) hb)
           have n14_ := m1 (Kd.S_below (by (with_reducible repeat (first | apply sA | apply sB | apply sC)); exact HO367.out) hb)
           have n15_ := m1 (Kd.R_below (by (with_reducible repeat (first | apply rA | apply rB | apply rC)); exact HO370.out) hb)
           have n16_ := m1 (c6 (by repeat (first | (with_reducible first | exact HB.out | apply c1 | apply c2 | apply c3) | exact HB.out)) hb)
           clear HO_3 HO_6 HO_158 HO327 HO331 HO334 HO338 HO342 HO346 HO349 HO353 HO356 HO360 HO363 HO367 HO370 HB; have HO_3 := n0_; have HO_6 := n1_; have HO_158 := n2_; have HO327 := n3_; have HO331 := n4_; have HO334 := n5_; have HO338 := n6_; have HO342 := n7_; have HO346 := n8_; have HO349 := n9_; have HO353 := n10_; have HO356 := n11_; have HO360 := n12_; have HO363 := n13_; have HO367 := n14_; have HO370 := n15_; have HB := n16_; clear n0_ n1_ n2_ n3_ n4_ n5_ n6_ n7_ n8_ n9_ n10_ n11_ n12_ n13_ n14_ n15_ n16_; (try clear hb)
           (try clear hb2)
           (try clear hk)
           (try clear hi)
           refine hK.out _ _ ⟨HS0_, HS1_, HS2_, HS3_⟩ (fun hHeld => ?_)
           clear hK K; refine norm_ (a' := ?_) ?_ ?_; rotate_left
           ·show Act.put _ (some 249) _ = _
            simp only [Act.put, q1, q2, q3, i64_w, i32_w]; rfl
           refine pure_ (i := 30) (N := some 250) (v := ?_) (a' := ?_) #[Y,Y,Y,Y,Y,Y,Y,Y,Y,Y,Y,Y,Y,Y,Y,Y,Y,Y,Y,Y,Y,Y,Y,Y,Y,Y,Y,Y,Y,Y,Y,Z,Z,Z,Z,Z,Z,Z,Z,Z,Z,Z,Z,Z,Z,Z,Z,Z,Z,Z,Z,Z,Z,Z,Z,Z,Z,Z,Z,Z,Z,Z,Z,Z,Z,Z,Z,Z,Z,Z,Z,Z,Z,Z,Z] rfl rfl (any_of HT_.out (by kernel_rfl)) (fun _ _ _ h => h) (Or.inl ⟨by rfl, ?_⟩) ?_ ?_
           rotate_left
           ·intro w'
            go_simp; with_reducible rfl
           rotate_left
           ·simp only [Act.put, q1, q2, q3, i64_w, i32_w]
            rfl
           refine pure_ (i := 31) (N := some 251) (v := ?_) (a' := ?_) #[Y,Y,Y,Y,Y,Y,Y,Y,Y,Y,Y,Y,Y,Y,Y,Y,Y,Y,Y,Y,Y,Y,Y,Y,Y,Y,Y,Y,Y,Y,Y,Y,Z,Z,Z,Z,Z,Z,Z,Z,Z,Z,Z,Z,Z,Z,Z,Z,Z,Z,Z,Z,Z,Z,Z,Z,Z,Z,Z,Z,Z,Z,Z,Z,Z,Z,Z,Z,Z,Z,Z,Z,Z,Z,Z] rfl rfl (any_of HT_.out (by kernel_rfl)) (fun _ _ _ h => h) (Or.inl ⟨by rfl, ?_⟩) ?_ ?_
           rotate_left
           ·intro w'
            go_simp; with_reducible rfl
           rotate_left
           ·simp only [Act.put, q1, q2, q3, i64_w, i32_w]
            rfl
           refine pure_ (i := 32) (N := some 252) (v := ?_) (a' := ?_) #[Y,Y,Y,Y,Y,Y,Y,Y,Y,Y,Y,Y,Y,Y,Y,Y,Y,Y,Y,Y,Y,Y,Y,Y,Y,Y,Y,Y,Y,Y,Y,Y,Y,Z,Z,Z,Z,Z,Z,Z,Z,Z,Z,Z,Z,Z,Z,Z,Z,Z,Z,Z,Z,Z,Z,Z,Z,Z,Z,Z,Z,Z,Z,Z,Z,Z,Z,Z,Z,Z,Z,Z,Z,Z,Z] rfl rfl (any_of HT_.out (by kernel_rfl)) (fun _ _ _ h => h) (Or.inl ⟨by rfl, ?_⟩) ?_ ?_
           rotate_left
           ·intro w'
            go_simp; with_reducible rfl
           rotate_left
           ·simp only [Act.put, q1, q2, q3, i64_w, i32_w]
            rfl
           refine pure_ (i := 33) (N := some 253) (v := ?_) (a' := ?_) #[Y,Y,Y,Y,Y,Y,Y,Y,Y,Y,Y,Y,Y,Y,Y,Y,Y,Y,Y,Y,Y,Y,Y,Y,Y,Y,Y,Y,Y,Y,Y,Y,Y,Y,Z,Z,Z,Z,Z,Z,Z,Z,Z,Z,Z,Z,Z,Z,Z,Z,Z,Z,Z,Z,Z,Z,Z,Z,Z,Z,Z,Z,Z,Z,Z,Z,Z,Z,Z,Z,Z,Z,Z,Z,Z] rfl rfl (any_of HT_.out (by kernel_rfl)) (fun _ _ _ h => h) (Or.inl ⟨by rfl, ?_⟩) ?_ ?_
           rotate_left
           ·intro w'
            go_simp; with_reducible rfl
           rotate_left
           ·simp only [Act.put, q1, q2, q3, i64_w, i32_w]
            rfl
           refine pure_ (i := 34) (N := some 254) (v := ?_) (a' := ?_) #[Y,Y,Y,Y,Y,Y,Y,Y,Y,Y,Y,Y,Y,Y,Y,Y,Y,Y,Y,Y,Y,Y,Y,Y,Y,Y,Y,Y,Y,Y,Y,Y,Y,Y,Y,Z,Z,Z,Z,Z,Z,Z,Z,Z,Z,Z,Z,Z,Z,Z,Z,Z,Z,Z,Z,Z,Z,Z,Z,Z,Z,Z,Z,Z,Z,Z,Z,Z,Z,Z,Z,Z,Z,Z,Z] rfl rfl (any_of HT_.out (by kernel_rfl)) (fun _ _ _ h => h) (Or.inl ⟨by rfl, ?_⟩) ?_ ?_
           rotate_left
           ·intro w'
            go_simp; with_reducible rfl
           rotate_left
           ·simp only [Act.put, q1, q2, q3, i64_w, i32_w]
            rfl
           refine one_ (i := 35) (N := some 255) #[Y,Y,Y,Y,Y,Y,Y,Y,Y,Y,Y,Y,Y,Y,Y,Y,Y,Y,Y,Y,Y,Y,Y,Y,Y,Y,Y,Y,Y,Y,Y,Y,Y,Y,Y,Y,Z,Z,Z,Z,Z,Z,Z,Z,Z,Z,Z,Z,Z,Z,Z,Z,Z,Z,Z,Z,Z,Z,Z,Z,Z,Z,Z,Z,Z,Z,Z,Z,Z,Z,Z,Z,Z,Z,Z] rfl rfl (one_of HT_.out (by kernel_rfl)) (by decide) (fun K hK => ?_)
           refine goes_ Try.func9 (by kernel_rfl) rfl #[.slice Ao117 t335.length co117, .int .i64 t339] (by rfl) rfl rfl (by (try simp only [List.map_toArray, List.map_cons, List.map_nil]); first | done | rfl | (simp only [List.length_drop, List.length_take]; rfl)) ?_
           with_reducible refine (impl_AreaOfSheet.calls k5 _ _ t335 t339 t372 _ ?side1 ?side2 A93.out).mono ?_
           (case side1 => repeat (first | exact (Kd.S_reads' HO338.out).2.2 | (with_reducible refine Kd.C_alloc ?_ _) | (with_reducible refine Kd.C_drewN ?_ _) | (with_reducible refine Kd.C_drew ?_)))
           (case side2 => exact (Kd.S_reads' HO338.out).2.1)
           rintro e w137 ⟨rfl, hb⟩
           have HS0_ := (hb.cell (World.block_lt_of_cell? _ _ (hHeld.1))).trans (hHeld.1); have HS1_ := (hb.cell (World.block_lt_of_cell? _ _ (hHeld.2.1))).trans (hHeld.2.1); have HS2_ := (hb.cell (World.block_lt_of_cell? _ _ (hHeld.2.2.1))).trans (hHeld.2.2.1); have HS3_ := (hb.cell (World.block_lt_of_cell? _ _ (hHeld.2.2.2))).trans (hHeld.2.2.2); refine ⟨_, rfl, ?_⟩; have n0_ := m1 (Kd.S_below (by (with_reducible repeat (first | apply sA | apply sB | apply sC)); exact HO_3.out) hb)
           have n1_ := m1 (Kd.R_below (by (with_reducible repeat (first | apply rA | apply rB | apply rC)); exact HO_6.out) hb)
           have n2_ := m1 (Kd.S_below (by (with_reducible repeat (first | apply sA | apply sB | apply sC)); exact HO_158.out) hb)
           have n3_ := m1 (Kd.R_below (by (with_reducible repeat (first | apply rA | apply rB | apply rC)); exact HO327.out) hb)
           have n4_ := m1 (Kd.S_below (by (with_reducible repeat (first | apply sA | apply sB | apply sC)); exact HO331.out) hb)
           have n5_ := m1 (Kd.R_below (by (with_reducible repeat (first | apply rA | apply rB | apply rC)); exact HO334.out) hb)
           have n6_ := m1 (Kd.S_below (by (with_reducible repeat (first | apply sA | apply sB | apply sC)); exact HO338.out) hb)
           have n7_ := m1 (Kd.R_below (by (with_reducible repeat (first | apply rA | apply rB | apply rC)); exact HO342.out) hb)
           have n8_ := m1 (Kd.S_below (by (with_reducible repeat (first | apply sA | apply sB | apply sC)); exact HO346.out) hb)
           have n9_ := m1 (Kd.R_below (by (with_reducible repeat (first | apply rA | apply rB | apply rC)); exact HO349.out) hb)
           have n10_ := m1 (Kd.S_below (by (with_reducible repeat (first | apply sA | apply sB | apply sC)); exact HO353.out) hb)
           have n11_ := m1 (Kd.R_below (by (with_reducible repeat (first | apply rA | apply rB | apply rC)); exact HO356.out) hb)
           have n12_ := m1 (Kd.S_below (by (with_reducible repeat (first | apply sA | apply sB | apply sC)); exact HO360.out) hb)
           have n13_ := m1 (Kd.R_below (by (with_reducible repeat (first | apply rA | apply rB | apply rC)); exact HO363.out) hb)
           have n14_ := m1 (Kd.S_below (by (with_reducible repeat (first | apply sA | apply sB | apply sC)); exact HO367.out) hb)
           have n15_ := m1 (Kd.R_below (by (with_reducible repeat (first | apply rA | apply rB | apply rC)); exact HO370.out) hb)
           have n16_ := m1 (c6 (by repeat (first | (with_reducible first | exact HB.out | apply c1 | apply c2 | apply c3) | exact HB.out)) hb)
           clear HO_3 HO_6 HO_158 HO327 HO331 HO334 HO338 HO342 HO346 HO349 HO353 HO356 HO360 HO363 HO367 HO370 HB; have HO_3 := n0_; have HO_6 := n1_; have HO_158 := n2_; have HO327 := n3_; have HO331 := n4_; have HO334 := n5_; have HO338 := n6_; have HO342 := n7_; have HO346 := n8_; have HO349 := n9_; have HO353 := n10_; have HO356 := n11_; have HO360 := n12_; have HO363 := n13_; have HO367 := n14_; have HO370 := n15_; have HB := n16_; clear n0_ n1_ n2_ n3_ n4_ n5_ n6_ n7_ n8_ n9_ n10_ n11_ n12_ n13_ n14_ n15_ n16_; (try clear hb)
           (try clear hb2)
           (try clear hk)
           (try clear hi)
           refine hK.out _ _ ⟨HS0_, HS1_, HS2_, HS3_⟩ (fun hHeld => ?_)
           clear hK K; refine norm_ (a' := ?_) ?_ ?_; rotate_left
           ·show Act.put _ (some 255) _ = _
            simp only [Act.put, q1, q2, q3, i64_w, i32_w]; rfl
           refine pure_ (i := 36) (N := some 256) (v := ?_) (a' := ?_) #[Y,Y,Y,Y,Y,Y,Y,Y,Y,Y,Y,Y,Y,Y,Y,Y,Y,Y,Y,Y,Y,Y,Y,Y,Y,Y,Y,Y,Y,Y,Y,Y,Y,Y,Y,Y,Y,Z,Z,Z,Z,Z,Z,Z,Z,Z,Z,Z,Z,Z,Z,Z,Z,Z,Z,Z,Z,Z,Z,Z,Z,Z,Z,Z,Z,Z,Z,Z,Z,Z,Z,Z,Z,Z,Z] rfl rfl (any_of HT_.out (by kernel_rfl)) (fun _ _ _ h => h) (Or.inl ⟨by rfl, ?_⟩) ?_ ?_
           rotate_left
           ·intro w'
            go_simp; with_reducible rfl
           rotate_left
           ·simp only [Act.put, q1, q2, q3, i64_w, i32_w]
            rfl
           refine pure_ (i := 37) (N := some 257) (v := ?_) (a' := ?_) #[Y,Y,Y,Y,Y,Y,Y,Y,Y,Y,Y,Y,Y,Y,Y,Y,Y,Y,Y,Y,Y,Y,Y,Y,Y,Y,Y,Y,Y,Y,Y,Y,Y,Y,Y,Y,Y,Y,Z,Z,Z,Z,Z,Z,Z,Z,Z,Z,Z,Z,Z,Z,Z,Z,Z,Z,Z,Z,Z,Z,Z,Z,Z,Z,Z,Z,Z,Z,Z,Z,Z,Z,Z,Z,Z] rfl rfl (any_of HT_.out (by kernel_rfl)) (fun _ _ _ h => h) (Or.inl ⟨by rfl, ?_⟩) ?_ ?_
           rotate_left
           ·intro w'
            go_simp; with_reducible rfl
           rotate_left
           ·simp only [Act.put, q1, q2, q3, i64_w, i32_w]
            rfl
           refine pure_ (i := 38) (N := some 258) (v := ?_) (a' := ?_) #[Y,Y,Y,Y,Y,Y,Y,Y,Y,Y,Y,Y,Y,Y,Y,Y,Y,Y,Y,Y,Y,Y,Y,Y,Y,Y,Y,Y,Y,Y,Y,Y,Y,Y,Y,Y,Y,Y,Y,Z,Z,Z,Z,Z,Z,Z,Z,Z,Z,Z,Z,Z,Z,Z,Z,Z,Z,Z,Z,Z,Z,Z,Z,Z,Z,Z,Z,Z,Z,Z,Z,Z,Z,Z,Z] rfl rfl (any_of HT_.out (by kernel_rfl)) (fun _ _ _ h => h) (Or.inl ⟨by rfl, ?_⟩) ?_ ?_
           rotate_left
           ·intro w'
            go_simp; with_reducible rfl
           rotate_left
           ·simp only [Act.put, q1, q2, q3, i64_w, i32_w]
            rfl
           refine pure_ (i := 39) (N := some 259) (v := ?_) (a' := ?_) #[Y,Y,Y,Y,Y,Y,Y,Y,Y,Y,Y,Y,Y,Y,Y,Y,Y,Y,Y,Y,Y,Y,Y,Y,Y,Y,Y,Y,Y,Y,Y,Y,Y,Y,Y,Y,Y,Y,Y,Y,Z,Z,Z,Z,Z,Z,Z,Z,Z,Z,Z,Z,Z,Z,Z,Z,Z,Z,Z,Z,Z,Z,Z,Z,Z,Z,Z,Z,Z,Z,Z,Z,Z,Z,Z] rfl rfl (any_of HT_.out (by kernel_rfl)) (fun _ _ _ h => h) (Or.inl ⟨by rfl, ?_⟩) ?_ ?_
           rotate_left
           ·intro w'
            go_simp; with_reducible rfl
           rotate_left
           ·simp only [Act.put, q1, q2, q3, i64_w, i32_w]
            rfl
           refine pure_ (i := 40) (N := some 260) (v := ?_) (a' := ?_) #[Y,Y,Y,Y,Y,Y,Y,Y,Y,Y,Y,Y,Y,Y,Y,Y,Y,Y,Y,Y,Y,Y,Y,Y,Y,Y,Y,Y,Y,Y,Y,Y,Y,Y,Y,Y,Y,Y,Y,Y,Y,Z,Z,Z,Z,Z,Z,Z,Z,Z,Z,Z,Z,Z,Z,Z,Z,Z,Z,Z,Z,Z,Z,Z,Z,Z,Z,Z,Z,Z,Z,Z,Z,Z,Z] rfl rfl (any_of HT_.out (by kernel_rfl)) (fun _ _ _ h => h) (Or.inl ⟨by rfl, ?_⟩) ?_ ?_
           rotate_left
           ·intro w'
            go_simp; with_reducible rfl
           rotate_left
           ·simp only [Act.put, q1, q2, q3, i64_w, i32_w]
            rfl
           refine one_ (i := 41) (N := some 261) #[Y,Y,Y,Y,Y,Y,Y,Y,Y,Y,Y,Y,Y,Y,Y,Y,Y,Y,Y,Y,Y,Y,Y,Y,Y,Y,Y,Y,Y,Y,Y,Y,Y,Y,Y,Y,Y,Y,Y,Y,Y,Y,Z,Z,Z,Z,Z,Z,Z,Z,Z,Z,Z,Z,Z,Z,Z,Z,Z,Z,Z,Z,Z,Z,Z,Z,Z,Z,Z,Z,Z,Z,Z,Z,Z] rfl rfl (one_of HT_.out (by kernel_rfl)) (by decide) (fun K hK => ?_)
           refine goes_ Try.func9 (by kernel_rfl) rfl #[.slice Ao122 t343.length co122, .int .i64 t313] (by rfl) rfl rfl (by (try simp only [List.map_toArray, List.map_cons, List.map_nil]); first | done | rfl | (simp only [List.length_drop, List.length_take]; rfl)) ?_
           with_reducible refine (impl_AreaOfSheet.calls k5 _ _ t343 t313 t373 _ ?side1 ?side2 A95.out).mono ?_
           (case side1 => repeat (first | exact (Kd.S_reads' HO346.out).2.2 | (with_reducible refine Kd.C_alloc ?_ _) | (with_reducible refine Kd.C_drewN ?_ _) | (with_reducible refine Kd.C_drew ?_)))
           (case side2 => exact (Kd.S_reads' HO346.out).2.1)
           rintro e w138 ⟨rfl, hb⟩
           have HS0_ := (hb.cell (World.block_lt_of_cell? _ _ (hHeld.1))).trans (hHeld.1); have HS1_ := (hb.cell (World.block_lt_of_cell? _ _ (hHeld.2.1))).trans (hHeld.2.1); have HS2_ := (hb.cell (World.block_lt_of_cell? _ _ (hHeld.2.2.1))).trans (hHeld.2.2.1); have HS3_ := (hb.cell (World.block_lt_of_cell? _ _ (hHeld.2.2.2))).trans (hHeld.2.2.2); refine ⟨_, rfl, ?_⟩; have n0_ := m1 (Kd.S_below (by (with_reducible repeat (first | apply sA | apply sB | apply sC)); exact HO_3.out) hb)
           have n1_ := m1 (Kd.R_below (by (with_reducible repeat (first | apply rA | apply rB | apply rC)); exact HO_6.out) hb)
           have n2_ := m1 (Kd.S_below (by (with_reducible repeat (first | apply sA | apply sB | apply sC)); exact HO_158.out) hb)
           have n3_ := m1 (Kd.R_below (by (with_reducible repeat (first | apply rA | apply rB | apply rC)); exact HO327.out) hb)
           have n4_ := m1 (Kd.S_below (by (with_reducible repeat (first | apply sA | apply sB | apply sC)); exact HO331.out) hb)
           have n5_ := m1 (Kd.R_below (by (with_reducible repeat (first | apply rA | apply rB | apply rC)); exact HO334.out) hb)
           have n6_ := m1 (Kd.S_below (by (with_reducible repeat (first | apply sA | apply sB | apply sC)); exact HO338.out) hb)
           have n7_ := m1 (Kd.R_below (by (with_reducible repeat (first | apply rA | apply rB | apply rC)); exact HO342.out) hb)
           have n8_ := m1 (Kd.S_below (by (with_reducible repeat (first | apply sA | apply sB | apply sC)); exact HO346.out) hb)
           have n9_ := m1 (Kd.R_below (by (with_reducible repeat (first | apply rA | apply rB | apply rC)); exact HO349.out) hb)
           have n10_ := m1 (Kd.S_below (by (with_reducible repeat (first | apply sA | apply sB | apply sC)); exact HO353.out) hb)
           have n11_ := m1 (Kd.R_below (by (with_reducible repeat (first | apply rA | apply rB | apply rC)); exact HO356.out) hb)
           have n12_ := m1 (Kd.S_below (by (with_reducible repeat (first | apply sA | apply sB | apply sC)); exact HO360.out) hb)
           have n13_ := m1 (Kd.R_below (by (with_reducible repeat (first | apply rA | apply rB | apply rC)); exact HO363.out) hb)
           have n14_ := m1 (Kd.S_below (by (with_reducible repeat (first | apply sA | apply sB | apply sC)); exact HO367.out) hb)
           have n15_ := m1 (Kd.R_below (by (with_reducible repeat (first | apply rA | apply rB | apply rC)); exact HO370.out) hb)
           have n16_ := m1 (c6 (by repeat (first | (with_reducible first | exact HB.out | apply c1 | apply c2 | apply c3) | exact HB.out)) hb)
           clear HO_3 HO_6 HO_158 HO327 HO331 HO334 HO338 HO342 HO346 HO349 HO353 HO356 HO360 HO363 HO367 HO370 HB; have HO_3 := n0_; have HO_6 := n1_; have HO_158 := n2_; have HO327 := n3_; have HO331 := n4_; have HO334 := n5_; have HO338 := n6_; have HO342 := n7_; have HO346 := n8_; have HO349 := n9_; have HO353 := n10_; have HO356 := n11_; have HO360 := n12_; have HO363 := n13_; have HO367 := n14_; have HO370 := n15_; have HB := n16_; clear n0_ n1_ n2_ n3_ n4_ n5_ n6_ n7_ n8_ n9_ n10_ n11_ n12_ n13_ n14_ n15_ n16_; (try clear hb)
           (try clear hb2)
           (try clear hk)
           (try clear hi)
           refine hK.out _ _ ⟨HS0_, HS1_, HS2_, HS3_⟩ (fun hHeld => ?_)
           clear hK K; refine norm_ (a' := ?_) ?_ ?_; rotate_left
           ·show Act.put _ (some 261) _ = _
            simp only [Act.put, q1, q2, q3, i64_w, i32_w]; rfl
           refine pure_ (i := 42) (N := some 262) (v := ?_) (a' := ?_) #[Y,Y,Y,Y,Y,Y,Y,Y,Y,Y,Y,Y,Y,Y,Y,Y,Y,Y,Y,Y,Y,Y,Y,Y,Y,Y,Y,Y,Y,Y,Y,Y,Y,Y,Y,Y,Y,Y,Y,Y,Y,Y,Y,Z,Z,Z,Z,Z,Z,Z,Z,Z,Z,Z,Z,Z,Z,Z,Z,Z,Z,Z,Z,Z,Z,Z,Z,Z,Z,Z,Z,Z,Z,Z,Z] rfl rfl (any_of HT_.out (by kernel_rfl)) (fun _ _ _ h => h) (Or.inl ⟨by rfl, ?_⟩) ?_ ?_
           rotate_left
           ·intro w'
            go_simp; with_reducible rfl
           rotate_left
           ·simp only [Act.put, q1, q2, q3, i64_w, i32_w]
            rfl
           refine pure_ (i := 43) (N := some 263) (v := ?_) (a' := ?_) #[Y,Y,Y,Y,Y,Y,Y,Y,Y,Y,Y,Y,Y,Y,Y,Y,Y,Y,Y,Y,Y,Y,Y,Y,Y,Y,Y,Y,Y,Y,Y,Y,Y,Y,Y,Y,Y,Y,Y,Y,Y,Y,Y,Y,Z,Z,Z,Z,Z,Z,Z,Z,Z,Z,Z,Z,Z,Z,Z,Z,Z,Z,Z,Z,Z,Z,Z,Z,Z,Z,Z,Z,Z,Z,Z] rfl rfl (any_of HT_.out (by kernel_rfl)) (fun _ _ _ h => h) (Or.inl ⟨by rfl, ?_⟩) ?_ ?_
           rotate_left
           ·intro w'
            go_simp; with_reducible rfl
           rotate_left
           ·simp only [Act.put, q1, q2, q3, i64_w, i32_w]
            rfl
           refine pure_ (i := 44) (N := some 264) (v := ?_) (a' := ?_) #[Y,Y,Y,Y,Y,Y,Y,Y,Y,Y,Y,Y,Y,Y,Y,Y,Y,Y,Y,Y,Y,Y,Y,Y,Y,Y,Y,Y,Y,Y,Y,Y,Y,Y,Y,Y,Y,Y,Y,Y,Y,Y,Y,Y,Y,Z,Z,Z,Z,Z,Z,Z,Z,Z,Z,Z,Z,Z,Z,Z,Z,Z,Z,Z,Z,Z,Z,Z,Z,Z,Z,Z,Z,Z,Z] rfl rfl (any_of HT_.out (by kernel_rfl)) (fun _ _ _ h => h) (Or.inl ⟨by rfl, ?_⟩) ?_ ?_
           rotate_left
           ·intro w'
            go_simp; with_reducible rfl
           rotate_left
           ·simp only [Act.put, q1, q2, q3, i64_w, i32_w]
            rfl
           refine pure_ (i := 45) (N := some 265) (v := ?_) (a' := ?_) #[Y,Y,Y,Y,Y,Y,Y,Y,Y,Y,Y,Y,Y,Y,Y,Y,Y,Y,Y,Y,Y,Y,Y,Y,Y,Y,Y,Y,Y,Y,Y,Y,Y,Y,Y,Y,Y,Y,Y,Y,Y,Y,Y,Y,Y,Y,Z,Z,Z,Z,Z,Z,Z,Z,Z,Z,Z,Z,Z,Z,Z,Z,Z,Z,Z,Z,Z,Z,Z,Z,Z,Z,Z,Z,Z] rfl rfl (any_of HT_.out (by kernel_rfl)) (fun _ _ _ h => h) (Or.inl ⟨by rfl, ?_⟩) ?_ ?_
           rotate_left
           ·intro w'
            go_simp; with_reducible rfl
           rotate_left
           ·simp only [Act.put, q1, q2, q3, i64_w, i32_w]
            rfl
           refine pure_ (i := 46) (N := some 266) (v := ?_) (a' := ?_) #[Y,Y,Y,Y,Y,Y,Y,Y,Y,Y,Y,Y,Y,Y,Y,Y,Y,Y,Y,Y,Y,Y,Y,Y,Y,Y,Y,Y,Y,Y,Y,Y,Y,Y,Y,Y,Y,Y,Y,Y,Y,Y,Y,Y,Y,Y,Y,Z,Z,Z,Z,Z,Z,Z,Z,Z,Z,Z,Z,Z,Z,Z,Z,Z,Z,Z,Z,Z,Z,Z,Z,Z,Z,Z,Z] rfl rfl (any_of HT_.out (by kernel_rfl)) (fun _ _ _ h => h) (Or.inl ⟨by rfl, ?_⟩) ?_ ?_
           rotate_left
           ·intro w'
            go_simp; with_reducible rfl
           rotate_left
           ·simp only [Act.put, q1, q2, q3, i64_w, i32_w]
            rfl
           refine one_ (i := 47) (N := some 267) #[Y,Y,Y,Y,Y,Y,Y,Y,Y,Y,Y,Y,Y,Y,Y,Y,Y,Y,Y,Y,Y,Y,Y,Y,Y,Y,Y,Y,Y,Y,Y,Y,Y,Y,Y,Y,Y,Y,Y,Y,Y,Y,Y,Y,Y,Y,Y,Y,Z,Z,Z,Z,Z,Z,Z,Z,Z,Z,Z,Z,Z,Z,Z,Z,Z,Z,Z,Z,Z,Z,Z,Z,Z,Z,Z] rfl rfl (one_of HT_.out (by kernel_rfl)) (by decide) (fun K hK => ?_)
           refine goes_ Try.func9 (by kernel_rfl) rfl #[.slice Ao122 t343.length co122, .int .i64 t339] (by rfl) rfl rfl (by (try simp only [List.map_toArray, List.map_cons, List.map_nil]); first | done | rfl | (simp only [List.length_drop, List.length_take]; rfl)) ?_
           with_reducible refine (impl_AreaOfSheet.calls k5 _ _ t343 t339 t374 _ ?side1 ?side2 A97.out).mono ?_
           (case side1 => repeat (first | exact (Kd.S_reads' HO346.out).2.2 | (with_reducible refine Kd.C_alloc ?_ _) | (with_reducible refine Kd.C_drewN ?_ _) | (with_reducible refine Kd.C_drew ?_)))
           (case side2 => exact (Kd.S_reads' HO346.out).2.1)
           rintro e w139 ⟨rfl, hb⟩
           have HS0_ := (hb.cell (World.block_lt_of_cell? _ _ (hHeld.1))).trans (hHeld.1); have HS1_ := (hb.cell (World.block_lt_of_cell? _ _ (hHeld.2.1))).trans (hHeld.2.1); have HS2_ := (hb.cell (World.block_lt_of_cell? _ _ (hHeld.2.2.1))).trans (hHeld.2.2.1); have HS3_ := (hb.cell (World.block_lt_of_cell? _ _ (hHeld.2.2.2))).trans (hHeld.2.2.2); refine ⟨_, rfl, ?_⟩; have n0_ := m1 (Kd.S_below (by (with_reducible repeat (first | apply sA | apply sB | apply sC)); exact HO_3.out) hb)
           have n1_ := m1 (Kd.R_below (by (with_reducible repeat (first | apply rA | apply rB | apply rC)); exact HO_6.out) hb)
           have n2_ := m1 (Kd.S_below (by (with_reducible repeat (first | apply sA | apply sB | apply sC)); exact HO_158.out) hb)
           have n3_ := m1 (Kd.R_below (by (with_reducible repeat (first | apply rA | apply rB | apply rC)); exact HO327.out) hb)
           have n4_ := m1 (Kd.S_below (by (with_reducible repeat (first | apply sA | apply sB | apply sC)); exact HO331.out) hb)
           have n5_ := m1 (Kd.R_below (by (with_reducible repeat (first | apply rA | apply rB | apply rC)); exact HO334.out) hb)
           have n6_ := m1 (Kd.S_below (by (with_reducible repeat (first | apply sA | apply sB | apply sC)); exact HO338.out) hb)
           have n7_ := m1 (Kd.R_below (by (with_reducible repeat (first | apply rA | apply rB | apply rC)); exact HO342.out) hb)
           have n8_ := m1 (Kd.S_below (by (with_reducible repeat (first | apply sA | apply sB | apply sC)); exact HO346.out) hb)
           have n9_ := m1 (Kd.R_below (by (with_reducible repeat (first | apply rA | apply rB | apply rC)); exact HO349.out) hb)
           have n10_ := m1 (Kd.S_below (by (with_reducible repeat (first | apply sA | apply sB | apply sC)); exact HO353.out) hb)
           have n11_ := m1 (Kd.R_below (by (with_reducible repeat (first | apply rA | apply rB | apply rC)); exact HO356.out) hb)
           have n12_ := m1 (Kd.S_below (by (with_reducible repeat (first | apply sA | apply sB | apply sC)); exact HO360.out) hb)
           have n13_ := m1 (Kd.R_below (by (with_reducible repeat (first | apply rA | apply rB | apply rC)); exact HO363.out) hb)
           have n14_ := m1 (Kd.S_below (by (with_reducible repeat (first | apply sA | apply sB | apply sC)); exact HO367.out) hb)
           have n15_ := m1 (Kd.R_below (by (with_reducible repeat (first | apply rA | apply rB | apply rC)); exact HO370.out) hb)
           have n16_ := m1 (c6 (by repeat (first | (with_reducible first | exact HB.out | apply c1 | apply c2 | apply c3) | exact HB.out)) hb)
           clear HO_3 HO_6 HO_158 HO327 HO331 HO334 HO338 HO342 HO346 HO349 HO353 HO356 HO360 HO363 HO367 HO370 HB; have HO_3 := n0_; have HO_6 := n1_; have HO_158 := n2_; have HO327 := n3_; have HO331 := n4_; have HO334 := n5_; have HO338 := n6_; have HO342 := n7_; have HO346 := n8_; have HO349 := n9_; have HO353 := n10_; have HO356 := n11_; have HO360 := n12_; have HO363 := n13_; have HO367 := n14_; have HO370 := n15_; have HB := n16_; clear n0_ n1_ n2_ n3_ n4_ n5_ n6_ n7_ n8_ n9_ n10_ n11_ n12_ n13_ n14_ n15_ n16_; (try clear hb)
           (try clear hb2)
           (try clear hk)
           (try clear hi)
           obtain ⟨Ao140, co140, eo140⟩ := Kd.R_slice HO370.out; (first | subst eo140 | (injection eo140 with f1_ f2_ f3_; have f4_ := f1_.symm; have f5_ := f3_.symm; clear f1_ f2_ f3_; subst f4_; subst f5_))
           obtain ⟨Ao141, co141, eo141⟩ := Kd.R_slice HO_6.out; (first | subst eo141 | (injection eo141 with f1_ f2_ f3_; have f4_ := f1_.symm; have f5_ := f3_.symm; clear f1_ f2_ f3_; subst f4_; subst f5_))
           refine hK.out _ _ ⟨HS0_, HS1_, HS2_, HS3_⟩ (fun hHeld => ?_)
           clear hK K; refine norm_ (a' := ?_) ?_ ?_; rotate_left
           ·show Act.put _ (some 267) _ = _
            simp only [Act.put, q1, q2, q3, i64_w, i32_w]; rfl
           refine pure_ (i := 48) (N := some 268) (v := ?_) (a' := ?_) #[Y,Y,Y,Y,Y,Y,Y,Y,Y,Y,Y,Y,Y,Y,Y,Y,Y,Y,Y,Y,Y,Y,Y,Y,Y,Y,Y,Y,Y,Y,Y,Y,Y,Y,Y,Y,Y,Y,Y,Y,Y,Y,Y,Y,Y,Y,Y,Y,Y,Z,Z,Z,Z,Z,Z,Z,Z,Z,Z,Z,Z,Z,Z,Z,Z,Z,Z,Z,Z,Z,Z,Z,Z,Z,Z] rfl rfl (any_of HT_.out (by kernel_rfl)) (fun _ _ _ h => h) (Or.inl ⟨by rfl, ?_⟩) ?_ ?_
           rotate_left
           ·intro w'
            go_simp; with_reducible rfl
           rotate_left
           ·simp only [Act.put, q1, q2, q3, i64_w, i32_w]
            rfl
           refine pure_ (i := 49) (N := some 269) (v := ?_) (a' := ?_) #[Y,Y,Y,Y,Y,Y,Y,Y,Y,Y,Y,Y,Y,Y,Y,Y,Y,Y,Y,Y,Y,Y,Y,Y,Y,Y,Y,Y,Y,Y,Y,Y,Y,Y,Y,Y,Y,Y,Y,Y,Y,Y,Y,Y,Y,Y,Y,Y,Y,Y,Z,Z,Z,Z,Z,Z,Z,Z,Z,Z,Z,Z,Z,Z,Z,Z,Z,Z,Z,Z,Z,Z,Z,Z,Z] rfl rfl (any_of HT_.out (by kernel_rfl)) (fun _ _ _ h => h) (Or.inl ⟨by rfl, ?_⟩) ?_ ?_
           rotate_left
           ·intro w'
            go_simp; with_reducible rfl
           rotate_left
           ·simp only [Act.put, q1, q2, q3, i64_w, i32_w]
            rfl
           refine pure_ (i := 50) (N := some 270) (v := ?_) (a' := ?_) #[Y,Y,Y,Y,Y,Y,Y,Y,Y,Y,Y,Y,Y,Y,Y,Y,Y,Y,Y,Y,Y,Y,Y,Y,Y,Y,Y,Y,Y,Y,Y,Y,Y,Y,Y,Y,Y,Y,Y,Y,Y,Y,Y,Y,Y,Y,Y,Y,Y,Y,Y,Z,Z,Z,Z,Z,Z,Z,Z,Z,Z,Z,Z,Z,Z,Z,Z,Z,Z,Z,Z,Z,Z,Z,Z] rfl rfl (any_of HT_.out (by kernel_rfl)) (fun _ _ _ h => h) (Or.inl ⟨by rfl, ?_⟩) ?_ ?_
           rotate_left
           ·intro w'
            go_simp; with_reducible rfl
           rotate_left
           ·simp only [Act.put, q1, q2, q3, i64_w, i32_w]
            rfl
           refine pure_ (i := 51) (N := some 271) (v := ?_) (a' := ?_) #[Y,Y,Y,Y,Y,Y,Y,Y,Y,Y,Y,Y,Y,Y,Y,Y,Y,Y,Y,Y,Y,Y,Y,Y,Y,Y,Y,Y,Y,Y,Y,Y,Y,Y,Y,Y,Y,Y,Y,Y,Y,Y,Y,Y,Y,Y,Y,Y,Y,Y,Y,Y,Z,Z,Z,Z,Z,Z,Z,Z,Z,Z,Z,Z,Z,Z,Z,Z,Z,Z,Z,Z,Z,Z,Z] rfl rfl (any_of HT_.out (by kernel_rfl)) (fun _ _ _ h => h) (Or.inl ⟨by rfl, ?_⟩) ?_ ?_
           rotate_left
           ·intro w'
            go_simp; with_reducible rfl
           rotate_left
           ·simp only [Act.put, q1, q2, q3, i64_w, i32_w]
            rfl
           refine pure_ (i := 52) (N := some 272) (v := ?_) (a' := ?_) #[Y,Y,Y,Y,Y,Y,Y,Y,Y,Y,Y,Y,Y,Y,Y,Y,Y,Y,Y,Y,Y,Y,Y,Y,Y,Y,Y,Y,Y,Y,Y,Y,Y,Y,Y,Y,Y,Y,Y,Y,Y,Y,Y,Y,Y,Y,Y,Y,Y,Y,Y,Y,Y,Z,Z,Z,Z,Z,Z,Z,Z,Z,Z,Z,Z,Z,Z,Z,Z,Z,Z,Z,Z,Z,Z] rfl rfl (any_of HT_.out (by kernel_rfl)) (fun _ _ _ h => h) (Or.inl ⟨by rfl, ?_⟩) ?_ ?_
           rotate_left
           ·intro w'
            go_simp; with_reducible rfl
           rotate_left
           ·simp only [Act.put, q1, q2, q3, i64_w, i32_w]
            rfl
           refine pure_ (i := 53) (N := some 273) (v := ?_) (a' := ?_) #[Y,Y,Y,Y,Y,Y,Y,Y,Y,Y,Y,Y,Y,Y,Y,Y,Y,Y,Y,Y,Y,Y,Y,Y,Y,Y,Y,Y,Y,Y,Y,Y,Y,Y,Y,Y,Y,Y,Y,Y,Y,Y,Y,Y,Y,Y,Y,Y,Y,Y,Y,Y,Y,Y,Z,Z,Z,Z,Z,Z,Z,Z,Z,Z,Z,Z,Z,Z,Z,Z,Z,Z,Z,Z,Z] rfl rfl (any_of HT_.out (by kernel_rfl)) (fun _ _ _ h => h) (Or.inl ⟨by rfl, ?_⟩) ?_ ?_
           rotate_left
           ·intro w'
            go_simp; with_reducible rfl
           rotate_left
           ·simp only [Act.put, q1, q2, q3, i64_w, i32_w]
            rfl
           refine pure_ (i := 54) (N := some 274) (v := ?_) (a' := ?_) #[Y,Y,Y,Y,Y,Y,Y,Y,Y,Y,Y,Y,Y,Y,Y,Y,Y,Y,Y,Y,Y,Y,Y,Y,Y,Y,Y,Y,Y,Y,Y,Y,Y,Y,Y,Y,Y,Y,Y,Y,Y,Y,Y,Y,Y,Y,Y,Y,Y,Y,Y,Y,Y,Y,Y,Z,Z,Z,Z,Z,Z,Z,Z,Z,Z,Z,Z,Z,Z,Z,Z,Z,Z,Z,Z] rfl rfl (any_of HT_.out (by kernel_rfl)) (fun _ _ _ h => h) (Or.inl ⟨by rfl, ?_⟩) ?_ ?_
           rotate_left
           ·intro w'
            go_simp; with_reducible rfl
           rotate_left
           ·simp only [Act.put, q1, q2, q3, i64_w, i32_w]
            rfl
           refine pure_ (i := 55) (N := some 275) (v := ?_) (a' := ?_) #[Y,Y,Y,Y,Y,Y,Y,Y,Y,Y,Y,Y,Y,Y,Y,Y,Y,Y,Y,Y,Y,Y,Y,Y,Y,Y,Y,Y,Y,Y,Y,Y,Y,Y,Y,Y,Y,Y,Y,Y,Y,Y,Y,Y,Y,Y,Y,Y,Y,Y,Y,Y,Y,Y,Y,Y,Z,Z,Z,Z,Z,Z,Z,Z,Z,Z,Z,Z,Z,Z,Z,Z,Z,Z,Z] rfl rfl (any_of HT_.out (by kernel_rfl)) (fun _ _ _ h => h) (Or.inl ⟨by rfl, ?_⟩) ?_ ?_
           rotate_left
           ·intro w'
            go_simp; with_reducible rfl
           rotate_left
           ·simp only [Act.put, q1, q2, q3, i64_w, i32_w]
            rfl
           refine pure_ (i := 56) (N := some 276) (v := ?_) (a' := ?_) #[Y,Y,Y,Y,Y,Y,Y,Y,Y,Y,Y,Y,Y,Y,Y,Y,Y,Y,Y,Y,Y,Y,Y,Y,Y,Y,Y,Y,Y,Y,Y,Y,Y,Y,Y,Y,Y,Y,Y,Y,Y,Y,Y,Y,Y,Y,Y,Y,Y,Y,Y,Y,Y,Y,Y,Y,Y,Z,Z,Z,Z,Z,Z,Z,Z,Z,Z,Z,Z,Z,Z,Z,Z,Z,Z] rfl rfl (any_of HT_.out (by kernel_rfl)) (fun _ _ _ h => h) (Or.inl ⟨by rfl, ?_⟩) ?_ ?_
           rotate_left
           ·intro w'
            go_simp; with_reducible rfl
           rotate_left
           ·simp only [Act.put, q1, q2, q3, i64_w, i32_w]
            rfl
           refine pure_ (i := 57) (N := some 277) (v := ?_) (a' := ?_) #[Y,Y,Y,Y,Y,Y,Y,Y,Y,Y,Y,Y,Y,Y,Y,Y,Y,Y,Y,Y,Y,Y,Y,Y,Y,Y,Y,Y,Y,Y,Y,Y,Y,Y,Y,Y,Y,Y,Y,Y,Y,Y,Y,Y,Y,Y,Y,Y,Y,Y,Y,Y,Y,Y,Y,Y,Y,Y,Z,Z,Z,Z,Z,Z,Z,Z,Z,Z,Z,Z,Z,Z,Z,Z,Z] rfl rfl (any_of HT_.out (by kernel_rfl)) (fun _ _ _ h => h) (Or.inl ⟨by rfl, ?_⟩) ?_ ?_
           rotate_left
           ·intro w'
            go_simp; with_reducible rfl
           rotate_left
           ·simp only [Act.put, q1, q2, q3, i64_w, i32_w]
            rfl
           refine pure_ (i := 59) (N := some 279) (v := ?_) (a' := ?_) #[Y,Y,Y,Y,Y,Y,Y,Y,Y,Y,Y,Y,Y,Y,Y,Y,Y,Y,Y,Y,Y,Y,Y,Y,Y,Y,Y,Y,Y,Y,Y,Y,Y,Y,Y,Y,Y,Y,Y,Y,Y,Y,Y,Y,Y,Y,Y,Y,Y,Y,Y,Y,Y,Y,Y,Y,Y,Y,Z,Y,Z,Z,Z,Z,Z,Z,Z,Z,Z,Z,Z,Z,Z,Z,Z] rfl rfl (any_of HT_.out (by kernel_rfl)) (fun _ _ _ h => h) (Or.inl ⟨by rfl, ?_⟩) ?_ ?_
           rotate_left
           ·intro w'
            go_simp; with_reducible rfl
           rotate_left
           ·simp only [Act.put, q1, q2, q3, i64_w, i32_w]
            rfl
           refine pure_ (i := 60) (N := some 280) (v := ?_) (a' := ?_) #[Y,Y,Y,Y,Y,Y,Y,Y,Y,Y,Y,Y,Y,Y,Y,Y,Y,Y,Y,Y,Y,Y,Y,Y,Y,Y,Y,Y,Y,Y,Y,Y,Y,Y,Y,Y,Y,Y,Y,Y,Y,Y,Y,Y,Y,Y,Y,Y,Y,Y,Y,Y,Y,Y,Y,Y,Y,Y,Z,Y,Y,Z,Z,Z,Z,Z,Z,Z,Z,Z,Z,Z,Z,Z,Z] rfl rfl (any_of HT_.out (by kernel_rfl)) (fun _ _ _ h => h) (Or.inl ⟨by rfl, ?_⟩) ?_ ?_
           rotate_left
           ·intro w'
            go_simp; with_reducible rfl
           rotate_left
           ·simp only [Act.put, q1, q2, q3, i64_w, i32_w]
            rfl
           refine take_ (i := 58) (N := some 278) (v := ?_) (a' := ?_) #[Y,Y,Y,Y,Y,Y,Y,Y,Y,Y,Y,Y,Y,Y,Y,Y,Y,Y,Y,Y,Y,Y,Y,Y,Y,Y,Y,Y,Y,Y,Y,Y,Y,Y,Y,Y,Y,Y,Y,Y,Y,Y,Y,Y,Y,Y,Y,Y,Y,Y,Y,Y,Y,Y,Y,Y,Y,Y,Y,Y,Y,Z,Z,Z,Z,Z,Z,Z,Z,Z,Z,Z,Z,Z,Z] rfl rfl (take_ofW HT_.out HW_.out (by kernel_rfl)) (fun _ _ _ h => h) (Or.inl ⟨by rfl, ?_⟩) hHeld ?_ ?_
           rotate_left
           ·rintro w' ⟨s0, s1, s2, s3⟩
            go_simp; with_reducible rfl
           rotate_left
           ·simp only [Act.put, q1, q2, q3, i64_w, i32_w]
            rfl
           refine take_ (i := 61) (N := some 281) (v := ?_) (a' := ?_) #[Y,Y,Y,Y,Y,Y,Y,Y,Y,Y,Y,Y,Y,Y,Y,Y,Y,Y,Y,Y,Y,Y,Y,Y,Y,Y,Y,Y,Y,Y,Y,Y,Y,Y,Y,Y,Y,Y,Y,Y,Y,Y,Y,Y,Y,Y,Y,Y,Y,Y,Y,Y,Y,Y,Y,Y,Y,Y,Y,Y,Y,Y,Z,Z,Z,Z,Z,Z,Z,Z,Z,Z,Z,Z,Z] rfl rfl (take_ofW HT_.out HW_.out (by kernel_rfl)) (fun _ _ _ h => h) (Or.inl ⟨by rfl, ?_⟩) hHeld ?_ ?_
           rotate_left
           ·rintro w' ⟨s0, s1, s2, s3⟩
            go_simp; with_reducible rfl
           rotate_left
           ·simp only [Act.put, q1, q2, q3, i64_w, i32_w]
            rfl
           refine pure_ (i := 62) (N := some 282) (v := ?_) (a' := ?_) #[Y,Y,Y,Y,Y,Y,Y,Y,Y,Y,Y,Y,Y,Y,Y,Y,Y,Y,Y,Y,Y,Y,Y,Y,Y,Y,Y,Y,Y,Y,Y,Y,Y,Y,Y,Y,Y,Y,Y,Y,Y,Y,Y,Y,Y,Y,Y,Y,Y,Y,Y,Y,Y,Y,Y,Y,Y,Y,Y,Y,Y,Y,Y,Z,Z,Z,Z,Z,Z,Z,Z,Z,Z,Z,Z] rfl rfl (any_of HT_.out (by kernel_rfl)) (fun _ _ _ h => h) (Or.inl ⟨by rfl, ?_⟩) ?_ ?_
           rotate_left
           ·intro w'
            go_simp; with_reducible rfl
           rotate_left
           ·simp only [Act.put, q1, q2, q3, i64_w, i32_w]
            rfl
           refine pure_ (i := 63) (N := some 283) (v := ?_) (a' := ?_) #[Y,Y,Y,Y,Y,Y,Y,Y,Y,Y,Y,Y,Y,Y,Y,Y,Y,Y,Y,Y,Y,Y,Y,Y,Y,Y,Y,Y,Y,Y,Y,Y,Y,Y,Y,Y,Y,Y,Y,Y,Y,Y,Y,Y,Y,Y,Y,Y,Y,Y,Y,Y,Y,Y,Y,Y,Y,Y,Y,Y,Y,Y,Y,Y,Z,Z,Z,Z,Z,Z,Z,Z,Z,Z,Z] rfl rfl (any_of HT_.out (by kernel_rfl)) (fun _ _ _ h => h) (Or.inl ⟨by rfl, ?_⟩) ?_ ?_
           rotate_left
           ·intro w'
            go_simp; with_reducible rfl
           rotate_left
           ·simp only [Act.put, q1, q2, q3, i64_w, i32_w]
            rfl
           refine pure_ (i := 64) (N := some 284) (v := ?_) (a' := ?_) #[Y,Y,Y,Y,Y,Y,Y,Y,Y,Y,Y,Y,Y,Y,Y,Y,Y,Y,Y,Y,Y,Y,Y,Y,Y,Y,Y,Y,Y,Y,Y,Y,Y,Y,Y,Y,Y,Y,Y,Y,Y,Y,Y,Y,Y,Y,Y,Y,Y,Y,Y,Y,Y,Y,Y,Y,Y,Y,Y,Y,Y,Y,Y,Y,Y,Z,Z,Z,Z,Z,Z,Z,Z,Z,Z] rfl rfl (any_of HT_.out (by kernel_rfl)) (fun _ _ _ h => h) (Or.inl ⟨by rfl, ?_⟩) ?_ ?_
           rotate_left
           ·intro w'
            go_simp; with_reducible rfl
           rotate_left
           ·simp only [Act.put, q1, q2, q3, i64_w, i32_w]
            rfl
           refine pure_ (i := 65) (N := some 285) (v := ?_) (a' := ?_) #[Y,Y,Y,Y,Y,Y,Y,Y,Y,Y,Y,Y,Y,Y,Y,Y,Y,Y,Y,Y,Y,Y,Y,Y,Y,Y,Y,Y,Y,Y,Y,Y,Y,Y,Y,Y,Y,Y,Y,Y,Y,Y,Y,Y,Y,Y,Y,Y,Y,Y,Y,Y,Y,Y,Y,Y,Y,Y,Y,Y,Y,Y,Y,Y,Y,Y,Z,Z,Z,Z,Z,Z,Z,Z,Z] rfl rfl (any_of HT_.out (by kernel_rfl)) (fun _ _ _ h => h) (Or.inl ⟨by rfl, ?_⟩) ?_ ?_
           rotate_left
           ·intro w'
            go_simp; with_reducible rfl
           rotate_left
           ·simp only [Act.put, q1, q2, q3, i64_w, i32_w]
            rfl
           refine pure_ (i := 66) (N := some 286) (v := ?_) (a' := ?_) #[Y,Y,Y,Y,Y,Y,Y,Y,Y,Y,Y,Y,Y,Y,Y,Y,Y,Y,Y,Y,Y,Y,Y,Y,Y,Y,Y,Y,Y,Y,Y,Y,Y,Y,Y,Y,Y,Y,Y,Y,Y,Y,Y,Y,Y,Y,Y,Y,Y,Y,Y,Y,Y,Y,Y,Y,Y,Y,Y,Y,Y,Y,Y,Y,Y,Y,Y,Z,Z,Z,Z,Z,Z,Z,Z] rfl rfl (any_of HT_.out (by kernel_rfl)) (fun _ _ _ h => h) (Or.inl ⟨by rfl, ?_⟩) ?_ ?_
           rotate_left
           ·intro w'
            go_simp; with_reducible rfl
           rotate_left
           ·simp only [Act.put, q1, q2, q3, i64_w, i32_w]
            rfl
           refine pure_ (i := 68) (N := some 288) (v := ?_) (a' := ?_) #[Y,Y,Y,Y,Y,Y,Y,Y,Y,Y,Y,Y,Y,Y,Y,Y,Y,Y,Y,Y,Y,Y,Y,Y,Y,Y,Y,Y,Y,Y,Y,Y,Y,Y,Y,Y,Y,Y,Y,Y,Y,Y,Y,Y,Y,Y,Y,Y,Y,Y,Y,Y,Y,Y,Y,Y,Y,Y,Y,Y,Y,Y,Y,Y,Y,Y,Y,Z,Y,Z,Z,Z,Z,Z,Z] rfl rfl (any_of HT_.out (by kernel_rfl)) (fun _ _ _ h => h) (Or.inl ⟨by rfl, ?_⟩) ?_ ?_
           rotate_left
           ·intro w'
            go_simp; with_reducible rfl
           rotate_left
           ·simp only [Act.put, q1, q2, q3, i64_w, i32_w]
            rfl
           refine pure_ (i := 69) (N := some 289) (v := ?_) (a' := ?_) #[Y,Y,Y,Y,Y,Y,Y,Y,Y,Y,Y,Y,Y,Y,Y,Y,Y,Y,Y,Y,Y,Y,Y,Y,Y,Y,Y,Y,Y,Y,Y,Y,Y,Y,Y,Y,Y,Y,Y,Y,Y,Y,Y,Y,Y,Y,Y,Y,Y,Y,Y,Y,Y,Y,Y,Y,Y,Y,Y,Y,Y,Y,Y,Y,Y,Y,Y,Z,Y,Y,Z,Z,Z,Z,Z] rfl rfl (any_of HT_.out (by kernel_rfl)) (fun _ _ _ h => h) (Or.inl ⟨by rfl, ?_⟩) ?_ ?_
           rotate_left
           ·intro w'
            go_simp; with_reducible rfl
           rotate_left
           ·simp only [Act.put, q1, q2, q3, i64_w, i32_w]
            rfl
           refine take_ (i := 67) (N := some 287) (v := ?_) (a' := ?_) #[Y,Y,Y,Y,Y,Y,Y,Y,Y,Y,Y,Y,Y,Y,Y,Y,Y,Y,Y,Y,Y,Y,Y,Y,Y,Y,Y,Y,Y,Y,Y,Y,Y,Y,Y,Y,Y,Y,Y,Y,Y,Y,Y,Y,Y,Y,Y,Y,Y,Y,Y,Y,Y,Y,Y,Y,Y,Y,Y,Y,Y,Y,Y,Y,Y,Y,Y,Y,Y,Y,Z,Z,Z,Z,Z] rfl rfl (take_ofW HT_.out HW_.out (by kernel_rfl)) (fun _ _ _ h => h) (Or.inl ⟨by rfl, ?_⟩) hHeld ?_ ?_
           rotate_left
           ·rintro w' ⟨s0, s1, s2, s3⟩
            go_simp; with_reducible rfl
           rotate_left
           ·simp only [Act.put, q1, q2, q3, i64_w, i32_w]
            rfl
           refine take_ (i := 70) (N := some 290) (v := ?_) (a' := ?_) #[Y,Y,Y,Y,Y,Y,Y,Y,Y,Y,Y,Y,Y,Y,Y,Y,Y,Y,Y,Y,Y,Y,Y,Y,Y,Y,Y,Y,Y,Y,Y,Y,Y,Y,Y,Y,Y,Y,Y,Y,Y,Y,Y,Y,Y,Y,Y,Y,Y,Y,Y,Y,Y,Y,Y,Y,Y,Y,Y,Y,Y,Y,Y,Y,Y,Y,Y,Y,Y,Y,Y,Z,Z,Z,Z] rfl rfl (take_ofW HT_.out HW_.out (by kernel_rfl)) (fun _ _ _ h => h) (Or.inl ⟨by rfl, ?_⟩) hHeld ?_ ?_
           rotate_left
           ·rintro w' ⟨s0, s1, s2, s3⟩
            go_simp; with_reducible rfl
           rotate_left
           ·simp only [Act.put, q1, q2, q3, i64_w, i32_w]
            rfl
           refine pure_ (i := 71) (N := some 291) (v := ?_) (a' := ?_) #[Y,Y,Y,Y,Y,Y,Y,Y,Y,Y,Y,Y,Y,Y,Y,Y,Y,Y,Y,Y,Y,Y,Y,Y,Y,Y,Y,Y,Y,Y,Y,Y,Y,Y,Y,Y,Y,Y,Y,Y,Y,Y,Y,Y,Y,Y,Y,Y,Y,Y,Y,Y,Y,Y,Y,Y,Y,Y,Y,Y,Y,Y,Y,Y,Y,Y,Y,Y,Y,Y,Y,Y,Z,Z,Z] rfl rfl (any_of HT_.out (by kernel_rfl)) (fun _ _ _ h => h) (Or.inl ⟨by rfl, ?_⟩) ?_ ?_
           rotate_left
           ·intro w'
            go_simp; with_reducible rfl
           rotate_left
           ·simp only [Act.put, q1, q2, q3, i64_w, i32_w]
            rfl
           refine pure_ (i := 72) (N := some 292) (v := ?_) (a' := ?_) #[Y,Y,Y,Y,Y,Y,Y,Y,Y,Y,Y,Y,Y,Y,Y,Y,Y,Y,Y,Y,Y,Y,Y,Y,Y,Y,Y,Y,Y,Y,Y,Y,Y,Y,Y,Y,Y,Y,Y,Y,Y,Y,Y,Y,Y,Y,Y,Y,Y,Y,Y,Y,Y,Y,Y,Y,Y,Y,Y,Y,Y,Y,Y,Y,Y,Y,Y,Y,Y,Y,Y,Y,Y,Z,Z] rfl rfl (any_of HT_.out (by kernel_rfl)) (fun _ _ _ h => h) (Or.inl ⟨by rfl, ?_⟩) ?_ ?_
           rotate_left
           ·intro w'
            go_simp; with_reducible rfl
           rotate_left
           ·simp only [Act.put, q1, q2, q3, i64_w, i32_w]
            rfl
           refine pure_ (i := 73) (N := some 293) (v := ?_) (a' := ?_) #[Y,Y,Y,Y,Y,Y,Y,Y,Y,Y,Y,Y,Y,Y,Y,Y,Y,Y,Y,Y,Y,Y,Y,Y,Y,Y,Y,Y,Y,Y,Y,Y,Y,Y,Y,Y,Y,Y,Y,Y,Y,Y,Y,Y,Y,Y,Y,Y,Y,Y,Y,Y,Y,Y,Y,Y,Y,Y,Y,Y,Y,Y,Y,Y,Y,Y,Y,Y,Y,Y,Y,Y,Y,Y,Z] rfl rfl (any_of HT_.out (by kernel_rfl)) (fun _ _ _ h => h) (Or.inl ⟨by rfl, ?_⟩) ?_ ?_
           rotate_left
           ·intro w'
            go_simp; with_reducible rfl
           rotate_left
           ·simp only [Act.put, q1, q2, q3, i64_w, i32_w]
            rfl
           refine pure_ (i := 74) (N := some 2) (v := ?_) (a' := ?_) #[Y,Y,Y,Y,Y,Y,Y,Y,Y,Y,Y,Y,Y,Y,Y,Y,Y,Y,Y,Y,Y,Y,Y,Y,Y,Y,Y,Y,Y,Y,Y,Y,Y,Y,Y,Y,Y,Y,Y,Y,Y,Y,Y,Y,Y,Y,Y,Y,Y,Y,Y,Y,Y,Y,Y,Y,Y,Y,Y,Y,Y,Y,Y,Y,Y,Y,Y,Y,Y,Y,Y,Y,Y,Y,Y] rfl rfl (any_of HT_.out (by kernel_rfl)) (fun _ _ _ h => h) (Or.inl ⟨by rfl, ?_⟩) ?_ ?_
           rotate_left
           ·intro w'
            go_simp; with_reducible rfl
           rotate_left
           ·simp only [Act.put, q1, q2, q3, i64_w, i32_w]
            rfl
           refine done_ (done_of HT_.out (by kernel_rfl)) ?_
           try go_wp2
           go_ret
           exact ⟨by first | rfl | (simp [errW_none, errW_some] <;> rfl) | (simp [*, errW_none, errW_some] <;> rfl), by repeat (first | (with_reducible first | exact HB.out | apply c1 | apply c2 | apply c3) | exact HB.out)⟩

end Go.Proofs.Ytpmpcaahbhdiiaa.QFnLedger
