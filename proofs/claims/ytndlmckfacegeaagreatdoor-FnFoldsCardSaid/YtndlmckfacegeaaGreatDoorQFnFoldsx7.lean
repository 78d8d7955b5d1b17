-- Printed for this claim by a changed copy of the kit's print (the session's own; own contracts in place of some functions).
import Derived.Test.YtndlmckfacegeaaGreatDoorQFnFoldsx0
import Derived.Test.YtndlmckfacegeaaGreatDoorQFnFoldsx1
import Derived.Test.YtndlmckfacegeaaGreatDoorQFnFoldsx4
import Derived.Test.YtndlmckfacegeaaGreatDoorQFnFoldsx5
import Derived.Test.YtndlmckfacegeaaGreatDoorQFnFoldsx6
namespace Go.Proofs.YtndlmckfacegeaaGreatDoor.QFnFolds
open Go.RowKit Go.Proofs.YtndlmckfacegeaaGreatDoorW.PrintWords Go.Proofs.YtndlmckfacegeaaGreatDoorW.PrintLast Go.Proofs.YtndlmckfacegeaaGreatDoorW.PrintMore
attribute [local go_sem] max2_int min2_int max_two min_two max_three min_three max_four min_four   -- for this text's walks alone
set_option linter.unusedVariables false
set_option linter.unusedSimpArgs false

/-! ### laws_FnFolds: function 3 -/
mutual
def laws_FnFolds.j0 : Nat → ByteArray → Int → Int → List Int → ByteArray → ByteArray → ByteArray → ByteArray → Bool → Option (Bool)
  | 0, _, _, _, _, _, _, _, _, _ => none
  | k + 1, x3, x4, x5, x6, x7, x8, x9, x10, x96 => if x96 = true then (some false) else (laws_FnFolds.l0 k x3 x4 x5 x6 x7 x8 x9 x10 (([] : List Int)) x6 (x6.length : Int) 0)
def laws_FnFolds.l0 : Nat → ByteArray → Int → Int → List Int → ByteArray → ByteArray → ByteArray → ByteArray → List Int → List Int → Int → Int → Option (Bool)
  | 0, _, _, _, _, _, _, _, _, _, _, _, _ => none
  | k + 1, x3, x4, x5, x6, x7, x8, x9, x10, x11, x98, x99, x100 => if x100 < x99 then (if 0 ≤ x100 then (if x100 < (x98.length : Int) then (if (rd x98 x100) < 0 then (laws_FnFolds.j2 k x3 x4 x5 x6 x7 x8 x9 x10 x11 x100 (rd x98 x100) x98 x99 x100 true) else (if (rd x98 x100) ≥ x5 then (laws_FnFolds.j2 k x3 x4 x5 x6 x7 x8 x9 x10 x11 x100 (rd x98 x100) x98 x99 x100 true) else ((laws_has.f k x11 (rd x98 x100)).bind fun t223 => (if t223 = true then (laws_FnFolds.j2 k x3 x4 x5 x6 x7 x8 x9 x10 x11 x100 (rd x98 x100) x98 x99 x100 true) else (if x100 < (x8.size : Int) then (if x100 > 0 then (if 0 ≤ (wrap64 (x100 - 1)) then (if (wrap64 (x100 - 1)) < (x8.size : Int) then (if (((bt x8 x100) == 117) == ((bt x8 (wrap64 (x100 - 1))) == 117)) = true then (laws_FnFolds.j2 k x3 x4 x5 x6 x7 x8 x9 x10 x11 x100 (rd x98 x100) x98 x99 x100 (decide (x100 > 0))) else (laws_FnFolds.j2 k x3 x4 x5 x6 x7 x8 x9 x10 x11 x100 (rd x98 x100) x98 x99 x100 false)) else (none)) else (none)) else (if (((bt x8 x100) == 117) == false) = true then (laws_FnFolds.j2 k x3 x4 x5 x6 x7 x8 x9 x10 x11 x100 (rd x98 x100) x98 x99 x100 (decide (x100 > 0))) else (laws_FnFolds.j2 k x3 x4 x5 x6 x7 x8 x9 x10 x11 x100 (rd x98 x100) x98 x99 x100 false))) else (none)))))) else (none)) else (none)) else (laws_FnFolds.l1 k x3 x4 x5 x7 x9 x10 0)
def laws_FnFolds.j2 : Nat → ByteArray → Int → Int → List Int → ByteArray → ByteArray → ByteArray → ByteArray → List Int → Int → Int → List Int → Int → Int → Bool → Option (Bool)
  | 0, _, _, _, _, _, _, _, _, _, _, _, _, _, _, _ => none
  | k + 1, x3, x4, x5, x6, x7, x8, x9, x10, x11, x12, x13, x98, x99, x100, x136 => if x136 = true then (some false) else (if x11.length < 17592186044416 then ((some (x11 ++ [x13] : List Int)).bind fun y224 => (if x12 > 0 then (if 0 ≤ x12 then (if x12 < (x8.size : Int) then (if 0 < (x8.size : Int) then (if 0 < (x6.length : Int) then (if (((bt x8 x12) == (bt x8 0)) != ((Int.tmod (wrap64 (x13 - (rd x6 0))) 2) == 0)) = true then (some false) else (laws_FnFolds.l0 k x3 x4 x5 x6 x7 x8 x9 x10 y224 x98 x99 (wrap64 (x100 + 1)))) else (none)) else (none)) else (none)) else (none)) else (laws_FnFolds.l0 k x3 x4 x5 x6 x7 x8 x9 x10 y224 x98 x99 (wrap64 (x100 + 1))))) else (none))
def laws_FnFolds.l1 : Nat → ByteArray → Int → Int → ByteArray → ByteArray → ByteArray → Int → Option (Bool)
  | 0, _, _, _, _, _, _, _ => none
  | k + 1, x3, x4, x5, x7, x9, x10, x14 => if (wrap64 (x14 + 2)) < (x7.size : Int) then (if 0 ≤ x14 then (if x14 < (x7.size : Int) then (if 0 ≤ (wrap64 (x14 + 2)) then (if (bt x7 x14) = (bt x7 (wrap64 (x14 + 2))) then (some false) else (laws_FnFolds.l1 k x3 x4 x5 x7 x9 x10 (wrap64 (x14 + 2)))) else (none)) else (none)) else (none)) else (laws_FnFolds.l2 k x3 x4 x5 x7 x9 x10 0)
def laws_FnFolds.l2 : Nat → ByteArray → Int → Int → ByteArray → ByteArray → ByteArray → Int → Option (Bool)
  | 0, _, _, _, _, _, _, _ => none
  | k + 1, x3, x4, x5, x7, x9, x10, x15 => if x15 < (x7.size : Int) then (if 0 ≤ x15 then (if 0 ≤ (wrap64 ((wrap64 ((x10.size : Int) - 1)) - x15)) then (if (wrap64 ((wrap64 ((x10.size : Int) - 1)) - x15)) < (x10.size : Int) then (if (bt x7 x15) = (bt x10 (wrap64 ((wrap64 ((x10.size : Int) - 1)) - x15))) then (if (bt x7 x15) = 118 then (laws_FnFolds.l2 k x3 x4 x5 x7 x9 x10 (wrap64 (x15 + 1))) else (if (bt x7 x15) = 109 then (laws_FnFolds.l2 k x3 x4 x5 x7 x9 x10 (wrap64 (x15 + 1))) else (some false))) else (some false)) else (none)) else (none)) else (none)) else ((impl_FirstWord.f k x7).bind fun bt228 => (if bt228.2 = true then ((impl_CreasesOf.f k bt228.1).bind fun t230 => (if t230.toList = x7.toList then (laws_FnFolds.j5 k x3 x4 x5 x7 x9 (Op.bytesLess x3.toList bt228.1.toList)) else (laws_FnFolds.j5 k x3 x4 x5 x7 x9 true))) else (laws_FnFolds.j5 k x3 x4 x5 x7 x9 true)))
def laws_FnFolds.j5 : Nat → ByteArray → Int → Int → ByteArray → ByteArray → Bool → Option (Bool)
  | 0, _, _, _, _, _, _ => none
  | k + 1, x3, x4, x5, x7, x9, x221 => if x221 = true then (some false) else (if x4 = 0 then (some true) else (if 0 ≤ (wrap64 (x4 - 1)) then (if (wrap64 (x4 - 1)) ≤ (x3.size : Int) then ((impl_CreasesOf.f k (x3.extract 0 ((wrap64 (x4 - 1)) : Int).toNat)).bind fun t231 => (laws_FnFolds.l3 k x3 x5 x7 x9 t231 0)) else (none)) else (none)))
def laws_FnFolds.l3 : Nat → ByteArray → Int → ByteArray → ByteArray → ByteArray → Int → Option (Bool)
  | 0, _, _, _, _, _, _ => none
  | k + 1, x3, x5, x7, x9, x18, x19 => if x19 < (x18.size : Int) then (if (wrap64 ((wrap64 (2 * x19)) + 1)) ≥ (x7.size : Int) then (some false) else (if 0 ≤ (wrap64 ((wrap64 (2 * x19)) + 1)) then (if (wrap64 ((wrap64 (2 * x19)) + 1)) < (x7.size : Int) then (if 0 ≤ x19 then (if (bt x7 (wrap64 ((wrap64 (2 * x19)) + 1))) = (bt x18 x19) then (laws_FnFolds.l3 k x3 x5 x7 x9 x18 (wrap64 (x19 + 1))) else (some false)) else (none)) else (none)) else (none))) else (if 0 ≤ (wrap64 ((wrap64 (Int.tdiv x5 2)) - 1)) then (if (wrap64 ((wrap64 (Int.tdiv x5 2)) - 1)) < (x7.size : Int) then (if (bt x7 (wrap64 ((wrap64 (Int.tdiv x5 2)) - 1))) = 118 then ((impl_MirrorWord.f x9).bind fun t232 => (some (t232.toList == x3.toList))) else (some false)) else (none)) else (none))
end
def laws_FnFolds.f (k : Nat) (l0 : List Int) : Option (Bool) := if (l0.length : Int) > 1048576 then (some true) else ((spec_MakeFold.f k l0 0).bind fun t206 => ((impl_FoldOrder.f k t206).bind fun t207 => ((impl_CreasesOf.f k t206).bind fun t210 => ((impl_FacesOf.f k t206).bind fun t211 => ((impl_MirrorWord.f t206).bind fun t212 => ((impl_CreasesOf.f k t212).bind fun t213 => ((impl_FoldWordOk.f t206).bind fun t214 => (if t214 = true then ((impl_UnitsOf.f t206).bind fun t215 => (if t215 = (shl .i64 1 (t206.size : Int)) then (if (t207.length : Int) = (shl .i64 1 (t206.size : Int)) then (if (t210.size : Int) = (wrap64 ((shl .i64 1 (t206.size : Int)) - 1)) then (if (t211.size : Int) = (shl .i64 1 (t206.size : Int)) then (if (t212.size : Int) = (t206.size : Int) then (if (t213.size : Int) = (wrap64 ((shl .i64 1 (t206.size : Int)) - 1)) then ((impl_PiecesAfter.f t206).bind fun t216 => (if t216 = (wrap64 ((shl .i64 1 (t206.size : Int)) + 1)) then ((impl_TopUnit.f k t206).bind fun t217 => (if 0 ≤ (wrap64 ((shl .i64 1 (t206.size : Int)) - 1)) then (if (wrap64 ((shl .i64 1 (t206.size : Int)) - 1)) < (t207.length : Int) then (laws_FnFolds.j0 k t206 (t206.size : Int) (shl .i64 1 (t206.size : Int)) t207 t210 t211 t212 t213 (t217 != (rd t207 (wrap64 ((shl .i64 1 (t206.size : Int)) - 1))))) else (none)) else (none))) else (laws_FnFolds.j0 k t206 (t206.size : Int) (shl .i64 1 (t206.size : Int)) t207 t210 t211 t212 t213 true))) else (laws_FnFolds.j0 k t206 (t206.size : Int) (shl .i64 1 (t206.size : Int)) t207 t210 t211 t212 t213 true)) else (laws_FnFolds.j0 k t206 (t206.size : Int) (shl .i64 1 (t206.size : Int)) t207 t210 t211 t212 t213 true)) else (laws_FnFolds.j0 k t206 (t206.size : Int) (shl .i64 1 (t206.size : Int)) t207 t210 t211 t212 t213 true)) else (laws_FnFolds.j0 k t206 (t206.size : Int) (shl .i64 1 (t206.size : Int)) t207 t210 t211 t212 t213 true)) else (laws_FnFolds.j0 k t206 (t206.size : Int) (shl .i64 1 (t206.size : Int)) t207 t210 t211 t212 t213 true)) else (laws_FnFolds.j0 k t206 (t206.size : Int) (shl .i64 1 (t206.size : Int)) t207 t210 t211 t212 t213 true))) else (laws_FnFolds.j0 k t206 (t206.size : Int) (shl .i64 1 (t206.size : Int)) t207 t210 t211 t212 t213 true)))))))))
theorem laws_FnFolds.mono_l : ∀ k, (∀ y0 y1 y2 y3 y4 y5 y6 y7 y8, LeO (laws_FnFolds.j0 k y0 y1 y2 y3 y4 y5 y6 y7 y8) (laws_FnFolds.j0 (k + 1) y0 y1 y2 y3 y4 y5 y6 y7 y8)) ∧ (∀ y0 y1 y2 y3 y4 y5 y6 y7 y8 y9 y10 y11, LeO (laws_FnFolds.l0 k y0 y1 y2 y3 y4 y5 y6 y7 y8 y9 y10 y11) (laws_FnFolds.l0 (k + 1) y0 y1 y2 y3 y4 y5 y6 y7 y8 y9 y10 y11)) ∧ (∀ y0 y1 y2 y3 y4 y5 y6 y7 y8 y9 y10 y11 y12 y13 y14, LeO (laws_FnFolds.j2 k y0 y1 y2 y3 y4 y5 y6 y7 y8 y9 y10 y11 y12 y13 y14) (laws_FnFolds.j2 (k + 1) y0 y1 y2 y3 y4 y5 y6 y7 y8 y9 y10 y11 y12 y13 y14)) ∧ (∀ y0 y1 y2 y3 y4 y5 y6, LeO (laws_FnFolds.l1 k y0 y1 y2 y3 y4 y5 y6) (laws_FnFolds.l1 (k + 1) y0 y1 y2 y3 y4 y5 y6)) ∧ (∀ y0 y1 y2 y3 y4 y5 y6, LeO (laws_FnFolds.l2 k y0 y1 y2 y3 y4 y5 y6) (laws_FnFolds.l2 (k + 1) y0 y1 y2 y3 y4 y5 y6)) ∧ (∀ y0 y1 y2 y3 y4 y5, LeO (laws_FnFolds.j5 k y0 y1 y2 y3 y4 y5) (laws_FnFolds.j5 (k + 1) y0 y1 y2 y3 y4 y5)) ∧ (∀ y0 y1 y2 y3 y4 y5, LeO (laws_FnFolds.l3 k y0 y1 y2 y3 y4 y5) (laws_FnFolds.l3 (k + 1) y0 y1 y2 y3 y4 y5))
  | 0 => ⟨fun _ _ _ _ _ _ _ _ _ r h => by simp [laws_FnFolds.j0] at h, fun _ _ _ _ _ _ _ _ _ _ _ _ r h => by simp [laws_FnFolds.l0] at h, fun _ _ _ _ _ _ _ _ _ _ _ _ _ _ _ r h => by simp [laws_FnFolds.j2] at h, fun _ _ _ _ _ _ _ r h => by simp [laws_FnFolds.l1] at h, fun _ _ _ _ _ _ _ r h => by simp [laws_FnFolds.l2] at h, fun _ _ _ _ _ _ r h => by simp [laws_FnFolds.j5] at h, fun _ _ _ _ _ _ r h => by simp [laws_FnFolds.l3] at h⟩
  | k + 1 => by
    obtain ⟨ih0, ih1, ih2, ih3, ih4, ih5, ih6⟩ := laws_FnFolds.mono_l k
    refine ⟨?_, ?_, ?_, ?_, ?_, ?_, ?_⟩
    · intro y0 y1 y2 y3 y4 y5 y6 y7 y8
      unfold laws_FnFolds.j0
      repeat' first
      | (with_reducible exact ih0 _ _ _ _ _ _ _ _ _)
      | (with_reducible exact ih1 _ _ _ _ _ _ _ _ _ _ _ _)
      | (with_reducible exact ih2 _ _ _ _ _ _ _ _ _ _ _ _ _ _ _)
      | (with_reducible exact ih3 _ _ _ _ _ _ _)
      | (with_reducible exact ih4 _ _ _ _ _ _ _)
      | (with_reducible exact ih5 _ _ _ _ _ _)
      | (with_reducible exact ih6 _ _ _ _ _ _)
      | (with_reducible exact impl_CreasesOf.mono _ _)
      | (with_reducible exact impl_FacesOf.mono _ _)
      | (with_reducible exact impl_FirstWord.mono _ _)
      | (with_reducible exact impl_FoldOrder.mono _ _)
      | (with_reducible exact impl_TopUnit.mono _ _)
      | (with_reducible exact laws_has.mono _ _ _)
      | (with_reducible exact spec_MakeFold.mono _ _ _)
      | (with_reducible exact LeO.refl _)
      | (with_reducible exact LeO.none _)
      | (with_reducible refine LeO.ite ?_ ?_)
      | (with_reducible refine LeO.bind ?_ (fun _ => ?_))
      | exact ih0 _ _ _ _ _ _ _ _ _
      | exact ih1 _ _ _ _ _ _ _ _ _ _ _ _
      | exact ih2 _ _ _ _ _ _ _ _ _ _ _ _ _ _ _
      | exact ih3 _ _ _ _ _ _ _
      | exact ih4 _ _ _ _ _ _ _
      | exact ih5 _ _ _ _ _ _
      | exact ih6 _ _ _ _ _ _
      | exact impl_CreasesOf.mono _ _
      | exact impl_FacesOf.mono _ _
      | exact impl_FirstWord.mono _ _
      | exact impl_FoldOrder.mono _ _
      | exact impl_TopUnit.mono _ _
      | exact laws_has.mono _ _ _
      | exact spec_MakeFold.mono _ _ _
      | exact LeO.none _
      | refine LeO.ite ?_ ?_
      | refine LeO.bind ?_ (fun _ => ?_)
    · intro y0 y1 y2 y3 y4 y5 y6 y7 y8 y9 y10 y11
      unfold laws_FnFolds.l0
      repeat' first
      | (with_reducible exact ih0 _ _ _ _ _ _ _ _ _)
      | (with_reducible exact ih1 _ _ _ _ _ _ _ _ _ _ _ _)
      | (with_reducible exact ih2 _ _ _ _ _ _ _ _ _ _ _ _ _ _ _)
      | (with_reducible exact ih3 _ _ _ _ _ _ _)
      | (with_reducible exact ih4 _ _ _ _ _ _ _)
      | (with_reducible exact ih5 _ _ _ _ _ _)
      | (with_reducible exact ih6 _ _ _ _ _ _)
      | (with_reducible exact impl_CreasesOf.mono _ _)
      | (with_reducible exact impl_FacesOf.mono _ _)
      | (with_reducible exact impl_FirstWord.mono _ _)
      | (with_reducible exact impl_FoldOrder.mono _ _)
      | (with_reducible exact impl_TopUnit.mono _ _)
      | (with_reducible exact laws_has.mono _ _ _)
      | (with_reducible exact spec_MakeFold.mono _ _ _)
      | (with_reducible exact LeO.refl _)
      | (with_reducible exact LeO.none _)
      | (with_reducible refine LeO.ite ?_ ?_)
      | (with_reducible refine LeO.bind ?_ (fun _ => ?_))
      | exact ih0 _ _ _ _ _ _ _ _ _
      | exact ih1 _ _ _ _ _ _ _ _ _ _ _ _
      | exact ih2 _ _ _ _ _ _ _ _ _ _ _ _ _ _ _
      | exact ih3 _ _ _ _ _ _ _
      | exact ih4 _ _ _ _ _ _ _
      | exact ih5 _ _ _ _ _ _
      | exact ih6 _ _ _ _ _ _
      | exact impl_CreasesOf.mono _ _
      | exact impl_FacesOf.mono _ _
      | exact impl_FirstWord.mono _ _
      | exact impl_FoldOrder.mono _ _
      | exact impl_TopUnit.mono _ _
      | exact laws_has.mono _ _ _
      | exact spec_MakeFold.mono _ _ _
      | exact LeO.none _
      | refine LeO.ite ?_ ?_
      | refine LeO.bind ?_ (fun _ => ?_)
    · intro y0 y1 y2 y3 y4 y5 y6 y7 y8 y9 y10 y11 y12 y13 y14
      unfold laws_FnFolds.j2
      repeat' first
      | (with_reducible exact ih0 _ _ _ _ _ _ _ _ _)
      | (with_reducible exact ih1 _ _ _ _ _ _ _ _ _ _ _ _)
      | (with_reducible exact ih2 _ _ _ _ _ _ _ _ _ _ _ _ _ _ _)
      | (with_reducible exact ih3 _ _ _ _ _ _ _)
      | (with_reducible exact ih4 _ _ _ _ _ _ _)
      | (with_reducible exact ih5 _ _ _ _ _ _)
      | (with_reducible exact ih6 _ _ _ _ _ _)
      | (with_reducible exact impl_CreasesOf.mono _ _)
      | (with_reducible exact impl_FacesOf.mono _ _)
      | (with_reducible exact impl_FirstWord.mono _ _)
      | (with_reducible exact impl_FoldOrder.mono _ _)
      | (with_reducible exact impl_TopUnit.mono _ _)
      | (with_reducible exact laws_has.mono _ _ _)
      | (with_reducible exact spec_MakeFold.mono _ _ _)
      | (with_reducible exact LeO.refl _)
      | (with_reducible exact LeO.none _)
      | (with_reducible refine LeO.ite ?_ ?_)
      | (with_reducible refine LeO.bind ?_ (fun _ => ?_))
      | exact ih0 _ _ _ _ _ _ _ _ _
      | exact ih1 _ _ _ _ _ _ _ _ _ _ _ _
      | exact ih2 _ _ _ _ _ _ _ _ _ _ _ _ _ _ _
      | exact ih3 _ _ _ _ _ _ _
      | exact ih4 _ _ _ _ _ _ _
      | exact ih5 _ _ _ _ _ _
      | exact ih6 _ _ _ _ _ _
      | exact impl_CreasesOf.mono _ _
      | exact impl_FacesOf.mono _ _
      | exact impl_FirstWord.mono _ _
      | exact impl_FoldOrder.mono _ _
      | exact impl_TopUnit.mono _ _
      | exact laws_has.mono _ _ _
      | exact spec_MakeFold.mono _ _ _
      | exact LeO.none _
      | refine LeO.ite ?_ ?_
      | refine LeO.bind ?_ (fun _ => ?_)
    · intro y0 y1 y2 y3 y4 y5 y6
      unfold laws_FnFolds.l1
      repeat' first
      | (with_reducible exact ih0 _ _ _ _ _ _ _ _ _)
      | (with_reducible exact ih1 _ _ _ _ _ _ _ _ _ _ _ _)
      | (with_reducible exact ih2 _ _ _ _ _ _ _ _ _ _ _ _ _ _ _)
      | (with_reducible exact ih3 _ _ _ _ _ _ _)
      | (with_reducible exact ih4 _ _ _ _ _ _ _)
      | (with_reducible exact ih5 _ _ _ _ _ _)
      | (with_reducible exact ih6 _ _ _ _ _ _)
      | (with_reducible exact impl_CreasesOf.mono _ _)
      | (with_reducible exact impl_FacesOf.mono _ _)
      | (with_reducible exact impl_FirstWord.mono _ _)
      | (with_reducible exact impl_FoldOrder.mono _ _)
      | (with_reducible exact impl_TopUnit.mono _ _)
      | (with_reducible exact laws_has.mono _ _ _)
      | (with_reducible exact spec_MakeFold.mono _ _ _)
      | (with_reducible exact LeO.refl _)
      | (with_reducible exact LeO.none _)
      | (with_reducible refine LeO.ite ?_ ?_)
      | (with_reducible refine LeO.bind ?_ (fun _ => ?_))
      | exact ih0 _ _ _ _ _ _ _ _ _
      | exact ih1 _ _ _ _ _ _ _ _ _ _ _ _
      | exact ih2 _ _ _ _ _ _ _ _ _ _ _ _ _ _ _
      | exact ih3 _ _ _ _ _ _ _
      | exact ih4 _ _ _ _ _ _ _
      | exact ih5 _ _ _ _ _ _
      | exact ih6 _ _ _ _ _ _
      | exact impl_CreasesOf.mono _ _
      | exact impl_FacesOf.mono _ _
      | exact impl_FirstWord.mono _ _
      | exact impl_FoldOrder.mono _ _
      | exact impl_TopUnit.mono _ _
      | exact laws_has.mono _ _ _
      | exact spec_MakeFold.mono _ _ _
      | exact LeO.none _
      | refine LeO.ite ?_ ?_
      | refine LeO.bind ?_ (fun _ => ?_)
    · intro y0 y1 y2 y3 y4 y5 y6
      unfold laws_FnFolds.l2
      repeat' first
      | (with_reducible exact ih0 _ _ _ _ _ _ _ _ _)
      | (with_reducible exact ih1 _ _ _ _ _ _ _ _ _ _ _ _)
      | (with_reducible exact ih2 _ _ _ _ _ _ _ _ _ _ _ _ _ _ _)
      | (with_reducible exact ih3 _ _ _ _ _ _ _)
      | (with_reducible exact ih4 _ _ _ _ _ _ _)
      | (with_reducible exact ih5 _ _ _ _ _ _)
      | (with_reducible exact ih6 _ _ _ _ _ _)
      | (with_reducible exact impl_CreasesOf.mono _ _)
      | (with_reducible exact impl_FacesOf.mono _ _)
      | (with_reducible exact impl_FirstWord.mono _ _)
      | (with_reducible exact impl_FoldOrder.mono _ _)
      | (with_reducible exact impl_TopUnit.mono _ _)
      | (with_reducible exact laws_has.mono _ _ _)
      | (with_reducible exact spec_MakeFold.mono _ _ _)
      | (with_reducible exact LeO.refl _)
      | (with_reducible exact LeO.none _)
      | (with_reducible refine LeO.ite ?_ ?_)
      | (with_reducible refine LeO.bind ?_ (fun _ => ?_))
      | exact ih0 _ _ _ _ _ _ _ _ _
      | exact ih1 _ _ _ _ _ _ _ _ _ _ _ _
      | exact ih2 _ _ _ _ _ _ _ _ _ _ _ _ _ _ _
      | exact ih3 _ _ _ _ _ _ _
      | exact ih4 _ _ _ _ _ _ _
      | exact ih5 _ _ _ _ _ _
      | exact ih6 _ _ _ _ _ _
      | exact impl_CreasesOf.mono _ _
      | exact impl_FacesOf.mono _ _
      | exact impl_FirstWord.mono _ _
      | exact impl_FoldOrder.mono _ _
      | exact impl_TopUnit.mono _ _
      | exact laws_has.mono _ _ _
      | exact spec_MakeFold.mono _ _ _
      | exact LeO.none _
      | refine LeO.ite ?_ ?_
      | refine LeO.bind ?_ (fun _ => ?_)
    · intro y0 y1 y2 y3 y4 y5
      unfold laws_FnFolds.j5
      repeat' first
      | (with_reducible exact ih0 _ _ _ _ _ _ _ _ _)
      | (with_reducible exact ih1 _ _ _ _ _ _ _ _ _ _ _ _)
      | (with_reducible exact ih2 _ _ _ _ _ _ _ _ _ _ _ _ _ _ _)
      | (with_reducible exact ih3 _ _ _ _ _ _ _)
      | (with_reducible exact ih4 _ _ _ _ _ _ _)
      | (with_reducible exact ih5 _ _ _ _ _ _)
      | (with_reducible exact ih6 _ _ _ _ _ _)
      | (with_reducible exact impl_CreasesOf.mono _ _)
      | (with_reducible exact impl_FacesOf.mono _ _)
      | (with_reducible exact impl_FirstWord.mono _ _)
      | (with_reducible exact impl_FoldOrder.mono _ _)
      | (with_reducible exact impl_TopUnit.mono _ _)
      | (with_reducible exact laws_has.mono _ _ _)
      | (with_reducible exact spec_MakeFold.mono _ _ _)
      | (with_reducible exact LeO.refl _)
      | (with_reducible exact LeO.none _)
      | (with_reducible refine LeO.ite ?_ ?_)
      | (with_reducible refine LeO.bind ?_ (fun _ => ?_))
      | exact ih0 _ _ _ _ _ _ _ _ _
      | exact ih1 _ _ _ _ _ _ _ _ _ _ _ _
      | exact ih2 _ _ _ _ _ _ _ _ _ _ _ _ _ _ _
      | exact ih3 _ _ _ _ _ _ _
      | exact ih4 _ _ _ _ _ _ _
      | exact ih5 _ _ _ _ _ _
      | exact ih6 _ _ _ _ _ _
      | exact impl_CreasesOf.mono _ _
      | exact impl_FacesOf.mono _ _
      | exact impl_FirstWord.mono _ _
      | exact impl_FoldOrder.mono _ _
      | exact impl_TopUnit.mono _ _
      | exact laws_has.mono _ _ _
      | exact spec_MakeFold.mono _ _ _
      | exact LeO.none _
      | refine LeO.ite ?_ ?_
      | refine LeO.bind ?_ (fun _ => ?_)
    · intro y0 y1 y2 y3 y4 y5
      unfold laws_FnFolds.l3
      repeat' first
      | (with_reducible exact ih0 _ _ _ _ _ _ _ _ _)
      | (with_reducible exact ih1 _ _ _ _ _ _ _ _ _ _ _ _)
      | (with_reducible exact ih2 _ _ _ _ _ _ _ _ _ _ _ _ _ _ _)
      | (with_reducible exact ih3 _ _ _ _ _ _ _)
      | (with_reducible exact ih4 _ _ _ _ _ _ _)
      | (with_reducible exact ih5 _ _ _ _ _ _)
      | (with_reducible exact ih6 _ _ _ _ _ _)
      | (with_reducible exact impl_CreasesOf.mono _ _)
      | (with_reducible exact impl_FacesOf.mono _ _)
      | (with_reducible exact impl_FirstWord.mono _ _)
      | (with_reducible exact impl_FoldOrder.mono _ _)
      | (with_reducible exact impl_TopUnit.mono _ _)
      | (with_reducible exact laws_has.mono _ _ _)
      | (with_reducible exact spec_MakeFold.mono _ _ _)
      | (with_reducible exact LeO.refl _)
      | (with_reducible exact LeO.none _)
      | (with_reducible refine LeO.ite ?_ ?_)
      | (with_reducible refine LeO.bind ?_ (fun _ => ?_))
      | exact ih0 _ _ _ _ _ _ _ _ _
      | exact ih1 _ _ _ _ _ _ _ _ _ _ _ _
      | exact ih2 _ _ _ _ _ _ _ _ _ _ _ _ _ _ _
      | exact ih3 _ _ _ _ _ _ _
      | exact ih4 _ _ _ _ _ _ _
      | exact ih5 _ _ _ _ _ _
      | exact ih6 _ _ _ _ _ _
      | exact impl_CreasesOf.mono _ _
      | exact impl_FacesOf.mono _ _
      | exact impl_FirstWord.mono _ _
      | exact impl_FoldOrder.mono _ _
      | exact impl_TopUnit.mono _ _
      | exact laws_has.mono _ _ _
      | exact spec_MakeFold.mono _ _ _
      | exact LeO.none _
      | refine LeO.ite ?_ ?_
      | refine LeO.bind ?_ (fun _ => ?_)
theorem laws_FnFolds.mono : ∀ a0 k, LeO (laws_FnFolds.f k a0) (laws_FnFolds.f (k + 1) a0) := by
  intro a0 k
  obtain ⟨ih0, ih1, ih2, ih3, ih4, ih5, ih6⟩ := laws_FnFolds.mono_l k
  unfold laws_FnFolds.f
  repeat' first
      | (with_reducible exact ih0 _ _ _ _ _ _ _ _ _)
      | (with_reducible exact ih1 _ _ _ _ _ _ _ _ _ _ _ _)
      | (with_reducible exact ih2 _ _ _ _ _ _ _ _ _ _ _ _ _ _ _)
      | (with_reducible exact ih3 _ _ _ _ _ _ _)
      | (with_reducible exact ih4 _ _ _ _ _ _ _)
      | (with_reducible exact ih5 _ _ _ _ _ _)
      | (with_reducible exact ih6 _ _ _ _ _ _)
      | (with_reducible exact impl_CreasesOf.mono _ _)
      | (with_reducible exact impl_FacesOf.mono _ _)
      | (with_reducible exact impl_FirstWord.mono _ _)
      | (with_reducible exact impl_FoldOrder.mono _ _)
      | (with_reducible exact impl_TopUnit.mono _ _)
      | (with_reducible exact laws_has.mono _ _ _)
      | (with_reducible exact spec_MakeFold.mono _ _ _)
      | (with_reducible exact LeO.refl _)
      | (with_reducible exact LeO.none _)
      | (with_reducible refine LeO.ite ?_ ?_)
      | (with_reducible refine LeO.bind ?_ (fun _ => ?_))
      | exact ih0 _ _ _ _ _ _ _ _ _
      | exact ih1 _ _ _ _ _ _ _ _ _ _ _ _
      | exact ih2 _ _ _ _ _ _ _ _ _ _ _ _ _ _ _
      | exact ih3 _ _ _ _ _ _ _
      | exact ih4 _ _ _ _ _ _ _
      | exact ih5 _ _ _ _ _ _
      | exact ih6 _ _ _ _ _ _
      | exact impl_CreasesOf.mono _ _
      | exact impl_FacesOf.mono _ _
      | exact impl_FirstWord.mono _ _
      | exact impl_FoldOrder.mono _ _
      | exact impl_TopUnit.mono _ _
      | exact laws_has.mono _ _ _
      | exact spec_MakeFold.mono _ _ _
      | exact LeO.none _
      | refine LeO.ite ?_ ?_
      | refine LeO.bind ?_ (fun _ => ?_)
def laws_FnFolds.T11 : Bool × List (List Nat × List Nat) := (true, [([], []), ([0], [0]), ([1], [1]), ([2, 1], [2]), ([3], [3]), ([4, 3, 3], [3, 4]), ([3], [3]), ([5, 6, 3], [3, 5, 6]), ([3, 7], [3, 7]), ([8, 5], [8]), ([9], [9]), ([10, 9], [9, 10]), ([9], [9]), ([11, 12, 9], [9, 11, 12]), ([9, 13], [9, 13]), ([14, 9], [14]), ([15], [15]), ([16, 15], [15, 16]), ([15], [15]), ([18, 15], [15, 18]), ([17, 19, 15], [15, 17, 19]), ([15, 20], [15, 20]), ([21, 15], [21]), ([22], [22]), ([23, 22], [22, 23]), ([22], [22]), ([24, 25, 22], [22, 24, 25]), ([22, 26], [22, 26]), ([27, 22], [27]), ([28], [28]), ([29, 28], [28, 29]), ([28], [28]), ([30, 31, 28], [28, 30, 31]), ([28, 32], [28, 32]), ([33, 28], [33]), ([34], [34]), ([35, 34], [34, 35]), ([34], [34]), ([37, 34], [34, 37]), ([36, 38, 34], [34, 36, 38]), ([34, 39], [34, 39]), ([40, 34], [40]), ([41], [41]), ([42, 41, 41], [41, 42]), ([41], [41]), ([44, 41], [41, 44]), ([43, 45, 41], [41, 43, 45]), ([41, 46], [41, 46]), ([47, 43], [47]), ([48], [48]), ([49, 48, 48], [48, 49]), ([48], [48]), ([48], [48]), ([52, 48], [48, 52]), ([51, 53, 48], [48, 51, 53]), ([54, 48], [48, 54]), ([50, 55, 48], [48, 50, 55]), ([48, 56], [48, 56])])
def laws_FnFolds.B11 : List Nat := [0, 1, 3, 7, 15, 31, 15, 127, 255, 511, 1023, 2047, 1023, 8191, 16383, 32767, 65535, 131071, 65535, 327679, 1048575, 2097151, 4194303, 8388607, 16777215, 8388607, 67108863, 134217727, 268435455, 536870911, 1073741823, 536870911, 4294967295, 8589934591, 17179869183, 34359738367, 68719476735, 34359738367, 171798691839, 549755813887, 1099511627775, 2199023255551, 4398046511103, 8796093022207, 4398046511103, 21990232555519, 70368744177663, 140737488355327, 281474976710655, 562949953421311, 1125899906842623, 562949953421311, 562949953421311, 5066549580791807, 16325548649218047, 34339947158700031, 72057594037927935, 144115188075855871]
theorem laws_FnFolds.tab11 : rtab .any (opsOf Tryz.f3 11) = laws_FnFolds.T11 := by kernel_rfl
theorem laws_FnFolds.bits11 : waitsOk laws_FnFolds.T11.2 laws_FnFolds.B11 = true := by kernel_rfl
def laws_FnFolds.T17 : Bool × List (List Nat × List Nat) := (true, [([], []), ([0], [0]), ([1], [1]), ([2], [2]), ([2], [2]), ([3, 4, 2], [2, 3, 4]), ([2, 5], [2, 5]), ([6, 2], [6]), ([7], [7]), ([7], [7]), ([8, 9, 7, 7], [7, 8, 9]), ([7, 10], [7, 10]), ([11, 10], [11]), ([12], [12]), ([12], [12]), ([13, 14, 12], [12, 13, 14]), ([15, 12], [12, 15]), ([12], [12]), ([17, 12], [12, 17]), ([18, 12, 12], [12, 18]), ([19], [19]), ([19], [19]), ([21, 19], [19, 21]), ([20, 22, 19], [19, 20, 22]), ([23, 19], [19, 23]), ([19, 24, 12], [12, 19, 24]), ([16, 25, 12], [12, 16, 25]), ([26, 19, 12], [12, 26]), ([27], [27]), ([28, 27], [27, 28]), ([27, 29, 12], [12, 27, 29]), ([12, 30], [12, 30])])
def laws_FnFolds.B17 : List Nat := [0, 1, 3, 7, 7, 31, 63, 127, 255, 255, 1023, 2047, 4095, 8191, 8191, 32767, 65535, 8191, 139263, 401407, 925695, 925695, 3022847, 8265727, 16654335, 33431551, 67108863, 134217727, 268435455, 536870911, 1073741823, 2147483647]
theorem laws_FnFolds.tab17 : rtab .any (opsOf Tryz.f3 17) = laws_FnFolds.T17 := by kernel_rfl
theorem laws_FnFolds.bits17 : waitsOk laws_FnFolds.T17.2 laws_FnFolds.B17 = true := by kernel_rfl
def laws_FnFolds.T20 : Bool × List (List Nat × List Nat) := (true, [([], []), ([0], [0]), ([1], [1]), ([2], [2]), ([2], [2]), ([3, 4, 2], [2, 3, 4]), ([2], [2]), ([6, 2], [2, 6]), ([5, 7, 2], [2, 5, 7]), ([2], [2]), ([2], [2]), ([10, 2], [2, 10]), ([11, 2], [2, 11]), ([9, 12, 2], [2, 9, 12]), ([13, 2], [2, 13]), ([14, 2], [2, 14]), ([8, 15, 2], [2, 8, 15]), ([2, 16], [2, 16])])
def laws_FnFolds.B20 : List Nat := [0, 1, 3, 7, 7, 31, 7, 71, 255, 7, 7, 1031, 3079, 7687, 15879, 32263, 65535, 131071]
theorem laws_FnFolds.tab20 : rtab .any (opsOf Tryz.f3 20) = laws_FnFolds.T20 := by kernel_rfl
theorem laws_FnFolds.bits20 : waitsOk laws_FnFolds.T20.2 laws_FnFolds.B20 = true := by kernel_rfl
def laws_FnFolds.T26 : Bool × List (List Nat × List Nat) := (true, [([], []), ([], []), ([0, 1], [0, 1]), ([], []), ([], []), ([4], [4]), ([3, 5], [3, 5]), ([2, 6], [2, 6])])
def laws_FnFolds.B26 : List Nat := [0, 0, 3, 0, 0, 16, 56, 127]
theorem laws_FnFolds.tab26 : rtab .any (opsOf Tryz.f3 26) = laws_FnFolds.T26 := by kernel_rfl
theorem laws_FnFolds.bits26 : waitsOk laws_FnFolds.T26.2 laws_FnFolds.B26 = true := by kernel_rfl
def laws_FnFolds.T31 : Bool × List (List Nat × List Nat) := (true, [([], []), ([], []), ([0, 1], [0, 1]), ([], []), ([], []), ([4], [4]), ([5], [5]), ([], []), ([6, 7], [6, 7]), ([3, 8], [3, 8]), ([2, 9], [2, 9]), ([10], [10]), ([11], [11]), ([11], [11]), ([12, 13, 11], [11, 12, 13]), ([14, 11], [11, 14]), ([15, 11, 11], [11, 15]), ([16], [16]), ([16], [16]), ([17, 18, 16], [16, 17, 18]), ([19, 16], [16, 19]), ([16, 20, 11], [11, 16, 20]), ([11, 21], [11, 21])])
def laws_FnFolds.B31 : List Nat := [0, 0, 3, 0, 0, 16, 48, 0, 240, 504, 1023, 2047, 4095, 4095, 16383, 32767, 65535, 131071, 131071, 524287, 1048575, 2097151, 4194303]
theorem laws_FnFolds.tab31 : rtab .any (opsOf Tryz.f3 31) = laws_FnFolds.T31 := by kernel_rfl
theorem laws_FnFolds.bits31 : waitsOk laws_FnFolds.T31.2 laws_FnFolds.B31 = true := by kernel_rfl
def laws_FnFolds.T42 : Bool × List (List Nat × List Nat) := (true, [([], []), ([0], [0]), ([1], [1]), ([], []), ([3], [3]), ([2, 4], [2, 4]), ([5], [5]), ([6], [6]), ([6], [6]), ([8, 6], [6, 8]), ([9, 6], [6, 9]), ([7, 10, 6], [6, 7, 10]), ([6], [6]), ([6], [6]), ([12, 13, 6], [6, 12, 13]), ([11, 14, 6], [6, 11, 14]), ([6, 15], [6, 15])])
def laws_FnFolds.B42 : List Nat := [0, 1, 3, 0, 8, 31, 63, 127, 127, 383, 895, 2047, 127, 127, 12415, 32767, 65535]
theorem laws_FnFolds.tab42 : rtab .any (opsOf Tryz.f3 42) = laws_FnFolds.T42 := by kernel_rfl
theorem laws_FnFolds.bits42 : waitsOk laws_FnFolds.T42.2 laws_FnFolds.B42 = true := by kernel_rfl
theorem laws_FnFolds.b1 {w : World} {g : Nat} {o : Obj} (h : w.heap[g]? = some o) (n : Nat) : (w.drewN n).heap[g]? = some o := blk_drewN h n
theorem laws_FnFolds.b2 {w : World} {g : Nat} {o : Obj} (h : w.heap[g]? = some o) : w.drew.heap[g]? = some o := blk_drew h
theorem laws_FnFolds.b3 {w : World} {g : Nat} {o : Obj} (h : w.heap[g]? = some o) (o' : Obj) : (w.alloc o').heap[g]? = some o := blk_alloc h o'
theorem laws_FnFolds.c1 {w W : World} (h : Below w.heap.size w W) (o : Obj) : Below w.heap.size w (W.alloc o) := below_alloc h o
theorem laws_FnFolds.c2 {B : Nat} {w W : World} (h : Below B w W) (n : Nat) : Below B w (W.drewN n) := pw_below_drewN h n
theorem laws_FnFolds.c3 {base : Nat} {w W : World} (h : Below base w W) : Below base w W.drew := below_drew1 h
theorem laws_FnFolds.c4 {w W : World} {g j : Nat} {v : Value} (h : Below w.heap.size w W) (hg : w.heap.size ≤ g) : Below w.heap.size w (W.setCell ⟨g, j, none⟩ v) := below_set h hg
theorem laws_FnFolds.c5 {w W : World} (h : Below w.heap.size w W) : w.heap.size ≤ W.heap.size := below_size h
theorem laws_FnFolds.c6 {w W w2 : World} (h : Below w.heap.size w W) (k : Below W.heap.size W w2) : Below w.heap.size w w2 := below_step h k
theorem laws_FnFolds.d1 {w w1 : World} {g : Nat} {o : Obj} (h : w.heap[g]? = some o) (hb : Below w.heap.size w w1) : w1.heap[g]? = some o := blk_below h hb
theorem laws_FnFolds.d2 {w : World} {g : Nat} {o : Obj} (h : w.heap[g]? = some o) : g < w.heap.size := blk_lt h
theorem laws_FnFolds.m1 {p : Prop} (h : p) : Aside0 p := ⟨h⟩
structure laws_FnFolds.Kp (w W : World) : Prop where
  k : ∀ (g : Nat) (o : Obj), w.heap[g]? = some o → W.heap[g]? = some o
attribute [class] laws_FnFolds.Kp
instance laws_FnFolds.i0 (w : World) : laws_FnFolds.Kp w w := ⟨fun _ _ h => h⟩
instance laws_FnFolds.i1 (w W : World) (n : Nat) [i : laws_FnFolds.Kp w W] : laws_FnFolds.Kp w (W.drewN n) := ⟨fun g o h => blk_drewN (i.k g o h) n⟩
instance laws_FnFolds.i2 (w W : World) [i : laws_FnFolds.Kp w W] : laws_FnFolds.Kp w W.drew := ⟨fun g o h => blk_drew (i.k g o h)⟩
instance laws_FnFolds.i3 (w W : World) (o' : Obj) [i : laws_FnFolds.Kp w W] : laws_FnFolds.Kp w (W.alloc o') := ⟨fun g o h => blk_alloc (i.k g o h) o'⟩
theorem laws_FnFolds.b4 {w W : World} {g : Nat} {o : Obj} (h : w.heap[g]? = some o) [i : laws_FnFolds.Kp w W] : W.heap[g]? = some o := i.k g o h
abbrev laws_FnFolds.Y : Bool := true
abbrev laws_FnFolds.Z : Bool := false
theorem laws_FnFolds.q1 {α : Type} (l : List α) (i : Nat) (a : α) : l.toArray.setIfInBounds i a = (l.set i a).toArray := List.setIfInBounds_toArray ..
theorem laws_FnFolds.q2 {α : Type} (x a : α) (l : List α) : (x :: l).set 0 a = a :: l := List.set_cons_zero ..
theorem laws_FnFolds.q3 {α : Type} (x a : α) (l : List α) (n : Nat) : (x :: l).set (n + 1) a = x :: l.set n a := List.set_cons_succ ..
abbrev laws_FnFolds.sA := @Kd.S_alloc
abbrev laws_FnFolds.sB := @Kd.S_drewN
abbrev laws_FnFolds.sC := @Kd.S_drew
abbrev laws_FnFolds.rA := @Kd.R_alloc
abbrev laws_FnFolds.rB := @Kd.R_drewN
abbrev laws_FnFolds.rC := @Kd.R_drew
theorem laws_FnFolds.gs : ∀ x y : List UInt8, (!(Op.bytesLess x y || x == y)) = Op.bytesLess y x
  | [], [] => by simp [Op.bytesLess]
  | [], b :: y => by simp [Op.bytesLess]
  | a :: x, [] => by simp [Op.bytesLess]
  | a :: x, b :: y => by
    have ih := laws_FnFolds.gs x y
    rw [Op.bytesLess, Op.bytesLess]
    rcases Nat.lt_trichotomy a.toNat b.toNat with h | h | h
    · have h1 : a < b := h
      have h2 : ¬ b < a := fun h' => by have : b.toNat < a.toNat := h'; omega
      have h3 : (b == a) = false := beq_eq_false_iff_ne.2 (fun e => by subst e; omega)
      simp [h1, h2, h3]
    · have e : a = b := UInt8.toNat_inj.1 h
      subst e
      have h2 : ¬ a < a := fun h' => by have : a.toNat < a.toNat := h'; omega
      have h3 : (a :: x == a :: y) = (x == y) := by simp
      simp only [h2, h3, decide_false, Bool.false_or, beq_self_eq_true, Bool.true_and]
      exact ih
    · have h1 : b < a := h
      have h2 : ¬ a < b := fun h' => by have : a.toNat < b.toNat := h'; omega
      have h3 : (a == b) = false := beq_eq_false_iff_ne.2 (fun e => by subst e; omega)
      have h4 : (a :: x == b :: y) = false := beq_eq_false_iff_ne.2 (fun e => by injection e with e; subst e; omega)
      simp [h1, h2, h3, h4]
theorem laws_FnFolds.gt_sem (t : TypeId) (a b : ByteArray) : binOp .gtr t (.string a) (.string b) = pure (.bool (Op.bytesLess b.toList a.toList)) := by
  rw [← laws_FnFolds.gs]
  simp only [binOp, Op.stringOp]
attribute [local go_sem] laws_FnFolds.gt_sem
theorem laws_FnFolds.j0_true {k : Nat} {y0 : ByteArray} {y1 : Int} {y2 : Int} {y3 : List Int} {y4 : ByteArray} {y5 : ByteArray} {y6 : ByteArray} {y7 : ByteArray} : ¬ laws_FnFolds.j0 k y0 y1 y2 y3 y4 y5 y6 y7 true = some true := by
  cases k <;> simp [laws_FnFolds.j0]
theorem laws_FnFolds.j2_true {k : Nat} {y0 : ByteArray} {y1 : Int} {y2 : Int} {y3 : List Int} {y4 : ByteArray} {y5 : ByteArray} {y6 : ByteArray} {y7 : ByteArray} {y8 : List Int} {y9 : Int} {y10 : Int} {y11 : List Int} {y12 : Int} {y13 : Int} : ¬ laws_FnFolds.j2 k y0 y1 y2 y3 y4 y5 y6 y7 y8 y9 y10 y11 y12 y13 true = some true := by
  cases k <;> simp [laws_FnFolds.j2]
theorem laws_FnFolds.j5_true {k : Nat} {y0 : ByteArray} {y1 : Int} {y2 : Int} {y3 : ByteArray} {y4 : ByteArray} : ¬ laws_FnFolds.j5 k y0 y1 y2 y3 y4 true = some true := by
  cases k <;> simp [laws_FnFolds.j5]
set_option maxHeartbeats 8000000 in
set_option maxRecDepth 100000 in
theorem laws_FnFolds.calls (k : Nat) (A0 : Option Addr) (c0 : Nat) (l0 : List Int) (r : Bool) (w : World) (hr0 : Kd.C (Kd.int .u8) w A0 l0.length l0) (hc0 : l0.length ≤ c0) (h : laws_FnFolds.f k l0 = some r) (hr : r = true) :
  Calls Tryz.prog 3 #[.slice A0 l0.length c0] w fun e w' => e = .returned (.bool r) ∧ Below w.heap.size w w' := by
 have HR0 := m1 hr0; have HC0 := m1 hc0; clear hr0 hc0; have HR_ := Aside0.mk hr; clear hr; have HB := m1 (Below.refl w.heap.size w); have H : (if (l0.length : Int) > 1048576 then (some true) else ((spec_MakeFold.f k l0 0).bind fun t206 => ((impl_FoldOrder.f k t206).bind fun t207 => ((impl_CreasesOf.f k t206).bind fun t210 => ((impl_FacesOf.f k t206).bind fun t211 => ((impl_MirrorWord.f t206).bind fun t212 => ((impl_CreasesOf.f k t212).bind fun t213 => ((impl_FoldWordOk.f t206).bind fun t214 => (if t214 = true then ((impl_UnitsOf.f t206).bind fun t215 => (if t215 = (shl .i64 1 (t206.size : Int)) then (if (t207.length : Int) = (shl .i64 1 (t206.size : Int)) then (if (t210.size : Int) = (wrap64 ((shl .i64 1 (t206.size : Int)) - 1)) then (if (t211.size : Int) = (shl .i64 1 (t206.size : Int)) then (if (t212.size : Int) = (t206.size : Int) then (if (t213.size : Int) = (wrap64 ((shl .i64 1 (t206.size : Int)) - 1)) then ((impl_PiecesAfter.f t206).bind fun t216 => (if t216 = (wrap64 ((shl .i64 1 (t206.size : Int)) + 1)) then ((impl_TopUnit.f k t206).bind fun t217 => (if 0 ≤ (wrap64 ((shl .i64 1 (t206.size : Int)) - 1)) then (if (wrap64 ((shl .i64 1 (t206.size : Int)) - 1)) < (t207.length : Int) then (laws_FnFolds.j0 k t206 (t206.size : Int) (shl .i64 1 (t206.size : Int)) t207 t210 t211 t212 t213 (t217 != (rd t207 (wrap64 ((shl .i64 1 (t206.size : Int)) - 1))))) else (none)) else (none))) else (laws_FnFolds.j0 k t206 (t206.size : Int) (shl .i64 1 (t206.size : Int)) t207 t210 t211 t212 t213 true))) else (laws_FnFolds.j0 k t206 (t206.size : Int) (shl .i64 1 (t206.size : Int)) t207 t210 t211 t212 t213 true)) else (laws_FnFolds.j0 k t206 (t206.size : Int) (shl .i64 1 (t206.size : Int)) t207 t210 t211 t212 t213 true)) else (laws_FnFolds.j0 k t206 (t206.size : Int) (shl .i64 1 (t206.size : Int)) t207 t210 t211 t212 t213 true)) else (laws_FnFolds.j0 k t206 (t206.size : Int) (shl .i64 1 (t206.size : Int)) t207 t210 t211 t212 t213 true)) else (laws_FnFolds.j0 k t206 (t206.size : Int) (shl .i64 1 (t206.size : Int)) t207 t210 t211 t212 t213 true)) else (laws_FnFolds.j0 k t206 (t206.size : Int) (shl .i64 1 (t206.size : Int)) t207 t210 t211 t212 t213 true))) else (laws_FnFolds.j0 k t206 (t206.size : Int) (shl .i64 1 (t206.size : Int)) t207 t210 t211 t212 t213 true)))))))))) = some r := h
 clear h; by_cases c2 : (l0.length : Int) > 1048576
 ·rw [if_pos c2] at H
  have c2b0 : decide (1048576 < (l0.length : Int)) = true := decide_eq_true c2; have c2b1 : decide (1048576 < l0.length) = true := decide_eq_true (by omega)
  clear c2; obtain rfl := Option.some.inj H; go_enter Tryz.func3, Tryz.ntmps3
  go_wp2
  go_ret
  exact ⟨by first | rfl | (simp [errW_none, errW_some] <;> rfl) | (simp [*, errW_none, errW_some] <;> rfl), by repeat (first | (with_reducible first | exact HB.out | apply c1 | apply c2 | apply c3) | exact HB.out)⟩
 rw [if_neg c2] at H; have c2b0 : decide (1048576 < (l0.length : Int)) = false := decide_eq_false c2; have c2b1 : decide (1048576 < l0.length) = false := decide_eq_false (by omega)
 clear c2; replace H := Option.bind_eq_some_iff.mp H; obtain ⟨t206, A30, H⟩ := H; replace H : ((impl_FoldOrder.f k t206).bind fun t207 => ((impl_CreasesOf.f k t206).bind fun t210 => ((impl_FacesOf.f k t206).bind fun t211 => ((impl_MirrorWord.f t206).bind fun t212 => ((impl_CreasesOf.f k t212).bind fun t213 => ((impl_FoldWordOk.f t206).bind fun t214 => (if t214 = true then ((impl_UnitsOf.f t206).bind fun t215 => (if t215 = (shl .i64 1 (t206.size : Int)) then (if (t207.length : Int) = (shl .i64 1 (t206.size : Int)) then (if (t210.size : Int) = (wrap64 ((shl .i64 1 (t206.size : Int)) - 1)) then (if (t211.size : Int) = (shl .i64 1 (t206.size : Int)) then (if (t212.size : Int) = (t206.size : Int) then (if (t213.size : Int) = (wrap64 ((shl .i64 1 (t206.size : Int)) - 1)) then ((impl_PiecesAfter.f t206).bind fun t216 => (if t216 = (wrap64 ((shl .i64 1 (t206.size : Int)) + 1)) then ((impl_TopUnit.f k t206).bind fun t217 => (if 0 ≤ (wrap64 ((shl .i64 1 (t206.size : Int)) - 1)) then (if (wrap64 ((shl .i64 1 (t206.size : Int)) - 1)) < (t207.length : Int) then (laws_FnFolds.j0 k t206 (t206.size : Int) (shl .i64 1 (t206.size : Int)) t207 t210 t211 t212 t213 (t217 != (rd t207 (wrap64 ((shl .i64 1 (t206.size : Int)) - 1))))) else (none)) else (none))) else (laws_FnFolds.j0 k t206 (t206.size : Int) (shl .i64 1 (t206.size : Int)) t207 t210 t211 t212 t213 true))) else (laws_FnFolds.j0 k t206 (t206.size : Int) (shl .i64 1 (t206.size : Int)) t207 t210 t211 t212 t213 true)) else (laws_FnFolds.j0 k t206 (t206.size : Int) (shl .i64 1 (t206.size : Int)) t207 t210 t211 t212 t213 true)) else (laws_FnFolds.j0 k t206 (t206.size : Int) (shl .i64 1 (t206.size : Int)) t207 t210 t211 t212 t213 true)) else (laws_FnFolds.j0 k t206 (t206.size : Int) (shl .i64 1 (t206.size : Int)) t207 t210 t211 t212 t213 true)) else (laws_FnFolds.j0 k t206 (t206.size : Int) (shl .i64 1 (t206.size : Int)) t207 t210 t211 t212 t213 true)) else (laws_FnFolds.j0 k t206 (t206.size : Int) (shl .i64 1 (t206.size : Int)) t207 t210 t211 t212 t213 true))) else (laws_FnFolds.j0 k t206 (t206.size : Int) (shl .i64 1 (t206.size : Int)) t207 t210 t211 t212 t213 true)))))))) = some r := H
 have A3 := m1 A30; clear A30; obtain ⟨ji4, hji4⟩ : ∃ j_ : Int, (shl .i64 1 (t206.size : Int)) = j_ := ⟨_, rfl⟩; replace H : ((impl_FoldOrder.f k t206).bind fun t207 => ((impl_CreasesOf.f k t206).bind fun t210 => ((impl_FacesOf.f k t206).bind fun t211 => ((impl_MirrorWord.f t206).bind fun t212 => ((impl_CreasesOf.f k t212).bind fun t213 => ((impl_FoldWordOk.f t206).bind fun t214 => (if t214 = true then ((impl_UnitsOf.f t206).bind fun t215 => (if t215 = (ji4) then (if (t207.length : Int) = (ji4) then (if (t210.size : Int) = (wrap64 ((ji4) - 1)) then (if (t211.size : Int) = (ji4) then (if (t212.size : Int) = (t206.size : Int) then (if (t213.size : Int) = (wrap64 ((ji4) - 1)) then ((impl_PiecesAfter.f t206).bind fun t216 => (if t216 = (wrap64 ((ji4) + 1)) then ((impl_TopUnit.f k t206).bind fun t217 => (if 0 ≤ (wrap64 ((ji4) - 1)) then (if (wrap64 ((ji4) - 1)) < (t207.length : Int) then (laws_FnFolds.j0 k t206 (t206.size : Int) ji4 t207 t210 t211 t212 t213 (t217 != (rd t207 (wrap64 ((ji4) - 1))))) else (none)) else (none))) else (laws_FnFolds.j0 k t206 (t206.size : Int) ji4 t207 t210 t211 t212 t213 true))) else (laws_FnFolds.j0 k t206 (t206.size : Int) ji4 t207 t210 t211 t212 t213 true)) else (laws_FnFolds.j0 k t206 (t206.size : Int) ji4 t207 t210 t211 t212 t213 true)) else (laws_FnFolds.j0 k t206 (t206.size : Int) ji4 t207 t210 t211 t212 t213 true)) else (laws_FnFolds.j0 k t206 (t206.size : Int) ji4 t207 t210 t211 t212 t213 true)) else (laws_FnFolds.j0 k t206 (t206.size : Int) ji4 t207 t210 t211 t212 t213 true)) else (laws_FnFolds.j0 k t206 (t206.size : Int) ji4 t207 t210 t211 t212 t213 true))) else (laws_FnFolds.j0 k t206 (t206.size : Int) ji4 t207 t210 t211 t212 t213 true)))))))) = some r := by first | (rw [hji4] at H; exact H) | (simp only [hji4] at H ⊢; exact H)
 (try rw [hji4] at A3)
 have hji4_ : (IntKind.i64.wrap (1 * 2 ^ min (t206.size : Int).toNat 64)) = ji4 := hji4; have hji4z : (t206.size : Int) ≤ 64 → (IntKind.i64.wrap (1 * 2 ^ (t206.size : Int).toNat)) = ji4 := shl_small hji4; have hji4u : (IntKind.i64.wrap (2 ^ min (t206.size : Int).toNat 64)) = ji4 := by have h_ := hji4_; rw [Int.one_mul] at h_; exact h_
 have hji4v : (t206.size : Int) ≤ 64 → (IntKind.i64.wrap (2 ^ (t206.size : Int).toNat)) = ji4 := fun hle_ => by have h_ := hji4z hle_; rw [Int.one_mul] at h_; exact h_
 have hji4y : (wrap64 (1 * 2 ^ min (t206.size : Int).toNat 64)) = ji4 := (i64_w _).symm.trans hji4_; have hji4x : (t206.size : Int) ≤ 64 → (wrap64 (1 * 2 ^ (t206.size : Int).toNat)) = ji4 := fun h_ => (i64_w _).symm.trans (hji4z h_)
 (try (have hji4s_ := hji4y; simp only [Int.one_mul, Int.toNat_natCast] at hji4s_))
 replace H := Option.bind_eq_some_iff.mp H; obtain ⟨t207, A50, H⟩ := H; replace H : ((impl_CreasesOf.f k t206).bind fun t210 => ((impl_FacesOf.f k t206).bind fun t211 => ((impl_MirrorWord.f t206).bind fun t212 => ((impl_CreasesOf.f k t212).bind fun t213 => ((impl_FoldWordOk.f t206).bind fun t214 => (if t214 = true then ((impl_UnitsOf.f t206).bind fun t215 => (if t215 = (ji4) then (if (t207.length : Int) = (ji4) then (if (t210.size : Int) = (wrap64 ((ji4) - 1)) then (if (t211.size : Int) = (ji4) then (if (t212.size : Int) = (t206.size : Int) then (if (t213.size : Int) = (wrap64 ((ji4) - 1)) then ((impl_PiecesAfter.f t206).bind fun t216 => (if t216 = (wrap64 ((ji4) + 1)) then ((impl_TopUnit.f k t206).bind fun t217 => (if 0 ≤ (wrap64 ((ji4) - 1)) then (if (wrap64 ((ji4) - 1)) < (t207.length : Int) then (laws_FnFolds.j0 k t206 (t206.size : Int) ji4 t207 t210 t211 t212 t213 (t217 != (rd t207 (wrap64 ((ji4) - 1))))) else (none)) else (none))) else (laws_FnFolds.j0 k t206 (t206.size : Int) ji4 t207 t210 t211 t212 t213 true))) else (laws_FnFolds.j0 k t206 (t206.size : Int) ji4 t207 t210 t211 t212 t213 true)) else (laws_FnFolds.j0 k t206 (t206.size : Int) ji4 t207 t210 t211 t212 t213 true)) else (laws_FnFolds.j0 k t206 (t206.size : Int) ji4 t207 t210 t211 t212 t213 true)) else (laws_FnFolds.j0 k t206 (t206.size : Int) ji4 t207 t210 t211 t212 t213 true)) else (laws_FnFolds.j0 k t206 (t206.size : Int) ji4 t207 t210 t211 t212 t213 true)) else (laws_FnFolds.j0 k t206 (t206.size : Int) ji4 t207 t210 t211 t212 t213 true))) else (laws_FnFolds.j0 k t206 (t206.size : Int) ji4 t207 t210 t211 t212 t213 true))))))) = some r := H
 have A5 := m1 A50; clear A50; replace H := Option.bind_eq_some_iff.mp H; obtain ⟨t210, A60, H⟩ := H; replace H : ((impl_FacesOf.f k t206).bind fun t211 => ((impl_MirrorWord.f t206).bind fun t212 => ((impl_CreasesOf.f k t212).bind fun t213 => ((impl_FoldWordOk.f t206).bind fun t214 => (if t214 = true then ((impl_UnitsOf.f t206).bind fun t215 => (if t215 = (ji4) then (if (t207.length : Int) = (ji4) then (if (t210.size : Int) = (wrap64 ((ji4) - 1)) then (if (t211.size : Int) = (ji4) then (if (t212.size : Int) = (t206.size : Int) then (if (t213.size : Int) = (wrap64 ((ji4) - 1)) then ((impl_PiecesAfter.f t206).bind fun t216 => (if t216 = (wrap64 ((ji4) + 1)) then ((impl_TopUnit.f k t206).bind fun t217 => (if 0 ≤ (wrap64 ((ji4) - 1)) then (if (wrap64 ((ji4) - 1)) < (t207.length : Int) then (laws_FnFolds.j0 k t206 (t206.size : Int) ji4 t207 t210 t211 t212 t213 (t217 != (rd t207 (wrap64 ((ji4) - 1))))) else (none)) else (none))) else (laws_FnFolds.j0 k t206 (t206.size : Int) ji4 t207 t210 t211 t212 t213 true))) else (laws_FnFolds.j0 k t206 (t206.size : Int) ji4 t207 t210 t211 t212 t213 true)) else (laws_FnFolds.j0 k t206 (t206.size : Int) ji4 t207 t210 t211 t212 t213 true)) else (laws_FnFolds.j0 k t206 (t206.size : Int) ji4 t207 t210 t211 t212 t213 true)) else (laws_FnFolds.j0 k t206 (t206.size : Int) ji4 t207 t210 t211 t212 t213 true)) else (laws_FnFolds.j0 k t206 (t206.size : Int) ji4 t207 t210 t211 t212 t213 true)) else (laws_FnFolds.j0 k t206 (t206.size : Int) ji4 t207 t210 t211 t212 t213 true))) else (laws_FnFolds.j0 k t206 (t206.size : Int) ji4 t207 t210 t211 t212 t213 true)))))) = some r := H
 have A6 := m1 A60; clear A60; replace H := Option.bind_eq_some_iff.mp H; obtain ⟨t211, A70, H⟩ := H; replace H : ((impl_MirrorWord.f t206).bind fun t212 => ((impl_CreasesOf.f k t212).bind fun t213 => ((impl_FoldWordOk.f t206).bind fun t214 => (if t214 = true then ((impl_UnitsOf.f t206).bind fun t215 => (if t215 = (ji4) then (if (t207.length : Int) = (ji4) then (if (t210.size : Int) = (wrap64 ((ji4) - 1)) then (if (t211.size : Int) = (ji4) then (if (t212.size : Int) = (t206.size : Int) then (if (t213.size : Int) = (wrap64 ((ji4) - 1)) then ((impl_PiecesAfter.f t206).bind fun t216 => (if t216 = (wrap64 ((ji4) + 1)) then ((impl_TopUnit.f k t206).bind fun t217 => (if 0 ≤ (wrap64 ((ji4) - 1)) then (if (wrap64 ((ji4) - 1)) < (t207.length : Int) then (laws_FnFolds.j0 k t206 (t206.size : Int) ji4 t207 t210 t211 t212 t213 (t217 != (rd t207 (wrap64 ((ji4) - 1))))) else (none)) else (none))) else (laws_FnFolds.j0 k t206 (t206.size : Int) ji4 t207 t210 t211 t212 t213 true))) else (laws_FnFolds.j0 k t206 (t206.size : Int) ji4 t207 t210 t211 t212 t213 true)) else (laws_FnFolds.j0 k t206 (t206.size : Int) ji4 t207 t210 t211 t212 t213 true)) else (laws_FnFolds.j0 k t206 (t206.size : Int) ji4 t207 t210 t211 t212 t213 true)) else (laws_FnFolds.j0 k t206 (t206.size : Int) ji4 t207 t210 t211 t212 t213 true)) else (laws_FnFolds.j0 k t206 (t206.size : Int) ji4 t207 t210 t211 t212 t213 true)) else (laws_FnFolds.j0 k t206 (t206.size : Int) ji4 t207 t210 t211 t212 t213 true))) else (laws_FnFolds.j0 k t206 (t206.size : Int) ji4 t207 t210 t211 t212 t213 true))))) = some r := H
 have A7 := m1 A70; clear A70; replace H := Option.bind_eq_some_iff.mp H; obtain ⟨t212, A80, H⟩ := H; replace H : ((impl_CreasesOf.f k t212).bind fun t213 => ((impl_FoldWordOk.f t206).bind fun t214 => (if t214 = true then ((impl_UnitsOf.f t206).bind fun t215 => (if t215 = (ji4) then (if (t207.length : Int) = (ji4) then (if (t210.size : Int) = (wrap64 ((ji4) - 1)) then (if (t211.size : Int) = (ji4) then (if (t212.size : Int) = (t206.size : Int) then (if (t213.size : Int) = (wrap64 ((ji4) - 1)) then ((impl_PiecesAfter.f t206).bind fun t216 => (if t216 = (wrap64 ((ji4) + 1)) then ((impl_TopUnit.f k t206).bind fun t217 => (if 0 ≤ (wrap64 ((ji4) - 1)) then (if (wrap64 ((ji4) - 1)) < (t207.length : Int) then (laws_FnFolds.j0 k t206 (t206.size : Int) ji4 t207 t210 t211 t212 t213 (t217 != (rd t207 (wrap64 ((ji4) - 1))))) else (none)) else (none))) else (laws_FnFolds.j0 k t206 (t206.size : Int) ji4 t207 t210 t211 t212 t213 true))) else (laws_FnFolds.j0 k t206 (t206.size : Int) ji4 t207 t210 t211 t212 t213 true)) else (laws_FnFolds.j0 k t206 (t206.size : Int) ji4 t207 t210 t211 t212 t213 true)) else (laws_FnFolds.j0 k t206 (t206.size : Int) ji4 t207 t210 t211 t212 t213 true)) else (laws_FnFolds.j0 k t206 (t206.size : Int) ji4 t207 t210 t211 t212 t213 true)) else (laws_FnFolds.j0 k t206 (t206.size : Int) ji4 t207 t210 t211 t212 t213 true)) else (laws_FnFolds.j0 k t206 (t206.size : Int) ji4 t207 t210 t211 t212 t213 true))) else (laws_FnFolds.j0 k t206 (t206.size : Int) ji4 t207 t210 t211 t212 t213 true)))) = some r := H
 have A8 := m1 A80; clear A80; replace H := Option.bind_eq_some_iff.mp H; obtain ⟨t213, A90, H⟩ := H; replace H : ((impl_FoldWordOk.f t206).bind fun t214 => (if t214 = true then ((impl_UnitsOf.f t206).bind fun t215 => (if t215 = (ji4) then (if (t207.length : Int) = (ji4) then (if (t210.size : Int) = (wrap64 ((ji4) - 1)) then (if (t211.size : Int) = (ji4) then (if (t212.size : Int) = (t206.size : Int) then (if (t213.size : Int) = (wrap64 ((ji4) - 1)) then ((impl_PiecesAfter.f t206).bind fun t216 => (if t216 = (wrap64 ((ji4) + 1)) then ((impl_TopUnit.f k t206).bind fun t217 => (if 0 ≤ (wrap64 ((ji4) - 1)) then (if (wrap64 ((ji4) - 1)) < (t207.length : Int) then (laws_FnFolds.j0 k t206 (t206.size : Int) ji4 t207 t210 t211 t212 t213 (t217 != (rd t207 (wrap64 ((ji4) - 1))))) else (none)) else (none))) else (laws_FnFolds.j0 k t206 (t206.size : Int) ji4 t207 t210 t211 t212 t213 true))) else (laws_FnFolds.j0 k t206 (t206.size : Int) ji4 t207 t210 t211 t212 t213 true)) else (laws_FnFolds.j0 k t206 (t206.size : Int) ji4 t207 t210 t211 t212 t213 true)) else (laws_FnFolds.j0 k t206 (t206.size : Int) ji4 t207 t210 t211 t212 t213 true)) else (laws_FnFolds.j0 k t206 (t206.size : Int) ji4 t207 t210 t211 t212 t213 true)) else (laws_FnFolds.j0 k t206 (t206.size : Int) ji4 t207 t210 t211 t212 t213 true)) else (laws_FnFolds.j0 k t206 (t206.size : Int) ji4 t207 t210 t211 t212 t213 true))) else (laws_FnFolds.j0 k t206 (t206.size : Int) ji4 t207 t210 t211 t212 t213 true))) = some r := H
 have A9 := m1 A90; clear A90; have HC10 := m1 H; clear H; go_enter Tryz.func3, Tryz.ntmps3
 go_upto_region 11 with (first | ((with_reducible refine gate_callee (f := 4) rfl ?_); refine goesL_ (some 24) rfl rfl Tryz.func4 (by kernel_rfl) rfl #[.slice A0 l0.length c0, .int .i64 0] rfl (by (try simp only [List.map_toArray, List.map_cons, List.map_nil]); first | done | rfl | (simp only [List.length_drop, List.length_take]; rfl)) ?_; (with_reducible refine (spec_MakeFold.calls k _ _ l0 0 t206 _ ?side1 ?side2 A3.out).mono ?_); (case side1 => repeat (first | exact HR0.out | (with_reducible refine Kd.C_alloc ?_ _) | (with_reducible refine Kd.C_drewN ?_ _) | (with_reducible refine Kd.C_drew ?_))); (case side2 => exact HC0.out); rintro e w11 ⟨rfl, hb⟩; refine ⟨_, rfl, ?_⟩; have n0_ := m1 (c6 (by repeat (first | (with_reducible first | exact HB.out | apply c1 | apply c2 | apply c3) | exact HB.out)) hb); clear HB; have HB := n0_; clear n0_; (try clear hb); (try clear hb2); (try clear hk); (try clear hi)) | ((with_reducible refine gate_callee (f := 5) rfl ?_); refine goesL_ (some 30) rfl rfl Tryz.func5 (by kernel_rfl) rfl #[.string t206] rfl (by (try simp only [List.map_toArray, List.map_cons, List.map_nil]); first | done | rfl | (simp only [List.length_drop, List.length_take]; rfl)) ?_; (with_reducible refine (impl_FoldOrder.calls k t206 t207 _ A5.out).mono ?_); rintro e w12 ⟨v208, rfl, ho0, hb⟩; refine ⟨_, rfl, ?_⟩; have n0_ := m1 (Kd.R_lower ho0 (c5 (by repeat (first | (with_reducible first | exact HB.out | apply c1 | apply c2 | apply c3) | exact HB.out)))); have n1_ := m1 (c6 (by repeat (first | (with_reducible first | exact HB.out | apply c1 | apply c2 | apply c3) | exact HB.out)) hb); clear HB; have HO209 := n0_; have HB := n1_; clear n0_ n1_; (try clear hb); (try clear hb2); (try clear hk); (try clear hi); (try clear ho0)) | ((with_reducible refine gate_callee (f := 6) rfl ?_); refine goesL_ (some 32) rfl rfl Tryz.func6 (by kernel_rfl) rfl #[.string t206] rfl (by (try simp only [List.map_toArray, List.map_cons, List.map_nil]); first | done | rfl | (simp only [List.length_drop, List.length_take]; rfl)) ?_; (with_reducible refine (impl_CreasesOf.calls k t206 t210 _ A6.out).mono ?_); rintro e w13 ⟨rfl, hb⟩; refine ⟨_, rfl, ?_⟩; have n0_ := m1 (Kd.R_below (by (with_reducible repeat (first | apply rA | apply rB | apply rC)); exact HO209.out) hb); have n1_ := m1 (c6 (by repeat (first | (with_reducible first | exact HB.out | apply c1 | apply c2 | apply c3) | exact HB.out)) hb); clear HO209; clear HB; have HO209 := n0_; have HB := n1_; clear n0_ n1_; (try clear hb); (try clear hb2); (try clear hk); (try clear hi)) | ((with_reducible refine gate_callee (f := 7) rfl ?_); refine goesL_ (some 34) rfl rfl Tryz.func7 (by kernel_rfl) rfl #[.string t206] rfl (by (try simp only [List.map_toArray, List.map_cons, List.map_nil]); first | done | rfl | (simp only [List.length_drop, List.length_take]; rfl)) ?_; (with_reducible refine (impl_FacesOf.calls k t206 t211 _ A7.out).mono ?_); rintro e w14 ⟨rfl, hb⟩; refine ⟨_, rfl, ?_⟩; have n0_ := m1 (Kd.R_below (by (with_reducible repeat (first | apply rA | apply rB | apply rC)); exact HO209.out) hb); have n1_ := m1 (c6 (by repeat (first | (with_reducible first | exact HB.out | apply c1 | apply c2 | apply c3) | exact HB.out)) hb); clear HO209; clear HB; have HO209 := n0_; have HB := n1_; clear n0_ n1_; (try clear hb); (try clear hb2); (try clear hk); (try clear hi)) | ((with_reducible refine gate_callee (f := 8) rfl ?_); refine goesL_ (some 36) rfl rfl Tryz.func8 (by kernel_rfl) rfl #[.string t206] rfl (by (try simp only [List.map_toArray, List.map_cons, List.map_nil]); first | done | rfl | (simp only [List.length_drop, List.length_take]; rfl)) ?_; (with_reducible refine (impl_MirrorWord.calls t206 t212 _ A8.out).mono ?_); rintro e w15 ⟨rfl, hb⟩; refine ⟨_, rfl, ?_⟩; have n0_ := m1 (Kd.R_below (by (with_reducible repeat (first | apply rA | apply rB | apply rC)); exact HO209.out) hb); have n1_ := m1 (c6 (by repeat (first | (with_reducible first | exact HB.out | apply c1 | apply c2 | apply c3) | exact HB.out)) hb); clear HO209; clear HB; have HO209 := n0_; have HB := n1_; clear n0_ n1_; (try clear hb); (try clear hb2); (try clear hk); (try clear hi)) | ((with_reducible refine gate_callee (f := 6) rfl ?_); refine goesL_ (some 38) rfl rfl Tryz.func6 (by kernel_rfl) rfl #[.string t212] rfl (by (try simp only [List.map_toArray, List.map_cons, List.map_nil]); first | done | rfl | (simp only [List.length_drop, List.length_take]; rfl)) ?_; (with_reducible refine (impl_CreasesOf.calls k t212 t213 _ A9.out).mono ?_); rintro e w16 ⟨rfl, hb⟩; refine ⟨_, rfl, ?_⟩; have n0_ := m1 (Kd.R_below (by (with_reducible repeat (first | apply rA | apply rB | apply rC)); exact HO209.out) hb); have n1_ := m1 (c6 (by repeat (first | (with_reducible first | exact HB.out | apply c1 | apply c2 | apply c3) | exact HB.out)) hb); clear HO209; clear HB; have HO209 := n0_; have HB := n1_; clear n0_ n1_; (try clear hb); (try clear hb2); (try clear hk); (try clear hi)))
 (try simp only [Act.put, q1, q2, q3])
 go_cut [96] (fun v96 wc => ∃ (kq : Nat) (x96_9 : Bool), v96 = .bool x96_9 ∧ Aside0 (laws_FnFolds.j0 kq t206 (t206.size : Int) ji4 t207 t210 t211 t212 t213 x96_9 = some r) ∧ Aside0 (kq ≤ k) ∧ Aside0 (Kd.R (Kd.int .i64) 3 wc w.heap.size (fun _ => True) v208 t207) ∧ Aside0 (Below w.heap.size w wc))
 case first =>
  have H := HC10.out; clear HC10; replace H := Option.bind_eq_some_iff.mp H; obtain ⟨t214, A170, H⟩ := H; replace H : (if t214 = true then ((impl_UnitsOf.f t206).bind fun t215 => (if t215 = (ji4) then (if (t207.length : Int) = (ji4) then (if (t210.size : Int) = (wrap64 ((ji4) - 1)) then (if (t211.size : Int) = (ji4) then (if (t212.size : Int) = (t206.size : Int) then (if (t213.size : Int) = (wrap64 ((ji4) - 1)) then ((impl_PiecesAfter.f t206).bind fun t216 => (if t216 = (wrap64 ((ji4) + 1)) then ((impl_TopUnit.f k t206).bind fun t217 => (if 0 ≤ (wrap64 ((ji4) - 1)) then (if (wrap64 ((ji4) - 1)) < (t207.length : Int) then (laws_FnFolds.j0 k t206 (t206.size : Int) ji4 t207 t210 t211 t212 t213 (t217 != (rd t207 (wrap64 ((ji4) - 1))))) else (none)) else (none))) else (laws_FnFolds.j0 k t206 (t206.size : Int) ji4 t207 t210 t211 t212 t213 true))) else (laws_FnFolds.j0 k t206 (t206.size : Int) ji4 t207 t210 t211 t212 t213 true)) else (laws_FnFolds.j0 k t206 (t206.size : Int) ji4 t207 t210 t211 t212 t213 true)) else (laws_FnFolds.j0 k t206 (t206.size : Int) ji4 t207 t210 t211 t212 t213 true)) else (laws_FnFolds.j0 k t206 (t206.size : Int) ji4 t207 t210 t211 t212 t213 true)) else (laws_FnFolds.j0 k t206 (t206.size : Int) ji4 t207 t210 t211 t212 t213 true)) else (laws_FnFolds.j0 k t206 (t206.size : Int) ji4 t207 t210 t211 t212 t213 true))) else (laws_FnFolds.j0 k t206 (t206.size : Int) ji4 t207 t210 t211 t212 t213 true)) = some r := H
  have A17 := m1 A170; clear A170; by_cases c18 : t214 = true
  rotate_left
  ·replace c18 := Bool.eq_false_iff.mpr c18
   subst c18; have H1 : (laws_FnFolds.j0 k t206 (t206.size : Int) ji4 t207 t210 t211 t212 t213 true) = some r := by rw [if_neg (show ¬ (false = true) by decide)] at H; exact H
   clear H; have H := H1; clear H1; exact absurd H (by rw [HR_.out]; exact laws_FnFolds.j0_true)
  subst c18; have H1 : ((impl_UnitsOf.f t206).bind fun t215 => (if t215 = (ji4) then (if (t207.length : Int) = (ji4) then (if (t210.size : Int) = (wrap64 ((ji4) - 1)) then (if (t211.size : Int) = (ji4) then (if (t212.size : Int) = (t206.size : Int) then (if (t213.size : Int) = (wrap64 ((ji4) - 1)) then ((impl_PiecesAfter.f t206).bind fun t216 => (if t216 = (wrap64 ((ji4) + 1)) then ((impl_TopUnit.f k t206).bind fun t217 => (if 0 ≤ (wrap64 ((ji4) - 1)) then (if (wrap64 ((ji4) - 1)) < (t207.length : Int) then (laws_FnFolds.j0 k t206 (t206.size : Int) ji4 t207 t210 t211 t212 t213 (t217 != (rd t207 (wrap64 ((ji4) - 1))))) else (none)) else (none))) else (laws_FnFolds.j0 k t206 (t206.size : Int) ji4 t207 t210 t211 t212 t213 true))) else (laws_FnFolds.j0 k t206 (t206.size : Int) ji4 t207 t210 t211 t212 t213 true)) else (laws_FnFolds.j0 k t206 (t206.size : Int) ji4 t207 t210 t211 t212 t213 true)) else (laws_FnFolds.j0 k t206 (t206.size : Int) ji4 t207 t210 t211 t212 t213 true)) else (laws_FnFolds.j0 k t206 (t206.size : Int) ji4 t207 t210 t211 t212 t213 true)) else (laws_FnFolds.j0 k t206 (t206.size : Int) ji4 t207 t210 t211 t212 t213 true)) else (laws_FnFolds.j0 k t206 (t206.size : Int) ji4 t207 t210 t211 t212 t213 true))) = some r := by rw [if_pos rfl] at H; exact H
  clear H; have H := H1; clear H1; replace H := Option.bind_eq_some_iff.mp H; obtain ⟨t215, A190, H⟩ := H; replace H : (if t215 = (ji4) then (if (t207.length : Int) = (ji4) then (if (t210.size : Int) = (wrap64 ((ji4) - 1)) then (if (t211.size : Int) = (ji4) then (if (t212.size : Int) = (t206.size : Int) then (if (t213.size : Int) = (wrap64 ((ji4) - 1)) then ((impl_PiecesAfter.f t206).bind fun t216 => (if t216 = (wrap64 ((ji4) + 1)) then ((impl_TopUnit.f k t206).bind fun t217 => (if 0 ≤ (wrap64 ((ji4) - 1)) then (if (wrap64 ((ji4) - 1)) < (t207.length : Int) then (laws_FnFolds.j0 k t206 (t206.size : Int) ji4 t207 t210 t211 t212 t213 (t217 != (rd t207 (wrap64 ((ji4) - 1))))) else (none)) else (none))) else (laws_FnFolds.j0 k t206 (t206.size : Int) ji4 t207 t210 t211 t212 t213 true))) else (laws_FnFolds.j0 k t206 (t206.size : Int) ji4 t207 t210 t211 t212 t213 true)) else (laws_FnFolds.j0 k t206 (t206.size : Int) ji4 t207 t210 t211 t212 t213 true)) else (laws_FnFolds.j0 k t206 (t206.size : Int) ji4 t207 t210 t211 t212 t213 true)) else (laws_FnFolds.j0 k t206 (t206.size : Int) ji4 t207 t210 t211 t212 t213 true)) else (laws_FnFolds.j0 k t206 (t206.size : Int) ji4 t207 t210 t211 t212 t213 true)) else (laws_FnFolds.j0 k t206 (t206.size : Int) ji4 t207 t210 t211 t212 t213 true)) = some r := H
  have A19 := m1 A190; clear A190; by_cases c20 : t215 = (ji4)
  rotate_left
  ·rw [if_neg c20] at H
   have c20b0 : (t215 == (ji4)) = false := beq_eq_false_iff_ne.mpr c20; have c20b1 : (t215 != (ji4)) = true := bne_iff_ne.mpr c20; (first | rw [c20b0] | (simp only [i64_w, i32_w]; rw [c20b0]) | skip)
   exact absurd H (by rw [HR_.out]; exact laws_FnFolds.j0_true)
  rw [if_pos c20] at H; have c20b0 : (t215 == (ji4)) = true := beq_iff_eq.mpr c20; have c20b1 : (t215 != (ji4)) = false := bne_eq_false_iff_eq.mpr c20; clear c20; (first | rw [c20b0] | (simp only [i64_w, i32_w]; rw [c20b0]) | skip)
  by_cases c21 : (t207.length : Int) = (ji4)
  rotate_left
  ·rw [if_neg c21] at H
   have c21b0 : ((t207.length : Int) == (ji4)) = false := beq_eq_false_iff_ne.mpr c21; have c21b1 : ((t207.length : Int) != (ji4)) = true := bne_iff_ne.mpr c21; exact absurd H (by rw [HR_.out]; exact laws_FnFolds.j0_true)
  rw [if_pos c21] at H; have c21b0 : ((t207.length : Int) == (ji4)) = true := beq_iff_eq.mpr c21; have c21b1 : ((t207.length : Int) != (ji4)) = false := bne_eq_false_iff_eq.mpr c21; clear c21; by_cases c22 : (t210.size : Int) = (wrap64 ((ji4) - 1))
  rotate_left
  ·rw [if_neg c22] at H
   have c22b0 : ((t210.size : Int) == (wrap64 ((ji4) - 1))) = false := beq_eq_false_iff_ne.mpr c22; have c22b1 : ((t210.size : Int) != (wrap64 ((ji4) - 1))) = true := bne_iff_ne.mpr c22; exact absurd H (by rw [HR_.out]; exact laws_FnFolds.j0_true)
  rw [if_pos c22] at H; have c22b0 : ((t210.size : Int) == (wrap64 ((ji4) - 1))) = true := beq_iff_eq.mpr c22; have c22b1 : ((t210.size : Int) != (wrap64 ((ji4) - 1))) = false := bne_eq_false_iff_eq.mpr c22; clear c22; by_cases c23 : (t211.size : Int) = (ji4)
  rotate_left
  ·rw [if_neg c23] at H
   have c23b0 : ((t211.size : Int) == (ji4)) = false := beq_eq_false_iff_ne.mpr c23; have c23b1 : ((t211.size : Int) != (ji4)) = true := bne_iff_ne.mpr c23; exact absurd H (by rw [HR_.out]; exact laws_FnFolds.j0_true)
  rw [if_pos c23] at H; have c23b0 : ((t211.size : Int) == (ji4)) = true := beq_iff_eq.mpr c23; have c23b1 : ((t211.size : Int) != (ji4)) = false := bne_eq_false_iff_eq.mpr c23; clear c23; by_cases c24 : (t212.size : Int) = (t206.size : Int)
  rotate_left
  ·rw [if_neg c24] at H
   have c24b0 : ((t212.size : Int) == (t206.size : Int)) = false := beq_eq_false_iff_ne.mpr c24; have c24b1 : ((t212.size : Int) != (t206.size : Int)) = true := bne_iff_ne.mpr c24; have c24b2 : (t212.size == t206.size) = false := by first | simpa using c24 | (simp at c24 ⊢; omega)
   exact absurd H (by rw [HR_.out]; exact laws_FnFolds.j0_true)
  rw [if_pos c24] at H; have c24b0 : ((t212.size : Int) == (t206.size : Int)) = true := beq_iff_eq.mpr c24; have c24b1 : ((t212.size : Int) != (t206.size : Int)) = false := bne_eq_false_iff_eq.mpr c24; have c24b2 : (t212.size == t206.size) = true := by first | simpa using c24 | (simp at c24 ⊢; omega)
  clear c24; by_cases c25 : (t213.size : Int) = (wrap64 ((ji4) - 1))
  rotate_left
  ·rw [if_neg c25] at H
   have c25b0 : ((t213.size : Int) == (wrap64 ((ji4) - 1))) = false := beq_eq_false_iff_ne.mpr c25; have c25b1 : ((t213.size : Int) != (wrap64 ((ji4) - 1))) = true := bne_iff_ne.mpr c25; exact absurd H (by rw [HR_.out]; exact laws_FnFolds.j0_true)
  rw [if_pos c25] at H; have c25b0 : ((t213.size : Int) == (wrap64 ((ji4) - 1))) = true := beq_iff_eq.mpr c25; have c25b1 : ((t213.size : Int) != (wrap64 ((ji4) - 1))) = false := bne_eq_false_iff_eq.mpr c25; clear c25; replace H := Option.bind_eq_some_iff.mp H; obtain ⟨t216, A260, H⟩ := H; replace H : (if t216 = (wrap64 ((ji4) + 1)) then ((impl_TopUnit.f k t206).bind fun t217 => (if 0 ≤ (wrap64 ((ji4) - 1)) then (if (wrap64 ((ji4) - 1)) < (t207.length : Int) then (laws_FnFolds.j0 k t206 (t206.size : Int) ji4 t207 t210 t211 t212 t213 (t217 != (rd t207 (wrap64 ((ji4) - 1))))) else (none)) else (none))) else (laws_FnFolds.j0 k t206 (t206.size : Int) ji4 t207 t210 t211 t212 t213 true)) = some r := H
  have A26 := m1 A260; clear A260; by_cases c27 : t216 = (wrap64 ((ji4) + 1))
  rotate_left
  ·rw [if_neg c27] at H
   have c27b0 : (t216 == (wrap64 ((ji4) + 1))) = false := beq_eq_false_iff_ne.mpr c27; have c27b1 : (t216 != (wrap64 ((ji4) + 1))) = true := bne_iff_ne.mpr c27; exact absurd H (by rw [HR_.out]; exact laws_FnFolds.j0_true)
  rw [if_pos c27] at H; have c27b0 : (t216 == (wrap64 ((ji4) + 1))) = true := beq_iff_eq.mpr c27; have c27b1 : (t216 != (wrap64 ((ji4) + 1))) = false := bne_eq_false_iff_eq.mpr c27; clear c27; replace H := Option.bind_eq_some_iff.mp H; obtain ⟨t217, A280, H⟩ := H; replace H : (if 0 ≤ (wrap64 ((ji4) - 1)) then (if (wrap64 ((ji4) - 1)) < (t207.length : Int) then (laws_FnFolds.j0 k t206 (t206.size : Int) ji4 t207 t210 t211 t212 t213 (t217 != (rd t207 (wrap64 ((ji4) - 1))))) else (none)) else (none)) = some r := H; have A28 := m1 A280; clear A280; obtain ⟨ji29, hji29⟩ : ∃ j_ : Int, (wrap64 ((ji4) - 1)) = j_ := ⟨_, rfl⟩; replace H : (if 0 ≤ (ji29) then (if (ji29) < (t207.length : Int) then (laws_FnFolds.j0 k t206 (t206.size : Int) ji4 t207 t210 t211 t212 t213 (t217 != (rd t207 (ji29)))) else (none)) else (none)) = some r := by first | (rw [hji29] at H; exact H) | (simp only [hji29] at H ⊢; exact H)
  (try rw [hji29] at c22b0)
  (try rw [hji29] at c22b1)
  (try rw [hji29] at c25b0)
  (try rw [hji29] at c25b1)
  (try rw [hji29] at A17)
  (try rw [hji29] at A19)
  (try rw [hji29] at A26)
  (try rw [hji29] at A28)
  have hji29w : (IntKind.i64.wrap ((ji4) - 1)) = ji29 := (i64_w _).trans hji29; by_cases c30 : 0 ≤ (ji29)
  rotate_left
  ·rw [if_neg c30] at H
   exact absurd H (by simp)
  rw [if_pos c30] at H; have c30b0 : decide (0 ≤ (ji29)) = true := decide_eq_true c30; clear c30; by_cases c31 : (ji29) < (t207.length : Int)
  rotate_left
  ·rw [if_neg c31] at H
   exact absurd H (by simp)
  rw [if_pos c31] at H; have c31b0 : decide ((ji29) < (t207.length : Int)) = true := decide_eq_true c31; clear c31; have H' := m1 H; clear H; try go_wp2
  have n0_ := m1 (rC HO209.out); have n1_ := m1 (below_drew1 HB.out); clear HO209 HB; have HO209 := n0_; have HB := n1_; clear n0_ n1_; have p218 : 0 ≤ ((ji29) : Int) := of_decide_eq_true (by first | (with_reducible assumption) | assumption)
  have q218 : (ji29) < (t207.length : Int) := of_decide_eq_true (by first | (with_reducible assumption) | assumption)
  (try (obtain ⟨A_, c_, e_⟩ := Kd.R_slice HO209.out; subst e_)); obtain ⟨ad218, e218, hx218_0⟩ := Kd.at_int (Kd.R_reads' HO209.out).2.2 (ji29) p218 q218
  cases e218
  replace p218 := eq_true p218; replace q218 := eq_true q218; refine start_ (n := 58) (S := fun w' => w'.cell? (ad218.add ((ji29)).toNat) = some (.int .i64 (rd t207 (ji29)))) (ds := []) #[Z,Z,Z,Z,Z,Z,Z,Z,Z,Z,Z,Z,Z,Z,Z,Z,Z,Z,Z,Z,Z,Z,Z,Z,Z,Z,Z,Z,Z,Z,Z,Z,Z,Z,Z,Z,Z,Z,Z,Z,Z,Z,Z,Z,Z,Z,Z,Z,Z,Z,Z,Z,Z,Z,Z,Z,Z,Z] (by kernel_rfl) rfl rfl (hx218_0) (fun hHeld => ?_); refine with_tabW laws_FnFolds.tab11 laws_FnFolds.bits11 (fun HT_ HW_ => ?_)
  generalize w16.drew = w32 at HO209 HB hx218_0 hHeld ⊢
  refine pure_ (i := 0) (N := some 39) (v := ?_) (a' := ?_) #[Y,Z,Z,Z,Z,Z,Z,Z,Z,Z,Z,Z,Z,Z,Z,Z,Z,Z,Z,Z,Z,Z,Z,Z,Z,Z,Z,Z,Z,Z,Z,Z,Z,Z,Z,Z,Z,Z,Z,Z,Z,Z,Z,Z,Z,Z,Z,Z,Z,Z,Z,Z,Z,Z,Z,Z,Z,Z] rfl rfl (any_of HT_.out (by kernel_rfl)) (fun _ _ _ h => h) (Or.inl ⟨by rfl, ?_⟩) ?_ ?_
  rotate_left
  ·intro w'
   go_simp; with_reducible rfl
  rotate_left
  ·simp only [Act.put, q1, q2, q3, i64_w, i32_w]
   rfl
  refine one_ (i := 1) (N := some 40) #[Y,Y,Z,Z,Z,Z,Z,Z,Z,Z,Z,Z,Z,Z,Z,Z,Z,Z,Z,Z,Z,Z,Z,Z,Z,Z,Z,Z,Z,Z,Z,Z,Z,Z,Z,Z,Z,Z,Z,Z,Z,Z,Z,Z,Z,Z,Z,Z,Z,Z,Z,Z,Z,Z,Z,Z,Z,Z] rfl rfl (one_of HT_.out (by kernel_rfl)) (by decide) (fun K hK => ?_)
  refine goes_ Tryz.func9 (by kernel_rfl) rfl #[.string t206] (by rfl) rfl rfl (by (try simp only [List.map_toArray, List.map_cons, List.map_nil]); first | done | rfl | (simp only [List.length_drop, List.length_take]; rfl)) ?_
  with_reducible refine (impl_FoldWordOk.calls t206 true _ A17.out).mono ?_
  rintro e w33 ⟨rfl, hb⟩
  have HS0_ := (hb.cell (World.block_lt_of_cell? _ _ (hHeld))).trans (hHeld); refine ⟨_, rfl, ?_⟩; have n0_ := m1 (Kd.R_below (by (with_reducible repeat (first | apply rA | apply rB | apply rC)); exact HO209.out) hb)
  have n1_ := m1 (c6 (by repeat (first | (with_reducible first | exact HB.out | apply c1 | apply c2 | apply c3) | exact HB.out)) hb)
  clear HO209 HB; have HO209 := n0_; have HB := n1_; clear n0_ n1_; (try clear hb)
  (try clear hb2)
  (try clear hk)
  (try clear hi)
  refine hK.out _ _ (HS0_) (fun hHeld => ?_)
  clear hK K; refine norm_ (a' := ?_) ?_ ?_; rotate_left
  ·show Act.put _ (some 40) _ = _
   simp only [Act.put, q1, q2, q3, i64_w, i32_w]; rfl
  refine pure_ (i := 2) (N := some 41) (v := ?_) (a' := ?_) #[Y,Y,Y,Z,Z,Z,Z,Z,Z,Z,Z,Z,Z,Z,Z,Z,Z,Z,Z,Z,Z,Z,Z,Z,Z,Z,Z,Z,Z,Z,Z,Z,Z,Z,Z,Z,Z,Z,Z,Z,Z,Z,Z,Z,Z,Z,Z,Z,Z,Z,Z,Z,Z,Z,Z,Z,Z,Z] rfl rfl (any_of HT_.out (by kernel_rfl)) (fun _ _ _ h => h) (Or.inl ⟨by rfl, ?_⟩) ?_ ?_
  rotate_left
  ·intro w'
   go_simp; with_reducible rfl
  rotate_left
  ·simp only [Act.put, q1, q2, q3, i64_w, i32_w]
   rfl
  refine pure_ (i := 3) (N := some 42) (v := ?_) (a' := ?_) #[Y,Y,Y,Y,Z,Z,Z,Z,Z,Z,Z,Z,Z,Z,Z,Z,Z,Z,Z,Z,Z,Z,Z,Z,Z,Z,Z,Z,Z,Z,Z,Z,Z,Z,Z,Z,Z,Z,Z,Z,Z,Z,Z,Z,Z,Z,Z,Z,Z,Z,Z,Z,Z,Z,Z,Z,Z,Z] rfl rfl (any_of HT_.out (by kernel_rfl)) (fun _ _ _ h => h) (Or.inl ⟨by rfl, ?_⟩) ?_ ?_
  rotate_left
  ·intro w'
   go_simp; with_reducible rfl
  rotate_left
  ·simp only [Act.put, q1, q2, q3, i64_w, i32_w]
   rfl
  refine pure_ (i := 4) (N := some 43) (v := ?_) (a' := ?_) #[Y,Y,Y,Y,Y,Z,Z,Z,Z,Z,Z,Z,Z,Z,Z,Z,Z,Z,Z,Z,Z,Z,Z,Z,Z,Z,Z,Z,Z,Z,Z,Z,Z,Z,Z,Z,Z,Z,Z,Z,Z,Z,Z,Z,Z,Z,Z,Z,Z,Z,Z,Z,Z,Z,Z,Z,Z,Z] rfl rfl (any_of HT_.out (by kernel_rfl)) (fun _ _ _ h => h) (Or.inl ⟨by rfl, ?_⟩) ?_ ?_
  rotate_left
  ·intro w'
   go_simp; with_reducible rfl
  rotate_left
  ·simp only [Act.put, q1, q2, q3, i64_w, i32_w]
   rfl
  refine pure_ (i := 6) (N := some 45) (v := ?_) (a' := ?_) #[Y,Y,Y,Y,Y,Z,Y,Z,Z,Z,Z,Z,Z,Z,Z,Z,Z,Z,Z,Z,Z,Z,Z,Z,Z,Z,Z,Z,Z,Z,Z,Z,Z,Z,Z,Z,Z,Z,Z,Z,Z,Z,Z,Z,Z,Z,Z,Z,Z,Z,Z,Z,Z,Z,Z,Z,Z,Z] rfl rfl (any_of HT_.out (by kernel_rfl)) (fun _ _ _ h => h) (Or.inl ⟨by rfl, ?_⟩) ?_ ?_
  rotate_left
  ·intro w'
   go_simp; with_reducible rfl
  rotate_left
  ·simp only [Act.put, q1, q2, q3, i64_w, i32_w]
   rfl
  refine one_ (i := 5) (N := some 44) #[Y,Y,Y,Y,Y,Y,Y,Z,Z,Z,Z,Z,Z,Z,Z,Z,Z,Z,Z,Z,Z,Z,Z,Z,Z,Z,Z,Z,Z,Z,Z,Z,Z,Z,Z,Z,Z,Z,Z,Z,Z,Z,Z,Z,Z,Z,Z,Z,Z,Z,Z,Z,Z,Z,Z,Z,Z,Z] rfl rfl (one_of HT_.out (by kernel_rfl)) (by decide) (fun K hK => ?_)
  refine goes_ Tryz.func10 (by kernel_rfl) rfl #[.string t206] (by rfl) rfl rfl (by (try simp only [List.map_toArray, List.map_cons, List.map_nil]); first | done | rfl | (simp only [List.length_drop, List.length_take]; rfl)) ?_
  with_reducible refine (impl_UnitsOf.calls t206 t215 _ A19.out).mono ?_
  rintro e w34 ⟨rfl, hb⟩
  have HS0_ := (hb.cell (World.block_lt_of_cell? _ _ (hHeld))).trans (hHeld); refine ⟨_, rfl, ?_⟩; have n0_ := m1 (Kd.R_below (by (with_reducible repeat (first | apply rA | apply rB | apply rC)); exact HO209.out) hb)
  have n1_ := m1 (c6 (by repeat (first | (with_reducible first | exact HB.out | apply c1 | apply c2 | apply c3) | exact HB.out)) hb)
  clear HO209 HB; have HO209 := n0_; have HB := n1_; clear n0_ n1_; (try clear hb)
  (try clear hb2)
  (try clear hk)
  (try clear hi)
  obtain ⟨Ao35, co35, eo35⟩ := Kd.R_slice HO209.out; (first | subst eo35 | (injection eo35 with f1_ f2_ f3_; have f4_ := f1_.symm; have f5_ := f3_.symm; clear f1_ f2_ f3_; subst f4_; subst f5_))
  refine hK.out _ _ (HS0_) (fun hHeld => ?_)
  clear hK K; refine norm_ (a' := ?_) ?_ ?_; rotate_left
  ·show Act.put _ (some 44) _ = _
   simp only [Act.put, q1, q2, q3, i64_w, i32_w]; rfl
  refine pure_ (i := 7) (N := some 46) (v := ?_) (a' := ?_) #[Y,Y,Y,Y,Y,Y,Y,Y,Z,Z,Z,Z,Z,Z,Z,Z,Z,Z,Z,Z,Z,Z,Z,Z,Z,Z,Z,Z,Z,Z,Z,Z,Z,Z,Z,Z,Z,Z,Z,Z,Z,Z,Z,Z,Z,Z,Z,Z,Z,Z,Z,Z,Z,Z,Z,Z,Z,Z] rfl rfl (any_of HT_.out (by kernel_rfl)) (fun _ _ _ h => h) (Or.inl ⟨by rfl, ?_⟩) ?_ ?_
  rotate_left
  ·intro w'
   go_simp; with_reducible rfl
  rotate_left
  ·simp only [Act.put, q1, q2, q3, i64_w, i32_w]
   rfl
  refine pure_ (i := 8) (N := some 47) (v := ?_) (a' := ?_) #[Y,Y,Y,Y,Y,Y,Y,Y,Y,Z,Z,Z,Z,Z,Z,Z,Z,Z,Z,Z,Z,Z,Z,Z,Z,Z,Z,Z,Z,Z,Z,Z,Z,Z,Z,Z,Z,Z,Z,Z,Z,Z,Z,Z,Z,Z,Z,Z,Z,Z,Z,Z,Z,Z,Z,Z,Z,Z] rfl rfl (any_of HT_.out (by kernel_rfl)) (fun _ _ _ h => h) (Or.inl ⟨by rfl, ?_⟩) ?_ ?_
  rotate_left
  ·intro w'
   go_simp; with_reducible rfl
  rotate_left
  ·simp only [Act.put, q1, q2, q3, i64_w, i32_w]
   rfl
  refine pure_ (i := 9) (N := some 48) (v := ?_) (a' := ?_) #[Y,Y,Y,Y,Y,Y,Y,Y,Y,Y,Z,Z,Z,Z,Z,Z,Z,Z,Z,Z,Z,Z,Z,Z,Z,Z,Z,Z,Z,Z,Z,Z,Z,Z,Z,Z,Z,Z,Z,Z,Z,Z,Z,Z,Z,Z,Z,Z,Z,Z,Z,Z,Z,Z,Z,Z,Z,Z] rfl rfl (any_of HT_.out (by kernel_rfl)) (fun _ _ _ h => h) (Or.inl ⟨by rfl, ?_⟩) ?_ ?_
  rotate_left
  ·intro w'
   go_simp; with_reducible rfl
  rotate_left
  ·simp only [Act.put, q1, q2, q3, i64_w, i32_w]
   rfl
  refine pure_ (i := 10) (N := some 49) (v := ?_) (a' := ?_) #[Y,Y,Y,Y,Y,Y,Y,Y,Y,Y,Y,Z,Z,Z,Z,Z,Z,Z,Z,Z,Z,Z,Z,Z,Z,Z,Z,Z,Z,Z,Z,Z,Z,Z,Z,Z,Z,Z,Z,Z,Z,Z,Z,Z,Z,Z,Z,Z,Z,Z,Z,Z,Z,Z,Z,Z,Z,Z] rfl rfl (any_of HT_.out (by kernel_rfl)) (fun _ _ _ h => h) (Or.inl ⟨by rfl, ?_⟩) ?_ ?_
  rotate_left
  ·intro w'
   go_simp; with_reducible rfl
  rotate_left
  ·simp only [Act.put, q1, q2, q3, i64_w, i32_w]
   rfl
  refine pure_ (i := 11) (N := some 50) (v := ?_) (a' := ?_) #[Y,Y,Y,Y,Y,Y,Y,Y,Y,Y,Y,Y,Z,Z,Z,Z,Z,Z,Z,Z,Z,Z,Z,Z,Z,Z,Z,Z,Z,Z,Z,Z,Z,Z,Z,Z,Z,Z,Z,Z,Z,Z,Z,Z,Z,Z,Z,Z,Z,Z,Z,Z,Z,Z,Z,Z,Z,Z] rfl rfl (any_of HT_.out (by kernel_rfl)) (fun _ _ _ h => h) (Or.inl ⟨by rfl, ?_⟩) ?_ ?_
  rotate_left
  ·intro w'
   go_simp; with_reducible rfl
  rotate_left
  ·simp only [Act.put, q1, q2, q3, i64_w, i32_w]
   rfl
  refine pure_ (i := 12) (N := some 51) (v := ?_) (a' := ?_) #[Y,Y,Y,Y,Y,Y,Y,Y,Y,Y,Y,Y,Y,Z,Z,Z,Z,Z,Z,Z,Z,Z,Z,Z,Z,Z,Z,Z,Z,Z,Z,Z,Z,Z,Z,Z,Z,Z,Z,Z,Z,Z,Z,Z,Z,Z,Z,Z,Z,Z,Z,Z,Z,Z,Z,Z,Z,Z] rfl rfl (any_of HT_.out (by kernel_rfl)) (fun _ _ _ h => h) (Or.inl ⟨by rfl, ?_⟩) ?_ ?_
  rotate_left
  ·intro w'
   go_simp; with_reducible rfl
  rotate_left
  ·simp only [Act.put, q1, q2, q3, i64_w, i32_w]
   rfl
  refine pure_ (i := 13) (N := some 52) (v := ?_) (a' := ?_) #[Y,Y,Y,Y,Y,Y,Y,Y,Y,Y,Y,Y,Y,Y,Z,Z,Z,Z,Z,Z,Z,Z,Z,Z,Z,Z,Z,Z,Z,Z,Z,Z,Z,Z,Z,Z,Z,Z,Z,Z,Z,Z,Z,Z,Z,Z,Z,Z,Z,Z,Z,Z,Z,Z,Z,Z,Z,Z] rfl rfl (any_of HT_.out (by kernel_rfl)) (fun _ _ _ h => h) (Or.inl ⟨by rfl, ?_⟩) ?_ ?_
  rotate_left
  ·intro w'
   go_simp; with_reducible rfl
  rotate_left
  ·simp only [Act.put, q1, q2, q3, i64_w, i32_w]
   rfl
  refine pure_ (i := 14) (N := some 53) (v := ?_) (a' := ?_) #[Y,Y,Y,Y,Y,Y,Y,Y,Y,Y,Y,Y,Y,Y,Y,Z,Z,Z,Z,Z,Z,Z,Z,Z,Z,Z,Z,Z,Z,Z,Z,Z,Z,Z,Z,Z,Z,Z,Z,Z,Z,Z,Z,Z,Z,Z,Z,Z,Z,Z,Z,Z,Z,Z,Z,Z,Z,Z] rfl rfl (any_of HT_.out (by kernel_rfl)) (fun _ _ _ h => h) (Or.inl ⟨by rfl, ?_⟩) ?_ ?_
  rotate_left
  ·intro w'
   go_simp; with_reducible rfl
  rotate_left
  ·simp only [Act.put, q1, q2, q3, i64_w, i32_w]
   rfl
  refine pure_ (i := 15) (N := some 54) (v := ?_) (a' := ?_) #[Y,Y,Y,Y,Y,Y,Y,Y,Y,Y,Y,Y,Y,Y,Y,Y,Z,Z,Z,Z,Z,Z,Z,Z,Z,Z,Z,Z,Z,Z,Z,Z,Z,Z,Z,Z,Z,Z,Z,Z,Z,Z,Z,Z,Z,Z,Z,Z,Z,Z,Z,Z,Z,Z,Z,Z,Z,Z] rfl rfl (any_of HT_.out (by kernel_rfl)) (fun _ _ _ h => h) (Or.inl ⟨by rfl, ?_⟩) ?_ ?_
  rotate_left
  ·intro w'
   go_simp; with_reducible rfl
  rotate_left
  ·simp only [Act.put, q1, q2, q3, i64_w, i32_w]
   rfl
  refine pure_ (i := 16) (N := some 55) (v := ?_) (a' := ?_) #[Y,Y,Y,Y,Y,Y,Y,Y,Y,Y,Y,Y,Y,Y,Y,Y,Y,Z,Z,Z,Z,Z,Z,Z,Z,Z,Z,Z,Z,Z,Z,Z,Z,Z,Z,Z,Z,Z,Z,Z,Z,Z,Z,Z,Z,Z,Z,Z,Z,Z,Z,Z,Z,Z,Z,Z,Z,Z] rfl rfl (any_of HT_.out (by kernel_rfl)) (fun _ _ _ h => h) (Or.inl ⟨by rfl, ?_⟩) ?_ ?_
  rotate_left
  ·intro w'
   go_simp; with_reducible rfl
  rotate_left
  ·simp only [Act.put, q1, q2, q3, i64_w, i32_w]
   rfl
  refine pure_ (i := 17) (N := some 56) (v := ?_) (a' := ?_) #[Y,Y,Y,Y,Y,Y,Y,Y,Y,Y,Y,Y,Y,Y,Y,Y,Y,Y,Z,Z,Z,Z,Z,Z,Z,Z,Z,Z,Z,Z,Z,Z,Z,Z,Z,Z,Z,Z,Z,Z,Z,Z,Z,Z,Z,Z,Z,Z,Z,Z,Z,Z,Z,Z,Z,Z,Z,Z] rfl rfl (any_of HT_.out (by kernel_rfl)) (fun _ _ _ h => h) (Or.inl ⟨by rfl, ?_⟩) ?_ ?_
  rotate_left
  ·intro w'
   go_simp; with_reducible rfl
  rotate_left
  ·simp only [Act.put, q1, q2, q3, i64_w, i32_w]
   rfl
  refine pure_ (i := 18) (N := some 57) (v := ?_) (a' := ?_) #[Y,Y,Y,Y,Y,Y,Y,Y,Y,Y,Y,Y,Y,Y,Y,Y,Y,Y,Y,Z,Z,Z,Z,Z,Z,Z,Z,Z,Z,Z,Z,Z,Z,Z,Z,Z,Z,Z,Z,Z,Z,Z,Z,Z,Z,Z,Z,Z,Z,Z,Z,Z,Z,Z,Z,Z,Z,Z] rfl rfl (any_of HT_.out (by kernel_rfl)) (fun _ _ _ h => h) (Or.inl ⟨by rfl, ?_⟩) ?_ ?_
  rotate_left
  ·intro w'
   go_simp; with_reducible rfl
  rotate_left
  ·simp only [Act.put, q1, q2, q3, i64_w, i32_w]
   rfl
  refine pure_ (i := 19) (N := some 58) (v := ?_) (a' := ?_) #[Y,Y,Y,Y,Y,Y,Y,Y,Y,Y,Y,Y,Y,Y,Y,Y,Y,Y,Y,Y,Z,Z,Z,Z,Z,Z,Z,Z,Z,Z,Z,Z,Z,Z,Z,Z,Z,Z,Z,Z,Z,Z,Z,Z,Z,Z,Z,Z,Z,Z,Z,Z,Z,Z,Z,Z,Z,Z] rfl rfl (any_of HT_.out (by kernel_rfl)) (fun _ _ _ h => h) (Or.inl ⟨by rfl, ?_⟩) ?_ ?_
  rotate_left
  ·intro w'
   go_simp; with_reducible rfl
  rotate_left
  ·simp only [Act.put, q1, q2, q3, i64_w, i32_w]
   rfl
  refine pure_ (i := 20) (N := some 59) (v := ?_) (a' := ?_) #[Y,Y,Y,Y,Y,Y,Y,Y,Y,Y,Y,Y,Y,Y,Y,Y,Y,Y,Y,Y,Y,Z,Z,Z,Z,Z,Z,Z,Z,Z,Z,Z,Z,Z,Z,Z,Z,Z,Z,Z,Z,Z,Z,Z,Z,Z,Z,Z,Z,Z,Z,Z,Z,Z,Z,Z,Z,Z] rfl rfl (any_of HT_.out (by kernel_rfl)) (fun _ _ _ h => h) (Or.inl ⟨by rfl, ?_⟩) ?_ ?_
  rotate_left
  ·intro w'
   go_simp; with_reducible rfl
  rotate_left
  ·simp only [Act.put, q1, q2, q3, i64_w, i32_w]
   rfl
  refine pure_ (i := 21) (N := some 60) (v := ?_) (a' := ?_) #[Y,Y,Y,Y,Y,Y,Y,Y,Y,Y,Y,Y,Y,Y,Y,Y,Y,Y,Y,Y,Y,Y,Z,Z,Z,Z,Z,Z,Z,Z,Z,Z,Z,Z,Z,Z,Z,Z,Z,Z,Z,Z,Z,Z,Z,Z,Z,Z,Z,Z,Z,Z,Z,Z,Z,Z,Z,Z] rfl rfl (any_of HT_.out (by kernel_rfl)) (fun _ _ _ h => h) (Or.inl ⟨by rfl, ?_⟩) ?_ ?_
  rotate_left
  ·intro w'
   go_simp; with_reducible rfl
  rotate_left
  ·simp only [Act.put, q1, q2, q3, i64_w, i32_w]
   rfl
  refine pure_ (i := 22) (N := some 61) (v := ?_) (a' := ?_) #[Y,Y,Y,Y,Y,Y,Y,Y,Y,Y,Y,Y,Y,Y,Y,Y,Y,Y,Y,Y,Y,Y,Y,Z,Z,Z,Z,Z,Z,Z,Z,Z,Z,Z,Z,Z,Z,Z,Z,Z,Z,Z,Z,Z,Z,Z,Z,Z,Z,Z,Z,Z,Z,Z,Z,Z,Z,Z] rfl rfl (any_of HT_.out (by kernel_rfl)) (fun _ _ _ h => h) (Or.inl ⟨by rfl, ?_⟩) ?_ ?_
  rotate_left
  ·intro w'
   go_simp; with_reducible rfl
  rotate_left
  ·simp only [Act.put, q1, q2, q3, i64_w, i32_w]
   rfl
  refine pure_ (i := 23) (N := some 62) (v := ?_) (a' := ?_) #[Y,Y,Y,Y,Y,Y,Y,Y,Y,Y,Y,Y,Y,Y,Y,Y,Y,Y,Y,Y,Y,Y,Y,Y,Z,Z,Z,Z,Z,Z,Z,Z,Z,Z,Z,Z,Z,Z,Z,Z,Z,Z,Z,Z,Z,Z,Z,Z,Z,Z,Z,Z,Z,Z,Z,Z,Z,Z] rfl rfl (any_of HT_.out (by kernel_rfl)) (fun _ _ _ h => h) (Or.inl ⟨by rfl, ?_⟩) ?_ ?_
  rotate_left
  ·intro w'
   go_simp; with_reducible rfl
  rotate_left
  ·simp only [Act.put, q1, q2, q3, i64_w, i32_w]
   rfl
  refine pure_ (i := 24) (N := some 63) (v := ?_) (a' := ?_) #[Y,Y,Y,Y,Y,Y,Y,Y,Y,Y,Y,Y,Y,Y,Y,Y,Y,Y,Y,Y,Y,Y,Y,Y,Y,Z,Z,Z,Z,Z,Z,Z,Z,Z,Z,Z,Z,Z,Z,Z,Z,Z,Z,Z,Z,Z,Z,Z,Z,Z,Z,Z,Z,Z,Z,Z,Z,Z] rfl rfl (any_of HT_.out (by kernel_rfl)) (fun _ _ _ h => h) (Or.inl ⟨by rfl, ?_⟩) ?_ ?_
  rotate_left
  ·intro w'
   go_simp; with_reducible rfl
  rotate_left
  ·simp only [Act.put, q1, q2, q3, i64_w, i32_w]
   rfl
  refine pure_ (i := 25) (N := some 64) (v := ?_) (a' := ?_) #[Y,Y,Y,Y,Y,Y,Y,Y,Y,Y,Y,Y,Y,Y,Y,Y,Y,Y,Y,Y,Y,Y,Y,Y,Y,Y,Z,Z,Z,Z,Z,Z,Z,Z,Z,Z,Z,Z,Z,Z,Z,Z,Z,Z,Z,Z,Z,Z,Z,Z,Z,Z,Z,Z,Z,Z,Z,Z] rfl rfl (any_of HT_.out (by kernel_rfl)) (fun _ _ _ h => h) (Or.inl ⟨by rfl, ?_⟩) ?_ ?_
  rotate_left
  ·intro w'
   go_simp; with_reducible rfl
  rotate_left
  ·simp only [Act.put, q1, q2, q3, i64_w, i32_w]
   rfl
  refine pure_ (i := 26) (N := some 65) (v := ?_) (a' := ?_) #[Y,Y,Y,Y,Y,Y,Y,Y,Y,Y,Y,Y,Y,Y,Y,Y,Y,Y,Y,Y,Y,Y,Y,Y,Y,Y,Y,Z,Z,Z,Z,Z,Z,Z,Z,Z,Z,Z,Z,Z,Z,Z,Z,Z,Z,Z,Z,Z,Z,Z,Z,Z,Z,Z,Z,Z,Z,Z] rfl rfl (any_of HT_.out (by kernel_rfl)) (fun _ _ _ h => h) (Or.inl ⟨by rfl, ?_⟩) ?_ ?_
  rotate_left
  ·intro w'
   go_simp; with_reducible rfl
  rotate_left
  ·simp only [Act.put, q1, q2, q3, i64_w, i32_w]
   rfl
  refine pure_ (i := 27) (N := some 66) (v := ?_) (a' := ?_) #[Y,Y,Y,Y,Y,Y,Y,Y,Y,Y,Y,Y,Y,Y,Y,Y,Y,Y,Y,Y,Y,Y,Y,Y,Y,Y,Y,Y,Z,Z,Z,Z,Z,Z,Z,Z,Z,Z,Z,Z,Z,Z,Z,Z,Z,Z,Z,Z,Z,Z,Z,Z,Z,Z,Z,Z,Z,Z] rfl rfl (any_of HT_.out (by kernel_rfl)) (fun _ _ _ h => h) (Or.inl ⟨by rfl, ?_⟩) ?_ ?_
  rotate_left
  ·intro w'
   go_simp; with_reducible rfl
  rotate_left
  ·simp only [Act.put, q1, q2, q3, i64_w, i32_w]
   rfl
  refine pure_ (i := 28) (N := some 67) (v := ?_) (a' := ?_) #[Y,Y,Y,Y,Y,Y,Y,Y,Y,Y,Y,Y,Y,Y,Y,Y,Y,Y,Y,Y,Y,Y,Y,Y,Y,Y,Y,Y,Y,Z,Z,Z,Z,Z,Z,Z,Z,Z,Z,Z,Z,Z,Z,Z,Z,Z,Z,Z,Z,Z,Z,Z,Z,Z,Z,Z,Z,Z] rfl rfl (any_of HT_.out (by kernel_rfl)) (fun _ _ _ h => h) (Or.inl ⟨by rfl, ?_⟩) ?_ ?_
  rotate_left
  ·intro w'
   go_simp; with_reducible rfl
  rotate_left
  ·simp only [Act.put, q1, q2, q3, i64_w, i32_w]
   rfl
  refine pure_ (i := 29) (N := some 68) (v := ?_) (a' := ?_) #[Y,Y,Y,Y,Y,Y,Y,Y,Y,Y,Y,Y,Y,Y,Y,Y,Y,Y,Y,Y,Y,Y,Y,Y,Y,Y,Y,Y,Y,Y,Z,Z,Z,Z,Z,Z,Z,Z,Z,Z,Z,Z,Z,Z,Z,Z,Z,Z,Z,Z,Z,Z,Z,Z,Z,Z,Z,Z] rfl rfl (any_of HT_.out (by kernel_rfl)) (fun _ _ _ h => h) (Or.inl ⟨by rfl, ?_⟩) ?_ ?_
  rotate_left
  ·intro w'
   go_simp; with_reducible rfl
  rotate_left
  ·simp only [Act.put, q1, q2, q3, i64_w, i32_w]
   rfl
  refine pure_ (i := 30) (N := some 69) (v := ?_) (a' := ?_) #[Y,Y,Y,Y,Y,Y,Y,Y,Y,Y,Y,Y,Y,Y,Y,Y,Y,Y,Y,Y,Y,Y,Y,Y,Y,Y,Y,Y,Y,Y,Y,Z,Z,Z,Z,Z,Z,Z,Z,Z,Z,Z,Z,Z,Z,Z,Z,Z,Z,Z,Z,Z,Z,Z,Z,Z,Z,Z] rfl rfl (any_of HT_.out (by kernel_rfl)) (fun _ _ _ h => h) (Or.inl ⟨by rfl, ?_⟩) ?_ ?_
  rotate_left
  ·intro w'
   go_simp; with_reducible rfl
  rotate_left
  ·simp only [Act.put, q1, q2, q3, i64_w, i32_w]
   rfl
  refine pure_ (i := 31) (N := some 70) (v := ?_) (a' := ?_) #[Y,Y,Y,Y,Y,Y,Y,Y,Y,Y,Y,Y,Y,Y,Y,Y,Y,Y,Y,Y,Y,Y,Y,Y,Y,Y,Y,Y,Y,Y,Y,Y,Z,Z,Z,Z,Z,Z,Z,Z,Z,Z,Z,Z,Z,Z,Z,Z,Z,Z,Z,Z,Z,Z,Z,Z,Z,Z] rfl rfl (any_of HT_.out (by kernel_rfl)) (fun _ _ _ h => h) (Or.inl ⟨by rfl, ?_⟩) ?_ ?_
  rotate_left
  ·intro w'
   go_simp; with_reducible rfl
  rotate_left
  ·simp only [Act.put, q1, q2, q3, i64_w, i32_w]
   rfl
  refine pure_ (i := 32) (N := some 71) (v := ?_) (a' := ?_) #[Y,Y,Y,Y,Y,Y,Y,Y,Y,Y,Y,Y,Y,Y,Y,Y,Y,Y,Y,Y,Y,Y,Y,Y,Y,Y,Y,Y,Y,Y,Y,Y,Y,Z,Z,Z,Z,Z,Z,Z,Z,Z,Z,Z,Z,Z,Z,Z,Z,Z,Z,Z,Z,Z,Z,Z,Z,Z] rfl rfl (any_of HT_.out (by kernel_rfl)) (fun _ _ _ h => h) (Or.inl ⟨by rfl, ?_⟩) ?_ ?_
  rotate_left
  ·intro w'
   go_simp; with_reducible rfl
  rotate_left
  ·simp only [Act.put, q1, q2, q3, i64_w, i32_w]
   rfl
  refine pure_ (i := 33) (N := some 72) (v := ?_) (a' := ?_) #[Y,Y,Y,Y,Y,Y,Y,Y,Y,Y,Y,Y,Y,Y,Y,Y,Y,Y,Y,Y,Y,Y,Y,Y,Y,Y,Y,Y,Y,Y,Y,Y,Y,Y,Z,Z,Z,Z,Z,Z,Z,Z,Z,Z,Z,Z,Z,Z,Z,Z,Z,Z,Z,Z,Z,Z,Z,Z] rfl rfl (any_of HT_.out (by kernel_rfl)) (fun _ _ _ h => h) (Or.inl ⟨by rfl, ?_⟩) ?_ ?_
  rotate_left
  ·intro w'
   go_simp; with_reducible rfl
  rotate_left
  ·simp only [Act.put, q1, q2, q3, i64_w, i32_w]
   rfl
  refine pure_ (i := 34) (N := some 73) (v := ?_) (a' := ?_) #[Y,Y,Y,Y,Y,Y,Y,Y,Y,Y,Y,Y,Y,Y,Y,Y,Y,Y,Y,Y,Y,Y,Y,Y,Y,Y,Y,Y,Y,Y,Y,Y,Y,Y,Y,Z,Z,Z,Z,Z,Z,Z,Z,Z,Z,Z,Z,Z,Z,Z,Z,Z,Z,Z,Z,Z,Z,Z] rfl rfl (any_of HT_.out (by kernel_rfl)) (fun _ _ _ h => h) (Or.inl ⟨by rfl, ?_⟩) ?_ ?_
  rotate_left
  ·intro w'
   go_simp; with_reducible rfl
  rotate_left
  ·simp only [Act.put, q1, q2, q3, i64_w, i32_w]
   rfl
  refine pure_ (i := 35) (N := some 74) (v := ?_) (a' := ?_) #[Y,Y,Y,Y,Y,Y,Y,Y,Y,Y,Y,Y,Y,Y,Y,Y,Y,Y,Y,Y,Y,Y,Y,Y,Y,Y,Y,Y,Y,Y,Y,Y,Y,Y,Y,Y,Z,Z,Z,Z,Z,Z,Z,Z,Z,Z,Z,Z,Z,Z,Z,Z,Z,Z,Z,Z,Z,Z] rfl rfl (any_of HT_.out (by kernel_rfl)) (fun _ _ _ h => h) (Or.inl ⟨by rfl, ?_⟩) ?_ ?_
  rotate_left
  ·intro w'
   go_simp; with_reducible rfl
  rotate_left
  ·simp only [Act.put, q1, q2, q3, i64_w, i32_w]
   rfl
  refine pure_ (i := 36) (N := some 75) (v := ?_) (a' := ?_) #[Y,Y,Y,Y,Y,Y,Y,Y,Y,Y,Y,Y,Y,Y,Y,Y,Y,Y,Y,Y,Y,Y,Y,Y,Y,Y,Y,Y,Y,Y,Y,Y,Y,Y,Y,Y,Y,Z,Z,Z,Z,Z,Z,Z,Z,Z,Z,Z,Z,Z,Z,Z,Z,Z,Z,Z,Z,Z] rfl rfl (any_of HT_.out (by kernel_rfl)) (fun _ _ _ h => h) (Or.inl ⟨by rfl, ?_⟩) ?_ ?_
  rotate_left
  ·intro w'
   go_simp; with_reducible rfl
  rotate_left
  ·simp only [Act.put, q1, q2, q3, i64_w, i32_w]
   rfl
  refine pure_ (i := 37) (N := some 76) (v := ?_) (a' := ?_) #[Y,Y,Y,Y,Y,Y,Y,Y,Y,Y,Y,Y,Y,Y,Y,Y,Y,Y,Y,Y,Y,Y,Y,Y,Y,Y,Y,Y,Y,Y,Y,Y,Y,Y,Y,Y,Y,Y,Z,Z,Z,Z,Z,Z,Z,Z,Z,Z,Z,Z,Z,Z,Z,Z,Z,Z,Z,Z] rfl rfl (any_of HT_.out (by kernel_rfl)) (fun _ _ _ h => h) (Or.inl ⟨by rfl, ?_⟩) ?_ ?_
  rotate_left
  ·intro w'
   go_simp; with_reducible rfl
  rotate_left
  ·simp only [Act.put, q1, q2, q3, i64_w, i32_w]
   rfl
  refine pure_ (i := 38) (N := some 77) (v := ?_) (a' := ?_) #[Y,Y,Y,Y,Y,Y,Y,Y,Y,Y,Y,Y,Y,Y,Y,Y,Y,Y,Y,Y,Y,Y,Y,Y,Y,Y,Y,Y,Y,Y,Y,Y,Y,Y,Y,Y,Y,Y,Y,Z,Z,Z,Z,Z,Z,Z,Z,Z,Z,Z,Z,Z,Z,Z,Z,Z,Z,Z] rfl rfl (any_of HT_.out (by kernel_rfl)) (fun _ _ _ h => h) (Or.inl ⟨by rfl, ?_⟩) ?_ ?_
  rotate_left
  ·intro w'
   go_simp; with_reducible rfl
  rotate_left
  ·simp only [Act.put, q1, q2, q3, i64_w, i32_w]
   rfl
  refine pure_ (i := 39) (N := some 78) (v := ?_) (a' := ?_) #[Y,Y,Y,Y,Y,Y,Y,Y,Y,Y,Y,Y,Y,Y,Y,Y,Y,Y,Y,Y,Y,Y,Y,Y,Y,Y,Y,Y,Y,Y,Y,Y,Y,Y,Y,Y,Y,Y,Y,Y,Z,Z,Z,Z,Z,Z,Z,Z,Z,Z,Z,Z,Z,Z,Z,Z,Z,Z] rfl rfl (any_of HT_.out (by kernel_rfl)) (fun _ _ _ h => h) (Or.inl ⟨by rfl, ?_⟩) ?_ ?_
  rotate_left
  ·intro w'
   go_simp; with_reducible rfl
  rotate_left
  ·simp only [Act.put, q1, q2, q3, i64_w, i32_w]
   rfl
  refine pure_ (i := 40) (N := some 79) (v := ?_) (a' := ?_) #[Y,Y,Y,Y,Y,Y,Y,Y,Y,Y,Y,Y,Y,Y,Y,Y,Y,Y,Y,Y,Y,Y,Y,Y,Y,Y,Y,Y,Y,Y,Y,Y,Y,Y,Y,Y,Y,Y,Y,Y,Y,Z,Z,Z,Z,Z,Z,Z,Z,Z,Z,Z,Z,Z,Z,Z,Z,Z] rfl rfl (any_of HT_.out (by kernel_rfl)) (fun _ _ _ h => h) (Or.inl ⟨by rfl, ?_⟩) ?_ ?_
  rotate_left
  ·intro w'
   go_simp; with_reducible rfl
  rotate_left
  ·simp only [Act.put, q1, q2, q3, i64_w, i32_w]
   rfl
  refine pure_ (i := 41) (N := some 80) (v := ?_) (a' := ?_) #[Y,Y,Y,Y,Y,Y,Y,Y,Y,Y,Y,Y,Y,Y,Y,Y,Y,Y,Y,Y,Y,Y,Y,Y,Y,Y,Y,Y,Y,Y,Y,Y,Y,Y,Y,Y,Y,Y,Y,Y,Y,Y,Z,Z,Z,Z,Z,Z,Z,Z,Z,Z,Z,Z,Z,Z,Z,Z] rfl rfl (any_of HT_.out (by kernel_rfl)) (fun _ _ _ h => h) (Or.inl ⟨by rfl, ?_⟩) ?_ ?_
  rotate_left
  ·intro w'
   go_simp; with_reducible rfl
  rotate_left
  ·simp only [Act.put, q1, q2, q3, i64_w, i32_w]
   rfl
  refine pure_ (i := 42) (N := some 81) (v := ?_) (a' := ?_) #[Y,Y,Y,Y,Y,Y,Y,Y,Y,Y,Y,Y,Y,Y,Y,Y,Y,Y,Y,Y,Y,Y,Y,Y,Y,Y,Y,Y,Y,Y,Y,Y,Y,Y,Y,Y,Y,Y,Y,Y,Y,Y,Y,Z,Z,Z,Z,Z,Z,Z,Z,Z,Z,Z,Z,Z,Z,Z] rfl rfl (any_of HT_.out (by kernel_rfl)) (fun _ _ _ h => h) (Or.inl ⟨by rfl, ?_⟩) ?_ ?_
  rotate_left
  ·intro w'
   go_simp; with_reducible rfl
  rotate_left
  ·simp only [Act.put, q1, q2, q3, i64_w, i32_w]
   rfl
  refine pure_ (i := 44) (N := some 83) (v := ?_) (a' := ?_) #[Y,Y,Y,Y,Y,Y,Y,Y,Y,Y,Y,Y,Y,Y,Y,Y,Y,Y,Y,Y,Y,Y,Y,Y,Y,Y,Y,Y,Y,Y,Y,Y,Y,Y,Y,Y,Y,Y,Y,Y,Y,Y,Y,Z,Y,Z,Z,Z,Z,Z,Z,Z,Z,Z,Z,Z,Z,Z] rfl rfl (any_of HT_.out (by kernel_rfl)) (fun _ _ _ h => h) (Or.inl ⟨by rfl, ?_⟩) ?_ ?_
  rotate_left
  ·intro w'
   go_simp; with_reducible rfl
  rotate_left
  ·simp only [Act.put, q1, q2, q3, i64_w, i32_w]
   rfl
  refine pure_ (i := 45) (N := some 84) (v := ?_) (a' := ?_) #[Y,Y,Y,Y,Y,Y,Y,Y,Y,Y,Y,Y,Y,Y,Y,Y,Y,Y,Y,Y,Y,Y,Y,Y,Y,Y,Y,Y,Y,Y,Y,Y,Y,Y,Y,Y,Y,Y,Y,Y,Y,Y,Y,Z,Y,Y,Z,Z,Z,Z,Z,Z,Z,Z,Z,Z,Z,Z] rfl rfl (any_of HT_.out (by kernel_rfl)) (fun _ _ _ h => h) (Or.inl ⟨by rfl, ?_⟩) ?_ ?_
  rotate_left
  ·intro w'
   go_simp; with_reducible rfl
  rotate_left
  ·simp only [Act.put, q1, q2, q3, i64_w, i32_w]
   rfl
  refine one_ (i := 43) (N := some 82) #[Y,Y,Y,Y,Y,Y,Y,Y,Y,Y,Y,Y,Y,Y,Y,Y,Y,Y,Y,Y,Y,Y,Y,Y,Y,Y,Y,Y,Y,Y,Y,Y,Y,Y,Y,Y,Y,Y,Y,Y,Y,Y,Y,Y,Y,Y,Z,Z,Z,Z,Z,Z,Z,Z,Z,Z,Z,Z] rfl rfl (one_of HT_.out (by kernel_rfl)) (by decide) (fun K hK => ?_)
  refine goes_ Tryz.func11 (by kernel_rfl) rfl #[.string t206] (by rfl) rfl rfl (by (try simp only [List.map_toArray, List.map_cons, List.map_nil]); first | done | rfl | (simp only [List.length_drop, List.length_take]; rfl)) ?_
  with_reducible refine (impl_PiecesAfter.calls t206 t216 _ A26.out).mono ?_
  rintro e w36 ⟨rfl, hb⟩
  have HS0_ := (hb.cell (World.block_lt_of_cell? _ _ (hHeld))).trans (hHeld); refine ⟨_, rfl, ?_⟩; have n0_ := m1 (Kd.R_below (by (with_reducible repeat (first | apply rA | apply rB | apply rC)); exact HO209.out) hb)
  have n1_ := m1 (c6 (by repeat (first | (with_reducible first | exact HB.out | apply c1 | apply c2 | apply c3) | exact HB.out)) hb)
  clear HO209 HB; have HO209 := n0_; have HB := n1_; clear n0_ n1_; (try clear hb)
  (try clear hb2)
  (try clear hk)
  (try clear hi)
  refine hK.out _ _ (HS0_) (fun hHeld => ?_)
  clear hK K; refine norm_ (a' := ?_) ?_ ?_; rotate_left
  ·show Act.put _ (some 82) _ = _
   simp only [Act.put, q1, q2, q3, i64_w, i32_w]; rfl
  refine pure_ (i := 46) (N := some 85) (v := ?_) (a' := ?_) #[Y,Y,Y,Y,Y,Y,Y,Y,Y,Y,Y,Y,Y,Y,Y,Y,Y,Y,Y,Y,Y,Y,Y,Y,Y,Y,Y,Y,Y,Y,Y,Y,Y,Y,Y,Y,Y,Y,Y,Y,Y,Y,Y,Y,Y,Y,Y,Z,Z,Z,Z,Z,Z,Z,Z,Z,Z,Z] rfl rfl (any_of HT_.out (by kernel_rfl)) (fun _ _ _ h => h) (Or.inl ⟨by rfl, ?_⟩) ?_ ?_
  rotate_left
  ·intro w'
   go_simp; with_reducible rfl
  rotate_left
  ·simp only [Act.put, q1, q2, q3, i64_w, i32_w]
   rfl
  refine pure_ (i := 47) (N := some 86) (v := ?_) (a' := ?_) #[Y,Y,Y,Y,Y,Y,Y,Y,Y,Y,Y,Y,Y,Y,Y,Y,Y,Y,Y,Y,Y,Y,Y,Y,Y,Y,Y,Y,Y,Y,Y,Y,Y,Y,Y,Y,Y,Y,Y,Y,Y,Y,Y,Y,Y,Y,Y,Y,Z,Z,Z,Z,Z,Z,Z,Z,Z,Z] rfl rfl (any_of HT_.out (by kernel_rfl)) (fun _ _ _ h => h) (Or.inl ⟨by rfl, ?_⟩) ?_ ?_
  rotate_left
  ·intro w'
   go_simp; with_reducible rfl
  rotate_left
  ·simp only [Act.put, q1, q2, q3, i64_w, i32_w]
   rfl
  refine pure_ (i := 48) (N := some 87) (v := ?_) (a' := ?_) #[Y,Y,Y,Y,Y,Y,Y,Y,Y,Y,Y,Y,Y,Y,Y,Y,Y,Y,Y,Y,Y,Y,Y,Y,Y,Y,Y,Y,Y,Y,Y,Y,Y,Y,Y,Y,Y,Y,Y,Y,Y,Y,Y,Y,Y,Y,Y,Y,Y,Z,Z,Z,Z,Z,Z,Z,Z,Z] rfl rfl (any_of HT_.out (by kernel_rfl)) (fun _ _ _ h => h) (Or.inl ⟨by rfl, ?_⟩) ?_ ?_
  rotate_left
  ·intro w'
   go_simp; with_reducible rfl
  rotate_left
  ·simp only [Act.put, q1, q2, q3, i64_w, i32_w]
   rfl
  refine pure_ (i := 49) (N := some 88) (v := ?_) (a' := ?_) #[Y,Y,Y,Y,Y,Y,Y,Y,Y,Y,Y,Y,Y,Y,Y,Y,Y,Y,Y,Y,Y,Y,Y,Y,Y,Y,Y,Y,Y,Y,Y,Y,Y,Y,Y,Y,Y,Y,Y,Y,Y,Y,Y,Y,Y,Y,Y,Y,Y,Y,Z,Z,Z,Z,Z,Z,Z,Z] rfl rfl (any_of HT_.out (by kernel_rfl)) (fun _ _ _ h => h) (Or.inl ⟨by rfl, ?_⟩) ?_ ?_
  rotate_left
  ·intro w'
   go_simp; with_reducible rfl
  rotate_left
  ·simp only [Act.put, q1, q2, q3, i64_w, i32_w]
   rfl
  refine pure_ (i := 51) (N := some 90) (v := ?_) (a' := ?_) #[Y,Y,Y,Y,Y,Y,Y,Y,Y,Y,Y,Y,Y,Y,Y,Y,Y,Y,Y,Y,Y,Y,Y,Y,Y,Y,Y,Y,Y,Y,Y,Y,Y,Y,Y,Y,Y,Y,Y,Y,Y,Y,Y,Y,Y,Y,Y,Y,Y,Y,Z,Y,Z,Z,Z,Z,Z,Z] rfl rfl (any_of HT_.out (by kernel_rfl)) (fun _ _ _ h => h) (Or.inl ⟨by rfl, ?_⟩) ?_ ?_
  rotate_left
  ·intro w'
   go_simp; with_reducible rfl
  rotate_left
  ·simp only [Act.put, q1, q2, q3, i64_w, i32_w]
   rfl
  refine pure_ (i := 52) (N := some 91) (v := ?_) (a' := ?_) #[Y,Y,Y,Y,Y,Y,Y,Y,Y,Y,Y,Y,Y,Y,Y,Y,Y,Y,Y,Y,Y,Y,Y,Y,Y,Y,Y,Y,Y,Y,Y,Y,Y,Y,Y,Y,Y,Y,Y,Y,Y,Y,Y,Y,Y,Y,Y,Y,Y,Y,Z,Y,Y,Z,Z,Z,Z,Z] rfl rfl (any_of HT_.out (by kernel_rfl)) (fun _ _ _ h => h) (Or.inl ⟨by rfl, ?_⟩) ?_ ?_
  rotate_left
  ·intro w'
   go_simp; with_reducible rfl
  rotate_left
  ·simp only [Act.put, q1, q2, q3, i64_w, i32_w]
   rfl
  refine pure_ (i := 53) (N := some 92) (v := ?_) (a' := ?_) #[Y,Y,Y,Y,Y,Y,Y,Y,Y,Y,Y,Y,Y,Y,Y,Y,Y,Y,Y,Y,Y,Y,Y,Y,Y,Y,Y,Y,Y,Y,Y,Y,Y,Y,Y,Y,Y,Y,Y,Y,Y,Y,Y,Y,Y,Y,Y,Y,Y,Y,Z,Y,Y,Y,Z,Z,Z,Z] rfl rfl (any_of HT_.out (by kernel_rfl)) (fun _ _ _ h => h) (Or.inl ⟨by rfl, ?_⟩) ?_ ?_
  rotate_left
  ·intro w'
   go_simp; with_reducible rfl
  rotate_left
  ·simp only [Act.put, q1, q2, q3, i64_w, i32_w]
   rfl
  refine pure_ (i := 54) (N := some 93) (v := ?_) (a' := ?_) #[Y,Y,Y,Y,Y,Y,Y,Y,Y,Y,Y,Y,Y,Y,Y,Y,Y,Y,Y,Y,Y,Y,Y,Y,Y,Y,Y,Y,Y,Y,Y,Y,Y,Y,Y,Y,Y,Y,Y,Y,Y,Y,Y,Y,Y,Y,Y,Y,Y,Y,Z,Y,Y,Y,Y,Z,Z,Z] rfl rfl (any_of HT_.out (by kernel_rfl)) (fun _ _ _ h => h) (Or.inl ⟨by rfl, ?_⟩) ?_ ?_
  rotate_left
  ·intro w'
   go_simp; with_reducible rfl
  rotate_left
  ·simp only [Act.put, q1, q2, q3, i64_w, i32_w]
   rfl
  refine take_ (i := 55) (N := some 94) (v := ?_) (a' := ?_) #[Y,Y,Y,Y,Y,Y,Y,Y,Y,Y,Y,Y,Y,Y,Y,Y,Y,Y,Y,Y,Y,Y,Y,Y,Y,Y,Y,Y,Y,Y,Y,Y,Y,Y,Y,Y,Y,Y,Y,Y,Y,Y,Y,Y,Y,Y,Y,Y,Y,Y,Z,Y,Y,Y,Y,Y,Z,Z] rfl rfl (take_ofW HT_.out HW_.out (by kernel_rfl)) (fun _ _ _ h => h) (Or.inl ⟨by rfl, ?_⟩) hHeld ?_ ?_
  rotate_left
  ·intro w' s0
   go_simp; with_reducible rfl
  rotate_left
  ·simp only [Act.put, q1, q2, q3, i64_w, i32_w]
   rfl
  refine one_ (i := 50) (N := some 89) #[Y,Y,Y,Y,Y,Y,Y,Y,Y,Y,Y,Y,Y,Y,Y,Y,Y,Y,Y,Y,Y,Y,Y,Y,Y,Y,Y,Y,Y,Y,Y,Y,Y,Y,Y,Y,Y,Y,Y,Y,Y,Y,Y,Y,Y,Y,Y,Y,Y,Y,Y,Y,Y,Y,Y,Y,Z,Z] rfl rfl (one_of HT_.out (by kernel_rfl)) (by decide) (fun K hK => ?_)
  refine goes_ Tryz.func12 (by kernel_rfl) rfl #[.string t206] (by rfl) rfl rfl (by (try simp only [List.map_toArray, List.map_cons, List.map_nil]); first | done | rfl | (simp only [List.length_drop, List.length_take]; rfl)) ?_
  with_reducible refine (impl_TopUnit.calls k t206 t217 _ A28.out).mono ?_
  rintro e w37 ⟨rfl, hb⟩
  have HS0_ := (hb.cell (World.block_lt_of_cell? _ _ (hHeld))).trans (hHeld); refine ⟨_, rfl, ?_⟩; have n0_ := m1 (Kd.R_below (by (with_reducible repeat (first | apply rA | apply rB | apply rC)); exact HO209.out) hb)
  have n1_ := m1 (c6 (by repeat (first | (with_reducible first | exact HB.out | apply c1 | apply c2 | apply c3) | exact HB.out)) hb)
  clear HO209 HB; have HO209 := n0_; have HB := n1_; clear n0_ n1_; (try clear hb)
  (try clear hb2)
  (try clear hk)
  (try clear hi)
  refine hK.out _ _ (HS0_) (fun hHeld => ?_)
  clear hK K; refine norm_ (a' := ?_) ?_ ?_; rotate_left
  ·show Act.put _ (some 89) _ = _
   simp only [Act.put, q1, q2, q3, i64_w, i32_w]; rfl
  refine pure_ (i := 56) (N := some 95) (v := ?_) (a' := ?_) #[Y,Y,Y,Y,Y,Y,Y,Y,Y,Y,Y,Y,Y,Y,Y,Y,Y,Y,Y,Y,Y,Y,Y,Y,Y,Y,Y,Y,Y,Y,Y,Y,Y,Y,Y,Y,Y,Y,Y,Y,Y,Y,Y,Y,Y,Y,Y,Y,Y,Y,Y,Y,Y,Y,Y,Y,Y,Z] rfl rfl (any_of HT_.out (by kernel_rfl)) (fun _ _ _ h => h) (Or.inl ⟨by rfl, ?_⟩) ?_ ?_
  rotate_left
  ·intro w'
   go_simp; with_reducible rfl
  rotate_left
  ·simp only [Act.put, q1, q2, q3, i64_w, i32_w]
   rfl
  refine pure_ (i := 57) (N := some 96) (v := ?_) (a' := ?_) #[Y,Y,Y,Y,Y,Y,Y,Y,Y,Y,Y,Y,Y,Y,Y,Y,Y,Y,Y,Y,Y,Y,Y,Y,Y,Y,Y,Y,Y,Y,Y,Y,Y,Y,Y,Y,Y,Y,Y,Y,Y,Y,Y,Y,Y,Y,Y,Y,Y,Y,Y,Y,Y,Y,Y,Y,Y,Y] rfl rfl (any_of HT_.out (by kernel_rfl)) (fun _ _ _ h => h) (Or.inl ⟨by rfl, ?_⟩) ?_ ?_
  rotate_left
  ·intro w'
   go_simp; with_reducible rfl
  rotate_left
  ·simp only [Act.put, q1, q2, q3, i64_w, i32_w]
   rfl
  refine done_ (done_of HT_.out (by kernel_rfl)) ?_
  try go_wp2
  go_meet
  case rel => exact ⟨_, ((t217 != (rd t207 (ji29)))), (by first | rfl | (simp; done) | ((simp only [← hji29] <;> (first | rfl | simp)); done) | (simp [*]; done)), H', ⟨by first | omega | exact Nat.le_refl _⟩, ⟨by (with_reducible repeat (first | apply rA | apply rB | apply rC)); exact HO209.out⟩, ⟨by repeat (first | (with_reducible first | exact HB.out | apply c1 | apply c2 | apply c3) | exact HB.out)⟩⟩
 case rest => as_aux_lemma =>
  clear HC10; try clear c1
  try clear c2
  try clear p2
  try clear q2
  try clear hx2
  try clear c3
  try clear p6
  try clear c9
  try clear c10
  try clear c11
  try clear c12
  try clear c18
  try clear c20
  try clear c20b0
  try clear c20b1
  try clear c21
  try clear c21b0
  try clear c21b1
  try clear p21
  try clear q21
  try clear hx21
  try clear c22
  try clear c22b0
  try clear c22b1
  try clear c23
  try clear c23b0
  try clear c23b1
  try clear c24
  try clear c24b0
  try clear c24b1
  try clear c24b2
  try clear c25
  try clear c25b0
  try clear c25b1
  try clear c27
  try clear c27b0
  try clear c27b1
  try clear c30
  try clear c31
  try clear c31b0
  try clear hx218_0
  try clear p218
  try clear q218
  obtain ⟨kq, x96_9, rfl, HA, HJ9, HO_6, HB⟩ := hcut
  cases kq with
  | zero => exact absurd HA.out (by simp [laws_FnFolds.j0])
  | succ kj9 =>
   have H := HA.out; clear HA; simp only [laws_FnFolds.j0] at H; by_cases c38 : x96_9 = true
   ·subst c38
    have H1 : (some false) = some r := by rw [if_pos rfl] at H; exact H
    clear H; have H := H1; clear H1; exact absurd (Option.some.inj H) (by rw [HR_.out]; decide)
   replace c38 := Bool.eq_false_iff.mpr c38; subst c38; have H1 : (laws_FnFolds.l0 kj9 t206 (t206.size : Int) ji4 t207 t210 t211 t212 t213 (([] : List Int)) t207 (t207.length : Int) 0) = some r := by rw [if_neg (show ¬ (false = true) by decide)] at H; exact H
   clear H; have H := H1; clear H1; obtain ⟨y219, hy219⟩ : ∃ y_ : List Int, y_ = (([] : List Int)) := ⟨_, rfl⟩; replace H : (laws_FnFolds.l0 kj9 t206 (t206.size : Int) ji4 t207 t210 t211 t212 t213 y219 t207 (t207.length : Int) 0) = some r := by first | (rw [hy219]; with_reducible exact H) | (have H2_ := (Option.bind_some _ _).symm.trans H; rw [hy219]; with_reducible exact H2_) | (have H2_ := (Option.bind_some _ _).symm.trans H; with_reducible exact H2_) | with_reducible exact H | (rw [hy219]; exact H) | exact H
   have Ny219 := m1 hy219; clear hy219; have H' := m1 H; clear H; go_wp2_with (first | ((with_reducible refine gate_dst (N := 97) rfl ?_); (try (refine gate_guard (by rfl) ?_; dsimp only)); refine Kd.R_lit (Kd.int .i64) _ 3 ?hg (N := 97) ?hd (xs := ([] : List Int)) (inner := []) (ok := fun _ => True) (okp := fun _ => True) ?hr ?hp (fun _ hk => hk) trivial (Below.refl _ _) (Nat.le_refl _) (by simp) ?_; (case hd => rfl); (case hg => rfl); (case hr => first | (go_simp; done) | (go_simp; rfl)); (case hp => exact (Reps.none _ _)); intro v220 w39 ho40 hb hg_ hnew_; clear hg_ hnew_; (first | rw [← Ny219.out] at ho40 | (simp only [Int.reduceToNat] at ho40; rw [← Ny219.out] at ho40)); have n0_ := m1 (Kd.R_elder' (by (with_reducible repeat (first | apply rA | apply rB | apply rC)); exact HO_6.out) (Kd.R_base ho40) hb); have n1_ := m1 (Kd.R_lower (Kd.R_new' ho40 (Kd.R_lt (by (with_reducible repeat (first | apply rA | apply rB | apply rC)); exact HO_6.out))) (c5 (by repeat (first | (with_reducible first | exact HB.out | apply c1 | apply c2 | apply c3) | exact HB.out)))); have n2_ := m1 (c6 (by repeat (first | (with_reducible first | exact HB.out | apply c1 | apply c2 | apply c3) | exact HB.out)) hb); clear HO_6; clear HB; have HO_6 := n0_; have HO221 := n1_; have HB := n2_; clear n0_ n1_ n2_; clear hb ho40; obtain ⟨Ao41, co41, eo41⟩ := Kd.R_slice HO_6.out; subst eo41))
   go_loopg [11, 100] kj9 (fun kq v11 v100 w' => ∃ (x11_2 : List Int) (x100_2 : Int), v100 = .int .i64 x100_2 ∧ Aside0 (laws_FnFolds.l0 kq t206 (t206.size : Int) ji4 t207 t210 t211 t212 t213 x11_2 t207 (t207.length : Int) x100_2 = some r) ∧ Aside0 (kq ≤ kj9) ∧ Aside0 (Kd.R (Kd.int .i64) 3 w' w.heap.size (fun k_ => some k_ ≠ (v11 : Value).ownBlock) (.slice Ao41 t207.length co41) t207) ∧ Aside0 (Kd.R (Kd.int .i64) 3 w' w.heap.size (fun k_ => some k_ ≠ ((.slice Ao41 t207.length co41) : Value).ownBlock ∧ some k_ ≠ ((.slice Ao41 t207.length co41) : Value).ownBlock) v11 x11_2) ∧ Aside0 (Kd.R (Kd.int .i64) 3 w' w.heap.size (fun k_ => some k_ ≠ (v11 : Value).ownBlock) (.slice Ao41 t207.length co41) t207) ∧ Aside0 (Below w.heap.size w w'))
   case atStart => exact ⟨(y219), (0), (by first | rfl | (simp; done) | (simp [*]; done)), H', ⟨Nat.le_refl _⟩, ⟨by (with_reducible repeat (first | apply rA | apply rB | apply rC)); exact Kd.R_mono HO_6.out (fun _ hk => hk.2)⟩, ⟨by (with_reducible repeat (first | apply rA | apply rB | apply rC)); exact Kd.R_mono HO221.out (fun _ hk => ⟨hk.2, hk.2⟩)⟩, ⟨by (with_reducible repeat (first | apply rA | apply rB | apply rC)); exact Kd.R_mono HO_6.out (fun _ hk => hk.2)⟩, ⟨by repeat (first | (with_reducible first | exact HB.out | apply c1 | apply c2 | apply c3) | exact HB.out)⟩⟩
   case round => as_aux_lemma =>
    clear H'; try clear c1
    try clear c2
    try clear p2
    try clear q2
    try clear hx2
    try clear c3
    try clear p6
    try clear c9
    try clear c10
    try clear c11
    try clear c12
    try clear c18
    try clear c20
    try clear c20b0
    try clear c20b1
    try clear c21
    try clear c21b0
    try clear c21b1
    try clear p21
    try clear q21
    try clear hx21
    try clear c22
    try clear c22b0
    try clear c22b1
    try clear c23
    try clear c23b0
    try clear c23b1
    try clear c24
    try clear c24b0
    try clear c24b1
    try clear c24b2
    try clear c25
    try clear c25b0
    try clear c25b1
    try clear c27
    try clear c27b0
    try clear c27b1
    try clear c30
    try clear c31
    try clear c31b0
    try clear c38
    try clear hx218_0
    try clear p2
    try clear p21
    try clear p218
    try clear p6
    try clear q2
    try clear q21
    try clear q218
    obtain ⟨x11_2, x100_2, rfl, HA, HK2, HO_6, HO_11, HO_98, HB⟩ := hrel
    cases gk with
    | zero => exact absurd HA.out (by simp [laws_FnFolds.l0])
    | succ k2 =>
     have H := HA.out; clear HA; simp only [laws_FnFolds.l0] at H; by_cases c42 : x100_2 < (t207.length : Int)
     rotate_left
     ·rw [if_neg c42] at H
      have c42b0 : decide (x100_2 < (t207.length : Int)) = false := decide_eq_false c42; clear c42; have H' := m1 H; clear H; go_wp2
      go_loopg [14] k2 (fun kq v14 w' => ∃ (x14_3 : Int), v14 = .int .i64 x14_3 ∧ Aside0 (laws_FnFolds.l1 kq t206 (t206.size : Int) ji4 t210 t212 t213 x14_3 = some r) ∧ Aside0 (kq ≤ k2) ∧ Aside0 (Below w.heap.size w w'))
      case atStart => exact ⟨(0), (by first | rfl | (simp; done) | (simp [*]; done)), H', ⟨Nat.le_refl _⟩, ⟨by repeat (first | (with_reducible first | exact HB.out | apply c1 | apply c2 | apply c3) | exact HB.out)⟩⟩
      case round => as_aux_lemma =>
       clear H'; try clear c1
       try clear p2
       try clear q2
       try clear hx2
       try clear qi2
       try clear c4
       try clear c5
       try clear p5
       try clear q5
       try clear hx5
       try clear c6
       try clear p6
       try clear c7
       try clear p7
       try clear q7
       try clear hx7
       try clear qi7
       try clear c13
       try clear p22
       try clear q22
       try clear hx22
       try clear qi22
       try clear c42
       try clear c42b0
       try clear c43
       try clear c44
       try clear c50
       try clear p51
       try clear q51
       try clear hx51
       try clear c52
       try clear c52b0
       try clear c54
       try clear c55
       try clear c62
       try clear c62b0
       try clear c62b1
       try clear c62b2
       try clear p64
       try clear c67
       try clear c68
       try clear c69
       try clear c69b0
       try clear c70
       try clear c70b0
       try clear c71
       try clear c71b0
       try clear p72
       try clear q72
       try clear hx72
       try clear c73
       try clear c73b0
       try clear c73b1
       try clear p74
       try clear q74
       try clear hx74
       try clear qi74
       try clear c75
       try clear c75b0
       try clear c75b1
       try clear c76
       try clear c76b0
       try clear c76b1
       try clear c76b2
       try clear hx227_0
       try clear p2
       try clear p227
       try clear p5
       try clear p51
       try clear p72
       try clear p74
       try clear q227
       try clear q5
       try clear q51
       try clear q72
       try clear q74
       obtain ⟨x14_3, rfl, HA, HK3, HB⟩ := hrel
       cases gk with
       | zero => exact absurd HA.out (by simp [laws_FnFolds.l1])
       | succ k3 =>
        have H := HA.out; clear HA; simp only [laws_FnFolds.l1] at H; by_cases c81 : (wrap64 (x14_3 + 2)) < (t210.size : Int)
        ·rw [if_pos c81] at H
         have c81b0 : decide ((wrap64 (x14_3 + 2)) < (t210.size : Int)) = true := decide_eq_true c81; clear c81; by_cases c82 : 0 ≤ x14_3
         rotate_left
         ·rw [if_neg c82] at H
          exact absurd H (by simp)
         rw [if_pos c82] at H; have c82b0 : decide (0 ≤ x14_3) = true := decide_eq_true c82; clear c82; by_cases c83 : x14_3 < (t210.size : Int)
         rotate_left
         ·rw [if_neg c83] at H
          exact absurd H (by simp)
         rw [if_pos c83] at H; have c83b0 : decide (x14_3 < (t210.size : Int)) = true := decide_eq_true c83; clear c83; obtain ⟨ji85, hji85⟩ : ∃ j_ : Int, (wrap64 (x14_3 + 2)) = j_ := ⟨_, rfl⟩; replace H : (if 0 ≤ (ji85) then (if (bt t210 x14_3) = (bt t210 (ji85)) then (some false) else (laws_FnFolds.l1 k3 t206 (t206.size : Int) ji4 t210 t212 t213 ji85)) else (none)) = some r := by first | (rw [hji85] at H; exact H) | (simp only [hji85] at H ⊢; exact H)
         (try rw [hji85] at c81b0)
         have hji85w : (IntKind.i64.wrap (x14_3 + 2)) = ji85 := (i64_w _).trans hji85; by_cases c86 : 0 ≤ (ji85)
         rotate_left
         ·rw [if_neg c86] at H
          exact absurd H (by simp)
         rw [if_pos c86] at H; have c86b0 : decide (0 ≤ (ji85)) = true := decide_eq_true c86; clear c86; by_cases c88 : (bt t210 x14_3) = (bt t210 (ji85))
         ·rw [if_pos c88] at H
          have c88b0 : ((bt t210 x14_3) == (bt t210 (ji85))) = true := beq_iff_eq.mpr c88; have c88b1 : ((bt t210 x14_3) != (bt t210 (ji85))) = false := bne_eq_false_iff_eq.mpr c88; clear c88; exact absurd (Option.some.inj H) (by rw [HR_.out]; decide)
         rw [if_neg c88] at H; have c88b0 : ((bt t210 x14_3) == (bt t210 (ji85))) = false := beq_eq_false_iff_ne.mpr c88; have c88b1 : ((bt t210 x14_3) != (bt t210 (ji85))) = true := bne_iff_ne.mpr c88; have H' := m1 H; clear H; try go_wp2
         have n0_ := m1 (below_drew1 HB.out); clear HB; have HB := n0_; clear n0_; have p84 : 0 ≤ (x14_3 : Int) := of_decide_eq_true (by first | (with_reducible assumption) | assumption)
         have q84 : x14_3 < (t210.size : Int) := of_decide_eq_true (by first | (with_reducible assumption) | assumption)
         have hx84 := bt_at t210 x14_3; replace p84 := eq_true p84; replace q84 := eq_true q84; have p87 : 0 ≤ ((ji85) : Int) := of_decide_eq_true (by first | (with_reducible assumption) | assumption)
         have q87 : (ji85) < (t210.size : Int) := of_decide_eq_true (by first | (with_reducible assumption) | assumption)
         have hx87 := bt_at t210 (ji85); replace p87 := eq_true p87; replace q87 := eq_true q87; refine start_ (n := 8) (S := fun w' => True) (ds := []) #[Z,Z,Z,Z,Z,Z,Z,Z] (by kernel_rfl) rfl rfl trivial (fun hHeld => ?_); refine with_tabW laws_FnFolds.tab26 laws_FnFolds.bits26 (fun HT_ HW_ => ?_)
         generalize wr.drew = w89 at HB hHeld ⊢
         refine pure_ (i := 0) (N := some 167) (v := ?_) (a' := ?_) #[Y,Z,Z,Z,Z,Z,Z,Z] rfl rfl (any_of HT_.out (by kernel_rfl)) (fun _ _ _ h => h) (Or.inl ⟨by rfl, ?_⟩) ?_ ?_
         rotate_left
         ·intro w'
          go_simp; with_reducible rfl
         rotate_left
         ·simp only [Act.put, q1, q2, q3, i64_w, i32_w]
          rfl
         refine pure_ (i := 1) (N := some 168) (v := ?_) (a' := ?_) #[Y,Y,Z,Z,Z,Z,Z,Z] rfl rfl (any_of HT_.out (by kernel_rfl)) (fun _ _ _ h => h) (Or.inl ⟨by rfl, ?_⟩) ?_ ?_
         rotate_left
         ·intro w'
          go_simp; with_reducible rfl
         rotate_left
         ·simp only [Act.put, q1, q2, q3, i64_w, i32_w]
          rfl
         refine pure_ (i := 3) (N := some 170) (v := ?_) (a' := ?_) #[Y,Y,Z,Y,Z,Z,Z,Z] rfl rfl (any_of HT_.out (by kernel_rfl)) (fun _ _ _ h => h) (Or.inl ⟨by rfl, ?_⟩) ?_ ?_
         rotate_left
         ·intro w'
          go_simp; with_reducible rfl
         rotate_left
         ·simp only [Act.put, q1, q2, q3, i64_w, i32_w]
          rfl
         refine pure_ (i := 4) (N := some 171) (v := ?_) (a' := ?_) #[Y,Y,Z,Y,Y,Z,Z,Z] rfl rfl (any_of HT_.out (by kernel_rfl)) (fun _ _ _ h => h) (Or.inl ⟨by rfl, ?_⟩) ?_ ?_
         rotate_left
         ·intro w'
          go_simp; with_reducible rfl
         rotate_left
         ·simp only [Act.put, q1, q2, q3, i64_w, i32_w]
          rfl
         refine pure_ (i := 5) (N := some 172) (v := ?_) (a' := ?_) #[Y,Y,Z,Y,Y,Y,Z,Z] rfl rfl (any_of HT_.out (by kernel_rfl)) (fun _ _ _ h => h) (Or.inl ⟨by rfl, ?_⟩) ?_ ?_
         rotate_left
         ·intro w'
          go_simp; with_reducible rfl
         rotate_left
         ·simp only [Act.put, q1, q2, q3, i64_w, i32_w]
          rfl
         refine take_ (i := 2) (N := some 169) (v := ?_) (a' := ?_) #[Y,Y,Y,Y,Y,Y,Z,Z] rfl rfl (take_ofW HT_.out HW_.out (by kernel_rfl)) (fun _ _ _ h => h) (Or.inl ⟨by rfl, ?_⟩) hHeld ?_ ?_
         rotate_left
         ·intro w' _
          go_simp; with_reducible rfl
         rotate_left
         ·simp only [Act.put, q1, q2, q3, i64_w, i32_w]
          rfl
         refine take_ (i := 6) (N := some 173) (v := ?_) (a' := ?_) #[Y,Y,Y,Y,Y,Y,Y,Z] rfl rfl (take_ofW HT_.out HW_.out (by kernel_rfl)) (fun _ _ _ h => h) (Or.inl ⟨by rfl, ?_⟩) hHeld ?_ ?_
         rotate_left
         ·intro w' _
          go_simp; with_reducible rfl
         rotate_left
         ·simp only [Act.put, q1, q2, q3, i64_w, i32_w]
          rfl
         refine pure_ (i := 7) (N := some 174) (v := ?_) (a' := ?_) #[Y,Y,Y,Y,Y,Y,Y,Y] rfl rfl (any_of HT_.out (by kernel_rfl)) (fun _ _ _ h => h) (Or.inl ⟨by rfl, ?_⟩) ?_ ?_
         rotate_left
         ·intro w'
          go_simp; with_reducible rfl
         rotate_left
         ·simp only [Act.put, q1, q2, q3, i64_w, i32_w]
          rfl
         refine done_ (done_of HT_.out (by kernel_rfl)) ?_
         try go_wp2
         go_roundg k3
         case measure => have := HJ9.out; have := HK2.out; have := HK3.out; omega
         case rel => exact ⟨(ji85), (by first | rfl | (simp; done) | ((simp only [← hji85] <;> (first | rfl | simp)); done) | (simp [*]; done)), H', ⟨by have := HJ9.out; have := HK2.out; have := HK3.out; omega⟩, ⟨by repeat (first | (with_reducible first | exact HB.out | apply c1 | apply c2 | apply c3) | exact HB.out)⟩⟩
        rw [if_neg c81] at H; have c81b0 : decide ((wrap64 (x14_3 + 2)) < (t210.size : Int)) = false := decide_eq_false c81; clear c81; have H' := m1 H; clear H; go_wp2
        go_loopg [15] k3 (fun kq v15 w' => ∃ (x15_4 : Int), v15 = .int .i64 x15_4 ∧ Aside0 (laws_FnFolds.l2 kq t206 (t206.size : Int) ji4 t210 t212 t213 x15_4 = some r) ∧ Aside0 (kq ≤ k3) ∧ Aside0 (Below w.heap.size w w'))
        case atStart => exact ⟨(0), (by first | rfl | (simp; done) | (simp [*]; done)), H', ⟨Nat.le_refl _⟩, ⟨by repeat (first | (with_reducible first | exact HB.out | apply c1 | apply c2 | apply c3) | exact HB.out)⟩⟩
        case round => as_aux_lemma =>
         clear H'; try clear c1
         try clear p2
         try clear q2
         try clear hx2
         try clear qi2
         try clear c4
         try clear c5
         try clear p5
         try clear q5
         try clear hx5
         try clear c6
         try clear p6
         try clear c7
         try clear p7
         try clear q7
         try clear hx7
         try clear qi7
         try clear c8
         try clear p8
         try clear q8
         try clear hx8
         try clear c13
         try clear p22
         try clear q22
         try clear hx22
         try clear qi22
         try clear c42
         try clear c42b0
         try clear c43
         try clear c44
         try clear c50
         try clear p51
         try clear q51
         try clear hx51
         try clear c52
         try clear c52b0
         try clear c54
         try clear c55
         try clear c62
         try clear c62b0
         try clear c62b1
         try clear c62b2
         try clear p64
         try clear c67
         try clear c68
         try clear c69
         try clear c69b0
         try clear c70
         try clear c70b0
         try clear c71
         try clear c71b0
         try clear p72
         try clear q72
         try clear hx72
         try clear c73
         try clear c73b0
         try clear c73b1
         try clear p74
         try clear q74
         try clear hx74
         try clear qi74
         try clear c75
         try clear c75b0
         try clear c75b1
         try clear c76
         try clear c76b0
         try clear c76b1
         try clear c76b2
         try clear c81
         try clear c81b0
         try clear c82
         try clear c82b0
         try clear c83
         try clear c83b0
         try clear p84
         try clear q84
         try clear hx84
         try clear c86
         try clear c86b0
         try clear p87
         try clear q87
         try clear hx87
         try clear c88
         try clear c88b0
         try clear c88b1
         try clear hx227_0
         try clear p2
         try clear p22
         try clear p227
         try clear p5
         try clear p51
         try clear p6
         try clear p64
         try clear p7
         try clear p72
         try clear p74
         try clear p84
         try clear p87
         try clear q2
         try clear q22
         try clear q227
         try clear q5
         try clear q51
         try clear q7
         try clear q72
         try clear q74
         try clear q84
         try clear q87
         obtain ⟨x15_4, rfl, HA, HK4, HB⟩ := hrel
         cases gk with
         | zero => exact absurd HA.out (by simp [laws_FnFolds.l2])
         | succ k4 =>
          have H := HA.out; clear HA; simp only [laws_FnFolds.l2] at H; by_cases c90 : x15_4 < (t210.size : Int)
          ·rw [if_pos c90] at H
           have c90b0 : decide (x15_4 < (t210.size : Int)) = true := decide_eq_true c90; clear c90; by_cases c91 : 0 ≤ x15_4
           rotate_left
           ·rw [if_neg c91] at H
            exact absurd H (by simp)
           rw [if_pos c91] at H; have c91b0 : decide (0 ≤ x15_4) = true := decide_eq_true c91; clear c91; obtain ⟨ji93, hji93⟩ : ∃ j_ : Int, (wrap64 ((wrap64 ((t213.size : Int) - 1)) - x15_4)) = j_ := ⟨_, rfl⟩; replace H : (if 0 ≤ (ji93) then (if (ji93) < (t213.size : Int) then (if (bt t210 x15_4) = (bt t213 (ji93)) then (if (bt t210 x15_4) = 118 then (laws_FnFolds.l2 k4 t206 (t206.size : Int) ji4 t210 t212 t213 (wrap64 (x15_4 + 1))) else (if (bt t210 x15_4) = 109 then (laws_FnFolds.l2 k4 t206 (t206.size : Int) ji4 t210 t212 t213 (wrap64 (x15_4 + 1))) else (some false))) else (some false)) else (none)) else (none)) = some r := by first | (rw [hji93] at H; exact H) | (simp only [hji93] at H ⊢; exact H)
           have hji93w : (IntKind.i64.wrap ((wrap64 ((t213.size : Int) - 1)) - x15_4)) = ji93 := (i64_w _).trans hji93; by_cases c94 : 0 ≤ (ji93)
           rotate_left
           ·rw [if_neg c94] at H
            exact absurd H (by simp)
           rw [if_pos c94] at H; have c94b0 : decide (0 ≤ (ji93)) = true := decide_eq_true c94; clear c94; by_cases c95 : (ji93) < (t213.size : Int)
           rotate_left
           ·rw [if_neg c95] at H
            exact absurd H (by simp)
           rw [if_pos c95] at H; have c95b0 : decide ((ji93) < (t213.size : Int)) = true := decide_eq_true c95; clear c95; by_cases c97 : (bt t210 x15_4) = (bt t213 (ji93))
           rotate_left
           ·rw [if_neg c97] at H
            have c97b0 : ((bt t210 x15_4) == (bt t213 (ji93))) = false := beq_eq_false_iff_ne.mpr c97; have c97b1 : ((bt t210 x15_4) != (bt t213 (ji93))) = true := bne_iff_ne.mpr c97; exact absurd (Option.some.inj H) (by rw [HR_.out]; decide)
           rw [if_pos c97] at H; have c97b0 : ((bt t210 x15_4) == (bt t213 (ji93))) = true := beq_iff_eq.mpr c97; have c97b1 : ((bt t210 x15_4) != (bt t213 (ji93))) = false := bne_eq_false_iff_eq.mpr c97; clear c97; by_cases c99 : (bt t210 x15_4) = 118
           ·rw [if_pos c99] at H
            have c99b0 : ((bt t210 x15_4) == 118) = true := beq_iff_eq.mpr c99; have c99b1 : ((bt t210 x15_4) != 118) = false := bne_eq_false_iff_eq.mpr c99; clear c99; have H' := m1 H; clear H; try go_wp2
            have n0_ := m1 (below_drew1 HB.out); clear HB; have HB := n0_; clear n0_; have p92 : 0 ≤ (x15_4 : Int) := of_decide_eq_true (by first | (with_reducible assumption) | assumption)
            have q92 : x15_4 < (t210.size : Int) := of_decide_eq_true (by first | (with_reducible assumption) | assumption)
            have hx92 := bt_at t210 x15_4; replace p92 := eq_true p92; replace q92 := eq_true q92; have p96 : 0 ≤ ((ji93) : Int) := of_decide_eq_true (by first | (with_reducible assumption) | assumption)
            have q96 : (ji93) < (t213.size : Int) := of_decide_eq_true (by first | (with_reducible assumption) | assumption)
            have hx96 := bt_at t213 (ji93); replace p96 := eq_true p96; replace q96 := eq_true q96; have p98 : 0 ≤ (x15_4 : Int) := of_decide_eq_true (by first | (with_reducible assumption) | assumption)
            have q98 : x15_4 < (t210.size : Int) := of_decide_eq_true (by first | (with_reducible assumption) | assumption)
            have hx98 := bt_at t210 x15_4; replace p98 := eq_true p98; replace q98 := eq_true q98; refine start_ (n := 23) (S := fun w' => True) (ds := []) #[Z,Z,Z,Z,Z,Z,Z,Z,Z,Z,Z,Z,Z,Z,Z,Z,Z,Z,Z,Z,Z,Z,Z] (by kernel_rfl) rfl rfl trivial (fun hHeld => ?_); refine with_tabW laws_FnFolds.tab31 laws_FnFolds.bits31 (fun HT_ HW_ => ?_)
            generalize wr.drew = w100 at HB hHeld ⊢
            refine pure_ (i := 0) (N := some 181) (v := ?_) (a' := ?_) #[Y,Z,Z,Z,Z,Z,Z,Z,Z,Z,Z,Z,Z,Z,Z,Z,Z,Z,Z,Z,Z,Z,Z] rfl rfl (any_of HT_.out (by kernel_rfl)) (fun _ _ _ h => h) (Or.inl ⟨by rfl, ?_⟩) ?_ ?_
            rotate_left
            ·intro w'
             go_simp; with_reducible rfl
            rotate_left
            ·simp only [Act.put, q1, q2, q3, i64_w, i32_w]
             rfl
            refine pure_ (i := 1) (N := some 182) (v := ?_) (a' := ?_) #[Y,Y,Z,Z,Z,Z,Z,Z,Z,Z,Z,Z,Z,Z,Z,Z,Z,Z,Z,Z,Z,Z,Z] rfl rfl (any_of HT_.out (by kernel_rfl)) (fun _ _ _ h => h) (Or.inl ⟨by rfl, ?_⟩) ?_ ?_
            rotate_left
            ·intro w'
             go_simp; with_reducible rfl
            rotate_left
            ·simp only [Act.put, q1, q2, q3, i64_w, i32_w]
             rfl
            refine pure_ (i := 3) (N := some 184) (v := ?_) (a' := ?_) #[Y,Y,Z,Y,Z,Z,Z,Z,Z,Z,Z,Z,Z,Z,Z,Z,Z,Z,Z,Z,Z,Z,Z] rfl rfl (any_of HT_.out (by kernel_rfl)) (fun _ _ _ h => h) (Or.inl ⟨by rfl, ?_⟩) ?_ ?_
            rotate_left
            ·intro w'
             go_simp; with_reducible rfl
            rotate_left
            ·simp only [Act.put, q1, q2, q3, i64_w, i32_w]
             rfl
            refine pure_ (i := 4) (N := some 185) (v := ?_) (a' := ?_) #[Y,Y,Z,Y,Y,Z,Z,Z,Z,Z,Z,Z,Z,Z,Z,Z,Z,Z,Z,Z,Z,Z,Z] rfl rfl (any_of HT_.out (by kernel_rfl)) (fun _ _ _ h => h) (Or.inl ⟨by rfl, ?_⟩) ?_ ?_
            rotate_left
            ·intro w'
             go_simp; with_reducible rfl
            rotate_left
            ·simp only [Act.put, q1, q2, q3, i64_w, i32_w]
             rfl
            refine pure_ (i := 5) (N := some 186) (v := ?_) (a' := ?_) #[Y,Y,Z,Y,Y,Y,Z,Z,Z,Z,Z,Z,Z,Z,Z,Z,Z,Z,Z,Z,Z,Z,Z] rfl rfl (any_of HT_.out (by kernel_rfl)) (fun _ _ _ h => h) (Or.inl ⟨by rfl, ?_⟩) ?_ ?_
            rotate_left
            ·intro w'
             go_simp; with_reducible rfl
            rotate_left
            ·simp only [Act.put, q1, q2, q3, i64_w, i32_w]
             rfl
            refine pure_ (i := 6) (N := some 187) (v := ?_) (a' := ?_) #[Y,Y,Z,Y,Y,Y,Y,Z,Z,Z,Z,Z,Z,Z,Z,Z,Z,Z,Z,Z,Z,Z,Z] rfl rfl (any_of HT_.out (by kernel_rfl)) (fun _ _ _ h => h) (Or.inl ⟨by rfl, ?_⟩) ?_ ?_
            rotate_left
            ·intro w'
             go_simp; with_reducible rfl
            rotate_left
            ·simp only [Act.put, q1, q2, q3, i64_w, i32_w]
             rfl
            refine pure_ (i := 7) (N := some 188) (v := ?_) (a' := ?_) #[Y,Y,Z,Y,Y,Y,Y,Y,Z,Z,Z,Z,Z,Z,Z,Z,Z,Z,Z,Z,Z,Z,Z] rfl rfl (any_of HT_.out (by kernel_rfl)) (fun _ _ _ h => h) (Or.inl ⟨by rfl, ?_⟩) ?_ ?_
            rotate_left
            ·intro w'
             go_simp; with_reducible rfl
            rotate_left
            ·simp only [Act.put, q1, q2, q3, i64_w, i32_w]
             rfl
            refine pure_ (i := 8) (N := some 189) (v := ?_) (a' := ?_) #[Y,Y,Z,Y,Y,Y,Y,Y,Y,Z,Z,Z,Z,Z,Z,Z,Z,Z,Z,Z,Z,Z,Z] rfl rfl (any_of HT_.out (by kernel_rfl)) (fun _ _ _ h => h) (Or.inl ⟨by rfl, ?_⟩) ?_ ?_
            rotate_left
            ·intro w'
             go_simp; with_reducible rfl
            rotate_left
            ·simp only [Act.put, q1, q2, q3, i64_w, i32_w]
             rfl
            refine take_ (i := 2) (N := some 183) (v := ?_) (a' := ?_) #[Y,Y,Y,Y,Y,Y,Y,Y,Y,Z,Z,Z,Z,Z,Z,Z,Z,Z,Z,Z,Z,Z,Z] rfl rfl (take_ofW HT_.out HW_.out (by kernel_rfl)) (fun _ _ _ h => h) (Or.inl ⟨by rfl, ?_⟩) hHeld ?_ ?_
            rotate_left
            ·intro w' _
             go_simp; with_reducible rfl
            rotate_left
            ·simp only [Act.put, q1, q2, q3, i64_w, i32_w]
             rfl
            refine take_ (i := 9) (N := some 190) (v := ?_) (a' := ?_) #[Y,Y,Y,Y,Y,Y,Y,Y,Y,Y,Z,Z,Z,Z,Z,Z,Z,Z,Z,Z,Z,Z,Z] rfl rfl (take_ofW HT_.out HW_.out (by kernel_rfl)) (fun _ _ _ h => h) (Or.inl ⟨by rfl, ?_⟩) hHeld ?_ ?_
            rotate_left
            ·intro w' _
             go_simp; with_reducible rfl
            rotate_left
            ·simp only [Act.put, q1, q2, q3, i64_w, i32_w]
             rfl
            refine pure_ (i := 10) (N := some 191) (v := ?_) (a' := ?_) #[Y,Y,Y,Y,Y,Y,Y,Y,Y,Y,Y,Z,Z,Z,Z,Z,Z,Z,Z,Z,Z,Z,Z] rfl rfl (any_of HT_.out (by kernel_rfl)) (fun _ _ _ h => h) (Or.inl ⟨by rfl, ?_⟩) ?_ ?_
            rotate_left
            ·intro w'
             go_simp; with_reducible rfl
            rotate_left
            ·simp only [Act.put, q1, q2, q3, i64_w, i32_w]
             rfl
            refine pure_ (i := 11) (N := some 192) (v := ?_) (a' := ?_) #[Y,Y,Y,Y,Y,Y,Y,Y,Y,Y,Y,Y,Z,Z,Z,Z,Z,Z,Z,Z,Z,Z,Z] rfl rfl (any_of HT_.out (by kernel_rfl)) (fun _ _ _ h => h) (Or.inl ⟨by rfl, ?_⟩) ?_ ?_
            rotate_left
            ·intro w'
             go_simp; with_reducible rfl
            rotate_left
            ·simp only [Act.put, q1, q2, q3, i64_w, i32_w]
             rfl
            refine pure_ (i := 12) (N := some 193) (v := ?_) (a' := ?_) #[Y,Y,Y,Y,Y,Y,Y,Y,Y,Y,Y,Y,Y,Z,Z,Z,Z,Z,Z,Z,Z,Z,Z] rfl rfl (any_of HT_.out (by kernel_rfl)) (fun _ _ _ h => h) (Or.inl ⟨by rfl, ?_⟩) ?_ ?_
            rotate_left
            ·intro w'
             go_simp; with_reducible rfl
            rotate_left
            ·simp only [Act.put, q1, q2, q3, i64_w, i32_w]
             rfl
            refine pure_ (i := 13) (N := some 194) (v := ?_) (a' := ?_) #[Y,Y,Y,Y,Y,Y,Y,Y,Y,Y,Y,Y,Y,Y,Z,Z,Z,Z,Z,Z,Z,Z,Z] rfl rfl (any_of HT_.out (by kernel_rfl)) (fun _ _ _ h => h) (Or.inl ⟨by rfl, ?_⟩) ?_ ?_
            rotate_left
            ·intro w'
             go_simp; with_reducible rfl
            rotate_left
            ·simp only [Act.put, q1, q2, q3, i64_w, i32_w]
             rfl
            refine take_ (i := 14) (N := some 195) (v := ?_) (a' := ?_) #[Y,Y,Y,Y,Y,Y,Y,Y,Y,Y,Y,Y,Y,Y,Y,Z,Z,Z,Z,Z,Z,Z,Z] rfl rfl (take_ofW HT_.out HW_.out (by kernel_rfl)) (fun _ _ _ h => h) (Or.inl ⟨by rfl, ?_⟩) hHeld ?_ ?_
            rotate_left
            ·intro w' _
             go_simp; with_reducible rfl
            rotate_left
            ·simp only [Act.put, q1, q2, q3, i64_w, i32_w]
             rfl
            refine pure_ (i := 15) (N := some 196) (v := ?_) (a' := ?_) #[Y,Y,Y,Y,Y,Y,Y,Y,Y,Y,Y,Y,Y,Y,Y,Y,Z,Z,Z,Z,Z,Z,Z] rfl rfl (any_of HT_.out (by kernel_rfl)) (fun _ _ _ h => h) (Or.inl ⟨by rfl, ?_⟩) ?_ ?_
            rotate_left
            ·intro w'
             go_simp; with_reducible rfl
            rotate_left
            ·simp only [Act.put, q1, q2, q3, i64_w, i32_w]
             rfl
            refine pure_ (i := 16) (N := some 197) (v := ?_) (a' := ?_) #[Y,Y,Y,Y,Y,Y,Y,Y,Y,Y,Y,Y,Y,Y,Y,Y,Y,Z,Z,Z,Z,Z,Z] rfl rfl (any_of HT_.out (by kernel_rfl)) (fun _ _ _ h => h) (Or.inl ⟨by rfl, ?_⟩) ?_ ?_
            rotate_left
            ·intro w'
             go_simp; with_reducible rfl
            rotate_left
            ·simp only [Act.put, q1, q2, q3, i64_w, i32_w]
             rfl
            refine pure_ (i := 17) (N := some 198) (v := undef) (a' := ?_) #[Y,Y,Y,Y,Y,Y,Y,Y,Y,Y,Y,Y,Y,Y,Y,Y,Y,Y,Z,Z,Z,Z,Z] rfl rfl (any_of HT_.out (by kernel_rfl)) (fun _ _ _ h => h) (Or.inr ⟨by rfl, rfl⟩) ?_ ?_
            rotate_left
            ·simp only [Act.put, q1, q2, q3, i64_w, i32_w]
             rfl
            refine pure_ (i := 18) (N := some 199) (v := undef) (a' := ?_) #[Y,Y,Y,Y,Y,Y,Y,Y,Y,Y,Y,Y,Y,Y,Y,Y,Y,Y,Y,Z,Z,Z,Z] rfl rfl (any_of HT_.out (by kernel_rfl)) (fun _ _ _ h => h) (Or.inr ⟨by rfl, rfl⟩) ?_ ?_
            rotate_left
            ·simp only [Act.put, q1, q2, q3, i64_w, i32_w]
             rfl
            refine pure_ (i := 19) (N := some 200) (v := undef) (a' := ?_) #[Y,Y,Y,Y,Y,Y,Y,Y,Y,Y,Y,Y,Y,Y,Y,Y,Y,Y,Y,Y,Z,Z,Z] rfl rfl (any_of HT_.out (by kernel_rfl)) (fun _ _ _ h => h) (Or.inr ⟨by rfl, rfl⟩) ?_ ?_
            rotate_left
            ·simp only [Act.put, q1, q2, q3, i64_w, i32_w]
             rfl
            refine pure_ (i := 20) (N := some 201) (v := undef) (a' := ?_) #[Y,Y,Y,Y,Y,Y,Y,Y,Y,Y,Y,Y,Y,Y,Y,Y,Y,Y,Y,Y,Y,Z,Z] rfl rfl (any_of HT_.out (by kernel_rfl)) (fun _ _ _ h => h) (Or.inr ⟨by rfl, rfl⟩) ?_ ?_
            rotate_left
            ·simp only [Act.put, q1, q2, q3, i64_w, i32_w]
             rfl
            refine pure_ (i := 21) (N := some 202) (v := ?_) (a' := ?_) #[Y,Y,Y,Y,Y,Y,Y,Y,Y,Y,Y,Y,Y,Y,Y,Y,Y,Y,Y,Y,Y,Y,Z] rfl rfl (any_of HT_.out (by kernel_rfl)) (fun _ _ _ h => h) (Or.inl ⟨by rfl, ?_⟩) ?_ ?_
            rotate_left
            ·intro w'
             go_simp; with_reducible rfl
            rotate_left
            ·simp only [Act.put, q1, q2, q3, i64_w, i32_w]
             rfl
            refine pure_ (i := 22) (N := some 203) (v := ?_) (a' := ?_) #[Y,Y,Y,Y,Y,Y,Y,Y,Y,Y,Y,Y,Y,Y,Y,Y,Y,Y,Y,Y,Y,Y,Y] rfl rfl (any_of HT_.out (by kernel_rfl)) (fun _ _ _ h => h) (Or.inl ⟨by rfl, ?_⟩) ?_ ?_
            rotate_left
            ·intro w'
             go_simp; with_reducible rfl
            rotate_left
            ·simp only [Act.put, q1, q2, q3, i64_w, i32_w]
             rfl
            refine done_ (done_of HT_.out (by kernel_rfl)) ?_
            try go_wp2
            go_roundg k4
            case measure => have := HJ9.out; have := HK2.out; have := HK3.out; have := HK4.out; omega
            case rel => exact ⟨(wrap64 (x15_4 + 1)), (by first | rfl | (simp; done) | (simp [*]; done)), H', ⟨by have := HJ9.out; have := HK2.out; have := HK3.out; have := HK4.out; omega⟩, ⟨by repeat (first | (with_reducible first | exact HB.out | apply c1 | apply c2 | apply c3) | exact HB.out)⟩⟩
           rw [if_neg c99] at H; have c99b0 : ((bt t210 x15_4) == 118) = false := beq_eq_false_iff_ne.mpr c99; have c99b1 : ((bt t210 x15_4) != 118) = true := bne_iff_ne.mpr c99; by_cases c102 : (bt t210 x15_4) = 109
           rotate_left
           ·rw [if_neg c102] at H
            have c102b0 : ((bt t210 x15_4) == 109) = false := beq_eq_false_iff_ne.mpr c102; have c102b1 : ((bt t210 x15_4) != 109) = true := bne_iff_ne.mpr c102; exact absurd (Option.some.inj H) (by rw [HR_.out]; decide)
           rw [if_pos c102] at H; have c102b0 : ((bt t210 x15_4) == 109) = true := beq_iff_eq.mpr c102; have c102b1 : ((bt t210 x15_4) != 109) = false := bne_eq_false_iff_eq.mpr c102; clear c102; have H' := m1 H; clear H; try go_wp2
           have n0_ := m1 (below_drew1 HB.out); clear HB; have HB := n0_; clear n0_; have p92 : 0 ≤ (x15_4 : Int) := of_decide_eq_true (by first | (with_reducible assumption) | assumption)
           have q92 : x15_4 < (t210.size : Int) := of_decide_eq_true (by first | (with_reducible assumption) | assumption)
           have hx92 := bt_at t210 x15_4; replace p92 := eq_true p92; replace q92 := eq_true q92; have p96 : 0 ≤ ((ji93) : Int) := of_decide_eq_true (by first | (with_reducible assumption) | assumption)
           have q96 : (ji93) < (t213.size : Int) := of_decide_eq_true (by first | (with_reducible assumption) | assumption)
           have hx96 := bt_at t213 (ji93); replace p96 := eq_true p96; replace q96 := eq_true q96; have p98 : 0 ≤ (x15_4 : Int) := of_decide_eq_true (by first | (with_reducible assumption) | assumption)
           have q98 : x15_4 < (t210.size : Int) := of_decide_eq_true (by first | (with_reducible assumption) | assumption)
           have hx98 := bt_at t210 x15_4; replace p98 := eq_true p98; replace q98 := eq_true q98; have p101 : 0 ≤ (x15_4 : Int) := of_decide_eq_true (by first | (with_reducible assumption) | assumption)
           have q101 : x15_4 < (t210.size : Int) := of_decide_eq_true (by first | (with_reducible assumption) | assumption)
           have hx101 := bt_at t210 x15_4; replace p101 := eq_true p101; replace q101 := eq_true q101; refine start_ (n := 23) (S := fun w' => True) (ds := []) #[Z,Z,Z,Z,Z,Z,Z,Z,Z,Z,Z,Z,Z,Z,Z,Z,Z,Z,Z,Z,Z,Z,Z] (by kernel_rfl) rfl rfl trivial (fun hHeld => ?_); refine with_tabW laws_FnFolds.tab31 laws_FnFolds.bits31 (fun HT_ HW_ => ?_)
           generalize wr.drew = w103 at HB hHeld ⊢
           refine pure_ (i := 0) (N := some 181) (v := ?_) (a' := ?_) #[Y,Z,Z,Z,Z,Z,Z,Z,Z,Z,Z,Z,Z,Z,Z,Z,Z,Z,Z,Z,Z,Z,Z] rfl rfl (any_of HT_.out (by kernel_rfl)) (fun _ _ _ h => h) (Or.inl ⟨by rfl, ?_⟩) ?_ ?_
           rotate_left
           ·intro w'
            go_simp; with_reducible rfl
           rotate_left
           ·simp only [Act.put, q1, q2, q3, i64_w, i32_w]
            rfl
           refine pure_ (i := 1) (N := some 182) (v := ?_) (a' := ?_) #[Y,Y,Z,Z,Z,Z,Z,Z,Z,Z,Z,Z,Z,Z,Z,Z,Z,Z,Z,Z,Z,Z,Z] rfl rfl (any_of HT_.out (by kernel_rfl)) (fun _ _ _ h => h) (Or.inl ⟨by rfl, ?_⟩) ?_ ?_
           rotate_left
           ·intro w'
            go_simp; with_reducible rfl
           rotate_left
           ·simp only [Act.put, q1, q2, q3, i64_w, i32_w]
            rfl
           refine pure_ (i := 3) (N := some 184) (v := ?_) (a' := ?_) #[Y,Y,Z,Y,Z,Z,Z,Z,Z,Z,Z,Z,Z,Z,Z,Z,Z,Z,Z,Z,Z,Z,Z] rfl rfl (any_of HT_.out (by kernel_rfl)) (fun _ _ _ h => h) (Or.inl ⟨by rfl, ?_⟩) ?_ ?_
           rotate_left
           ·intro w'
            go_simp; with_reducible rfl
           rotate_left
           ·simp only [Act.put, q1, q2, q3, i64_w, i32_w]
            rfl
           refine pure_ (i := 4) (N := some 185) (v := ?_) (a' := ?_) #[Y,Y,Z,Y,Y,Z,Z,Z,Z,Z,Z,Z,Z,Z,Z,Z,Z,Z,Z,Z,Z,Z,Z] rfl rfl (any_of HT_.out (by kernel_rfl)) (fun _ _ _ h => h) (Or.inl ⟨by rfl, ?_⟩) ?_ ?_
           rotate_left
           ·intro w'
            go_simp; with_reducible rfl
           rotate_left
           ·simp only [Act.put, q1, q2, q3, i64_w, i32_w]
            rfl
           refine pure_ (i := 5) (N := some 186) (v := ?_) (a' := ?_) #[Y,Y,Z,Y,Y,Y,Z,Z,Z,Z,Z,Z,Z,Z,Z,Z,Z,Z,Z,Z,Z,Z,Z] rfl rfl (any_of HT_.out (by kernel_rfl)) (fun _ _ _ h => h) (Or.inl ⟨by rfl, ?_⟩) ?_ ?_
           rotate_left
           ·intro w'
            go_simp; with_reducible rfl
           rotate_left
           ·simp only [Act.put, q1, q2, q3, i64_w, i32_w]
            rfl
           refine pure_ (i := 6) (N := some 187) (v := ?_) (a' := ?_) #[Y,Y,Z,Y,Y,Y,Y,Z,Z,Z,Z,Z,Z,Z,Z,Z,Z,Z,Z,Z,Z,Z,Z] rfl rfl (any_of HT_.out (by kernel_rfl)) (fun _ _ _ h => h) (Or.inl ⟨by rfl, ?_⟩) ?_ ?_
           rotate_left
           ·intro w'
            go_simp; with_reducible rfl
           rotate_left
           ·simp only [Act.put, q1, q2, q3, i64_w, i32_w]
            rfl
           refine pure_ (i := 7) (N := some 188) (v := ?_) (a' := ?_) #[Y,Y,Z,Y,Y,Y,Y,Y,Z,Z,Z,Z,Z,Z,Z,Z,Z,Z,Z,Z,Z,Z,Z] rfl rfl (any_of HT_.out (by kernel_rfl)) (fun _ _ _ h => h) (Or.inl ⟨by rfl, ?_⟩) ?_ ?_
           rotate_left
           ·intro w'
            go_simp; with_reducible rfl
           rotate_left
           ·simp only [Act.put, q1, q2, q3, i64_w, i32_w]
            rfl
           refine pure_ (i := 8) (N := some 189) (v := ?_) (a' := ?_) #[Y,Y,Z,Y,Y,Y,Y,Y,Y,Z,Z,Z,Z,Z,Z,Z,Z,Z,Z,Z,Z,Z,Z] rfl rfl (any_of HT_.out (by kernel_rfl)) (fun _ _ _ h => h) (Or.inl ⟨by rfl, ?_⟩) ?_ ?_
           rotate_left
           ·intro w'
            go_simp; with_reducible rfl
           rotate_left
           ·simp only [Act.put, q1, q2, q3, i64_w, i32_w]
            rfl
           refine take_ (i := 2) (N := some 183) (v := ?_) (a' := ?_) #[Y,Y,Y,Y,Y,Y,Y,Y,Y,Z,Z,Z,Z,Z,Z,Z,Z,Z,Z,Z,Z,Z,Z] rfl rfl (take_ofW HT_.out HW_.out (by kernel_rfl)) (fun _ _ _ h => h) (Or.inl ⟨by rfl, ?_⟩) hHeld ?_ ?_
           rotate_left
           ·intro w' _
            go_simp; with_reducible rfl
           rotate_left
           ·simp only [Act.put, q1, q2, q3, i64_w, i32_w]
            rfl
           refine take_ (i := 9) (N := some 190) (v := ?_) (a' := ?_) #[Y,Y,Y,Y,Y,Y,Y,Y,Y,Y,Z,Z,Z,Z,Z,Z,Z,Z,Z,Z,Z,Z,Z] rfl rfl (take_ofW HT_.out HW_.out (by kernel_rfl)) (fun _ _ _ h => h) (Or.inl ⟨by rfl, ?_⟩) hHeld ?_ ?_
           rotate_left
           ·intro w' _
            go_simp; with_reducible rfl
           rotate_left
           ·simp only [Act.put, q1, q2, q3, i64_w, i32_w]
            rfl
           refine pure_ (i := 10) (N := some 191) (v := ?_) (a' := ?_) #[Y,Y,Y,Y,Y,Y,Y,Y,Y,Y,Y,Z,Z,Z,Z,Z,Z,Z,Z,Z,Z,Z,Z] rfl rfl (any_of HT_.out (by kernel_rfl)) (fun _ _ _ h => h) (Or.inl ⟨by rfl, ?_⟩) ?_ ?_
           rotate_left
           ·intro w'
            go_simp; with_reducible rfl
           rotate_left
           ·simp only [Act.put, q1, q2, q3, i64_w, i32_w]
            rfl
           refine pure_ (i := 11) (N := some 192) (v := ?_) (a' := ?_) #[Y,Y,Y,Y,Y,Y,Y,Y,Y,Y,Y,Y,Z,Z,Z,Z,Z,Z,Z,Z,Z,Z,Z] rfl rfl (any_of HT_.out (by kernel_rfl)) (fun _ _ _ h => h) (Or.inl ⟨by rfl, ?_⟩) ?_ ?_
           rotate_left
           ·intro w'
            go_simp; with_reducible rfl
           rotate_left
           ·simp only [Act.put, q1, q2, q3, i64_w, i32_w]
            rfl
           refine pure_ (i := 12) (N := some 193) (v := ?_) (a' := ?_) #[Y,Y,Y,Y,Y,Y,Y,Y,Y,Y,Y,Y,Y,Z,Z,Z,Z,Z,Z,Z,Z,Z,Z] rfl rfl (any_of HT_.out (by kernel_rfl)) (fun _ _ _ h => h) (Or.inl ⟨by rfl, ?_⟩) ?_ ?_
           rotate_left
           ·intro w'
            go_simp; with_reducible rfl
           rotate_left
           ·simp only [Act.put, q1, q2, q3, i64_w, i32_w]
            rfl
           refine pure_ (i := 13) (N := some 194) (v := ?_) (a' := ?_) #[Y,Y,Y,Y,Y,Y,Y,Y,Y,Y,Y,Y,Y,Y,Z,Z,Z,Z,Z,Z,Z,Z,Z] rfl rfl (any_of HT_.out (by kernel_rfl)) (fun _ _ _ h => h) (Or.inl ⟨by rfl, ?_⟩) ?_ ?_
           rotate_left
           ·intro w'
            go_simp; with_reducible rfl
           rotate_left
           ·simp only [Act.put, q1, q2, q3, i64_w, i32_w]
            rfl
           refine take_ (i := 14) (N := some 195) (v := ?_) (a' := ?_) #[Y,Y,Y,Y,Y,Y,Y,Y,Y,Y,Y,Y,Y,Y,Y,Z,Z,Z,Z,Z,Z,Z,Z] rfl rfl (take_ofW HT_.out HW_.out (by kernel_rfl)) (fun _ _ _ h => h) (Or.inl ⟨by rfl, ?_⟩) hHeld ?_ ?_
           rotate_left
           ·intro w' _
            go_simp; with_reducible rfl
           rotate_left
           ·simp only [Act.put, q1, q2, q3, i64_w, i32_w]
            rfl
           refine pure_ (i := 15) (N := some 196) (v := ?_) (a' := ?_) #[Y,Y,Y,Y,Y,Y,Y,Y,Y,Y,Y,Y,Y,Y,Y,Y,Z,Z,Z,Z,Z,Z,Z] rfl rfl (any_of HT_.out (by kernel_rfl)) (fun _ _ _ h => h) (Or.inl ⟨by rfl, ?_⟩) ?_ ?_
           rotate_left
           ·intro w'
            go_simp; with_reducible rfl
           rotate_left
           ·simp only [Act.put, q1, q2, q3, i64_w, i32_w]
            rfl
           refine pure_ (i := 16) (N := some 197) (v := ?_) (a' := ?_) #[Y,Y,Y,Y,Y,Y,Y,Y,Y,Y,Y,Y,Y,Y,Y,Y,Y,Z,Z,Z,Z,Z,Z] rfl rfl (any_of HT_.out (by kernel_rfl)) (fun _ _ _ h => h) (Or.inl ⟨by rfl, ?_⟩) ?_ ?_
           rotate_left
           ·intro w'
            go_simp; with_reducible rfl
           rotate_left
           ·simp only [Act.put, q1, q2, q3, i64_w, i32_w]
            rfl
           refine pure_ (i := 17) (N := some 198) (v := ?_) (a' := ?_) #[Y,Y,Y,Y,Y,Y,Y,Y,Y,Y,Y,Y,Y,Y,Y,Y,Y,Y,Z,Z,Z,Z,Z] rfl rfl (any_of HT_.out (by kernel_rfl)) (fun _ _ _ h => h) (Or.inl ⟨by rfl, ?_⟩) ?_ ?_
           rotate_left
           ·intro w'
            go_simp; with_reducible rfl
           rotate_left
           ·simp only [Act.put, q1, q2, q3, i64_w, i32_w]
            rfl
           refine pure_ (i := 18) (N := some 199) (v := ?_) (a' := ?_) #[Y,Y,Y,Y,Y,Y,Y,Y,Y,Y,Y,Y,Y,Y,Y,Y,Y,Y,Y,Z,Z,Z,Z] rfl rfl (any_of HT_.out (by kernel_rfl)) (fun _ _ _ h => h) (Or.inl ⟨by rfl, ?_⟩) ?_ ?_
           rotate_left
           ·intro w'
            go_simp; with_reducible rfl
           rotate_left
           ·simp only [Act.put, q1, q2, q3, i64_w, i32_w]
            rfl
           refine take_ (i := 19) (N := some 200) (v := ?_) (a' := ?_) #[Y,Y,Y,Y,Y,Y,Y,Y,Y,Y,Y,Y,Y,Y,Y,Y,Y,Y,Y,Y,Z,Z,Z] rfl rfl (take_ofW HT_.out HW_.out (by kernel_rfl)) (fun _ _ _ h => h) (Or.inl ⟨by rfl, ?_⟩) hHeld ?_ ?_
           rotate_left
           ·intro w' _
            go_simp; with_reducible rfl
           rotate_left
           ·simp only [Act.put, q1, q2, q3, i64_w, i32_w]
            rfl
           refine pure_ (i := 20) (N := some 201) (v := ?_) (a' := ?_) #[Y,Y,Y,Y,Y,Y,Y,Y,Y,Y,Y,Y,Y,Y,Y,Y,Y,Y,Y,Y,Y,Z,Z] rfl rfl (any_of HT_.out (by kernel_rfl)) (fun _ _ _ h => h) (Or.inl ⟨by rfl, ?_⟩) ?_ ?_
           rotate_left
           ·intro w'
            go_simp; with_reducible rfl
           rotate_left
           ·simp only [Act.put, q1, q2, q3, i64_w, i32_w]
            rfl
           refine pure_ (i := 21) (N := some 202) (v := ?_) (a' := ?_) #[Y,Y,Y,Y,Y,Y,Y,Y,Y,Y,Y,Y,Y,Y,Y,Y,Y,Y,Y,Y,Y,Y,Z] rfl rfl (any_of HT_.out (by kernel_rfl)) (fun _ _ _ h => h) (Or.inl ⟨by rfl, ?_⟩) ?_ ?_
           rotate_left
           ·intro w'
            go_simp; with_reducible rfl
           rotate_left
           ·simp only [Act.put, q1, q2, q3, i64_w, i32_w]
            rfl
           refine pure_ (i := 22) (N := some 203) (v := ?_) (a' := ?_) #[Y,Y,Y,Y,Y,Y,Y,Y,Y,Y,Y,Y,Y,Y,Y,Y,Y,Y,Y,Y,Y,Y,Y] rfl rfl (any_of HT_.out (by kernel_rfl)) (fun _ _ _ h => h) (Or.inl ⟨by rfl, ?_⟩) ?_ ?_
           rotate_left
           ·intro w'
            go_simp; with_reducible rfl
           rotate_left
           ·simp only [Act.put, q1, q2, q3, i64_w, i32_w]
            rfl
           refine done_ (done_of HT_.out (by kernel_rfl)) ?_
           try go_wp2
           go_roundg k4
           case measure => have := HJ9.out; have := HK2.out; have := HK3.out; have := HK4.out; omega
           case rel => exact ⟨(wrap64 (x15_4 + 1)), (by first | rfl | (simp; done) | (simp [*]; done)), H', ⟨by have := HJ9.out; have := HK2.out; have := HK3.out; have := HK4.out; omega⟩, ⟨by repeat (first | (with_reducible first | exact HB.out | apply c1 | apply c2 | apply c3) | exact HB.out)⟩⟩
          rw [if_neg c90] at H; have c90b0 : decide (x15_4 < (t210.size : Int)) = false := decide_eq_false c90; clear c90; replace H := Option.bind_eq_some_iff.mp H; obtain ⟨⟨t228, t229⟩, A1040, H⟩ := H; replace H : (if t229 = true then ((impl_CreasesOf.f k4 t228).bind fun t230 => (if t230.toList = t210.toList then (laws_FnFolds.j5 k4 t206 (t206.size : Int) ji4 t210 t212 (Op.bytesLess t206.toList t228.toList)) else (laws_FnFolds.j5 k4 t206 (t206.size : Int) ji4 t210 t212 true))) else (laws_FnFolds.j5 k4 t206 (t206.size : Int) ji4 t210 t212 true)) = some r := H
          have A104 := m1 A1040; clear A1040; have HC105 := m1 H; clear H; go_upto_region 34 with (first | ((with_reducible refine gate_callee (f := 14) rfl ?_); refine goesL_ (some 206) rfl rfl Tryz.func14 (by kernel_rfl) rfl #[.string t210] rfl (by (try simp only [List.map_toArray, List.map_cons, List.map_nil]); first | done | rfl | (simp only [List.length_drop, List.length_take]; rfl)) ?_; (with_reducible refine (impl_FirstWord.calls k4 t210 t228 t229 _ A104.out).mono ?_); rintro e w106 ⟨rfl, hb⟩; refine ⟨_, rfl, ?_⟩; have n0_ := m1 (c6 (by repeat (first | (with_reducible first | exact HB.out | apply c1 | apply c2 | apply c3) | exact HB.out)) hb); clear HB; have HB := n0_; clear n0_; (try clear hb); (try clear hb2); (try clear hk); (try clear hi)))
          (try simp only [Act.put, q1, q2, q3])
          go_cut [221] (fun v221 wc => ∃ (kq : Nat) (x221_104 : Bool), v221 = .bool x221_104 ∧ Aside0 (laws_FnFolds.j5 kq t206 (t206.size : Int) ji4 t210 t212 x221_104 = some r) ∧ Aside0 (kq ≤ k4) ∧ Aside0 (Below w.heap.size w wc))
          case first =>
           have H := HC105.out; clear HC105; by_cases c107 : t229 = true
           rotate_left
           ·replace c107 := Bool.eq_false_iff.mpr c107
            subst c107; have H1 : (laws_FnFolds.j5 k4 t206 (t206.size : Int) ji4 t210 t212 true) = some r := by rw [if_neg (show ¬ (false = true) by decide)] at H; exact H
            clear H; have H := H1; clear H1; exact absurd H (by rw [HR_.out]; exact laws_FnFolds.j5_true)
           subst c107; have H1 : ((impl_CreasesOf.f k4 t228).bind fun t230 => (if t230.toList = t210.toList then (laws_FnFolds.j5 k4 t206 (t206.size : Int) ji4 t210 t212 (Op.bytesLess t206.toList t228.toList)) else (laws_FnFolds.j5 k4 t206 (t206.size : Int) ji4 t210 t212 true))) = some r := by rw [if_pos rfl] at H; exact H
           clear H; have H := H1; clear H1; replace H := Option.bind_eq_some_iff.mp H; obtain ⟨t230, A1080, H⟩ := H; replace H : (if t230.toList = t210.toList then (laws_FnFolds.j5 k4 t206 (t206.size : Int) ji4 t210 t212 (Op.bytesLess t206.toList t228.toList)) else (laws_FnFolds.j5 k4 t206 (t206.size : Int) ji4 t210 t212 true)) = some r := H; have A108 := m1 A1080; clear A1080; by_cases c109 : t230.toList = t210.toList
           rotate_left
           ·rw [if_neg c109] at H
            have c109b0 : (t230.toList == t210.toList) = false := beq_eq_false_iff_ne.mpr c109; have c109b1 : (t230.toList != t210.toList) = true := bne_iff_ne.mpr c109; (first | rw [c109b0] | (simp only [i64_w, i32_w]; rw [c109b0]) | skip)
            exact absurd H (by rw [HR_.out]; exact laws_FnFolds.j5_true)
           rw [if_pos c109] at H; have c109b0 : (t230.toList == t210.toList) = true := beq_iff_eq.mpr c109; have c109b1 : (t230.toList != t210.toList) = false := bne_eq_false_iff_eq.mpr c109; clear c109; (first | rw [c109b0] | (simp only [i64_w, i32_w]; rw [c109b0]) | skip)
           have H' := m1 H; clear H; go_wp2_with (first | (go_at_call 6; (with_reducible refine (impl_CreasesOf.calls k4 t228 t230 _ A108.out).mono ?_); rintro e w110 ⟨rfl, hb⟩; have n0_ := m1 (c6 (by repeat (first | (with_reducible first | exact HB.out | apply c1 | apply c2 | apply c3) | exact HB.out)) hb); clear HB; have HB := n0_; clear n0_; (try clear hb); (try clear hb2); (try clear hk); (try clear hi)))
           go_meet
           case rel => exact ⟨_, ((Op.bytesLess t206.toList t228.toList)), (by first | rfl | exact congrArg Value.bool (laws_FnFolds.gs _ _) | (rw [laws_FnFolds.gs]; done) | (simp only [laws_FnFolds.gs]; done) | (simp [laws_FnFolds.gs, *]; done) | (simp only [c109b0, c109b1, laws_FnFolds.gs, Bool.not_false, Bool.not_true]; done) | (simp; done) | (simp [*]; done)), H', ⟨by have := HJ9.out; have := HK2.out; have := HK3.out; have := HK4.out; first | omega | exact Nat.le_refl _⟩, ⟨by repeat (first | (with_reducible first | exact HB.out | apply c1 | apply c2 | apply c3) | exact HB.out)⟩⟩
          case rest => as_aux_lemma =>
           clear HC105; try clear c1
           try clear p1
           try clear q1
           try clear hx1
           try clear p2
           try clear q2
           try clear hx2
           try clear c5
           try clear p5
           try clear q5
           try clear hx5
           try clear c6
           try clear p6
           try clear c7
           try clear p7
           try clear q7
           try clear hx7
           try clear qi7
           try clear c8
           try clear p8
           try clear q8
           try clear hx8
           try clear c9
           try clear p9
           try clear q9
           try clear hx9
           try clear c10
           try clear p10
           try clear q10
           try clear hx10
           try clear c14
           try clear p22
           try clear q22
           try clear hx22
           try clear p51
           try clear q51
           try clear hx51
           try clear c52
           try clear c52b0
           try clear c54
           try clear c55
           try clear c62
           try clear c62b0
           try clear c62b1
           try clear c62b2
           try clear p64
           try clear c67
           try clear c68
           try clear c69
           try clear c69b0
           try clear c70
           try clear c70b0
           try clear c71
           try clear c71b0
           try clear p72
           try clear q72
           try clear hx72
           try clear c73
           try clear c73b0
           try clear c73b1
           try clear p74
           try clear q74
           try clear hx74
           try clear qi74
           try clear c75
           try clear c75b0
           try clear c75b1
           try clear c76
           try clear c76b0
           try clear c76b1
           try clear c76b2
           try clear c81
           try clear c81b0
           try clear c82
           try clear c82b0
           try clear c83
           try clear c83b0
           try clear p84
           try clear q84
           try clear hx84
           try clear c86
           try clear c86b0
           try clear p87
           try clear q87
           try clear hx87
           try clear c88
           try clear c88b0
           try clear c88b1
           try clear c90
           try clear c90b0
           try clear c91
           try clear c91b0
           try clear p92
           try clear q92
           try clear hx92
           try clear c94
           try clear c94b0
           try clear c95
           try clear c95b0
           try clear p96
           try clear q96
           try clear hx96
           try clear c97
           try clear c97b0
           try clear c97b1
           try clear p98
           try clear q98
           try clear hx98
           try clear c99
           try clear c99b0
           try clear c99b1
           try clear p101
           try clear q101
           try clear hx101
           try clear c102
           try clear c102b0
           try clear c102b1
           try clear c107
           try clear c109
           try clear c109b0
           try clear c109b1
           try clear hx227_0
           try clear p101
           try clear p2
           try clear p22
           try clear p227
           try clear p5
           try clear p51
           try clear p6
           try clear p64
           try clear p7
           try clear p72
           try clear p74
           try clear p84
           try clear p87
           try clear p92
           try clear p96
           try clear p98
           try clear q101
           try clear q2
           try clear q22
           try clear q227
           try clear q5
           try clear q51
           try clear q7
           try clear q72
           try clear q74
           try clear q84
           try clear q87
           try clear q92
           try clear q96
           try clear q98
           obtain ⟨kq, x221_104, rfl, HA, HJ104, HB⟩ := hcut
           cases kq with
           | zero => exact absurd HA.out (by simp [laws_FnFolds.j5])
           | succ kj104 =>
            have H := HA.out; clear HA; simp only [laws_FnFolds.j5] at H; by_cases c111 : x221_104 = true
            ·subst c111
             have H1 : (some false) = some r := by rw [if_pos rfl] at H; exact H
             clear H; have H := H1; clear H1; exact absurd (Option.some.inj H) (by rw [HR_.out]; decide)
            replace c111 := Bool.eq_false_iff.mpr c111; subst c111; have H1 : (if (t206.size : Int) = 0 then (some true) else (if 0 ≤ (wrap64 ((t206.size : Int) - 1)) then (if (wrap64 ((t206.size : Int) - 1)) ≤ (t206.size : Int) then ((impl_CreasesOf.f kj104 (t206.extract 0 ((wrap64 ((t206.size : Int) - 1)) : Int).toNat)).bind fun t231 => (laws_FnFolds.l3 kj104 t206 ji4 t210 t212 t231 0)) else (none)) else (none))) = some r := by rw [if_neg (show ¬ (false = true) by decide)] at H; exact H
            clear H; have H := H1; clear H1; by_cases c112 : (t206.size : Int) = 0
            ·rw [if_pos c112] at H
             have c112b0 : ((t206.size : Int) == 0) = true := beq_iff_eq.mpr c112; have c112b1 : ((t206.size : Int) != 0) = false := bne_eq_false_iff_eq.mpr c112; clear c112; obtain rfl := Option.some.inj H; go_wp2
             go_ret
             exact ⟨by first | rfl | (simp [errW_none, errW_some] <;> rfl) | (simp only [← hji4]; first | rfl | (simp [errW_none, errW_some] <;> rfl)) | (simp [*, errW_none, errW_some] <;> rfl), by repeat (first | (with_reducible first | exact HB.out | apply c1 | apply c2 | apply c3) | exact HB.out)⟩
            rw [if_neg c112] at H; have c112b0 : ((t206.size : Int) == 0) = false := beq_eq_false_iff_ne.mpr c112; have c112b1 : ((t206.size : Int) != 0) = true := bne_iff_ne.mpr c112; obtain ⟨ji113, hji113⟩ : ∃ j_ : Int, (wrap64 ((t206.size : Int) - 1)) = j_ := ⟨_, rfl⟩; replace H : (if 0 ≤ (ji113) then (if (ji113) ≤ (t206.size : Int) then ((impl_CreasesOf.f kj104 (t206.extract 0 ((ji113) : Int).toNat)).bind fun t231 => (laws_FnFolds.l3 kj104 t206 ji4 t210 t212 t231 0)) else (none)) else (none)) = some r := by first | (rw [hji113] at H; exact H) | (simp only [hji113] at H ⊢; exact H)
            have hji113w : (IntKind.i64.wrap ((t206.size : Int) - 1)) = ji113 := (i64_w _).trans hji113; by_cases c114 : 0 ≤ (ji113)
            rotate_left
            ·rw [if_neg c114] at H
             exact absurd H (by simp)
            rw [if_pos c114] at H; have c114b0 := eq_true c114; have c114b1 : decide (0 ≤ (ji113)) = true := decide_eq_true c114; clear c114; by_cases c115 : (ji113) ≤ (t206.size : Int)
            rotate_left
            ·rw [if_neg c115] at H
             exact absurd H (by simp)
            rw [if_pos c115] at H; have c115b0 := eq_true c115; have c115b1 : decide ((ji113) ≤ (t206.size : Int)) = true := decide_eq_true c115; clear c115; replace H := Option.bind_eq_some_iff.mp H; obtain ⟨t231, A1160, H⟩ := H; replace H : (laws_FnFolds.l3 kj104 t206 ji4 t210 t212 t231 0) = some r := H; have A116 := m1 A1160; clear A1160; have H' := m1 H; clear H; go_wp2_with (first | ((with_reducible refine gate_callee (f := 6) rfl ?_); refine goesL_ (some 228) rfl rfl Tryz.func6 (by kernel_rfl) rfl #[.string (t206.extract 0 ((ji113) : Int).toNat)] rfl (by (try simp only [List.map_toArray, List.map_cons, List.map_nil]); first | done | (simp only [hji113]; rfl) | rfl | (simp only [List.length_drop, List.length_take]; rfl)) ?_; (with_reducible refine (impl_CreasesOf.calls kj104 (t206.extract 0 ((ji113) : Int).toNat) t231 _ A116.out).mono ?_); rintro e w117 ⟨rfl, hb⟩; refine ⟨_, rfl, ?_⟩; have n0_ := m1 (c6 (by repeat (first | (with_reducible first | exact HB.out | apply c1 | apply c2 | apply c3) | exact HB.out)) hb); clear HB; have HB := n0_; clear n0_; (try clear hb); (try clear hb2); (try clear hk); (try clear hi)))
            go_loopg [19] kj104 (fun kq v19 w' => ∃ (x19_6 : Int), v19 = .int .i64 x19_6 ∧ Aside0 (laws_FnFolds.l3 kq t206 ji4 t210 t212 t231 x19_6 = some r) ∧ Aside0 (kq ≤ kj104) ∧ Aside0 (Below w.heap.size w w'))
            case atStart => exact ⟨(0), (by first | rfl | (simp; done) | (simp [*]; done)), H', ⟨Nat.le_refl _⟩, ⟨by repeat (first | (with_reducible first | exact HB.out | apply c1 | apply c2 | apply c3) | exact HB.out)⟩⟩
            case round => as_aux_lemma =>
             clear H'; try clear c1
             try clear p1
             try clear q1
             try clear hx1
             try clear p2
             try clear q2
             try clear hx2
             try clear c5
             try clear p5
             try clear q5
             try clear hx5
             try clear c6
             try clear p6
             try clear c7
             try clear p7
             try clear q7
             try clear hx7
             try clear qi7
             try clear c8
             try clear p8
             try clear q8
             try clear hx8
             try clear c9
             try clear p9
             try clear q9
             try clear hx9
             try clear c10
             try clear p10
             try clear q10
             try clear hx10
             try clear c11
             try clear c14
             try clear p22
             try clear q22
             try clear hx22
             try clear p51
             try clear q51
             try clear hx51
             try clear c52
             try clear c52b0
             try clear c54
             try clear c55
             try clear c62
             try clear c62b0
             try clear c62b1
             try clear c62b2
             try clear p64
             try clear c67
             try clear c68
             try clear c69
             try clear c69b0
             try clear c70
             try clear c70b0
             try clear c71
             try clear c71b0
             try clear p72
             try clear q72
             try clear hx72
             try clear c73
             try clear c73b0
             try clear c73b1
             try clear p74
             try clear q74
             try clear hx74
             try clear qi74
             try clear c75
             try clear c75b0
             try clear c75b1
             try clear c76
             try clear c76b0
             try clear c76b1
             try clear c76b2
             try clear c81
             try clear c81b0
             try clear c82
             try clear c82b0
             try clear c83
             try clear c83b0
             try clear p84
             try clear q84
             try clear hx84
             try clear c86
             try clear c86b0
             try clear p87
             try clear q87
             try clear hx87
             try clear c88
             try clear c88b0
             try clear c88b1
             try clear c90
             try clear c90b0
             try clear c91
             try clear c91b0
             try clear p92
             try clear q92
             try clear hx92
             try clear c94
             try clear c94b0
             try clear c95
             try clear c95b0
             try clear p96
             try clear q96
             try clear hx96
             try clear c97
             try clear c97b0
             try clear c97b1
             try clear p98
             try clear q98
             try clear hx98
             try clear c99
             try clear c99b0
             try clear c99b1
             try clear p101
             try clear q101
             try clear hx101
             try clear c102
             try clear c102b0
             try clear c102b1
             try clear c107
             try clear c109
             try clear c109b0
             try clear c109b1
             try clear c111
             try clear c112
             try clear c112b0
             try clear c112b1
             try clear c114
             try clear c114b0
             try clear c114b1
             try clear c115
             try clear c115b0
             try clear c115b1
             try clear hx227_0
             try clear p1
             try clear p10
             try clear p101
             try clear p2
             try clear p22
             try clear p227
             try clear p5
             try clear p51
             try clear p6
             try clear p64
             try clear p7
             try clear p72
             try clear p74
             try clear p8
             try clear p84
             try clear p87
             try clear p9
             try clear p92
             try clear p96
             try clear p98
             try clear q1
             try clear q10
             try clear q101
             try clear q2
             try clear q22
             try clear q227
             try clear q5
             try clear q51
             try clear q7
             try clear q72
             try clear q74
             try clear q8
             try clear q84
             try clear q87
             try clear q9
             try clear q92
             try clear q96
             try clear q98
             obtain ⟨x19_6, rfl, HA, HK6, HB⟩ := hrel
             cases gk with
             | zero => exact absurd HA.out (by simp [laws_FnFolds.l3])
             | succ k6 =>
              have H := HA.out; clear HA; simp only [laws_FnFolds.l3] at H; by_cases c118 : x19_6 < (t231.size : Int)
              rotate_left
              ·rw [if_neg c118] at H
               have c118b0 : decide (x19_6 < (t231.size : Int)) = false := decide_eq_false c118; clear c118; obtain ⟨ji128, hji128⟩ : ∃ j_ : Int, (wrap64 ((wrap64 (Int.tdiv ji4 2)) - 1)) = j_ := ⟨_, rfl⟩; replace H : (if 0 ≤ (ji128) then (if (ji128) < (t210.size : Int) then (if (bt t210 (ji128)) = 118 then ((impl_MirrorWord.f t212).bind fun t232 => (some (t232.toList == t206.toList))) else (some false)) else (none)) else (none)) = some r := by first | (rw [hji128] at H; exact H) | (simp only [hji128] at H ⊢; exact H)
               have hji128w : (IntKind.i64.wrap ((wrap64 (Int.tdiv ji4 2)) - 1)) = ji128 := (i64_w _).trans hji128; by_cases c129 : 0 ≤ (ji128)
               rotate_left
               ·rw [if_neg c129] at H
                exact absurd H (by simp)
               rw [if_pos c129] at H; have c129b0 : decide (0 ≤ (ji128)) = true := decide_eq_true c129; clear c129; by_cases c130 : (ji128) < (t210.size : Int)
               rotate_left
               ·rw [if_neg c130] at H
                exact absurd H (by simp)
               rw [if_pos c130] at H; have c130b0 : decide ((ji128) < (t210.size : Int)) = true := decide_eq_true c130; clear c130; by_cases c132 : (bt t210 (ji128)) = 118
               rotate_left
               ·rw [if_neg c132] at H
                have c132b0 : ((bt t210 (ji128)) == 118) = false := beq_eq_false_iff_ne.mpr c132; have c132b1 : ((bt t210 (ji128)) != 118) = true := bne_iff_ne.mpr c132; exact absurd (Option.some.inj H) (by rw [HR_.out]; decide)
               rw [if_pos c132] at H; have c132b0 : ((bt t210 (ji128)) == 118) = true := beq_iff_eq.mpr c132; have c132b1 : ((bt t210 (ji128)) != 118) = false := bne_eq_false_iff_eq.mpr c132; clear c132; replace H := Option.bind_eq_some_iff.mp H; obtain ⟨t232, A1330, H⟩ := H; replace H : (some (t232.toList == t206.toList)) = some r := H; have A133 := m1 A1330; clear A1330; obtain rfl := Option.some.inj H; have p131 : 0 ≤ ((ji128) : Int) := of_decide_eq_true (by first | (with_reducible assumption) | assumption)
               have q131 : (ji128) < (t210.size : Int) := of_decide_eq_true (by first | (with_reducible assumption) | assumption)
               have hx131 := bt_at t210 (ji128); replace p131 := eq_true p131; replace q131 := eq_true q131; go_wp2_with (first | (go_at_call 8; (with_reducible refine (impl_MirrorWord.calls t212 t232 _ A133.out).mono ?_); rintro e w134 ⟨rfl, hb⟩; have n0_ := m1 (c6 (by repeat (first | (with_reducible first | exact HB.out | apply c1 | apply c2 | apply c3) | exact HB.out)) hb); clear HB; have HB := n0_; clear n0_; (try clear hb); (try clear hb2); (try clear hk); (try clear hi)))
               go_ret
               exact ⟨by first | rfl | (simp [errW_none, errW_some] <;> rfl) | (simp only [← hji4, ← hji113, ← hji128]; first | rfl | (simp [errW_none, errW_some] <;> rfl)) | (simp [*, errW_none, errW_some] <;> rfl), by repeat (first | (with_reducible first | exact HB.out | apply c1 | apply c2 | apply c3) | exact HB.out)⟩
              rw [if_pos c118] at H; have c118b0 : decide (x19_6 < (t231.size : Int)) = true := decide_eq_true c118; clear c118; by_cases c119 : (wrap64 ((wrap64 (2 * x19_6)) + 1)) ≥ (t210.size : Int)
              ·rw [if_pos c119] at H
               have c119b0 : decide ((t210.size : Int) ≤ (wrap64 ((wrap64 (2 * x19_6)) + 1))) = true := decide_eq_true c119; clear c119; exact absurd (Option.some.inj H) (by rw [HR_.out]; decide)
              rw [if_neg c119] at H; have c119b0 : decide ((t210.size : Int) ≤ (wrap64 ((wrap64 (2 * x19_6)) + 1))) = false := decide_eq_false c119; clear c119; obtain ⟨ji120, hji120⟩ : ∃ j_ : Int, (wrap64 ((wrap64 (2 * x19_6)) + 1)) = j_ := ⟨_, rfl⟩; replace H : (if 0 ≤ (ji120) then (if (ji120) < (t210.size : Int) then (if 0 ≤ x19_6 then (if (bt t210 (ji120)) = (bt t231 x19_6) then (laws_FnFolds.l3 k6 t206 ji4 t210 t212 t231 (wrap64 (x19_6 + 1))) else (some false)) else (none)) else (none)) else (none)) = some r := by first | (rw [hji120] at H; exact H) | (simp only [hji120] at H ⊢; exact H)
              (try rw [hji120] at c119b0)
              have hji120w : (IntKind.i64.wrap ((wrap64 (2 * x19_6)) + 1)) = ji120 := (i64_w _).trans hji120; by_cases c121 : 0 ≤ (ji120)
              rotate_left
              ·rw [if_neg c121] at H
               exact absurd H (by simp)
              rw [if_pos c121] at H; have c121b0 : decide (0 ≤ (ji120)) = true := decide_eq_true c121; clear c121; by_cases c122 : (ji120) < (t210.size : Int)
              rotate_left
              ·rw [if_neg c122] at H
               exact absurd H (by simp)
              rw [if_pos c122] at H; have c122b0 : decide ((ji120) < (t210.size : Int)) = true := decide_eq_true c122; clear c122; by_cases c124 : 0 ≤ x19_6
              rotate_left
              ·rw [if_neg c124] at H
               exact absurd H (by simp)
              rw [if_pos c124] at H; have c124b0 : decide (0 ≤ x19_6) = true := decide_eq_true c124; clear c124; by_cases c126 : (bt t210 (ji120)) = (bt t231 x19_6)
              rotate_left
              ·rw [if_neg c126] at H
               have c126b0 : ((bt t210 (ji120)) == (bt t231 x19_6)) = false := beq_eq_false_iff_ne.mpr c126; have c126b1 : ((bt t210 (ji120)) != (bt t231 x19_6)) = true := bne_iff_ne.mpr c126; exact absurd (Option.some.inj H) (by rw [HR_.out]; decide)
              rw [if_pos c126] at H; have c126b0 : ((bt t210 (ji120)) == (bt t231 x19_6)) = true := beq_iff_eq.mpr c126; have c126b1 : ((bt t210 (ji120)) != (bt t231 x19_6)) = false := bne_eq_false_iff_eq.mpr c126; clear c126; have H' := m1 H; clear H; try go_wp2
              have n0_ := m1 (below_drew1 HB.out); clear HB; have HB := n0_; clear n0_; have p123 : 0 ≤ ((ji120) : Int) := of_decide_eq_true (by first | (with_reducible assumption) | assumption)
              have q123 : (ji120) < (t210.size : Int) := of_decide_eq_true (by first | (with_reducible assumption) | assumption)
              have hx123 := bt_at t210 (ji120); replace p123 := eq_true p123; replace q123 := eq_true q123; have p125 : 0 ≤ (x19_6 : Int) := of_decide_eq_true (by first | (with_reducible assumption) | assumption)
              have q125 : x19_6 < (t231.size : Int) := of_decide_eq_true (by first | (with_reducible assumption) | assumption)
              have hx125 := bt_at t231 x19_6; replace p125 := eq_true p125; replace q125 := eq_true q125; refine start_ (n := 17) (S := fun w' => True) (ds := []) #[Z,Z,Z,Z,Z,Z,Z,Z,Z,Z,Z,Z,Z,Z,Z,Z,Z] (by kernel_rfl) rfl rfl trivial (fun hHeld => ?_); refine with_tabW laws_FnFolds.tab42 laws_FnFolds.bits42 (fun HT_ HW_ => ?_)
              generalize wr.drew = w127 at HB hHeld ⊢
              refine pure_ (i := 0) (N := some 235) (v := ?_) (a' := ?_) #[Y,Z,Z,Z,Z,Z,Z,Z,Z,Z,Z,Z,Z,Z,Z,Z,Z] rfl rfl (any_of HT_.out (by kernel_rfl)) (fun _ _ _ h => h) (Or.inl ⟨by rfl, ?_⟩) ?_ ?_
              rotate_left
              ·intro w'
               go_simp; with_reducible rfl
              rotate_left
              ·simp only [Act.put, q1, q2, q3, i64_w, i32_w]
               rfl
              refine pure_ (i := 1) (N := some 236) (v := ?_) (a' := ?_) #[Y,Y,Z,Z,Z,Z,Z,Z,Z,Z,Z,Z,Z,Z,Z,Z,Z] rfl rfl (any_of HT_.out (by kernel_rfl)) (fun _ _ _ h => h) (Or.inl ⟨by rfl, ?_⟩) ?_ ?_
              rotate_left
              ·intro w'
               go_simp; with_reducible rfl
              rotate_left
              ·simp only [Act.put, q1, q2, q3, i64_w, i32_w]
               rfl
              refine pure_ (i := 2) (N := some 237) (v := ?_) (a' := ?_) #[Y,Y,Y,Z,Z,Z,Z,Z,Z,Z,Z,Z,Z,Z,Z,Z,Z] rfl rfl (any_of HT_.out (by kernel_rfl)) (fun _ _ _ h => h) (Or.inl ⟨by rfl, ?_⟩) ?_ ?_
              rotate_left
              ·intro w'
               go_simp; with_reducible rfl
              rotate_left
              ·simp only [Act.put, q1, q2, q3, i64_w, i32_w]
               rfl
              refine pure_ (i := 3) (N := some 238) (v := ?_) (a' := ?_) #[Y,Y,Y,Y,Z,Z,Z,Z,Z,Z,Z,Z,Z,Z,Z,Z,Z] rfl rfl (any_of HT_.out (by kernel_rfl)) (fun _ _ _ h => h) (Or.inl ⟨by rfl, ?_⟩) ?_ ?_
              rotate_left
              ·intro w'
               go_simp; with_reducible rfl
              rotate_left
              ·simp only [Act.put, q1, q2, q3, i64_w, i32_w]
               rfl
              refine pure_ (i := 4) (N := some 239) (v := ?_) (a' := ?_) #[Y,Y,Y,Y,Y,Z,Z,Z,Z,Z,Z,Z,Z,Z,Z,Z,Z] rfl rfl (any_of HT_.out (by kernel_rfl)) (fun _ _ _ h => h) (Or.inl ⟨by rfl, ?_⟩) ?_ ?_
              rotate_left
              ·intro w'
               go_simp; with_reducible rfl
              rotate_left
              ·simp only [Act.put, q1, q2, q3, i64_w, i32_w]
               rfl
              refine pure_ (i := 5) (N := some 240) (v := ?_) (a' := ?_) #[Y,Y,Y,Y,Y,Y,Z,Z,Z,Z,Z,Z,Z,Z,Z,Z,Z] rfl rfl (any_of HT_.out (by kernel_rfl)) (fun _ _ _ h => h) (Or.inl ⟨by rfl, ?_⟩) ?_ ?_
              rotate_left
              ·intro w'
               go_simp; with_reducible rfl
              rotate_left
              ·simp only [Act.put, q1, q2, q3, i64_w, i32_w]
               rfl
              refine pure_ (i := 6) (N := some 241) (v := ?_) (a' := ?_) #[Y,Y,Y,Y,Y,Y,Y,Z,Z,Z,Z,Z,Z,Z,Z,Z,Z] rfl rfl (any_of HT_.out (by kernel_rfl)) (fun _ _ _ h => h) (Or.inl ⟨by rfl, ?_⟩) ?_ ?_
              rotate_left
              ·intro w'
               go_simp; with_reducible rfl
              rotate_left
              ·simp only [Act.put, q1, q2, q3, i64_w, i32_w]
               rfl
              refine pure_ (i := 7) (N := some 242) (v := ?_) (a' := ?_) #[Y,Y,Y,Y,Y,Y,Y,Y,Z,Z,Z,Z,Z,Z,Z,Z,Z] rfl rfl (any_of HT_.out (by kernel_rfl)) (fun _ _ _ h => h) (Or.inl ⟨by rfl, ?_⟩) ?_ ?_
              rotate_left
              ·intro w'
               go_simp; with_reducible rfl
              rotate_left
              ·simp only [Act.put, q1, q2, q3, i64_w, i32_w]
               rfl
              refine pure_ (i := 8) (N := some 243) (v := ?_) (a' := ?_) #[Y,Y,Y,Y,Y,Y,Y,Y,Y,Z,Z,Z,Z,Z,Z,Z,Z] rfl rfl (any_of HT_.out (by kernel_rfl)) (fun _ _ _ h => h) (Or.inl ⟨by rfl, ?_⟩) ?_ ?_
              rotate_left
              ·intro w'
               go_simp; with_reducible rfl
              rotate_left
              ·simp only [Act.put, q1, q2, q3, i64_w, i32_w]
               rfl
              refine pure_ (i := 9) (N := some 244) (v := ?_) (a' := ?_) #[Y,Y,Y,Y,Y,Y,Y,Y,Y,Y,Z,Z,Z,Z,Z,Z,Z] rfl rfl (any_of HT_.out (by kernel_rfl)) (fun _ _ _ h => h) (Or.inl ⟨by rfl, ?_⟩) ?_ ?_
              rotate_left
              ·intro w'
               go_simp; with_reducible rfl
              rotate_left
              ·simp only [Act.put, q1, q2, q3, i64_w, i32_w]
               rfl
              refine pure_ (i := 10) (N := some 245) (v := ?_) (a' := ?_) #[Y,Y,Y,Y,Y,Y,Y,Y,Y,Y,Y,Z,Z,Z,Z,Z,Z] rfl rfl (any_of HT_.out (by kernel_rfl)) (fun _ _ _ h => h) (Or.inl ⟨by rfl, ?_⟩) ?_ ?_
              rotate_left
              ·intro w'
               go_simp; with_reducible rfl
              rotate_left
              ·simp only [Act.put, q1, q2, q3, i64_w, i32_w]
               rfl
              refine pure_ (i := 12) (N := some 247) (v := ?_) (a' := ?_) #[Y,Y,Y,Y,Y,Y,Y,Y,Y,Y,Y,Z,Y,Z,Z,Z,Z] rfl rfl (any_of HT_.out (by kernel_rfl)) (fun _ _ _ h => h) (Or.inl ⟨by rfl, ?_⟩) ?_ ?_
              rotate_left
              ·intro w'
               go_simp; with_reducible rfl
              rotate_left
              ·simp only [Act.put, q1, q2, q3, i64_w, i32_w]
               rfl
              refine pure_ (i := 13) (N := some 248) (v := ?_) (a' := ?_) #[Y,Y,Y,Y,Y,Y,Y,Y,Y,Y,Y,Z,Y,Y,Z,Z,Z] rfl rfl (any_of HT_.out (by kernel_rfl)) (fun _ _ _ h => h) (Or.inl ⟨by rfl, ?_⟩) ?_ ?_
              rotate_left
              ·intro w'
               go_simp; with_reducible rfl
              rotate_left
              ·simp only [Act.put, q1, q2, q3, i64_w, i32_w]
               rfl
              refine take_ (i := 11) (N := some 246) (v := ?_) (a' := ?_) #[Y,Y,Y,Y,Y,Y,Y,Y,Y,Y,Y,Y,Y,Y,Z,Z,Z] rfl rfl (take_ofW HT_.out HW_.out (by kernel_rfl)) (fun _ _ _ h => h) (Or.inl ⟨by rfl, ?_⟩) hHeld ?_ ?_
              rotate_left
              ·intro w' _
               go_simp; with_reducible rfl
              rotate_left
              ·simp only [Act.put, q1, q2, q3, i64_w, i32_w]
               rfl
              refine take_ (i := 14) (N := some 249) (v := ?_) (a' := ?_) #[Y,Y,Y,Y,Y,Y,Y,Y,Y,Y,Y,Y,Y,Y,Y,Z,Z] rfl rfl (take_ofW HT_.out HW_.out (by kernel_rfl)) (fun _ _ _ h => h) (Or.inl ⟨by rfl, ?_⟩) hHeld ?_ ?_
              rotate_left
              ·intro w' _
               go_simp; with_reducible rfl
              rotate_left
              ·simp only [Act.put, q1, q2, q3, i64_w, i32_w]
               rfl
              refine pure_ (i := 15) (N := some 250) (v := ?_) (a' := ?_) #[Y,Y,Y,Y,Y,Y,Y,Y,Y,Y,Y,Y,Y,Y,Y,Y,Z] rfl rfl (any_of HT_.out (by kernel_rfl)) (fun _ _ _ h => h) (Or.inl ⟨by rfl, ?_⟩) ?_ ?_
              rotate_left
              ·intro w'
               go_simp; with_reducible rfl
              rotate_left
              ·simp only [Act.put, q1, q2, q3, i64_w, i32_w]
               rfl
              refine pure_ (i := 16) (N := some 251) (v := ?_) (a' := ?_) #[Y,Y,Y,Y,Y,Y,Y,Y,Y,Y,Y,Y,Y,Y,Y,Y,Y] rfl rfl (any_of HT_.out (by kernel_rfl)) (fun _ _ _ h => h) (Or.inl ⟨by rfl, ?_⟩) ?_ ?_
              rotate_left
              ·intro w'
               go_simp; with_reducible rfl
              rotate_left
              ·simp only [Act.put, q1, q2, q3, i64_w, i32_w]
               rfl
              refine done_ (done_of HT_.out (by kernel_rfl)) ?_
              try go_wp2
              go_roundg k6
              case measure => have := HJ9.out; have := HK2.out; have := HK3.out; have := HK4.out; have := HJ104.out; have := HK6.out; omega
              case rel => exact ⟨(wrap64 (x19_6 + 1)), (by first | rfl | (simp; done) | (simp [*]; done)), H', ⟨by have := HJ9.out; have := HK2.out; have := HK3.out; have := HK4.out; have := HJ104.out; have := HK6.out; omega⟩, ⟨by repeat (first | (with_reducible first | exact HB.out | apply c1 | apply c2 | apply c3) | exact HB.out)⟩⟩
     rw [if_pos c42] at H; have c42b0 : decide (x100_2 < (t207.length : Int)) = true := decide_eq_true c42; clear c42; by_cases c43 : 0 ≤ x100_2
     rotate_left
     ·rw [if_neg c43] at H
      exact absurd H (by simp)
     rw [if_pos c43] at H; have c43b0 : decide (0 ≤ x100_2) = true := decide_eq_true c43; clear c43; by_cases c44 : x100_2 < (t207.length : Int)
     rotate_left
     ·rw [if_neg c44] at H
      exact absurd H (by simp)
     rw [if_pos c44] at H; have c44b0 : decide (x100_2 < (t207.length : Int)) = true := decide_eq_true c44; clear c44; have HC45 := m1 H; clear H; have p222 : 0 ≤ (x100_2 : Int) := of_decide_eq_true (by first | (with_reducible assumption) | assumption)
     have q222 : x100_2 < (t207.length : Int) := of_decide_eq_true (by first | (with_reducible assumption) | assumption)
     (try (obtain ⟨A_, c_, e_⟩ := Kd.R_slice HO_98.out; subst e_)); obtain ⟨ad222, e222, hx222_0⟩ := Kd.at_int (Kd.R_reads' HO_98.out).2.2 x100_2 p222 q222
     cases e222
     replace p222 := eq_true p222; replace q222 := eq_true q222; go_upto_region 17 with (fail)
     go_cut [136] (fun v136 wc => ∃ (kq : Nat) (x136_44 : Bool), v136 = .bool x136_44 ∧ Aside0 (laws_FnFolds.j2 kq t206 (t206.size : Int) ji4 t207 t210 t211 t212 t213 x11_2 x100_2 (rd t207 x100_2) t207 (t207.length : Int) x100_2 x136_44 = some r) ∧ Aside0 (kq ≤ k2) ∧ Aside0 (Kd.R (Kd.int .i64) 3 wc w.heap.size (fun k_ => some k_ ≠ (u11 : Value).ownBlock) (.slice (some ad222) t207.length co41) t207) ∧ Aside0 (Kd.R (Kd.int .i64) 3 wc w.heap.size (fun k_ => some k_ ≠ ((.slice (some ad222) t207.length co41) : Value).ownBlock ∧ some k_ ≠ ((.slice (some ad222) t207.length co41) : Value).ownBlock) u11 x11_2) ∧ Aside0 (Kd.R (Kd.int .i64) 3 wc w.heap.size (fun k_ => some k_ ≠ (u11 : Value).ownBlock) (.slice (some ad222) t207.length co41) t207) ∧ Aside0 (Below w.heap.size w wc))
     case first =>
      have H := HC45.out; clear HC45; by_cases c46 : (rd t207 x100_2) < 0
      ·rw [if_pos c46] at H
       have c46b0 : decide ((rd t207 x100_2) < 0) = true := decide_eq_true c46; clear c46; (first | rw [c46b0] | (simp only [i64_w, i32_w]; rw [c46b0]) | skip)
       exact absurd H (by rw [HR_.out]; exact laws_FnFolds.j2_true)
      rw [if_neg c46] at H; have c46b0 : decide ((rd t207 x100_2) < 0) = false := decide_eq_false c46; clear c46; (first | rw [c46b0] | (simp only [i64_w, i32_w]; rw [c46b0]) | skip)
      by_cases c47 : (rd t207 x100_2) ≥ ji4
      ·rw [if_pos c47] at H
       have c47b0 : decide (ji4 ≤ (rd t207 x100_2)) = true := decide_eq_true c47; clear c47; exact absurd H (by rw [HR_.out]; exact laws_FnFolds.j2_true)
      rw [if_neg c47] at H; have c47b0 : decide (ji4 ≤ (rd t207 x100_2)) = false := decide_eq_false c47; clear c47; replace H := Option.bind_eq_some_iff.mp H; obtain ⟨t223, A480, H⟩ := H; replace H : (if t223 = true then (laws_FnFolds.j2 k2 t206 (t206.size : Int) ji4 t207 t210 t211 t212 t213 x11_2 x100_2 (rd t207 x100_2) t207 (t207.length : Int) x100_2 true) else (if x100_2 < (t211.size : Int) then (if x100_2 > 0 then (if 0 ≤ (wrap64 (x100_2 - 1)) then (if (wrap64 (x100_2 - 1)) < (t211.size : Int) then (if (((bt t211 x100_2) == 117) == ((bt t211 (wrap64 (x100_2 - 1))) == 117)) = true then (laws_FnFolds.j2 k2 t206 (t206.size : Int) ji4 t207 t210 t211 t212 t213 x11_2 x100_2 (rd t207 x100_2) t207 (t207.length : Int) x100_2 (decide (x100_2 > 0))) else (laws_FnFolds.j2 k2 t206 (t206.size : Int) ji4 t207 t210 t211 t212 t213 x11_2 x100_2 (rd t207 x100_2) t207 (t207.length : Int) x100_2 false)) else (none)) else (none)) else (if (((bt t211 x100_2) == 117) == false) = true then (laws_FnFolds.j2 k2 t206 (t206.size : Int) ji4 t207 t210 t211 t212 t213 x11_2 x100_2 (rd t207 x100_2) t207 (t207.length : Int) x100_2 (decide (x100_2 > 0))) else (laws_FnFolds.j2 k2 t206 (t206.size : Int) ji4 t207 t210 t211 t212 t213 x11_2 x100_2 (rd t207 x100_2) t207 (t207.length : Int) x100_2 false))) else (none))) = some r := H; have A48 := m1 A480; clear A480; by_cases c49 : t223 = true
      ·subst c49
       have H1 : (laws_FnFolds.j2 k2 t206 (t206.size : Int) ji4 t207 t210 t211 t212 t213 x11_2 x100_2 (rd t207 x100_2) t207 (t207.length : Int) x100_2 true) = some r := by rw [if_pos rfl] at H; exact H
       clear H; have H := H1; clear H1; exact absurd H (by rw [HR_.out]; exact laws_FnFolds.j2_true)
      replace c49 := Bool.eq_false_iff.mpr c49; subst c49; have H1 : (if x100_2 < (t211.size : Int) then (if x100_2 > 0 then (if 0 ≤ (wrap64 (x100_2 - 1)) then (if (wrap64 (x100_2 - 1)) < (t211.size : Int) then (if (((bt t211 x100_2) == 117) == ((bt t211 (wrap64 (x100_2 - 1))) == 117)) = true then (laws_FnFolds.j2 k2 t206 (t206.size : Int) ji4 t207 t210 t211 t212 t213 x11_2 x100_2 (rd t207 x100_2) t207 (t207.length : Int) x100_2 (decide (x100_2 > 0))) else (laws_FnFolds.j2 k2 t206 (t206.size : Int) ji4 t207 t210 t211 t212 t213 x11_2 x100_2 (rd t207 x100_2) t207 (t207.length : Int) x100_2 false)) else (none)) else (none)) else (if (((bt t211 x100_2) == 117) == false) = true then (laws_FnFolds.j2 k2 t206 (t206.size : Int) ji4 t207 t210 t211 t212 t213 x11_2 x100_2 (rd t207 x100_2) t207 (t207.length : Int) x100_2 (decide (x100_2 > 0))) else (laws_FnFolds.j2 k2 t206 (t206.size : Int) ji4 t207 t210 t211 t212 t213 x11_2 x100_2 (rd t207 x100_2) t207 (t207.length : Int) x100_2 false))) else (none)) = some r := by rw [if_neg (show ¬ (false = true) by decide)] at H; exact H
      clear H; have H := H1; clear H1; by_cases c50 : x100_2 < (t211.size : Int)
      rotate_left
      ·rw [if_neg c50] at H
       exact absurd H (by simp)
      rw [if_pos c50] at H; have c50b0 : decide (x100_2 < (t211.size : Int)) = true := decide_eq_true c50; clear c50; by_cases c52 : x100_2 > 0
      rotate_left
      ·rw [if_neg c52] at H
       have c52b0 : decide (0 < x100_2) = false := decide_eq_false c52; clear c52; by_cases c62 : (((bt t211 x100_2) == 117) == false) = true
       rotate_left
       ·rw [if_neg c62] at H
        have c62b0 : (((bt t211 x100_2) == 117) == false) = false := by simpa using c62
        (try (have c62b1 : decide (((bt t211 x100_2) == 117) = false) = false := by simpa using c62))
        (try (have c62b2 : (((bt t211 x100_2) == 117) == false) = false := by simpa using c62))
        (try (have c62b3 : ¬ (((bt t211 x100_2) == 117) = false) := by simpa using c62))
        clear c62; have H' := m1 H; clear H; try go_wp2
        have n0_ := m1 (rC HO_6.out); have n1_ := m1 (rC HO_11.out); have n2_ := m1 (rC HO_98.out); have n3_ := m1 (below_drew1 HB.out); clear HO_6 HO_11 HO_98 HB; have HO_6 := n0_; have HO_11 := n1_; have HO_98 := n2_; have HB := n3_; clear n0_ n1_ n2_ n3_; obtain ⟨Ao66, co66, eo66⟩ := Kd.R_slice HO_11.out; (first | subst eo66 | (injection eo66 with f1_ f2_ f3_; have f4_ := f1_.symm; have f5_ := f3_.symm; clear f1_ f2_ f3_; subst f4_; subst f5_))
        refine start_ (n := 32) (S := fun w' => True) (ds := []) #[Z,Z,Z,Z,Z,Z,Z,Z,Z,Z,Z,Z,Z,Z,Z,Z,Z,Z,Z,Z,Z,Z,Z,Z,Z,Z,Z,Z,Z,Z,Z,Z] (by kernel_rfl) rfl rfl trivial (fun hHeld => ?_); refine with_tabW laws_FnFolds.tab17 laws_FnFolds.bits17 (fun HT_ HW_ => ?_)
        generalize wr.drew = w65 at HO_6 HO_11 HO_98 HB hHeld ⊢
        refine pure_ (i := 0) (N := some 105) (v := ?_) (a' := ?_) #[Y,Z,Z,Z,Z,Z,Z,Z,Z,Z,Z,Z,Z,Z,Z,Z,Z,Z,Z,Z,Z,Z,Z,Z,Z,Z,Z,Z,Z,Z,Z,Z] rfl rfl (any_of HT_.out (by kernel_rfl)) (fun _ _ _ h => h) (Or.inl ⟨by rfl, ?_⟩) ?_ ?_
        rotate_left
        ·intro w'
         go_simp; with_reducible rfl
        rotate_left
        ·simp only [Act.put, q1, q2, q3, i64_w, i32_w]
         rfl
        refine pure_ (i := 1) (N := some 106) (v := ?_) (a' := ?_) #[Y,Y,Z,Z,Z,Z,Z,Z,Z,Z,Z,Z,Z,Z,Z,Z,Z,Z,Z,Z,Z,Z,Z,Z,Z,Z,Z,Z,Z,Z,Z,Z] rfl rfl (any_of HT_.out (by kernel_rfl)) (fun _ _ _ h => h) (Or.inl ⟨by rfl, ?_⟩) ?_ ?_
        rotate_left
        ·intro w'
         go_simp; with_reducible rfl
        rotate_left
        ·simp only [Act.put, q1, q2, q3, i64_w, i32_w]
         rfl
        refine pure_ (i := 2) (N := some 107) (v := ?_) (a' := ?_) #[Y,Y,Y,Z,Z,Z,Z,Z,Z,Z,Z,Z,Z,Z,Z,Z,Z,Z,Z,Z,Z,Z,Z,Z,Z,Z,Z,Z,Z,Z,Z,Z] rfl rfl (any_of HT_.out (by kernel_rfl)) (fun _ _ _ h => h) (Or.inl ⟨by rfl, ?_⟩) ?_ ?_
        rotate_left
        ·intro w'
         go_simp; with_reducible rfl
        rotate_left
        ·simp only [Act.put, q1, q2, q3, i64_w, i32_w]
         rfl
        refine pure_ (i := 3) (N := some 108) (v := ?_) (a' := ?_) #[Y,Y,Y,Y,Z,Z,Z,Z,Z,Z,Z,Z,Z,Z,Z,Z,Z,Z,Z,Z,Z,Z,Z,Z,Z,Z,Z,Z,Z,Z,Z,Z] rfl rfl (any_of HT_.out (by kernel_rfl)) (fun _ _ _ h => h) (Or.inl ⟨by rfl, ?_⟩) ?_ ?_
        rotate_left
        ·intro w'
         go_simp; with_reducible rfl
        rotate_left
        ·simp only [Act.put, q1, q2, q3, i64_w, i32_w]
         rfl
        refine pure_ (i := 4) (N := some 109) (v := ?_) (a' := ?_) #[Y,Y,Y,Y,Y,Z,Z,Z,Z,Z,Z,Z,Z,Z,Z,Z,Z,Z,Z,Z,Z,Z,Z,Z,Z,Z,Z,Z,Z,Z,Z,Z] rfl rfl (any_of HT_.out (by kernel_rfl)) (fun _ _ _ h => h) (Or.inl ⟨by rfl, ?_⟩) ?_ ?_
        rotate_left
        ·intro w'
         go_simp; with_reducible rfl
        rotate_left
        ·simp only [Act.put, q1, q2, q3, i64_w, i32_w]
         rfl
        refine pure_ (i := 5) (N := some 110) (v := ?_) (a' := ?_) #[Y,Y,Y,Y,Y,Y,Z,Z,Z,Z,Z,Z,Z,Z,Z,Z,Z,Z,Z,Z,Z,Z,Z,Z,Z,Z,Z,Z,Z,Z,Z,Z] rfl rfl (any_of HT_.out (by kernel_rfl)) (fun _ _ _ h => h) (Or.inl ⟨by rfl, ?_⟩) ?_ ?_
        rotate_left
        ·intro w'
         go_simp; with_reducible rfl
        rotate_left
        ·simp only [Act.put, q1, q2, q3, i64_w, i32_w]
         rfl
        refine pure_ (i := 6) (N := some 111) (v := ?_) (a' := ?_) #[Y,Y,Y,Y,Y,Y,Y,Z,Z,Z,Z,Z,Z,Z,Z,Z,Z,Z,Z,Z,Z,Z,Z,Z,Z,Z,Z,Z,Z,Z,Z,Z] rfl rfl (any_of HT_.out (by kernel_rfl)) (fun _ _ _ h => h) (Or.inl ⟨by rfl, ?_⟩) ?_ ?_
        rotate_left
        ·intro w'
         go_simp; with_reducible rfl
        rotate_left
        ·simp only [Act.put, q1, q2, q3, i64_w, i32_w]
         rfl
        refine pure_ (i := 7) (N := some 112) (v := ?_) (a' := ?_) #[Y,Y,Y,Y,Y,Y,Y,Y,Z,Z,Z,Z,Z,Z,Z,Z,Z,Z,Z,Z,Z,Z,Z,Z,Z,Z,Z,Z,Z,Z,Z,Z] rfl rfl (any_of HT_.out (by kernel_rfl)) (fun _ _ _ h => h) (Or.inl ⟨by rfl, ?_⟩) ?_ ?_
        rotate_left
        ·intro w'
         go_simp; with_reducible rfl
        rotate_left
        ·simp only [Act.put, q1, q2, q3, i64_w, i32_w]
         rfl
        refine pure_ (i := 8) (N := some 113) (v := ?_) (a' := ?_) #[Y,Y,Y,Y,Y,Y,Y,Y,Y,Z,Z,Z,Z,Z,Z,Z,Z,Z,Z,Z,Z,Z,Z,Z,Z,Z,Z,Z,Z,Z,Z,Z] rfl rfl (any_of HT_.out (by kernel_rfl)) (fun _ _ _ h => h) (Or.inl ⟨by rfl, ?_⟩) ?_ ?_
        rotate_left
        ·intro w'
         go_simp; with_reducible rfl
        rotate_left
        ·simp only [Act.put, q1, q2, q3, i64_w, i32_w]
         rfl
        refine pure_ (i := 9) (N := some 114) (v := ?_) (a' := ?_) #[Y,Y,Y,Y,Y,Y,Y,Y,Y,Y,Z,Z,Z,Z,Z,Z,Z,Z,Z,Z,Z,Z,Z,Z,Z,Z,Z,Z,Z,Z,Z,Z] rfl rfl (any_of HT_.out (by kernel_rfl)) (fun _ _ _ h => h) (Or.inl ⟨by rfl, ?_⟩) ?_ ?_
        rotate_left
        ·intro w'
         go_simp; with_reducible rfl
        rotate_left
        ·simp only [Act.put, q1, q2, q3, i64_w, i32_w]
         rfl
        refine one_ (i := 10) (N := some 115) #[Y,Y,Y,Y,Y,Y,Y,Y,Y,Y,Y,Z,Z,Z,Z,Z,Z,Z,Z,Z,Z,Z,Z,Z,Z,Z,Z,Z,Z,Z,Z,Z] rfl rfl (one_of HT_.out (by kernel_rfl)) (by decide) (fun K hK => ?_)
        refine goes_ Tryz.func13 (by kernel_rfl) rfl #[.slice Ao66 x11_2.length co66, .int .i64 (rd t207 x100_2)] (by rfl) rfl rfl (by (try simp only [List.map_toArray, List.map_cons, List.map_nil]); first | done | rfl | (simp only [List.length_drop, List.length_take]; rfl)) ?_
        with_reducible refine (laws_has.calls k2 _ _ x11_2 (rd t207 x100_2) false _ ?side1 ?side2 A48.out).mono ?_
        (case side1 => repeat (first | exact (Kd.R_reads' HO_11.out).2.2 | (with_reducible refine Kd.C_alloc ?_ _) | (with_reducible refine Kd.C_drewN ?_ _) | (with_reducible refine Kd.C_drew ?_)))
        (case side2 => exact (Kd.R_reads' HO_11.out).2.1)
        rintro e w' ⟨rfl, ⟨nd, rfl⟩⟩
        refine ⟨_, rfl, ?_⟩; have p51 : 0 ≤ (x100_2 : Int) := of_decide_eq_true (by first | (with_reducible assumption) | assumption)
        have q51 : x100_2 < (t211.size : Int) := of_decide_eq_true (by first | (with_reducible assumption) | assumption)
        have hx51 := bt_at t211 x100_2; replace p51 := eq_true p51; replace q51 := eq_true q51; refine hK.out _ _ trivial (fun hHeld => ?_)
        clear hK K; refine norm_ (a' := ?_) ?_ ?_; rotate_left
        ·show Act.put _ (some 115) _ = _
         simp only [Act.put, q1, q2, q3, i64_w, i32_w]; rfl
        refine pure_ (i := 11) (N := some 116) (v := ?_) (a' := ?_) #[Y,Y,Y,Y,Y,Y,Y,Y,Y,Y,Y,Y,Z,Z,Z,Z,Z,Z,Z,Z,Z,Z,Z,Z,Z,Z,Z,Z,Z,Z,Z,Z] rfl rfl (any_of HT_.out (by kernel_rfl)) (fun _ _ _ h => h) (Or.inl ⟨by rfl, ?_⟩) ?_ ?_
        rotate_left
        ·intro w'
         go_simp; with_reducible rfl
        rotate_left
        ·simp only [Act.put, q1, q2, q3, i64_w, i32_w]
         rfl
        refine pure_ (i := 12) (N := some 117) (v := ?_) (a' := ?_) #[Y,Y,Y,Y,Y,Y,Y,Y,Y,Y,Y,Y,Y,Z,Z,Z,Z,Z,Z,Z,Z,Z,Z,Z,Z,Z,Z,Z,Z,Z,Z,Z] rfl rfl (any_of HT_.out (by kernel_rfl)) (fun _ _ _ h => h) (Or.inl ⟨by rfl, ?_⟩) ?_ ?_
        rotate_left
        ·intro w'
         go_simp; with_reducible rfl
        rotate_left
        ·simp only [Act.put, q1, q2, q3, i64_w, i32_w]
         rfl
        refine pure_ (i := 13) (N := some 118) (v := ?_) (a' := ?_) #[Y,Y,Y,Y,Y,Y,Y,Y,Y,Y,Y,Y,Y,Y,Z,Z,Z,Z,Z,Z,Z,Z,Z,Z,Z,Z,Z,Z,Z,Z,Z,Z] rfl rfl (any_of HT_.out (by kernel_rfl)) (fun _ _ _ h => h) (Or.inl ⟨by rfl, ?_⟩) ?_ ?_
        rotate_left
        ·intro w'
         go_simp; with_reducible rfl
        rotate_left
        ·simp only [Act.put, q1, q2, q3, i64_w, i32_w]
         rfl
        refine pure_ (i := 14) (N := some 119) (v := ?_) (a' := ?_) #[Y,Y,Y,Y,Y,Y,Y,Y,Y,Y,Y,Y,Y,Y,Y,Z,Z,Z,Z,Z,Z,Z,Z,Z,Z,Z,Z,Z,Z,Z,Z,Z] rfl rfl (any_of HT_.out (by kernel_rfl)) (fun _ _ _ h => h) (Or.inl ⟨by rfl, ?_⟩) ?_ ?_
        rotate_left
        ·intro w'
         go_simp; with_reducible rfl
        rotate_left
        ·simp only [Act.put, q1, q2, q3, i64_w, i32_w]
         rfl
        refine pure_ (i := 17) (N := some 122) (v := ?_) (a' := ?_) #[Y,Y,Y,Y,Y,Y,Y,Y,Y,Y,Y,Y,Y,Y,Y,Z,Z,Y,Z,Z,Z,Z,Z,Z,Z,Z,Z,Z,Z,Z,Z,Z] rfl rfl (any_of HT_.out (by kernel_rfl)) (fun _ _ _ h => h) (Or.inl ⟨by rfl, ?_⟩) ?_ ?_
        rotate_left
        ·intro w'
         go_simp; with_reducible rfl
        rotate_left
        ·simp only [Act.put, q1, q2, q3, i64_w, i32_w]
         rfl
        refine pure_ (i := 18) (N := some 123) (v := ?_) (a' := ?_) #[Y,Y,Y,Y,Y,Y,Y,Y,Y,Y,Y,Y,Y,Y,Y,Z,Z,Y,Y,Z,Z,Z,Z,Z,Z,Z,Z,Z,Z,Z,Z,Z] rfl rfl (any_of HT_.out (by kernel_rfl)) (fun _ _ _ h => h) (Or.inl ⟨by rfl, ?_⟩) ?_ ?_
        rotate_left
        ·intro w'
         go_simp; with_reducible rfl
        rotate_left
        ·simp only [Act.put, q1, q2, q3, i64_w, i32_w]
         rfl
        refine pure_ (i := 19) (N := some 124) (v := ?_) (a' := ?_) #[Y,Y,Y,Y,Y,Y,Y,Y,Y,Y,Y,Y,Y,Y,Y,Z,Z,Y,Y,Y,Z,Z,Z,Z,Z,Z,Z,Z,Z,Z,Z,Z] rfl rfl (any_of HT_.out (by kernel_rfl)) (fun _ _ _ h => h) (Or.inl ⟨by rfl, ?_⟩) ?_ ?_
        rotate_left
        ·intro w'
         go_simp; with_reducible rfl
        rotate_left
        ·simp only [Act.put, q1, q2, q3, i64_w, i32_w]
         rfl
        refine pure_ (i := 20) (N := some 125) (v := undef) (a' := ?_) #[Y,Y,Y,Y,Y,Y,Y,Y,Y,Y,Y,Y,Y,Y,Y,Z,Z,Y,Y,Y,Y,Z,Z,Z,Z,Z,Z,Z,Z,Z,Z,Z] rfl rfl (any_of HT_.out (by kernel_rfl)) (fun _ _ _ h => h) (Or.inr ⟨by rfl, rfl⟩) ?_ ?_
        rotate_left
        ·simp only [Act.put, q1, q2, q3, i64_w, i32_w]
         rfl
        refine pure_ (i := 21) (N := some 126) (v := undef) (a' := ?_) #[Y,Y,Y,Y,Y,Y,Y,Y,Y,Y,Y,Y,Y,Y,Y,Z,Z,Y,Y,Y,Y,Y,Z,Z,Z,Z,Z,Z,Z,Z,Z,Z] rfl rfl (any_of HT_.out (by kernel_rfl)) (fun _ _ _ h => h) (Or.inr ⟨by rfl, rfl⟩) ?_ ?_
        rotate_left
        ·simp only [Act.put, q1, q2, q3, i64_w, i32_w]
         rfl
        refine pure_ (i := 22) (N := some 127) (v := undef) (a' := ?_) #[Y,Y,Y,Y,Y,Y,Y,Y,Y,Y,Y,Y,Y,Y,Y,Z,Z,Y,Y,Y,Y,Y,Y,Z,Z,Z,Z,Z,Z,Z,Z,Z] rfl rfl (any_of HT_.out (by kernel_rfl)) (fun _ _ _ h => h) (Or.inr ⟨by rfl, rfl⟩) ?_ ?_
        rotate_left
        ·simp only [Act.put, q1, q2, q3, i64_w, i32_w]
         rfl
        refine pure_ (i := 23) (N := some 128) (v := undef) (a' := ?_) #[Y,Y,Y,Y,Y,Y,Y,Y,Y,Y,Y,Y,Y,Y,Y,Z,Z,Y,Y,Y,Y,Y,Y,Y,Z,Z,Z,Z,Z,Z,Z,Z] rfl rfl (any_of HT_.out (by kernel_rfl)) (fun _ _ _ h => h) (Or.inr ⟨by rfl, rfl⟩) ?_ ?_
        rotate_left
        ·simp only [Act.put, q1, q2, q3, i64_w, i32_w]
         rfl
        refine pure_ (i := 24) (N := some 129) (v := undef) (a' := ?_) #[Y,Y,Y,Y,Y,Y,Y,Y,Y,Y,Y,Y,Y,Y,Y,Z,Z,Y,Y,Y,Y,Y,Y,Y,Y,Z,Z,Z,Z,Z,Z,Z] rfl rfl (any_of HT_.out (by kernel_rfl)) (fun _ _ _ h => h) (Or.inr ⟨by rfl, rfl⟩) ?_ ?_
        rotate_left
        ·simp only [Act.put, q1, q2, q3, i64_w, i32_w]
         rfl
        refine pure_ (i := 25) (N := some 130) (v := ?_) (a' := ?_) #[Y,Y,Y,Y,Y,Y,Y,Y,Y,Y,Y,Y,Y,Y,Y,Z,Z,Y,Y,Y,Y,Y,Y,Y,Y,Y,Z,Z,Z,Z,Z,Z] rfl rfl (any_of HT_.out (by kernel_rfl)) (fun _ _ _ h => h) (Or.inl ⟨by rfl, ?_⟩) ?_ ?_
        rotate_left
        ·intro w'
         go_simp; with_reducible rfl
        rotate_left
        ·simp only [Act.put, q1, q2, q3, i64_w, i32_w]
         rfl
        refine take_ (i := 15) (N := some 120) (v := ?_) (a' := ?_) #[Y,Y,Y,Y,Y,Y,Y,Y,Y,Y,Y,Y,Y,Y,Y,Y,Z,Y,Y,Y,Y,Y,Y,Y,Y,Y,Z,Z,Z,Z,Z,Z] rfl rfl (take_ofW HT_.out HW_.out (by kernel_rfl)) (fun _ _ _ h => h) (Or.inl ⟨by rfl, ?_⟩) hHeld ?_ ?_
        rotate_left
        ·intro w' _
         go_simp; with_reducible rfl
        rotate_left
        ·simp only [Act.put, q1, q2, q3, i64_w, i32_w]
         rfl
        refine pure_ (i := 16) (N := some 121) (v := ?_) (a' := ?_) #[Y,Y,Y,Y,Y,Y,Y,Y,Y,Y,Y,Y,Y,Y,Y,Y,Y,Y,Y,Y,Y,Y,Y,Y,Y,Y,Z,Z,Z,Z,Z,Z] rfl rfl (any_of HT_.out (by kernel_rfl)) (fun _ _ _ h => h) (Or.inl ⟨by rfl, ?_⟩) ?_ ?_
        rotate_left
        ·intro w'
         go_simp; with_reducible rfl
        rotate_left
        ·simp only [Act.put, q1, q2, q3, i64_w, i32_w]
         rfl
        refine pure_ (i := 26) (N := some 131) (v := ?_) (a' := ?_) #[Y,Y,Y,Y,Y,Y,Y,Y,Y,Y,Y,Y,Y,Y,Y,Y,Y,Y,Y,Y,Y,Y,Y,Y,Y,Y,Y,Z,Z,Z,Z,Z] rfl rfl (any_of HT_.out (by kernel_rfl)) (fun _ _ _ h => h) (Or.inl ⟨by rfl, ?_⟩) ?_ ?_
        rotate_left
        ·intro w'
         go_simp; with_reducible rfl
        rotate_left
        ·simp only [Act.put, q1, q2, q3, i64_w, i32_w]
         rfl
        refine pure_ (i := 27) (N := some 132) (v := ?_) (a' := ?_) #[Y,Y,Y,Y,Y,Y,Y,Y,Y,Y,Y,Y,Y,Y,Y,Y,Y,Y,Y,Y,Y,Y,Y,Y,Y,Y,Y,Y,Z,Z,Z,Z] rfl rfl (any_of HT_.out (by kernel_rfl)) (fun _ _ _ h => h) (Or.inl ⟨by rfl, ?_⟩) ?_ ?_
        rotate_left
        ·intro w'
         go_simp; with_reducible rfl
        rotate_left
        ·simp only [Act.put, q1, q2, q3, i64_w, i32_w]
         rfl
        refine pure_ (i := 28) (N := some 133) (v := undef) (a' := ?_) #[Y,Y,Y,Y,Y,Y,Y,Y,Y,Y,Y,Y,Y,Y,Y,Y,Y,Y,Y,Y,Y,Y,Y,Y,Y,Y,Y,Y,Y,Z,Z,Z] rfl rfl (any_of HT_.out (by kernel_rfl)) (fun _ _ _ h => h) (Or.inr ⟨by rfl, rfl⟩) ?_ ?_
        rotate_left
        ·simp only [Act.put, q1, q2, q3, i64_w, i32_w]
         rfl
        refine pure_ (i := 29) (N := some 134) (v := undef) (a' := ?_) #[Y,Y,Y,Y,Y,Y,Y,Y,Y,Y,Y,Y,Y,Y,Y,Y,Y,Y,Y,Y,Y,Y,Y,Y,Y,Y,Y,Y,Y,Y,Z,Z] rfl rfl (any_of HT_.out (by kernel_rfl)) (fun _ _ _ h => h) (Or.inr ⟨by rfl, rfl⟩) ?_ ?_
        rotate_left
        ·simp only [Act.put, q1, q2, q3, i64_w, i32_w]
         rfl
        refine pure_ (i := 30) (N := some 135) (v := ?_) (a' := ?_) #[Y,Y,Y,Y,Y,Y,Y,Y,Y,Y,Y,Y,Y,Y,Y,Y,Y,Y,Y,Y,Y,Y,Y,Y,Y,Y,Y,Y,Y,Y,Y,Z] rfl rfl (any_of HT_.out (by kernel_rfl)) (fun _ _ _ h => h) (Or.inl ⟨by rfl, ?_⟩) ?_ ?_
        rotate_left
        ·intro w'
         go_simp; with_reducible rfl
        rotate_left
        ·simp only [Act.put, q1, q2, q3, i64_w, i32_w]
         rfl
        refine pure_ (i := 31) (N := some 136) (v := ?_) (a' := ?_) #[Y,Y,Y,Y,Y,Y,Y,Y,Y,Y,Y,Y,Y,Y,Y,Y,Y,Y,Y,Y,Y,Y,Y,Y,Y,Y,Y,Y,Y,Y,Y,Y] rfl rfl (any_of HT_.out (by kernel_rfl)) (fun _ _ _ h => h) (Or.inl ⟨by rfl, ?_⟩) ?_ ?_
        rotate_left
        ·intro w'
         go_simp; with_reducible rfl
        rotate_left
        ·simp only [Act.put, q1, q2, q3, i64_w, i32_w]
         rfl
        refine done_ (done_of HT_.out (by kernel_rfl)) ?_
        try go_wp2
        go_meet
        case rel => exact ⟨_, (false), (by first | rfl | (simp; done) | (simp [*]; done)), H', ⟨by have := HJ9.out; have := HK2.out; first | omega | exact Nat.le_refl _⟩, ⟨by (with_reducible repeat (first | apply rA | apply rB | apply rC)); exact HO_6.out⟩, ⟨by (with_reducible repeat (first | apply rA | apply rB | apply rC)); exact HO_11.out⟩, ⟨by (with_reducible repeat (first | apply rA | apply rB | apply rC)); exact HO_98.out⟩, ⟨by repeat (first | (with_reducible first | exact HB.out | apply c1 | apply c2 | apply c3) | exact HB.out)⟩⟩
       rw [if_pos c62] at H; have c62b0 : (((bt t211 x100_2) == 117) == false) = true := c62; (try (have c62b1 : decide (((bt t211 x100_2) == 117) = false) = true := by simpa using c62))
       (try (have c62b2 : (((bt t211 x100_2) == 117) == false) = true := by simpa using c62))
       clear c62; have H' := m1 H; clear H; try go_wp2
       have n0_ := m1 (rC HO_6.out); have n1_ := m1 (rC HO_11.out); have n2_ := m1 (rC HO_98.out); have n3_ := m1 (below_drew1 HB.out); clear HO_6 HO_11 HO_98 HB; have HO_6 := n0_; have HO_11 := n1_; have HO_98 := n2_; have HB := n3_; clear n0_ n1_ n2_ n3_; obtain ⟨Ao64, co64, eo64⟩ := Kd.R_slice HO_11.out; (first | subst eo64 | (injection eo64 with f1_ f2_ f3_; have f4_ := f1_.symm; have f5_ := f3_.symm; clear f1_ f2_ f3_; subst f4_; subst f5_))
       refine start_ (n := 32) (S := fun w' => True) (ds := []) #[Z,Z,Z,Z,Z,Z,Z,Z,Z,Z,Z,Z,Z,Z,Z,Z,Z,Z,Z,Z,Z,Z,Z,Z,Z,Z,Z,Z,Z,Z,Z,Z] (by kernel_rfl) rfl rfl trivial (fun hHeld => ?_); refine with_tabW laws_FnFolds.tab17 laws_FnFolds.bits17 (fun HT_ HW_ => ?_)
       generalize wr.drew = w63 at HO_6 HO_11 HO_98 HB hHeld ⊢
       refine pure_ (i := 0) (N := some 105) (v := ?_) (a' := ?_) #[Y,Z,Z,Z,Z,Z,Z,Z,Z,Z,Z,Z,Z,Z,Z,Z,Z,Z,Z,Z,Z,Z,Z,Z,Z,Z,Z,Z,Z,Z,Z,Z] rfl rfl (any_of HT_.out (by kernel_rfl)) (fun _ _ _ h => h) (Or.inl ⟨by rfl, ?_⟩) ?_ ?_
       rotate_left
       ·intro w'
        go_simp; with_reducible rfl
       rotate_left
       ·simp only [Act.put, q1, q2, q3, i64_w, i32_w]
        rfl
       refine pure_ (i := 1) (N := some 106) (v := ?_) (a' := ?_) #[Y,Y,Z,Z,Z,Z,Z,Z,Z,Z,Z,Z,Z,Z,Z,Z,Z,Z,Z,Z,Z,Z,Z,Z,Z,Z,Z,Z,Z,Z,Z,Z] rfl rfl (any_of HT_.out (by kernel_rfl)) (fun _ _ _ h => h) (Or.inl ⟨by rfl, ?_⟩) ?_ ?_
       rotate_left
       ·intro w'
        go_simp; with_reducible rfl
       rotate_left
       ·simp only [Act.put, q1, q2, q3, i64_w, i32_w]
        rfl
       refine pure_ (i := 2) (N := some 107) (v := ?_) (a' := ?_) #[Y,Y,Y,Z,Z,Z,Z,Z,Z,Z,Z,Z,Z,Z,Z,Z,Z,Z,Z,Z,Z,Z,Z,Z,Z,Z,Z,Z,Z,Z,Z,Z] rfl rfl (any_of HT_.out (by kernel_rfl)) (fun _ _ _ h => h) (Or.inl ⟨by rfl, ?_⟩) ?_ ?_
       rotate_left
       ·intro w'
        go_simp; with_reducible rfl
       rotate_left
       ·simp only [Act.put, q1, q2, q3, i64_w, i32_w]
        rfl
       refine pure_ (i := 3) (N := some 108) (v := ?_) (a' := ?_) #[Y,Y,Y,Y,Z,Z,Z,Z,Z,Z,Z,Z,Z,Z,Z,Z,Z,Z,Z,Z,Z,Z,Z,Z,Z,Z,Z,Z,Z,Z,Z,Z] rfl rfl (any_of HT_.out (by kernel_rfl)) (fun _ _ _ h => h) (Or.inl ⟨by rfl, ?_⟩) ?_ ?_
       rotate_left
       ·intro w'
        go_simp; with_reducible rfl
       rotate_left
       ·simp only [Act.put, q1, q2, q3, i64_w, i32_w]
        rfl
       refine pure_ (i := 4) (N := some 109) (v := ?_) (a' := ?_) #[Y,Y,Y,Y,Y,Z,Z,Z,Z,Z,Z,Z,Z,Z,Z,Z,Z,Z,Z,Z,Z,Z,Z,Z,Z,Z,Z,Z,Z,Z,Z,Z] rfl rfl (any_of HT_.out (by kernel_rfl)) (fun _ _ _ h => h) (Or.inl ⟨by rfl, ?_⟩) ?_ ?_
       rotate_left
       ·intro w'
        go_simp; with_reducible rfl
       rotate_left
       ·simp only [Act.put, q1, q2, q3, i64_w, i32_w]
        rfl
       refine pure_ (i := 5) (N := some 110) (v := ?_) (a' := ?_) #[Y,Y,Y,Y,Y,Y,Z,Z,Z,Z,Z,Z,Z,Z,Z,Z,Z,Z,Z,Z,Z,Z,Z,Z,Z,Z,Z,Z,Z,Z,Z,Z] rfl rfl (any_of HT_.out (by kernel_rfl)) (fun _ _ _ h => h) (Or.inl ⟨by rfl, ?_⟩) ?_ ?_
       rotate_left
       ·intro w'
        go_simp; with_reducible rfl
       rotate_left
       ·simp only [Act.put, q1, q2, q3, i64_w, i32_w]
        rfl
       refine pure_ (i := 6) (N := some 111) (v := ?_) (a' := ?_) #[Y,Y,Y,Y,Y,Y,Y,Z,Z,Z,Z,Z,Z,Z,Z,Z,Z,Z,Z,Z,Z,Z,Z,Z,Z,Z,Z,Z,Z,Z,Z,Z] rfl rfl (any_of HT_.out (by kernel_rfl)) (fun _ _ _ h => h) (Or.inl ⟨by rfl, ?_⟩) ?_ ?_
       rotate_left
       ·intro w'
        go_simp; with_reducible rfl
       rotate_left
       ·simp only [Act.put, q1, q2, q3, i64_w, i32_w]
        rfl
       refine pure_ (i := 7) (N := some 112) (v := ?_) (a' := ?_) #[Y,Y,Y,Y,Y,Y,Y,Y,Z,Z,Z,Z,Z,Z,Z,Z,Z,Z,Z,Z,Z,Z,Z,Z,Z,Z,Z,Z,Z,Z,Z,Z] rfl rfl (any_of HT_.out (by kernel_rfl)) (fun _ _ _ h => h) (Or.inl ⟨by rfl, ?_⟩) ?_ ?_
       rotate_left
       ·intro w'
        go_simp; with_reducible rfl
       rotate_left
       ·simp only [Act.put, q1, q2, q3, i64_w, i32_w]
        rfl
       refine pure_ (i := 8) (N := some 113) (v := ?_) (a' := ?_) #[Y,Y,Y,Y,Y,Y,Y,Y,Y,Z,Z,Z,Z,Z,Z,Z,Z,Z,Z,Z,Z,Z,Z,Z,Z,Z,Z,Z,Z,Z,Z,Z] rfl rfl (any_of HT_.out (by kernel_rfl)) (fun _ _ _ h => h) (Or.inl ⟨by rfl, ?_⟩) ?_ ?_
       rotate_left
       ·intro w'
        go_simp; with_reducible rfl
       rotate_left
       ·simp only [Act.put, q1, q2, q3, i64_w, i32_w]
        rfl
       refine pure_ (i := 9) (N := some 114) (v := ?_) (a' := ?_) #[Y,Y,Y,Y,Y,Y,Y,Y,Y,Y,Z,Z,Z,Z,Z,Z,Z,Z,Z,Z,Z,Z,Z,Z,Z,Z,Z,Z,Z,Z,Z,Z] rfl rfl (any_of HT_.out (by kernel_rfl)) (fun _ _ _ h => h) (Or.inl ⟨by rfl, ?_⟩) ?_ ?_
       rotate_left
       ·intro w'
        go_simp; with_reducible rfl
       rotate_left
       ·simp only [Act.put, q1, q2, q3, i64_w, i32_w]
        rfl
       refine one_ (i := 10) (N := some 115) #[Y,Y,Y,Y,Y,Y,Y,Y,Y,Y,Y,Z,Z,Z,Z,Z,Z,Z,Z,Z,Z,Z,Z,Z,Z,Z,Z,Z,Z,Z,Z,Z] rfl rfl (one_of HT_.out (by kernel_rfl)) (by decide) (fun K hK => ?_)
       refine goes_ Tryz.func13 (by kernel_rfl) rfl #[.slice Ao64 x11_2.length co64, .int .i64 (rd t207 x100_2)] (by rfl) rfl rfl (by (try simp only [List.map_toArray, List.map_cons, List.map_nil]); first | done | rfl | (simp only [List.length_drop, List.length_take]; rfl)) ?_
       with_reducible refine (laws_has.calls k2 _ _ x11_2 (rd t207 x100_2) false _ ?side1 ?side2 A48.out).mono ?_
       (case side1 => repeat (first | exact (Kd.R_reads' HO_11.out).2.2 | (with_reducible refine Kd.C_alloc ?_ _) | (with_reducible refine Kd.C_drewN ?_ _) | (with_reducible refine Kd.C_drew ?_)))
       (case side2 => exact (Kd.R_reads' HO_11.out).2.1)
       rintro e w' ⟨rfl, ⟨nd, rfl⟩⟩
       refine ⟨_, rfl, ?_⟩; have p51 : 0 ≤ (x100_2 : Int) := of_decide_eq_true (by first | (with_reducible assumption) | assumption)
       have q51 : x100_2 < (t211.size : Int) := of_decide_eq_true (by first | (with_reducible assumption) | assumption)
       have hx51 := bt_at t211 x100_2; replace p51 := eq_true p51; replace q51 := eq_true q51; refine hK.out _ _ trivial (fun hHeld => ?_)
       clear hK K; refine norm_ (a' := ?_) ?_ ?_; rotate_left
       ·show Act.put _ (some 115) _ = _
        simp only [Act.put, q1, q2, q3, i64_w, i32_w]; rfl
       refine pure_ (i := 11) (N := some 116) (v := ?_) (a' := ?_) #[Y,Y,Y,Y,Y,Y,Y,Y,Y,Y,Y,Y,Z,Z,Z,Z,Z,Z,Z,Z,Z,Z,Z,Z,Z,Z,Z,Z,Z,Z,Z,Z] rfl rfl (any_of HT_.out (by kernel_rfl)) (fun _ _ _ h => h) (Or.inl ⟨by rfl, ?_⟩) ?_ ?_
       rotate_left
       ·intro w'
        go_simp; with_reducible rfl
       rotate_left
       ·simp only [Act.put, q1, q2, q3, i64_w, i32_w]
        rfl
       refine pure_ (i := 12) (N := some 117) (v := ?_) (a' := ?_) #[Y,Y,Y,Y,Y,Y,Y,Y,Y,Y,Y,Y,Y,Z,Z,Z,Z,Z,Z,Z,Z,Z,Z,Z,Z,Z,Z,Z,Z,Z,Z,Z] rfl rfl (any_of HT_.out (by kernel_rfl)) (fun _ _ _ h => h) (Or.inl ⟨by rfl, ?_⟩) ?_ ?_
       rotate_left
       ·intro w'
        go_simp; with_reducible rfl
       rotate_left
       ·simp only [Act.put, q1, q2, q3, i64_w, i32_w]
        rfl
       refine pure_ (i := 13) (N := some 118) (v := ?_) (a' := ?_) #[Y,Y,Y,Y,Y,Y,Y,Y,Y,Y,Y,Y,Y,Y,Z,Z,Z,Z,Z,Z,Z,Z,Z,Z,Z,Z,Z,Z,Z,Z,Z,Z] rfl rfl (any_of HT_.out (by kernel_rfl)) (fun _ _ _ h => h) (Or.inl ⟨by rfl, ?_⟩) ?_ ?_
       rotate_left
       ·intro w'
        go_simp; with_reducible rfl
       rotate_left
       ·simp only [Act.put, q1, q2, q3, i64_w, i32_w]
        rfl
       refine pure_ (i := 14) (N := some 119) (v := ?_) (a' := ?_) #[Y,Y,Y,Y,Y,Y,Y,Y,Y,Y,Y,Y,Y,Y,Y,Z,Z,Z,Z,Z,Z,Z,Z,Z,Z,Z,Z,Z,Z,Z,Z,Z] rfl rfl (any_of HT_.out (by kernel_rfl)) (fun _ _ _ h => h) (Or.inl ⟨by rfl, ?_⟩) ?_ ?_
       rotate_left
       ·intro w'
        go_simp; with_reducible rfl
       rotate_left
       ·simp only [Act.put, q1, q2, q3, i64_w, i32_w]
        rfl
       refine pure_ (i := 17) (N := some 122) (v := ?_) (a' := ?_) #[Y,Y,Y,Y,Y,Y,Y,Y,Y,Y,Y,Y,Y,Y,Y,Z,Z,Y,Z,Z,Z,Z,Z,Z,Z,Z,Z,Z,Z,Z,Z,Z] rfl rfl (any_of HT_.out (by kernel_rfl)) (fun _ _ _ h => h) (Or.inl ⟨by rfl, ?_⟩) ?_ ?_
       rotate_left
       ·intro w'
        go_simp; with_reducible rfl
       rotate_left
       ·simp only [Act.put, q1, q2, q3, i64_w, i32_w]
        rfl
       refine pure_ (i := 18) (N := some 123) (v := ?_) (a' := ?_) #[Y,Y,Y,Y,Y,Y,Y,Y,Y,Y,Y,Y,Y,Y,Y,Z,Z,Y,Y,Z,Z,Z,Z,Z,Z,Z,Z,Z,Z,Z,Z,Z] rfl rfl (any_of HT_.out (by kernel_rfl)) (fun _ _ _ h => h) (Or.inl ⟨by rfl, ?_⟩) ?_ ?_
       rotate_left
       ·intro w'
        go_simp; with_reducible rfl
       rotate_left
       ·simp only [Act.put, q1, q2, q3, i64_w, i32_w]
        rfl
       refine pure_ (i := 19) (N := some 124) (v := ?_) (a' := ?_) #[Y,Y,Y,Y,Y,Y,Y,Y,Y,Y,Y,Y,Y,Y,Y,Z,Z,Y,Y,Y,Z,Z,Z,Z,Z,Z,Z,Z,Z,Z,Z,Z] rfl rfl (any_of HT_.out (by kernel_rfl)) (fun _ _ _ h => h) (Or.inl ⟨by rfl, ?_⟩) ?_ ?_
       rotate_left
       ·intro w'
        go_simp; with_reducible rfl
       rotate_left
       ·simp only [Act.put, q1, q2, q3, i64_w, i32_w]
        rfl
       refine pure_ (i := 20) (N := some 125) (v := undef) (a' := ?_) #[Y,Y,Y,Y,Y,Y,Y,Y,Y,Y,Y,Y,Y,Y,Y,Z,Z,Y,Y,Y,Y,Z,Z,Z,Z,Z,Z,Z,Z,Z,Z,Z] rfl rfl (any_of HT_.out (by kernel_rfl)) (fun _ _ _ h => h) (Or.inr ⟨by rfl, rfl⟩) ?_ ?_
       rotate_left
       ·simp only [Act.put, q1, q2, q3, i64_w, i32_w]
        rfl
       refine pure_ (i := 21) (N := some 126) (v := undef) (a' := ?_) #[Y,Y,Y,Y,Y,Y,Y,Y,Y,Y,Y,Y,Y,Y,Y,Z,Z,Y,Y,Y,Y,Y,Z,Z,Z,Z,Z,Z,Z,Z,Z,Z] rfl rfl (any_of HT_.out (by kernel_rfl)) (fun _ _ _ h => h) (Or.inr ⟨by rfl, rfl⟩) ?_ ?_
       rotate_left
       ·simp only [Act.put, q1, q2, q3, i64_w, i32_w]
        rfl
       refine pure_ (i := 22) (N := some 127) (v := undef) (a' := ?_) #[Y,Y,Y,Y,Y,Y,Y,Y,Y,Y,Y,Y,Y,Y,Y,Z,Z,Y,Y,Y,Y,Y,Y,Z,Z,Z,Z,Z,Z,Z,Z,Z] rfl rfl (any_of HT_.out (by kernel_rfl)) (fun _ _ _ h => h) (Or.inr ⟨by rfl, rfl⟩) ?_ ?_
       rotate_left
       ·simp only [Act.put, q1, q2, q3, i64_w, i32_w]
        rfl
       refine pure_ (i := 23) (N := some 128) (v := undef) (a' := ?_) #[Y,Y,Y,Y,Y,Y,Y,Y,Y,Y,Y,Y,Y,Y,Y,Z,Z,Y,Y,Y,Y,Y,Y,Y,Z,Z,Z,Z,Z,Z,Z,Z] rfl rfl (any_of HT_.out (by kernel_rfl)) (fun _ _ _ h => h) (Or.inr ⟨by rfl, rfl⟩) ?_ ?_
       rotate_left
       ·simp only [Act.put, q1, q2, q3, i64_w, i32_w]
        rfl
       refine pure_ (i := 24) (N := some 129) (v := undef) (a' := ?_) #[Y,Y,Y,Y,Y,Y,Y,Y,Y,Y,Y,Y,Y,Y,Y,Z,Z,Y,Y,Y,Y,Y,Y,Y,Y,Z,Z,Z,Z,Z,Z,Z] rfl rfl (any_of HT_.out (by kernel_rfl)) (fun _ _ _ h => h) (Or.inr ⟨by rfl, rfl⟩) ?_ ?_
       rotate_left
       ·simp only [Act.put, q1, q2, q3, i64_w, i32_w]
        rfl
       refine pure_ (i := 25) (N := some 130) (v := ?_) (a' := ?_) #[Y,Y,Y,Y,Y,Y,Y,Y,Y,Y,Y,Y,Y,Y,Y,Z,Z,Y,Y,Y,Y,Y,Y,Y,Y,Y,Z,Z,Z,Z,Z,Z] rfl rfl (any_of HT_.out (by kernel_rfl)) (fun _ _ _ h => h) (Or.inl ⟨by rfl, ?_⟩) ?_ ?_
       rotate_left
       ·intro w'
        go_simp; with_reducible rfl
       rotate_left
       ·simp only [Act.put, q1, q2, q3, i64_w, i32_w]
        rfl
       refine take_ (i := 15) (N := some 120) (v := ?_) (a' := ?_) #[Y,Y,Y,Y,Y,Y,Y,Y,Y,Y,Y,Y,Y,Y,Y,Y,Z,Y,Y,Y,Y,Y,Y,Y,Y,Y,Z,Z,Z,Z,Z,Z] rfl rfl (take_ofW HT_.out HW_.out (by kernel_rfl)) (fun _ _ _ h => h) (Or.inl ⟨by rfl, ?_⟩) hHeld ?_ ?_
       rotate_left
       ·intro w' _
        go_simp; with_reducible rfl
       rotate_left
       ·simp only [Act.put, q1, q2, q3, i64_w, i32_w]
        rfl
       refine pure_ (i := 16) (N := some 121) (v := ?_) (a' := ?_) #[Y,Y,Y,Y,Y,Y,Y,Y,Y,Y,Y,Y,Y,Y,Y,Y,Y,Y,Y,Y,Y,Y,Y,Y,Y,Y,Z,Z,Z,Z,Z,Z] rfl rfl (any_of HT_.out (by kernel_rfl)) (fun _ _ _ h => h) (Or.inl ⟨by rfl, ?_⟩) ?_ ?_
       rotate_left
       ·intro w'
        go_simp; with_reducible rfl
       rotate_left
       ·simp only [Act.put, q1, q2, q3, i64_w, i32_w]
        rfl
       refine pure_ (i := 26) (N := some 131) (v := ?_) (a' := ?_) #[Y,Y,Y,Y,Y,Y,Y,Y,Y,Y,Y,Y,Y,Y,Y,Y,Y,Y,Y,Y,Y,Y,Y,Y,Y,Y,Y,Z,Z,Z,Z,Z] rfl rfl (any_of HT_.out (by kernel_rfl)) (fun _ _ _ h => h) (Or.inl ⟨by rfl, ?_⟩) ?_ ?_
       rotate_left
       ·intro w'
        go_simp; with_reducible rfl
       rotate_left
       ·simp only [Act.put, q1, q2, q3, i64_w, i32_w]
        rfl
       refine pure_ (i := 27) (N := some 132) (v := ?_) (a' := ?_) #[Y,Y,Y,Y,Y,Y,Y,Y,Y,Y,Y,Y,Y,Y,Y,Y,Y,Y,Y,Y,Y,Y,Y,Y,Y,Y,Y,Y,Z,Z,Z,Z] rfl rfl (any_of HT_.out (by kernel_rfl)) (fun _ _ _ h => h) (Or.inl ⟨by rfl, ?_⟩) ?_ ?_
       rotate_left
       ·intro w'
        go_simp; with_reducible rfl
       rotate_left
       ·simp only [Act.put, q1, q2, q3, i64_w, i32_w]
        rfl
       refine pure_ (i := 28) (N := some 133) (v := ?_) (a' := ?_) #[Y,Y,Y,Y,Y,Y,Y,Y,Y,Y,Y,Y,Y,Y,Y,Y,Y,Y,Y,Y,Y,Y,Y,Y,Y,Y,Y,Y,Y,Z,Z,Z] rfl rfl (any_of HT_.out (by kernel_rfl)) (fun _ _ _ h => h) (Or.inl ⟨by rfl, ?_⟩) ?_ ?_
       rotate_left
       ·intro w'
        go_simp; with_reducible rfl
       rotate_left
       ·simp only [Act.put, q1, q2, q3, i64_w, i32_w]
        rfl
       refine pure_ (i := 29) (N := some 134) (v := ?_) (a' := ?_) #[Y,Y,Y,Y,Y,Y,Y,Y,Y,Y,Y,Y,Y,Y,Y,Y,Y,Y,Y,Y,Y,Y,Y,Y,Y,Y,Y,Y,Y,Y,Z,Z] rfl rfl (any_of HT_.out (by kernel_rfl)) (fun _ _ _ h => h) (Or.inl ⟨by rfl, ?_⟩) ?_ ?_
       rotate_left
       ·intro w'
        go_simp; with_reducible rfl
       rotate_left
       ·simp only [Act.put, q1, q2, q3, i64_w, i32_w]
        rfl
       refine pure_ (i := 30) (N := some 135) (v := ?_) (a' := ?_) #[Y,Y,Y,Y,Y,Y,Y,Y,Y,Y,Y,Y,Y,Y,Y,Y,Y,Y,Y,Y,Y,Y,Y,Y,Y,Y,Y,Y,Y,Y,Y,Z] rfl rfl (any_of HT_.out (by kernel_rfl)) (fun _ _ _ h => h) (Or.inl ⟨by rfl, ?_⟩) ?_ ?_
       rotate_left
       ·intro w'
        go_simp; with_reducible rfl
       rotate_left
       ·simp only [Act.put, q1, q2, q3, i64_w, i32_w]
        rfl
       refine pure_ (i := 31) (N := some 136) (v := ?_) (a' := ?_) #[Y,Y,Y,Y,Y,Y,Y,Y,Y,Y,Y,Y,Y,Y,Y,Y,Y,Y,Y,Y,Y,Y,Y,Y,Y,Y,Y,Y,Y,Y,Y,Y] rfl rfl (any_of HT_.out (by kernel_rfl)) (fun _ _ _ h => h) (Or.inl ⟨by rfl, ?_⟩) ?_ ?_
       rotate_left
       ·intro w'
        go_simp; with_reducible rfl
       rotate_left
       ·simp only [Act.put, q1, q2, q3, i64_w, i32_w]
        rfl
       refine done_ (done_of HT_.out (by kernel_rfl)) ?_
       try go_wp2
       go_meet
       case rel => exact ⟨_, (decide (x100_2 > 0)), (by first | rfl | (simp; done) | (simp [*]; done)), H', ⟨by have := HJ9.out; have := HK2.out; first | omega | exact Nat.le_refl _⟩, ⟨by (with_reducible repeat (first | apply rA | apply rB | apply rC)); exact HO_6.out⟩, ⟨by (with_reducible repeat (first | apply rA | apply rB | apply rC)); exact HO_11.out⟩, ⟨by (with_reducible repeat (first | apply rA | apply rB | apply rC)); exact HO_98.out⟩, ⟨by repeat (first | (with_reducible first | exact HB.out | apply c1 | apply c2 | apply c3) | exact HB.out)⟩⟩
      rw [if_pos c52] at H; have c52b0 : decide (0 < x100_2) = true := decide_eq_true c52; clear c52; obtain ⟨ji53, hji53⟩ : ∃ j_ : Int, (wrap64 (x100_2 - 1)) = j_ := ⟨_, rfl⟩; replace H : (if 0 ≤ (ji53) then (if (ji53) < (t211.size : Int) then (if (((bt t211 x100_2) == 117) == ((bt t211 (ji53)) == 117)) = true then (laws_FnFolds.j2 k2 t206 (t206.size : Int) ji4 t207 t210 t211 t212 t213 x11_2 x100_2 (rd t207 x100_2) t207 (t207.length : Int) x100_2 (decide (x100_2 > 0))) else (laws_FnFolds.j2 k2 t206 (t206.size : Int) ji4 t207 t210 t211 t212 t213 x11_2 x100_2 (rd t207 x100_2) t207 (t207.length : Int) x100_2 false)) else (none)) else (none)) = some r := by first | (rw [hji53] at H; exact H) | (simp only [hji53] at H ⊢; exact H)
      (try rw [hji53] at A48)
      have hji53w : (IntKind.i64.wrap (x100_2 - 1)) = ji53 := (i64_w _).trans hji53; by_cases c54 : 0 ≤ (ji53)
      rotate_left
      ·rw [if_neg c54] at H
       exact absurd H (by simp)
      rw [if_pos c54] at H; have c54b0 : decide (0 ≤ (ji53)) = true := decide_eq_true c54; clear c54; by_cases c55 : (ji53) < (t211.size : Int)
      rotate_left
      ·rw [if_neg c55] at H
       exact absurd H (by simp)
      rw [if_pos c55] at H; have c55b0 : decide ((ji53) < (t211.size : Int)) = true := decide_eq_true c55; clear c55; by_cases c57 : (((bt t211 x100_2) == 117) == ((bt t211 (ji53)) == 117)) = true
      rotate_left
      ·rw [if_neg c57] at H
       have c57b0 : (((bt t211 x100_2) == 117) == ((bt t211 (ji53)) == 117)) = false := by simpa using c57
       (try (have c57b1 : decide (((bt t211 x100_2) == 117) = ((bt t211 (ji53)) == 117)) = false := by simpa using c57))
       (try (have c57b2 : (((bt t211 x100_2) == 117) == ((bt t211 (ji53)) == 117)) = false := by simpa using c57))
       (try (have c57b3 : ¬ (((bt t211 x100_2) == 117) = ((bt t211 (ji53)) == 117)) := by simpa using c57))
       clear c57; have H' := m1 H; clear H; try go_wp2
       have n0_ := m1 (rC HO_6.out); have n1_ := m1 (rC HO_11.out); have n2_ := m1 (rC HO_98.out); have n3_ := m1 (below_drew1 HB.out); clear HO_6 HO_11 HO_98 HB; have HO_6 := n0_; have HO_11 := n1_; have HO_98 := n2_; have HB := n3_; clear n0_ n1_ n2_ n3_; obtain ⟨Ao61, co61, eo61⟩ := Kd.R_slice HO_11.out; (first | subst eo61 | (injection eo61 with f1_ f2_ f3_; have f4_ := f1_.symm; have f5_ := f3_.symm; clear f1_ f2_ f3_; subst f4_; subst f5_))
       refine start_ (n := 32) (S := fun w' => True) (ds := []) #[Z,Z,Z,Z,Z,Z,Z,Z,Z,Z,Z,Z,Z,Z,Z,Z,Z,Z,Z,Z,Z,Z,Z,Z,Z,Z,Z,Z,Z,Z,Z,Z] (by kernel_rfl) rfl rfl trivial (fun hHeld => ?_); refine with_tabW laws_FnFolds.tab17 laws_FnFolds.bits17 (fun HT_ HW_ => ?_)
       generalize wr.drew = w60 at HO_6 HO_11 HO_98 HB hHeld ⊢
       refine pure_ (i := 0) (N := some 105) (v := ?_) (a' := ?_) #[Y,Z,Z,Z,Z,Z,Z,Z,Z,Z,Z,Z,Z,Z,Z,Z,Z,Z,Z,Z,Z,Z,Z,Z,Z,Z,Z,Z,Z,Z,Z,Z] rfl rfl (any_of HT_.out (by kernel_rfl)) (fun _ _ _ h => h) (Or.inl ⟨by rfl, ?_⟩) ?_ ?_
       rotate_left
       ·intro w'
        go_simp; with_reducible rfl
       rotate_left
       ·simp only [Act.put, q1, q2, q3, i64_w, i32_w]
        rfl
       refine pure_ (i := 1) (N := some 106) (v := ?_) (a' := ?_) #[Y,Y,Z,Z,Z,Z,Z,Z,Z,Z,Z,Z,Z,Z,Z,Z,Z,Z,Z,Z,Z,Z,Z,Z,Z,Z,Z,Z,Z,Z,Z,Z] rfl rfl (any_of HT_.out (by kernel_rfl)) (fun _ _ _ h => h) (Or.inl ⟨by rfl, ?_⟩) ?_ ?_
       rotate_left
       ·intro w'
        go_simp; with_reducible rfl
       rotate_left
       ·simp only [Act.put, q1, q2, q3, i64_w, i32_w]
        rfl
       refine pure_ (i := 2) (N := some 107) (v := ?_) (a' := ?_) #[Y,Y,Y,Z,Z,Z,Z,Z,Z,Z,Z,Z,Z,Z,Z,Z,Z,Z,Z,Z,Z,Z,Z,Z,Z,Z,Z,Z,Z,Z,Z,Z] rfl rfl (any_of HT_.out (by kernel_rfl)) (fun _ _ _ h => h) (Or.inl ⟨by rfl, ?_⟩) ?_ ?_
       rotate_left
       ·intro w'
        go_simp; with_reducible rfl
       rotate_left
       ·simp only [Act.put, q1, q2, q3, i64_w, i32_w]
        rfl
       refine pure_ (i := 3) (N := some 108) (v := ?_) (a' := ?_) #[Y,Y,Y,Y,Z,Z,Z,Z,Z,Z,Z,Z,Z,Z,Z,Z,Z,Z,Z,Z,Z,Z,Z,Z,Z,Z,Z,Z,Z,Z,Z,Z] rfl rfl (any_of HT_.out (by kernel_rfl)) (fun _ _ _ h => h) (Or.inl ⟨by rfl, ?_⟩) ?_ ?_
       rotate_left
       ·intro w'
        go_simp; with_reducible rfl
       rotate_left
       ·simp only [Act.put, q1, q2, q3, i64_w, i32_w]
        rfl
       refine pure_ (i := 4) (N := some 109) (v := ?_) (a' := ?_) #[Y,Y,Y,Y,Y,Z,Z,Z,Z,Z,Z,Z,Z,Z,Z,Z,Z,Z,Z,Z,Z,Z,Z,Z,Z,Z,Z,Z,Z,Z,Z,Z] rfl rfl (any_of HT_.out (by kernel_rfl)) (fun _ _ _ h => h) (Or.inl ⟨by rfl, ?_⟩) ?_ ?_
       rotate_left
       ·intro w'
        go_simp; with_reducible rfl
       rotate_left
       ·simp only [Act.put, q1, q2, q3, i64_w, i32_w]
        rfl
       refine pure_ (i := 5) (N := some 110) (v := ?_) (a' := ?_) #[Y,Y,Y,Y,Y,Y,Z,Z,Z,Z,Z,Z,Z,Z,Z,Z,Z,Z,Z,Z,Z,Z,Z,Z,Z,Z,Z,Z,Z,Z,Z,Z] rfl rfl (any_of HT_.out (by kernel_rfl)) (fun _ _ _ h => h) (Or.inl ⟨by rfl, ?_⟩) ?_ ?_
       rotate_left
       ·intro w'
        go_simp; with_reducible rfl
       rotate_left
       ·simp only [Act.put, q1, q2, q3, i64_w, i32_w]
        rfl
       refine pure_ (i := 6) (N := some 111) (v := ?_) (a' := ?_) #[Y,Y,Y,Y,Y,Y,Y,Z,Z,Z,Z,Z,Z,Z,Z,Z,Z,Z,Z,Z,Z,Z,Z,Z,Z,Z,Z,Z,Z,Z,Z,Z] rfl rfl (any_of HT_.out (by kernel_rfl)) (fun _ _ _ h => h) (Or.inl ⟨by rfl, ?_⟩) ?_ ?_
       rotate_left
       ·intro w'
        go_simp; with_reducible rfl
       rotate_left
       ·simp only [Act.put, q1, q2, q3, i64_w, i32_w]
        rfl
       refine pure_ (i := 7) (N := some 112) (v := ?_) (a' := ?_) #[Y,Y,Y,Y,Y,Y,Y,Y,Z,Z,Z,Z,Z,Z,Z,Z,Z,Z,Z,Z,Z,Z,Z,Z,Z,Z,Z,Z,Z,Z,Z,Z] rfl rfl (any_of HT_.out (by kernel_rfl)) (fun _ _ _ h => h) (Or.inl ⟨by rfl, ?_⟩) ?_ ?_
       rotate_left
       ·intro w'
        go_simp; with_reducible rfl
       rotate_left
       ·simp only [Act.put, q1, q2, q3, i64_w, i32_w]
        rfl
       refine pure_ (i := 8) (N := some 113) (v := ?_) (a' := ?_) #[Y,Y,Y,Y,Y,Y,Y,Y,Y,Z,Z,Z,Z,Z,Z,Z,Z,Z,Z,Z,Z,Z,Z,Z,Z,Z,Z,Z,Z,Z,Z,Z] rfl rfl (any_of HT_.out (by kernel_rfl)) (fun _ _ _ h => h) (Or.inl ⟨by rfl, ?_⟩) ?_ ?_
       rotate_left
       ·intro w'
        go_simp; with_reducible rfl
       rotate_left
       ·simp only [Act.put, q1, q2, q3, i64_w, i32_w]
        rfl
       refine pure_ (i := 9) (N := some 114) (v := ?_) (a' := ?_) #[Y,Y,Y,Y,Y,Y,Y,Y,Y,Y,Z,Z,Z,Z,Z,Z,Z,Z,Z,Z,Z,Z,Z,Z,Z,Z,Z,Z,Z,Z,Z,Z] rfl rfl (any_of HT_.out (by kernel_rfl)) (fun _ _ _ h => h) (Or.inl ⟨by rfl, ?_⟩) ?_ ?_
       rotate_left
       ·intro w'
        go_simp; with_reducible rfl
       rotate_left
       ·simp only [Act.put, q1, q2, q3, i64_w, i32_w]
        rfl
       refine one_ (i := 10) (N := some 115) #[Y,Y,Y,Y,Y,Y,Y,Y,Y,Y,Y,Z,Z,Z,Z,Z,Z,Z,Z,Z,Z,Z,Z,Z,Z,Z,Z,Z,Z,Z,Z,Z] rfl rfl (one_of HT_.out (by kernel_rfl)) (by decide) (fun K hK => ?_)
       refine goes_ Tryz.func13 (by kernel_rfl) rfl #[.slice Ao61 x11_2.length co61, .int .i64 (rd t207 x100_2)] (by rfl) rfl rfl (by (try simp only [List.map_toArray, List.map_cons, List.map_nil]); first | done | rfl | (simp only [List.length_drop, List.length_take]; rfl)) ?_
       with_reducible refine (laws_has.calls k2 _ _ x11_2 (rd t207 x100_2) false _ ?side1 ?side2 A48.out).mono ?_
       (case side1 => repeat (first | exact (Kd.R_reads' HO_11.out).2.2 | (with_reducible refine Kd.C_alloc ?_ _) | (with_reducible refine Kd.C_drewN ?_ _) | (with_reducible refine Kd.C_drew ?_)))
       (case side2 => exact (Kd.R_reads' HO_11.out).2.1)
       rintro e w' ⟨rfl, ⟨nd, rfl⟩⟩
       refine ⟨_, rfl, ?_⟩; have p51 : 0 ≤ (x100_2 : Int) := of_decide_eq_true (by first | (with_reducible assumption) | assumption)
       have q51 : x100_2 < (t211.size : Int) := of_decide_eq_true (by first | (with_reducible assumption) | assumption)
       have hx51 := bt_at t211 x100_2; replace p51 := eq_true p51; replace q51 := eq_true q51; have p56 : 0 ≤ ((ji53) : Int) := of_decide_eq_true (by first | (with_reducible assumption) | assumption)
       have q56 : (ji53) < (t211.size : Int) := of_decide_eq_true (by first | (with_reducible assumption) | assumption)
       have hx56 := bt_at t211 (ji53); replace p56 := eq_true p56; replace q56 := eq_true q56; refine hK.out _ _ trivial (fun hHeld => ?_)
       clear hK K; refine norm_ (a' := ?_) ?_ ?_; rotate_left
       ·show Act.put _ (some 115) _ = _
        simp only [Act.put, q1, q2, q3, i64_w, i32_w]; rfl
       refine pure_ (i := 11) (N := some 116) (v := ?_) (a' := ?_) #[Y,Y,Y,Y,Y,Y,Y,Y,Y,Y,Y,Y,Z,Z,Z,Z,Z,Z,Z,Z,Z,Z,Z,Z,Z,Z,Z,Z,Z,Z,Z,Z] rfl rfl (any_of HT_.out (by kernel_rfl)) (fun _ _ _ h => h) (Or.inl ⟨by rfl, ?_⟩) ?_ ?_
       rotate_left
       ·intro w'
        go_simp; with_reducible rfl
       rotate_left
       ·simp only [Act.put, q1, q2, q3, i64_w, i32_w]
        rfl
       refine pure_ (i := 12) (N := some 117) (v := ?_) (a' := ?_) #[Y,Y,Y,Y,Y,Y,Y,Y,Y,Y,Y,Y,Y,Z,Z,Z,Z,Z,Z,Z,Z,Z,Z,Z,Z,Z,Z,Z,Z,Z,Z,Z] rfl rfl (any_of HT_.out (by kernel_rfl)) (fun _ _ _ h => h) (Or.inl ⟨by rfl, ?_⟩) ?_ ?_
       rotate_left
       ·intro w'
        go_simp; with_reducible rfl
       rotate_left
       ·simp only [Act.put, q1, q2, q3, i64_w, i32_w]
        rfl
       refine pure_ (i := 13) (N := some 118) (v := ?_) (a' := ?_) #[Y,Y,Y,Y,Y,Y,Y,Y,Y,Y,Y,Y,Y,Y,Z,Z,Z,Z,Z,Z,Z,Z,Z,Z,Z,Z,Z,Z,Z,Z,Z,Z] rfl rfl (any_of HT_.out (by kernel_rfl)) (fun _ _ _ h => h) (Or.inl ⟨by rfl, ?_⟩) ?_ ?_
       rotate_left
       ·intro w'
        go_simp; with_reducible rfl
       rotate_left
       ·simp only [Act.put, q1, q2, q3, i64_w, i32_w]
        rfl
       refine pure_ (i := 14) (N := some 119) (v := ?_) (a' := ?_) #[Y,Y,Y,Y,Y,Y,Y,Y,Y,Y,Y,Y,Y,Y,Y,Z,Z,Z,Z,Z,Z,Z,Z,Z,Z,Z,Z,Z,Z,Z,Z,Z] rfl rfl (any_of HT_.out (by kernel_rfl)) (fun _ _ _ h => h) (Or.inl ⟨by rfl, ?_⟩) ?_ ?_
       rotate_left
       ·intro w'
        go_simp; with_reducible rfl
       rotate_left
       ·simp only [Act.put, q1, q2, q3, i64_w, i32_w]
        rfl
       refine pure_ (i := 17) (N := some 122) (v := ?_) (a' := ?_) #[Y,Y,Y,Y,Y,Y,Y,Y,Y,Y,Y,Y,Y,Y,Y,Z,Z,Y,Z,Z,Z,Z,Z,Z,Z,Z,Z,Z,Z,Z,Z,Z] rfl rfl (any_of HT_.out (by kernel_rfl)) (fun _ _ _ h => h) (Or.inl ⟨by rfl, ?_⟩) ?_ ?_
       rotate_left
       ·intro w'
        go_simp; with_reducible rfl
       rotate_left
       ·simp only [Act.put, q1, q2, q3, i64_w, i32_w]
        rfl
       refine pure_ (i := 18) (N := some 123) (v := ?_) (a' := ?_) #[Y,Y,Y,Y,Y,Y,Y,Y,Y,Y,Y,Y,Y,Y,Y,Z,Z,Y,Y,Z,Z,Z,Z,Z,Z,Z,Z,Z,Z,Z,Z,Z] rfl rfl (any_of HT_.out (by kernel_rfl)) (fun _ _ _ h => h) (Or.inl ⟨by rfl, ?_⟩) ?_ ?_
       rotate_left
       ·intro w'
        go_simp; with_reducible rfl
       rotate_left
       ·simp only [Act.put, q1, q2, q3, i64_w, i32_w]
        rfl
       refine pure_ (i := 19) (N := some 124) (v := ?_) (a' := ?_) #[Y,Y,Y,Y,Y,Y,Y,Y,Y,Y,Y,Y,Y,Y,Y,Z,Z,Y,Y,Y,Z,Z,Z,Z,Z,Z,Z,Z,Z,Z,Z,Z] rfl rfl (any_of HT_.out (by kernel_rfl)) (fun _ _ _ h => h) (Or.inl ⟨by rfl, ?_⟩) ?_ ?_
       rotate_left
       ·intro w'
        go_simp; with_reducible rfl
       rotate_left
       ·simp only [Act.put, q1, q2, q3, i64_w, i32_w]
        rfl
       refine pure_ (i := 20) (N := some 125) (v := ?_) (a' := ?_) #[Y,Y,Y,Y,Y,Y,Y,Y,Y,Y,Y,Y,Y,Y,Y,Z,Z,Y,Y,Y,Y,Z,Z,Z,Z,Z,Z,Z,Z,Z,Z,Z] rfl rfl (any_of HT_.out (by kernel_rfl)) (fun _ _ _ h => h) (Or.inl ⟨by rfl, ?_⟩) ?_ ?_
       rotate_left
       ·intro w'
        go_simp; with_reducible rfl
       rotate_left
       ·simp only [Act.put, q1, q2, q3, i64_w, i32_w]
        rfl
       refine pure_ (i := 21) (N := some 126) (v := ?_) (a' := ?_) #[Y,Y,Y,Y,Y,Y,Y,Y,Y,Y,Y,Y,Y,Y,Y,Z,Z,Y,Y,Y,Y,Y,Z,Z,Z,Z,Z,Z,Z,Z,Z,Z] rfl rfl (any_of HT_.out (by kernel_rfl)) (fun _ _ _ h => h) (Or.inl ⟨by rfl, ?_⟩) ?_ ?_
       rotate_left
       ·intro w'
        go_simp; with_reducible rfl
       rotate_left
       ·simp only [Act.put, q1, q2, q3, i64_w, i32_w]
        rfl
       refine pure_ (i := 22) (N := some 127) (v := ?_) (a' := ?_) #[Y,Y,Y,Y,Y,Y,Y,Y,Y,Y,Y,Y,Y,Y,Y,Z,Z,Y,Y,Y,Y,Y,Y,Z,Z,Z,Z,Z,Z,Z,Z,Z] rfl rfl (any_of HT_.out (by kernel_rfl)) (fun _ _ _ h => h) (Or.inl ⟨by rfl, ?_⟩) ?_ ?_
       rotate_left
       ·intro w'
        go_simp; with_reducible rfl
       rotate_left
       ·simp only [Act.put, q1, q2, q3, i64_w, i32_w]
        rfl
       refine take_ (i := 15) (N := some 120) (v := ?_) (a' := ?_) #[Y,Y,Y,Y,Y,Y,Y,Y,Y,Y,Y,Y,Y,Y,Y,Y,Z,Y,Y,Y,Y,Y,Y,Z,Z,Z,Z,Z,Z,Z,Z,Z] rfl rfl (take_ofW HT_.out HW_.out (by kernel_rfl)) (fun _ _ _ h => h) (Or.inl ⟨by rfl, ?_⟩) hHeld ?_ ?_
       rotate_left
       ·intro w' _
        go_simp; with_reducible rfl
       rotate_left
       ·simp only [Act.put, q1, q2, q3, i64_w, i32_w]
        rfl
       refine pure_ (i := 16) (N := some 121) (v := ?_) (a' := ?_) #[Y,Y,Y,Y,Y,Y,Y,Y,Y,Y,Y,Y,Y,Y,Y,Y,Y,Y,Y,Y,Y,Y,Y,Z,Z,Z,Z,Z,Z,Z,Z,Z] rfl rfl (any_of HT_.out (by kernel_rfl)) (fun _ _ _ h => h) (Or.inl ⟨by rfl, ?_⟩) ?_ ?_
       rotate_left
       ·intro w'
        go_simp; with_reducible rfl
       rotate_left
       ·simp only [Act.put, q1, q2, q3, i64_w, i32_w]
        rfl
       refine take_ (i := 23) (N := some 128) (v := ?_) (a' := ?_) #[Y,Y,Y,Y,Y,Y,Y,Y,Y,Y,Y,Y,Y,Y,Y,Y,Y,Y,Y,Y,Y,Y,Y,Y,Z,Z,Z,Z,Z,Z,Z,Z] rfl rfl (take_ofW HT_.out HW_.out (by kernel_rfl)) (fun _ _ _ h => h) (Or.inl ⟨by rfl, ?_⟩) hHeld ?_ ?_
       rotate_left
       ·intro w' _
        go_simp; with_reducible rfl
       rotate_left
       ·simp only [Act.put, q1, q2, q3, i64_w, i32_w]
        rfl
       refine pure_ (i := 24) (N := some 129) (v := ?_) (a' := ?_) #[Y,Y,Y,Y,Y,Y,Y,Y,Y,Y,Y,Y,Y,Y,Y,Y,Y,Y,Y,Y,Y,Y,Y,Y,Y,Z,Z,Z,Z,Z,Z,Z] rfl rfl (any_of HT_.out (by kernel_rfl)) (fun _ _ _ h => h) (Or.inl ⟨by rfl, ?_⟩) ?_ ?_
       rotate_left
       ·intro w'
        go_simp; with_reducible rfl
       rotate_left
       ·simp only [Act.put, q1, q2, q3, i64_w, i32_w]
        rfl
       refine pure_ (i := 25) (N := some 130) (v := ?_) (a' := ?_) #[Y,Y,Y,Y,Y,Y,Y,Y,Y,Y,Y,Y,Y,Y,Y,Y,Y,Y,Y,Y,Y,Y,Y,Y,Y,Y,Z,Z,Z,Z,Z,Z] rfl rfl (any_of HT_.out (by kernel_rfl)) (fun _ _ _ h => h) (Or.inl ⟨by rfl, ?_⟩) ?_ ?_
       rotate_left
       ·intro w'
        go_simp; with_reducible rfl
       rotate_left
       ·simp only [Act.put, q1, q2, q3, i64_w, i32_w]
        rfl
       refine pure_ (i := 26) (N := some 131) (v := ?_) (a' := ?_) #[Y,Y,Y,Y,Y,Y,Y,Y,Y,Y,Y,Y,Y,Y,Y,Y,Y,Y,Y,Y,Y,Y,Y,Y,Y,Y,Y,Z,Z,Z,Z,Z] rfl rfl (any_of HT_.out (by kernel_rfl)) (fun _ _ _ h => h) (Or.inl ⟨by rfl, ?_⟩) ?_ ?_
       rotate_left
       ·intro w'
        go_simp; with_reducible rfl
       rotate_left
       ·simp only [Act.put, q1, q2, q3, i64_w, i32_w]
        rfl
       refine pure_ (i := 27) (N := some 132) (v := ?_) (a' := ?_) #[Y,Y,Y,Y,Y,Y,Y,Y,Y,Y,Y,Y,Y,Y,Y,Y,Y,Y,Y,Y,Y,Y,Y,Y,Y,Y,Y,Y,Z,Z,Z,Z] rfl rfl (any_of HT_.out (by kernel_rfl)) (fun _ _ _ h => h) (Or.inl ⟨by rfl, ?_⟩) ?_ ?_
       rotate_left
       ·intro w'
        go_simp; with_reducible rfl
       rotate_left
       ·simp only [Act.put, q1, q2, q3, i64_w, i32_w]
        rfl
       refine pure_ (i := 28) (N := some 133) (v := undef) (a' := ?_) #[Y,Y,Y,Y,Y,Y,Y,Y,Y,Y,Y,Y,Y,Y,Y,Y,Y,Y,Y,Y,Y,Y,Y,Y,Y,Y,Y,Y,Y,Z,Z,Z] rfl rfl (any_of HT_.out (by kernel_rfl)) (fun _ _ _ h => h) (Or.inr ⟨by rfl, rfl⟩) ?_ ?_
       rotate_left
       ·simp only [Act.put, q1, q2, q3, i64_w, i32_w]
        rfl
       refine pure_ (i := 29) (N := some 134) (v := undef) (a' := ?_) #[Y,Y,Y,Y,Y,Y,Y,Y,Y,Y,Y,Y,Y,Y,Y,Y,Y,Y,Y,Y,Y,Y,Y,Y,Y,Y,Y,Y,Y,Y,Z,Z] rfl rfl (any_of HT_.out (by kernel_rfl)) (fun _ _ _ h => h) (Or.inr ⟨by rfl, rfl⟩) ?_ ?_
       rotate_left
       ·simp only [Act.put, q1, q2, q3, i64_w, i32_w]
        rfl
       refine pure_ (i := 30) (N := some 135) (v := ?_) (a' := ?_) #[Y,Y,Y,Y,Y,Y,Y,Y,Y,Y,Y,Y,Y,Y,Y,Y,Y,Y,Y,Y,Y,Y,Y,Y,Y,Y,Y,Y,Y,Y,Y,Z] rfl rfl (any_of HT_.out (by kernel_rfl)) (fun _ _ _ h => h) (Or.inl ⟨by rfl, ?_⟩) ?_ ?_
       rotate_left
       ·intro w'
        go_simp; with_reducible rfl
       rotate_left
       ·simp only [Act.put, q1, q2, q3, i64_w, i32_w]
        rfl
       refine pure_ (i := 31) (N := some 136) (v := ?_) (a' := ?_) #[Y,Y,Y,Y,Y,Y,Y,Y,Y,Y,Y,Y,Y,Y,Y,Y,Y,Y,Y,Y,Y,Y,Y,Y,Y,Y,Y,Y,Y,Y,Y,Y] rfl rfl (any_of HT_.out (by kernel_rfl)) (fun _ _ _ h => h) (Or.inl ⟨by rfl, ?_⟩) ?_ ?_
       rotate_left
       ·intro w'
        go_simp; with_reducible rfl
       rotate_left
       ·simp only [Act.put, q1, q2, q3, i64_w, i32_w]
        rfl
       refine done_ (done_of HT_.out (by kernel_rfl)) ?_
       try go_wp2
       go_meet
       case rel => exact ⟨_, (false), (by first | rfl | (simp; done) | (simp [*]; done)), H', ⟨by have := HJ9.out; have := HK2.out; first | omega | exact Nat.le_refl _⟩, ⟨by (with_reducible repeat (first | apply rA | apply rB | apply rC)); exact HO_6.out⟩, ⟨by (with_reducible repeat (first | apply rA | apply rB | apply rC)); exact HO_11.out⟩, ⟨by (with_reducible repeat (first | apply rA | apply rB | apply rC)); exact HO_98.out⟩, ⟨by repeat (first | (with_reducible first | exact HB.out | apply c1 | apply c2 | apply c3) | exact HB.out)⟩⟩
      rw [if_pos c57] at H; have c57b0 : (((bt t211 x100_2) == 117) == ((bt t211 (ji53)) == 117)) = true := c57; (try (have c57b1 : decide (((bt t211 x100_2) == 117) = ((bt t211 (ji53)) == 117)) = true := by simpa using c57))
      (try (have c57b2 : (((bt t211 x100_2) == 117) == ((bt t211 (ji53)) == 117)) = true := by simpa using c57))
      clear c57; have H' := m1 H; clear H; try go_wp2
      have n0_ := m1 (rC HO_6.out); have n1_ := m1 (rC HO_11.out); have n2_ := m1 (rC HO_98.out); have n3_ := m1 (below_drew1 HB.out); clear HO_6 HO_11 HO_98 HB; have HO_6 := n0_; have HO_11 := n1_; have HO_98 := n2_; have HB := n3_; clear n0_ n1_ n2_ n3_; obtain ⟨Ao59, co59, eo59⟩ := Kd.R_slice HO_11.out; (first | subst eo59 | (injection eo59 with f1_ f2_ f3_; have f4_ := f1_.symm; have f5_ := f3_.symm; clear f1_ f2_ f3_; subst f4_; subst f5_))
      refine start_ (n := 32) (S := fun w' => True) (ds := []) #[Z,Z,Z,Z,Z,Z,Z,Z,Z,Z,Z,Z,Z,Z,Z,Z,Z,Z,Z,Z,Z,Z,Z,Z,Z,Z,Z,Z,Z,Z,Z,Z] (by kernel_rfl) rfl rfl trivial (fun hHeld => ?_); refine with_tabW laws_FnFolds.tab17 laws_FnFolds.bits17 (fun HT_ HW_ => ?_)
      generalize wr.drew = w58 at HO_6 HO_11 HO_98 HB hHeld ⊢
      refine pure_ (i := 0) (N := some 105) (v := ?_) (a' := ?_) #[Y,Z,Z,Z,Z,Z,Z,Z,Z,Z,Z,Z,Z,Z,Z,Z,Z,Z,Z,Z,Z,Z,Z,Z,Z,Z,Z,Z,Z,Z,Z,Z] rfl rfl (any_of HT_.out (by kernel_rfl)) (fun _ _ _ h => h) (Or.inl ⟨by rfl, ?_⟩) ?_ ?_
      rotate_left
      ·intro w'
       go_simp; with_reducible rfl
      rotate_left
      ·simp only [Act.put, q1, q2, q3, i64_w, i32_w]
       rfl
      refine pure_ (i := 1) (N := some 106) (v := ?_) (a' := ?_) #[Y,Y,Z,Z,Z,Z,Z,Z,Z,Z,Z,Z,Z,Z,Z,Z,Z,Z,Z,Z,Z,Z,Z,Z,Z,Z,Z,Z,Z,Z,Z,Z] rfl rfl (any_of HT_.out (by kernel_rfl)) (fun _ _ _ h => h) (Or.inl ⟨by rfl, ?_⟩) ?_ ?_
      rotate_left
      ·intro w'
       go_simp; with_reducible rfl
      rotate_left
      ·simp only [Act.put, q1, q2, q3, i64_w, i32_w]
       rfl
      refine pure_ (i := 2) (N := some 107) (v := ?_) (a' := ?_) #[Y,Y,Y,Z,Z,Z,Z,Z,Z,Z,Z,Z,Z,Z,Z,Z,Z,Z,Z,Z,Z,Z,Z,Z,Z,Z,Z,Z,Z,Z,Z,Z] rfl rfl (any_of HT_.out (by kernel_rfl)) (fun _ _ _ h => h) (Or.inl ⟨by rfl, ?_⟩) ?_ ?_
      rotate_left
      ·intro w'
       go_simp; with_reducible rfl
      rotate_left
      ·simp only [Act.put, q1, q2, q3, i64_w, i32_w]
       rfl
      refine pure_ (i := 3) (N := some 108) (v := ?_) (a' := ?_) #[Y,Y,Y,Y,Z,Z,Z,Z,Z,Z,Z,Z,Z,Z,Z,Z,Z,Z,Z,Z,Z,Z,Z,Z,Z,Z,Z,Z,Z,Z,Z,Z] rfl rfl (any_of HT_.out (by kernel_rfl)) (fun _ _ _ h => h) (Or.inl ⟨by rfl, ?_⟩) ?_ ?_
      rotate_left
      ·intro w'
       go_simp; with_reducible rfl
      rotate_left
      ·simp only [Act.put, q1, q2, q3, i64_w, i32_w]
       rfl
      refine pure_ (i := 4) (N := some 109) (v := ?_) (a' := ?_) #[Y,Y,Y,Y,Y,Z,Z,Z,Z,Z,Z,Z,Z,Z,Z,Z,Z,Z,Z,Z,Z,Z,Z,Z,Z,Z,Z,Z,Z,Z,Z,Z] rfl rfl (any_of HT_.out (by kernel_rfl)) (fun _ _ _ h => h) (Or.inl ⟨by rfl, ?_⟩) ?_ ?_
      rotate_left
      ·intro w'
       go_simp; with_reducible rfl
      rotate_left
      ·simp only [Act.put, q1, q2, q3, i64_w, i32_w]
       rfl
      refine pure_ (i := 5) (N := some 110) (v := ?_) (a' := ?_) #[Y,Y,Y,Y,Y,Y,Z,Z,Z,Z,Z,Z,Z,Z,Z,Z,Z,Z,Z,Z,Z,Z,Z,Z,Z,Z,Z,Z,Z,Z,Z,Z] rfl rfl (any_of HT_.out (by kernel_rfl)) (fun _ _ _ h => h) (Or.inl ⟨by rfl, ?_⟩) ?_ ?_
      rotate_left
      ·intro w'
       go_simp; with_reducible rfl
      rotate_left
      ·simp only [Act.put, q1, q2, q3, i64_w, i32_w]
       rfl
      refine pure_ (i := 6) (N := some 111) (v := ?_) (a' := ?_) #[Y,Y,Y,Y,Y,Y,Y,Z,Z,Z,Z,Z,Z,Z,Z,Z,Z,Z,Z,Z,Z,Z,Z,Z,Z,Z,Z,Z,Z,Z,Z,Z] rfl rfl (any_of HT_.out (by kernel_rfl)) (fun _ _ _ h => h) (Or.inl ⟨by rfl, ?_⟩) ?_ ?_
      rotate_left
      ·intro w'
       go_simp; with_reducible rfl
      rotate_left
      ·simp only [Act.put, q1, q2, q3, i64_w, i32_w]
       rfl
      refine pure_ (i := 7) (N := some 112) (v := ?_) (a' := ?_) #[Y,Y,Y,Y,Y,Y,Y,Y,Z,Z,Z,Z,Z,Z,Z,Z,Z,Z,Z,Z,Z,Z,Z,Z,Z,Z,Z,Z,Z,Z,Z,Z] rfl rfl (any_of HT_.out (by kernel_rfl)) (fun _ _ _ h => h) (Or.inl ⟨by rfl, ?_⟩) ?_ ?_
      rotate_left
      ·intro w'
       go_simp; with_reducible rfl
      rotate_left
      ·simp only [Act.put, q1, q2, q3, i64_w, i32_w]
       rfl
      refine pure_ (i := 8) (N := some 113) (v := ?_) (a' := ?_) #[Y,Y,Y,Y,Y,Y,Y,Y,Y,Z,Z,Z,Z,Z,Z,Z,Z,Z,Z,Z,Z,Z,Z,Z,Z,Z,Z,Z,Z,Z,Z,Z] rfl rfl (any_of HT_.out (by kernel_rfl)) (fun _ _ _ h => h) (Or.inl ⟨by rfl, ?_⟩) ?_ ?_
      rotate_left
      ·intro w'
       go_simp; with_reducible rfl
      rotate_left
      ·simp only [Act.put, q1, q2, q3, i64_w, i32_w]
       rfl
      refine pure_ (i := 9) (N := some 114) (v := ?_) (a' := ?_) #[Y,Y,Y,Y,Y,Y,Y,Y,Y,Y,Z,Z,Z,Z,Z,Z,Z,Z,Z,Z,Z,Z,Z,Z,Z,Z,Z,Z,Z,Z,Z,Z] rfl rfl (any_of HT_.out (by kernel_rfl)) (fun _ _ _ h => h) (Or.inl ⟨by rfl, ?_⟩) ?_ ?_
      rotate_left
      ·intro w'
       go_simp; with_reducible rfl
      rotate_left
      ·simp only [Act.put, q1, q2, q3, i64_w, i32_w]
       rfl
      refine one_ (i := 10) (N := some 115) #[Y,Y,Y,Y,Y,Y,Y,Y,Y,Y,Y,Z,Z,Z,Z,Z,Z,Z,Z,Z,Z,Z,Z,Z,Z,Z,Z,Z,Z,Z,Z,Z] rfl rfl (one_of HT_.out (by kernel_rfl)) (by decide) (fun K hK => ?_)
      refine goes_ Tryz.func13 (by kernel_rfl) rfl #[.slice Ao59 x11_2.length co59, .int .i64 (rd t207 x100_2)] (by rfl) rfl rfl (by (try simp only [List.map_toArray, List.map_cons, List.map_nil]); first | done | rfl | (simp only [List.length_drop, List.length_take]; rfl)) ?_
      with_reducible refine (laws_has.calls k2 _ _ x11_2 (rd t207 x100_2) false _ ?side1 ?side2 A48.out).mono ?_
      (case side1 => repeat (first | exact (Kd.R_reads' HO_11.out).2.2 | (with_reducible refine Kd.C_alloc ?_ _) | (with_reducible refine Kd.C_drewN ?_ _) | (with_reducible refine Kd.C_drew ?_)))
      (case side2 => exact (Kd.R_reads' HO_11.out).2.1)
      rintro e w' ⟨rfl, ⟨nd, rfl⟩⟩
      refine ⟨_, rfl, ?_⟩; have p51 : 0 ≤ (x100_2 : Int) := of_decide_eq_true (by first | (with_reducible assumption) | assumption)
      have q51 : x100_2 < (t211.size : Int) := of_decide_eq_true (by first | (with_reducible assumption) | assumption)
      have hx51 := bt_at t211 x100_2; replace p51 := eq_true p51; replace q51 := eq_true q51; have p56 : 0 ≤ ((ji53) : Int) := of_decide_eq_true (by first | (with_reducible assumption) | assumption)
      have q56 : (ji53) < (t211.size : Int) := of_decide_eq_true (by first | (with_reducible assumption) | assumption)
      have hx56 := bt_at t211 (ji53); replace p56 := eq_true p56; replace q56 := eq_true q56; refine hK.out _ _ trivial (fun hHeld => ?_)
      clear hK K; refine norm_ (a' := ?_) ?_ ?_; rotate_left
      ·show Act.put _ (some 115) _ = _
       simp only [Act.put, q1, q2, q3, i64_w, i32_w]; rfl
      refine pure_ (i := 11) (N := some 116) (v := ?_) (a' := ?_) #[Y,Y,Y,Y,Y,Y,Y,Y,Y,Y,Y,Y,Z,Z,Z,Z,Z,Z,Z,Z,Z,Z,Z,Z,Z,Z,Z,Z,Z,Z,Z,Z] rfl rfl (any_of HT_.out (by kernel_rfl)) (fun _ _ _ h => h) (Or.inl ⟨by rfl, ?_⟩) ?_ ?_
      rotate_left
      ·intro w'
       go_simp; with_reducible rfl
      rotate_left
      ·simp only [Act.put, q1, q2, q3, i64_w, i32_w]
       rfl
      refine pure_ (i := 12) (N := some 117) (v := ?_) (a' := ?_) #[Y,Y,Y,Y,Y,Y,Y,Y,Y,Y,Y,Y,Y,Z,Z,Z,Z,Z,Z,Z,Z,Z,Z,Z,Z,Z,Z,Z,Z,Z,Z,Z] rfl rfl (any_of HT_.out (by kernel_rfl)) (fun _ _ _ h => h) (Or.inl ⟨by rfl, ?_⟩) ?_ ?_
      rotate_left
      ·intro w'
       go_simp; with_reducible rfl
      rotate_left
      ·simp only [Act.put, q1, q2, q3, i64_w, i32_w]
       rfl
      refine pure_ (i := 13) (N := some 118) (v := ?_) (a' := ?_) #[Y,Y,Y,Y,Y,Y,Y,Y,Y,Y,Y,Y,Y,Y,Z,Z,Z,Z,Z,Z,Z,Z,Z,Z,Z,Z,Z,Z,Z,Z,Z,Z] rfl rfl (any_of HT_.out (by kernel_rfl)) (fun _ _ _ h => h) (Or.inl ⟨by rfl, ?_⟩) ?_ ?_
      rotate_left
      ·intro w'
       go_simp; with_reducible rfl
      rotate_left
      ·simp only [Act.put, q1, q2, q3, i64_w, i32_w]
       rfl
      refine pure_ (i := 14) (N := some 119) (v := ?_) (a' := ?_) #[Y,Y,Y,Y,Y,Y,Y,Y,Y,Y,Y,Y,Y,Y,Y,Z,Z,Z,Z,Z,Z,Z,Z,Z,Z,Z,Z,Z,Z,Z,Z,Z] rfl rfl (any_of HT_.out (by kernel_rfl)) (fun _ _ _ h => h) (Or.inl ⟨by rfl, ?_⟩) ?_ ?_
      rotate_left
      ·intro w'
       go_simp; with_reducible rfl
      rotate_left
      ·simp only [Act.put, q1, q2, q3, i64_w, i32_w]
       rfl
      refine pure_ (i := 17) (N := some 122) (v := ?_) (a' := ?_) #[Y,Y,Y,Y,Y,Y,Y,Y,Y,Y,Y,Y,Y,Y,Y,Z,Z,Y,Z,Z,Z,Z,Z,Z,Z,Z,Z,Z,Z,Z,Z,Z] rfl rfl (any_of HT_.out (by kernel_rfl)) (fun _ _ _ h => h) (Or.inl ⟨by rfl, ?_⟩) ?_ ?_
      rotate_left
      ·intro w'
       go_simp; with_reducible rfl
      rotate_left
      ·simp only [Act.put, q1, q2, q3, i64_w, i32_w]
       rfl
      refine pure_ (i := 18) (N := some 123) (v := ?_) (a' := ?_) #[Y,Y,Y,Y,Y,Y,Y,Y,Y,Y,Y,Y,Y,Y,Y,Z,Z,Y,Y,Z,Z,Z,Z,Z,Z,Z,Z,Z,Z,Z,Z,Z] rfl rfl (any_of HT_.out (by kernel_rfl)) (fun _ _ _ h => h) (Or.inl ⟨by rfl, ?_⟩) ?_ ?_
      rotate_left
      ·intro w'
       go_simp; with_reducible rfl
      rotate_left
      ·simp only [Act.put, q1, q2, q3, i64_w, i32_w]
       rfl
      refine pure_ (i := 19) (N := some 124) (v := ?_) (a' := ?_) #[Y,Y,Y,Y,Y,Y,Y,Y,Y,Y,Y,Y,Y,Y,Y,Z,Z,Y,Y,Y,Z,Z,Z,Z,Z,Z,Z,Z,Z,Z,Z,Z] rfl rfl (any_of HT_.out (by kernel_rfl)) (fun _ _ _ h => h) (Or.inl ⟨by rfl, ?_⟩) ?_ ?_
      rotate_left
      ·intro w'
       go_simp; with_reducible rfl
      rotate_left
      ·simp only [Act.put, q1, q2, q3, i64_w, i32_w]
       rfl
      refine pure_ (i := 20) (N := some 125) (v := ?_) (a' := ?_) #[Y,Y,Y,Y,Y,Y,Y,Y,Y,Y,Y,Y,Y,Y,Y,Z,Z,Y,Y,Y,Y,Z,Z,Z,Z,Z,Z,Z,Z,Z,Z,Z] rfl rfl (any_of HT_.out (by kernel_rfl)) (fun _ _ _ h => h) (Or.inl ⟨by rfl, ?_⟩) ?_ ?_
      rotate_left
      ·intro w'
       go_simp; with_reducible rfl
      rotate_left
      ·simp only [Act.put, q1, q2, q3, i64_w, i32_w]
       rfl
      refine pure_ (i := 21) (N := some 126) (v := ?_) (a' := ?_) #[Y,Y,Y,Y,Y,Y,Y,Y,Y,Y,Y,Y,Y,Y,Y,Z,Z,Y,Y,Y,Y,Y,Z,Z,Z,Z,Z,Z,Z,Z,Z,Z] rfl rfl (any_of HT_.out (by kernel_rfl)) (fun _ _ _ h => h) (Or.inl ⟨by rfl, ?_⟩) ?_ ?_
      rotate_left
      ·intro w'
       go_simp; with_reducible rfl
      rotate_left
      ·simp only [Act.put, q1, q2, q3, i64_w, i32_w]
       rfl
      refine pure_ (i := 22) (N := some 127) (v := ?_) (a' := ?_) #[Y,Y,Y,Y,Y,Y,Y,Y,Y,Y,Y,Y,Y,Y,Y,Z,Z,Y,Y,Y,Y,Y,Y,Z,Z,Z,Z,Z,Z,Z,Z,Z] rfl rfl (any_of HT_.out (by kernel_rfl)) (fun _ _ _ h => h) (Or.inl ⟨by rfl, ?_⟩) ?_ ?_
      rotate_left
      ·intro w'
       go_simp; with_reducible rfl
      rotate_left
      ·simp only [Act.put, q1, q2, q3, i64_w, i32_w]
       rfl
      refine take_ (i := 15) (N := some 120) (v := ?_) (a' := ?_) #[Y,Y,Y,Y,Y,Y,Y,Y,Y,Y,Y,Y,Y,Y,Y,Y,Z,Y,Y,Y,Y,Y,Y,Z,Z,Z,Z,Z,Z,Z,Z,Z] rfl rfl (take_ofW HT_.out HW_.out (by kernel_rfl)) (fun _ _ _ h => h) (Or.inl ⟨by rfl, ?_⟩) hHeld ?_ ?_
      rotate_left
      ·intro w' _
       go_simp; with_reducible rfl
      rotate_left
      ·simp only [Act.put, q1, q2, q3, i64_w, i32_w]
       rfl
      refine pure_ (i := 16) (N := some 121) (v := ?_) (a' := ?_) #[Y,Y,Y,Y,Y,Y,Y,Y,Y,Y,Y,Y,Y,Y,Y,Y,Y,Y,Y,Y,Y,Y,Y,Z,Z,Z,Z,Z,Z,Z,Z,Z] rfl rfl (any_of HT_.out (by kernel_rfl)) (fun _ _ _ h => h) (Or.inl ⟨by rfl, ?_⟩) ?_ ?_
      rotate_left
      ·intro w'
       go_simp; with_reducible rfl
      rotate_left
      ·simp only [Act.put, q1, q2, q3, i64_w, i32_w]
       rfl
      refine take_ (i := 23) (N := some 128) (v := ?_) (a' := ?_) #[Y,Y,Y,Y,Y,Y,Y,Y,Y,Y,Y,Y,Y,Y,Y,Y,Y,Y,Y,Y,Y,Y,Y,Y,Z,Z,Z,Z,Z,Z,Z,Z] rfl rfl (take_ofW HT_.out HW_.out (by kernel_rfl)) (fun _ _ _ h => h) (Or.inl ⟨by rfl, ?_⟩) hHeld ?_ ?_
      rotate_left
      ·intro w' _
       go_simp; with_reducible rfl
      rotate_left
      ·simp only [Act.put, q1, q2, q3, i64_w, i32_w]
       rfl
      refine pure_ (i := 24) (N := some 129) (v := ?_) (a' := ?_) #[Y,Y,Y,Y,Y,Y,Y,Y,Y,Y,Y,Y,Y,Y,Y,Y,Y,Y,Y,Y,Y,Y,Y,Y,Y,Z,Z,Z,Z,Z,Z,Z] rfl rfl (any_of HT_.out (by kernel_rfl)) (fun _ _ _ h => h) (Or.inl ⟨by rfl, ?_⟩) ?_ ?_
      rotate_left
      ·intro w'
       go_simp; with_reducible rfl
      rotate_left
      ·simp only [Act.put, q1, q2, q3, i64_w, i32_w]
       rfl
      refine pure_ (i := 25) (N := some 130) (v := ?_) (a' := ?_) #[Y,Y,Y,Y,Y,Y,Y,Y,Y,Y,Y,Y,Y,Y,Y,Y,Y,Y,Y,Y,Y,Y,Y,Y,Y,Y,Z,Z,Z,Z,Z,Z] rfl rfl (any_of HT_.out (by kernel_rfl)) (fun _ _ _ h => h) (Or.inl ⟨by rfl, ?_⟩) ?_ ?_
      rotate_left
      ·intro w'
       go_simp; with_reducible rfl
      rotate_left
      ·simp only [Act.put, q1, q2, q3, i64_w, i32_w]
       rfl
      refine pure_ (i := 26) (N := some 131) (v := ?_) (a' := ?_) #[Y,Y,Y,Y,Y,Y,Y,Y,Y,Y,Y,Y,Y,Y,Y,Y,Y,Y,Y,Y,Y,Y,Y,Y,Y,Y,Y,Z,Z,Z,Z,Z] rfl rfl (any_of HT_.out (by kernel_rfl)) (fun _ _ _ h => h) (Or.inl ⟨by rfl, ?_⟩) ?_ ?_
      rotate_left
      ·intro w'
       go_simp; with_reducible rfl
      rotate_left
      ·simp only [Act.put, q1, q2, q3, i64_w, i32_w]
       rfl
      refine pure_ (i := 27) (N := some 132) (v := ?_) (a' := ?_) #[Y,Y,Y,Y,Y,Y,Y,Y,Y,Y,Y,Y,Y,Y,Y,Y,Y,Y,Y,Y,Y,Y,Y,Y,Y,Y,Y,Y,Z,Z,Z,Z] rfl rfl (any_of HT_.out (by kernel_rfl)) (fun _ _ _ h => h) (Or.inl ⟨by rfl, ?_⟩) ?_ ?_
      rotate_left
      ·intro w'
       go_simp; with_reducible rfl
      rotate_left
      ·simp only [Act.put, q1, q2, q3, i64_w, i32_w]
       rfl
      refine pure_ (i := 28) (N := some 133) (v := ?_) (a' := ?_) #[Y,Y,Y,Y,Y,Y,Y,Y,Y,Y,Y,Y,Y,Y,Y,Y,Y,Y,Y,Y,Y,Y,Y,Y,Y,Y,Y,Y,Y,Z,Z,Z] rfl rfl (any_of HT_.out (by kernel_rfl)) (fun _ _ _ h => h) (Or.inl ⟨by rfl, ?_⟩) ?_ ?_
      rotate_left
      ·intro w'
       go_simp; with_reducible rfl
      rotate_left
      ·simp only [Act.put, q1, q2, q3, i64_w, i32_w]
       rfl
      refine pure_ (i := 29) (N := some 134) (v := ?_) (a' := ?_) #[Y,Y,Y,Y,Y,Y,Y,Y,Y,Y,Y,Y,Y,Y,Y,Y,Y,Y,Y,Y,Y,Y,Y,Y,Y,Y,Y,Y,Y,Y,Z,Z] rfl rfl (any_of HT_.out (by kernel_rfl)) (fun _ _ _ h => h) (Or.inl ⟨by rfl, ?_⟩) ?_ ?_
      rotate_left
      ·intro w'
       go_simp; with_reducible rfl
      rotate_left
      ·simp only [Act.put, q1, q2, q3, i64_w, i32_w]
       rfl
      refine pure_ (i := 30) (N := some 135) (v := ?_) (a' := ?_) #[Y,Y,Y,Y,Y,Y,Y,Y,Y,Y,Y,Y,Y,Y,Y,Y,Y,Y,Y,Y,Y,Y,Y,Y,Y,Y,Y,Y,Y,Y,Y,Z] rfl rfl (any_of HT_.out (by kernel_rfl)) (fun _ _ _ h => h) (Or.inl ⟨by rfl, ?_⟩) ?_ ?_
      rotate_left
      ·intro w'
       go_simp; with_reducible rfl
      rotate_left
      ·simp only [Act.put, q1, q2, q3, i64_w, i32_w]
       rfl
      refine pure_ (i := 31) (N := some 136) (v := ?_) (a' := ?_) #[Y,Y,Y,Y,Y,Y,Y,Y,Y,Y,Y,Y,Y,Y,Y,Y,Y,Y,Y,Y,Y,Y,Y,Y,Y,Y,Y,Y,Y,Y,Y,Y] rfl rfl (any_of HT_.out (by kernel_rfl)) (fun _ _ _ h => h) (Or.inl ⟨by rfl, ?_⟩) ?_ ?_
      rotate_left
      ·intro w'
       go_simp; with_reducible rfl
      rotate_left
      ·simp only [Act.put, q1, q2, q3, i64_w, i32_w]
       rfl
      refine done_ (done_of HT_.out (by kernel_rfl)) ?_
      try go_wp2
      go_meet
      case rel => exact ⟨_, (decide (x100_2 > 0)), (by first | rfl | (simp; done) | (simp [*]; done)), H', ⟨by have := HJ9.out; have := HK2.out; first | omega | exact Nat.le_refl _⟩, ⟨by (with_reducible repeat (first | apply rA | apply rB | apply rC)); exact HO_6.out⟩, ⟨by (with_reducible repeat (first | apply rA | apply rB | apply rC)); exact HO_11.out⟩, ⟨by (with_reducible repeat (first | apply rA | apply rB | apply rC)); exact HO_98.out⟩, ⟨by repeat (first | (with_reducible first | exact HB.out | apply c1 | apply c2 | apply c3) | exact HB.out)⟩⟩
     case rest => as_aux_lemma =>
      clear HC45; try clear c1
      try clear p2
      try clear c5
      try clear p5
      try clear q5
      try clear hx5
      try clear c6
      try clear c13
      try clear c50
      try clear p51
      try clear q51
      try clear hx51
      try clear c52
      try clear c52b0
      try clear c54
      try clear c55
      try clear c62
      try clear c62b0
      try clear c62b1
      try clear c62b2
      try clear p51
      try clear q51
      obtain ⟨kq, x136_44, rfl, HA, HJ44, HO_6, HO_11, HO_98, HB⟩ := hcut
      cases kq with
      | zero => exact absurd HA.out (by simp [laws_FnFolds.j2])
      | succ kj44 =>
       have H := HA.out; clear HA; simp only [laws_FnFolds.j2] at H; by_cases c67 : x136_44 = true
       ·subst c67
        have H1 : (some false) = some r := by rw [if_pos rfl] at H; exact H
        clear H; have H := H1; clear H1; exact absurd (Option.some.inj H) (by rw [HR_.out]; decide)
       replace c67 := Bool.eq_false_iff.mpr c67; subst c67; have H1 : (if x11_2.length < 17592186044416 then ((some (x11_2 ++ [(rd t207 x100_2)] : List Int)).bind fun y224 => (if x100_2 > 0 then (if 0 ≤ x100_2 then (if x100_2 < (t211.size : Int) then (if 0 < (t211.size : Int) then (if 0 < (t207.length : Int) then (if (((bt t211 x100_2) == (bt t211 0)) != ((Int.tmod (wrap64 ((rd t207 x100_2) - (rd t207 0))) 2) == 0)) = true then (some false) else (laws_FnFolds.l0 kj44 t206 (t206.size : Int) ji4 t207 t210 t211 t212 t213 y224 t207 (t207.length : Int) (wrap64 (x100_2 + 1)))) else (none)) else (none)) else (none)) else (none)) else (laws_FnFolds.l0 kj44 t206 (t206.size : Int) ji4 t207 t210 t211 t212 t213 y224 t207 (t207.length : Int) (wrap64 (x100_2 + 1))))) else (none)) = some r := by rw [if_neg (show ¬ (false = true) by decide)] at H; exact H
       clear H; have H := H1; clear H1; by_cases c68 : x11_2.length < 17592186044416
       rotate_left
       ·rw [if_neg c68] at H
        exact absurd H (by simp)
       rw [if_pos c68] at H; have LMc68 := m1 c68; clear c68; obtain ⟨y224, hy224⟩ : ∃ y_ : List Int, y_ = (x11_2 ++ [(rd t207 x100_2)]) := ⟨_, rfl⟩; replace H : (if x100_2 > 0 then (if 0 ≤ x100_2 then (if x100_2 < (t211.size : Int) then (if 0 < (t211.size : Int) then (if 0 < (t207.length : Int) then (if (((bt t211 x100_2) == (bt t211 0)) != ((Int.tmod (wrap64 ((rd t207 x100_2) - (rd t207 0))) 2) == 0)) = true then (some false) else (laws_FnFolds.l0 kj44 t206 (t206.size : Int) ji4 t207 t210 t211 t212 t213 y224 t207 (t207.length : Int) (wrap64 (x100_2 + 1)))) else (none)) else (none)) else (none)) else (none)) else (laws_FnFolds.l0 kj44 t206 (t206.size : Int) ji4 t207 t210 t211 t212 t213 y224 t207 (t207.length : Int) (wrap64 (x100_2 + 1)))) = some r := by first | (rw [hy224]; with_reducible exact H) | (have H2_ := (Option.bind_some _ _).symm.trans H; rw [hy224]; with_reducible exact H2_) | (have H2_ := (Option.bind_some _ _).symm.trans H; with_reducible exact H2_) | with_reducible exact H | (rw [hy224]; exact H) | exact H
       have Ny224 := m1 hy224; clear hy224; by_cases c69 : x100_2 > 0
       rotate_left
       ·rw [if_neg c69] at H
        have c69b0 : decide (0 < x100_2) = false := decide_eq_false c69; clear c69; have H' := m1 H; clear H; try go_wp2_with (first | ((with_reducible refine gate_builtin (b := .append) (xs := #[.tmp 137, .tmp 139]) rfl ?_); (try (refine gate_guard (by rfl) ?_; dsimp only)); at_builtin; refine Kd.R_append (Kd.int .i64) (w0 := w) w.heap.size rfl (.tmp 137) (.tmp 139) 24 3 (.int .i64 0) 8 rfl Tryz.underlying24 info3 rfl (by decide) (by omega) u11 x11_2 (rd t207 x100_2) [.int .i64 (rd t207 x100_2)] (fun k_ => some k_ ≠ (.slice (some ad222) t207.length co41 : Value).ownBlock ∧ some k_ ≠ (.slice (some ad222) t207.length co41 : Value).ownBlock) (fun _ => False) rfl rfl ?aP (fun _ hk => hk.elim) ?aF ?aO ?aB ?aS ?aL ?_; (case aP => exact rfl); (case aB => exact (by repeat (first | (with_reducible first | exact HB.out | apply c1 | apply c2 | apply c3) | exact HB.out))); (case aF => exact (fun k_ hk => ⟨Kd.fresh' (Kd.R_lt (by (with_reducible repeat (first | apply rA | apply rB | apply rC)); exact HO_6.out)) k_ hk, Kd.fresh' (Kd.R_lt (by (with_reducible repeat (first | apply rA | apply rB | apply rC)); exact HO_98.out)) k_ hk⟩)); (case aO => exact (by (with_reducible repeat (first | apply rA | apply rB | apply rC)); exact HO_11.out)); (case aS => exact (c5 (by repeat (first | (with_reducible first | exact HB.out | apply c1 | apply c2 | apply c3) | exact HB.out)))); (case aL => have := LMc68.out; omega); intro v225 w79 ho hb hg hat; rw [← Ny224.out] at ho; have n0_ := m1 (Kd.R_after (ok := (fun _ => True)) (by (with_reducible repeat (first | apply rA | apply rB | apply rC)); exact Kd.R_mono HO_6.out (fun _ hk => ⟨trivial, hk⟩)) hg hat); have n1_ := m1 (Kd.R_after (ok := (fun _ => True)) (by (with_reducible repeat (first | apply rA | apply rB | apply rC)); exact Kd.R_mono HO_98.out (fun _ hk => ⟨trivial, hk⟩)) hg hat); have n2_ := m1 (hb); have n3_ := m1 (ho); clear HO_6; clear HO_98; clear HB; clear HO_11; have HO_6 := n0_; have HO_98 := n1_; have HB := n2_; have HO226 := n3_; clear n0_ n1_ n2_ n3_; clear ho hb hg hat))
        have n0_ := m1 (rC HO_6.out); have n1_ := m1 (rC HO_98.out); have n2_ := m1 (rC HO226.out); have n3_ := m1 (below_drew1 HB.out); clear HO_6 HO_98 HO226 HB; have HO_6 := n0_; have HO_98 := n1_; have HO226 := n2_; have HB := n3_; clear n0_ n1_ n2_ n3_; refine start_ (n := 18) (S := fun w' => True) (ds := []) #[Z,Z,Z,Z,Z,Z,Z,Z,Z,Z,Z,Z,Z,Z,Z,Z,Z,Z] (by kernel_rfl) rfl rfl trivial (fun hHeld => ?_); refine with_tabW laws_FnFolds.tab20 laws_FnFolds.bits20 (fun HT_ HW_ => ?_)
        generalize w79.drew = w80 at HO_6 HO_98 HO226 HB hHeld ⊢
        refine pure_ (i := 0) (N := some 141) (v := ?_) (a' := ?_) #[Y,Z,Z,Z,Z,Z,Z,Z,Z,Z,Z,Z,Z,Z,Z,Z,Z,Z] rfl rfl (any_of HT_.out (by kernel_rfl)) (fun _ _ _ h => h) (Or.inl ⟨by rfl, ?_⟩) ?_ ?_
        rotate_left
        ·intro w'
         go_simp; with_reducible rfl
        rotate_left
        ·simp only [Act.put, q1, q2, q3, i64_w, i32_w]
         rfl
        refine pure_ (i := 1) (N := some 142) (v := ?_) (a' := ?_) #[Y,Y,Z,Z,Z,Z,Z,Z,Z,Z,Z,Z,Z,Z,Z,Z,Z,Z] rfl rfl (any_of HT_.out (by kernel_rfl)) (fun _ _ _ h => h) (Or.inl ⟨by rfl, ?_⟩) ?_ ?_
        rotate_left
        ·intro w'
         go_simp; with_reducible rfl
        rotate_left
        ·simp only [Act.put, q1, q2, q3, i64_w, i32_w]
         rfl
        refine pure_ (i := 2) (N := some 143) (v := ?_) (a' := ?_) #[Y,Y,Y,Z,Z,Z,Z,Z,Z,Z,Z,Z,Z,Z,Z,Z,Z,Z] rfl rfl (any_of HT_.out (by kernel_rfl)) (fun _ _ _ h => h) (Or.inl ⟨by rfl, ?_⟩) ?_ ?_
        rotate_left
        ·intro w'
         go_simp; with_reducible rfl
        rotate_left
        ·simp only [Act.put, q1, q2, q3, i64_w, i32_w]
         rfl
        refine pure_ (i := 3) (N := some 144) (v := undef) (a' := ?_) #[Y,Y,Y,Y,Z,Z,Z,Z,Z,Z,Z,Z,Z,Z,Z,Z,Z,Z] rfl rfl (any_of HT_.out (by kernel_rfl)) (fun _ _ _ h => h) (Or.inr ⟨by rfl, rfl⟩) ?_ ?_
        rotate_left
        ·simp only [Act.put, q1, q2, q3, i64_w, i32_w]
         rfl
        refine pure_ (i := 4) (N := some 145) (v := undef) (a' := ?_) #[Y,Y,Y,Y,Y,Z,Z,Z,Z,Z,Z,Z,Z,Z,Z,Z,Z,Z] rfl rfl (any_of HT_.out (by kernel_rfl)) (fun _ _ _ h => h) (Or.inr ⟨by rfl, rfl⟩) ?_ ?_
        rotate_left
        ·simp only [Act.put, q1, q2, q3, i64_w, i32_w]
         rfl
        refine pure_ (i := 5) (N := some 146) (v := undef) (a' := ?_) #[Y,Y,Y,Y,Y,Y,Z,Z,Z,Z,Z,Z,Z,Z,Z,Z,Z,Z] rfl rfl (any_of HT_.out (by kernel_rfl)) (fun _ _ _ h => h) (Or.inr ⟨by rfl, rfl⟩) ?_ ?_
        rotate_left
        ·simp only [Act.put, q1, q2, q3, i64_w, i32_w]
         rfl
        refine pure_ (i := 6) (N := some 147) (v := undef) (a' := ?_) #[Y,Y,Y,Y,Y,Y,Y,Z,Z,Z,Z,Z,Z,Z,Z,Z,Z,Z] rfl rfl (any_of HT_.out (by kernel_rfl)) (fun _ _ _ h => h) (Or.inr ⟨by rfl, rfl⟩) ?_ ?_
        rotate_left
        ·simp only [Act.put, q1, q2, q3, i64_w, i32_w]
         rfl
        refine pure_ (i := 7) (N := some 148) (v := undef) (a' := ?_) #[Y,Y,Y,Y,Y,Y,Y,Y,Z,Z,Z,Z,Z,Z,Z,Z,Z,Z] rfl rfl (any_of HT_.out (by kernel_rfl)) (fun _ _ _ h => h) (Or.inr ⟨by rfl, rfl⟩) ?_ ?_
        rotate_left
        ·simp only [Act.put, q1, q2, q3, i64_w, i32_w]
         rfl
        refine pure_ (i := 8) (N := some 149) (v := undef) (a' := ?_) #[Y,Y,Y,Y,Y,Y,Y,Y,Y,Z,Z,Z,Z,Z,Z,Z,Z,Z] rfl rfl (any_of HT_.out (by kernel_rfl)) (fun _ _ _ h => h) (Or.inr ⟨by rfl, rfl⟩) ?_ ?_
        rotate_left
        ·simp only [Act.put, q1, q2, q3, i64_w, i32_w]
         rfl
        refine pure_ (i := 9) (N := some 150) (v := undef) (a' := ?_) #[Y,Y,Y,Y,Y,Y,Y,Y,Y,Y,Z,Z,Z,Z,Z,Z,Z,Z] rfl rfl (any_of HT_.out (by kernel_rfl)) (fun _ _ _ h => h) (Or.inr ⟨by rfl, rfl⟩) ?_ ?_
        rotate_left
        ·simp only [Act.put, q1, q2, q3, i64_w, i32_w]
         rfl
        refine pure_ (i := 10) (N := some 151) (v := undef) (a' := ?_) #[Y,Y,Y,Y,Y,Y,Y,Y,Y,Y,Y,Z,Z,Z,Z,Z,Z,Z] rfl rfl (any_of HT_.out (by kernel_rfl)) (fun _ _ _ h => h) (Or.inr ⟨by rfl, rfl⟩) ?_ ?_
        rotate_left
        ·simp only [Act.put, q1, q2, q3, i64_w, i32_w]
         rfl
        refine pure_ (i := 11) (N := some 152) (v := undef) (a' := ?_) #[Y,Y,Y,Y,Y,Y,Y,Y,Y,Y,Y,Y,Z,Z,Z,Z,Z,Z] rfl rfl (any_of HT_.out (by kernel_rfl)) (fun _ _ _ h => h) (Or.inr ⟨by rfl, rfl⟩) ?_ ?_
        rotate_left
        ·simp only [Act.put, q1, q2, q3, i64_w, i32_w]
         rfl
        refine pure_ (i := 12) (N := some 153) (v := undef) (a' := ?_) #[Y,Y,Y,Y,Y,Y,Y,Y,Y,Y,Y,Y,Y,Z,Z,Z,Z,Z] rfl rfl (any_of HT_.out (by kernel_rfl)) (fun _ _ _ h => h) (Or.inr ⟨by rfl, rfl⟩) ?_ ?_
        rotate_left
        ·simp only [Act.put, q1, q2, q3, i64_w, i32_w]
         rfl
        refine pure_ (i := 13) (N := some 154) (v := undef) (a' := ?_) #[Y,Y,Y,Y,Y,Y,Y,Y,Y,Y,Y,Y,Y,Y,Z,Z,Z,Z] rfl rfl (any_of HT_.out (by kernel_rfl)) (fun _ _ _ h => h) (Or.inr ⟨by rfl, rfl⟩) ?_ ?_
        rotate_left
        ·simp only [Act.put, q1, q2, q3, i64_w, i32_w]
         rfl
        refine pure_ (i := 14) (N := some 155) (v := undef) (a' := ?_) #[Y,Y,Y,Y,Y,Y,Y,Y,Y,Y,Y,Y,Y,Y,Y,Z,Z,Z] rfl rfl (any_of HT_.out (by kernel_rfl)) (fun _ _ _ h => h) (Or.inr ⟨by rfl, rfl⟩) ?_ ?_
        rotate_left
        ·simp only [Act.put, q1, q2, q3, i64_w, i32_w]
         rfl
        refine pure_ (i := 15) (N := some 156) (v := undef) (a' := ?_) #[Y,Y,Y,Y,Y,Y,Y,Y,Y,Y,Y,Y,Y,Y,Y,Y,Z,Z] rfl rfl (any_of HT_.out (by kernel_rfl)) (fun _ _ _ h => h) (Or.inr ⟨by rfl, rfl⟩) ?_ ?_
        rotate_left
        ·simp only [Act.put, q1, q2, q3, i64_w, i32_w]
         rfl
        refine pure_ (i := 16) (N := some 157) (v := undef) (a' := ?_) #[Y,Y,Y,Y,Y,Y,Y,Y,Y,Y,Y,Y,Y,Y,Y,Y,Y,Z] rfl rfl (any_of HT_.out (by kernel_rfl)) (fun _ _ _ h => h) (Or.inr ⟨by rfl, rfl⟩) ?_ ?_
        rotate_left
        ·simp only [Act.put, q1, q2, q3, i64_w, i32_w]
         rfl
        refine pure_ (i := 17) (N := some 158) (v := ?_) (a' := ?_) #[Y,Y,Y,Y,Y,Y,Y,Y,Y,Y,Y,Y,Y,Y,Y,Y,Y,Y] rfl rfl (any_of HT_.out (by kernel_rfl)) (fun _ _ _ h => h) (Or.inl ⟨by rfl, ?_⟩) ?_ ?_
        rotate_left
        ·intro w'
         go_simp; with_reducible rfl
        rotate_left
        ·simp only [Act.put, q1, q2, q3, i64_w, i32_w]
         rfl
        refine done_ (done_of HT_.out (by kernel_rfl)) ?_
        try go_wp2
        go_roundg kj44
        case measure => have := HJ9.out; have := HK2.out; have := HJ44.out; omega
        case rel => exact ⟨(y224), (wrap64 (x100_2 + 1)), (by first | rfl | (simp; done) | (simp [*]; done)), H', ⟨by have := HJ9.out; have := HK2.out; have := HJ44.out; omega⟩, ⟨by (with_reducible repeat (first | apply rA | apply rB | apply rC)); exact Kd.R_mono HO_6.out (fun _ hk => hk.2)⟩, ⟨by (with_reducible repeat (first | apply rA | apply rB | apply rC)); exact HO226.out⟩, ⟨by (with_reducible repeat (first | apply rA | apply rB | apply rC)); exact Kd.R_mono HO_98.out (fun _ hk => hk.2)⟩, ⟨by repeat (first | (with_reducible first | exact HB.out | apply c1 | apply c2 | apply c3) | exact HB.out)⟩⟩
       rw [if_pos c69] at H; have c69b0 : decide (0 < x100_2) = true := decide_eq_true c69; clear c69; by_cases c70 : 0 ≤ x100_2
       rotate_left
       ·rw [if_neg c70] at H
        exact absurd H (by simp)
       rw [if_pos c70] at H; have c70b0 : decide (0 ≤ x100_2) = true := decide_eq_true c70; clear c70; by_cases c71 : x100_2 < (t211.size : Int)
       rotate_left
       ·rw [if_neg c71] at H
        exact absurd H (by simp)
       rw [if_pos c71] at H; have c71b0 : decide (x100_2 < (t211.size : Int)) = true := decide_eq_true c71; clear c71; by_cases c73 : 0 < (t211.size : Int)
       rotate_left
       ·rw [if_neg c73] at H
        exact absurd H (by simp)
       rw [if_pos c73] at H; have c73b0 : decide (0 < (t211.size : Int)) = true := decide_eq_true c73; have c73b1 : decide (0 < t211.size) = true := decide_eq_true (by omega)
       clear c73; by_cases c75 : 0 < (t207.length : Int)
       rotate_left
       ·rw [if_neg c75] at H
        exact absurd H (by simp)
       rw [if_pos c75] at H; have c75b0 : decide (0 < (t207.length : Int)) = true := decide_eq_true c75; have c75b1 : decide (0 < t207.length) = true := decide_eq_true (by omega)
       clear c75; by_cases c76 : (((bt t211 x100_2) == (bt t211 0)) != ((Int.tmod (wrap64 ((rd t207 x100_2) - (rd t207 0))) 2) == 0)) = true
       ·rw [if_pos c76] at H
        have c76b0 : (((bt t211 x100_2) == (bt t211 0)) != ((Int.tmod (wrap64 ((rd t207 x100_2) - (rd t207 0))) 2) == 0)) = true := c76; (try (have c76b1 : decide (((bt t211 x100_2) == (bt t211 0)) = ((Int.tmod (wrap64 ((rd t207 x100_2) - (rd t207 0))) 2) == 0)) = false := by simpa using c76))
        (try (have c76b2 : (((bt t211 x100_2) == (bt t211 0)) == ((Int.tmod (wrap64 ((rd t207 x100_2) - (rd t207 0))) 2) == 0)) = false := by simpa using c76))
        (try (have c76b3 : ¬ (((bt t211 x100_2) == (bt t211 0)) = ((Int.tmod (wrap64 ((rd t207 x100_2) - (rd t207 0))) 2) == 0)) := by simpa using c76))
        clear c76; exact absurd (Option.some.inj H) (by rw [HR_.out]; decide)
       rw [if_neg c76] at H; have c76b0 : (((bt t211 x100_2) == (bt t211 0)) != ((Int.tmod (wrap64 ((rd t207 x100_2) - (rd t207 0))) 2) == 0)) = false := by simpa using c76
       (try (have c76b1 : decide (((bt t211 x100_2) == (bt t211 0)) = ((Int.tmod (wrap64 ((rd t207 x100_2) - (rd t207 0))) 2) == 0)) = true := by simpa using c76))
       (try (have c76b2 : (((bt t211 x100_2) == (bt t211 0)) == ((Int.tmod (wrap64 ((rd t207 x100_2) - (rd t207 0))) 2) == 0)) = true := by simpa using c76))
       clear c76; have H' := m1 H; clear H; try go_wp2_with (first | ((with_reducible refine gate_builtin (b := .append) (xs := #[.tmp 137, .tmp 139]) rfl ?_); (try (refine gate_guard (by rfl) ?_; dsimp only)); at_builtin; refine Kd.R_append (Kd.int .i64) (w0 := w) w.heap.size rfl (.tmp 137) (.tmp 139) 24 3 (.int .i64 0) 8 rfl Tryz.underlying24 info3 rfl (by decide) (by omega) u11 x11_2 (rd t207 x100_2) [.int .i64 (rd t207 x100_2)] (fun k_ => some k_ ≠ (.slice (some ad222) t207.length co41 : Value).ownBlock ∧ some k_ ≠ (.slice (some ad222) t207.length co41 : Value).ownBlock) (fun _ => False) rfl rfl ?aP (fun _ hk => hk.elim) ?aF ?aO ?aB ?aS ?aL ?_; (case aP => exact rfl); (case aB => exact (by repeat (first | (with_reducible first | exact HB.out | apply c1 | apply c2 | apply c3) | exact HB.out))); (case aF => exact (fun k_ hk => ⟨Kd.fresh' (Kd.R_lt (by (with_reducible repeat (first | apply rA | apply rB | apply rC)); exact HO_6.out)) k_ hk, Kd.fresh' (Kd.R_lt (by (with_reducible repeat (first | apply rA | apply rB | apply rC)); exact HO_98.out)) k_ hk⟩)); (case aO => exact (by (with_reducible repeat (first | apply rA | apply rB | apply rC)); exact HO_11.out)); (case aS => exact (c5 (by repeat (first | (with_reducible first | exact HB.out | apply c1 | apply c2 | apply c3) | exact HB.out)))); (case aL => have := LMc68.out; omega); intro v225 w77 ho hb hg hat; rw [← Ny224.out] at ho; have n0_ := m1 (Kd.R_after (ok := (fun _ => True)) (by (with_reducible repeat (first | apply rA | apply rB | apply rC)); exact Kd.R_mono HO_6.out (fun _ hk => ⟨trivial, hk⟩)) hg hat); have n1_ := m1 (Kd.R_after (ok := (fun _ => True)) (by (with_reducible repeat (first | apply rA | apply rB | apply rC)); exact Kd.R_mono HO_98.out (fun _ hk => ⟨trivial, hk⟩)) hg hat); have n2_ := m1 (hb); have n3_ := m1 (ho); clear HO_6; clear HO_98; clear HB; clear HO_11; have HO_6 := n0_; have HO_98 := n1_; have HB := n2_; have HO226 := n3_; clear n0_ n1_ n2_ n3_; clear ho hb hg hat))
       have n0_ := m1 (rC HO_6.out); have n1_ := m1 (rC HO_98.out); have n2_ := m1 (rC HO226.out); have n3_ := m1 (below_drew1 HB.out); clear HO_6 HO_98 HO226 HB; have HO_6 := n0_; have HO_98 := n1_; have HO226 := n2_; have HB := n3_; clear n0_ n1_ n2_ n3_; have p72 : 0 ≤ (x100_2 : Int) := of_decide_eq_true (by first | (with_reducible assumption) | assumption)
       have q72 : x100_2 < (t211.size : Int) := of_decide_eq_true (by first | (with_reducible assumption) | assumption)
       have hx72 := bt_at t211 x100_2; replace p72 := eq_true p72; replace q72 := eq_true q72; have p74 : 0 ≤ (0 : Int) := (by omega)
       have q74 : 0 < t211.size := (by have : (0 : Int) < (t211.size : Int) := of_decide_eq_true (by first | (with_reducible assumption) | assumption); omega)
       have hx74 : ∀ h : 0 < t211.size, ((t211[0]'h).toNat : Int) = bt t211 0 := bt_at t211 0; clear p74; have qi74 : (0 < (t211.size : Int)) = True := eq_true (of_decide_eq_true (by first | (with_reducible assumption) | assumption))
       replace q74 := eq_true q74; have p227 : 0 ≤ (0 : Int) := (by omega)
       have q227 : 0 < (t207.length : Int) := of_decide_eq_true (by first | (with_reducible assumption) | assumption)
       (try (obtain ⟨A_, c_, e_⟩ := Kd.R_slice HO_6.out; subst e_)); obtain ⟨ad227, e227, hx227_0⟩ := Kd.at_int (Kd.R_reads' HO_6.out).2.2 0 p227 q227; obtain rfl : ad222 = ad227 := (by injection e227)
       have qi227 : (0 < t207.length) = True := eq_true (by omega)
       (try rw [show ((0 : Int)).toNat = 0 from rfl] at hx227_0)
       (try rw [Addr.add_zero'] at hx227_0)
       replace p227 := eq_true p227; replace q227 := eq_true q227; refine start_ (n := 18) (S := fun w' => w'.cell? ad222 = some (.int .i64 (rd t207 0))) (ds := []) #[Z,Z,Z,Z,Z,Z,Z,Z,Z,Z,Z,Z,Z,Z,Z,Z,Z,Z] (by kernel_rfl) rfl rfl (hx227_0) (fun hHeld => ?_); refine with_tabW laws_FnFolds.tab20 laws_FnFolds.bits20 (fun HT_ HW_ => ?_)
       generalize w77.drew = w78 at HO_6 HO_98 HO226 HB hx227_0 hHeld ⊢
       refine pure_ (i := 0) (N := some 141) (v := ?_) (a' := ?_) #[Y,Z,Z,Z,Z,Z,Z,Z,Z,Z,Z,Z,Z,Z,Z,Z,Z,Z] rfl rfl (any_of HT_.out (by kernel_rfl)) (fun _ _ _ h => h) (Or.inl ⟨by rfl, ?_⟩) ?_ ?_
       rotate_left
       ·intro w'
        go_simp; with_reducible rfl
       rotate_left
       ·simp only [Act.put, q1, q2, q3, i64_w, i32_w]
        rfl
       refine pure_ (i := 1) (N := some 142) (v := ?_) (a' := ?_) #[Y,Y,Z,Z,Z,Z,Z,Z,Z,Z,Z,Z,Z,Z,Z,Z,Z,Z] rfl rfl (any_of HT_.out (by kernel_rfl)) (fun _ _ _ h => h) (Or.inl ⟨by rfl, ?_⟩) ?_ ?_
       rotate_left
       ·intro w'
        go_simp; with_reducible rfl
       rotate_left
       ·simp only [Act.put, q1, q2, q3, i64_w, i32_w]
        rfl
       refine pure_ (i := 2) (N := some 143) (v := ?_) (a' := ?_) #[Y,Y,Y,Z,Z,Z,Z,Z,Z,Z,Z,Z,Z,Z,Z,Z,Z,Z] rfl rfl (any_of HT_.out (by kernel_rfl)) (fun _ _ _ h => h) (Or.inl ⟨by rfl, ?_⟩) ?_ ?_
       rotate_left
       ·intro w'
        go_simp; with_reducible rfl
       rotate_left
       ·simp only [Act.put, q1, q2, q3, i64_w, i32_w]
        rfl
       refine pure_ (i := 3) (N := some 144) (v := ?_) (a' := ?_) #[Y,Y,Y,Y,Z,Z,Z,Z,Z,Z,Z,Z,Z,Z,Z,Z,Z,Z] rfl rfl (any_of HT_.out (by kernel_rfl)) (fun _ _ _ h => h) (Or.inl ⟨by rfl, ?_⟩) ?_ ?_
       rotate_left
       ·intro w'
        go_simp; with_reducible rfl
       rotate_left
       ·simp only [Act.put, q1, q2, q3, i64_w, i32_w]
        rfl
       refine pure_ (i := 4) (N := some 145) (v := ?_) (a' := ?_) #[Y,Y,Y,Y,Y,Z,Z,Z,Z,Z,Z,Z,Z,Z,Z,Z,Z,Z] rfl rfl (any_of HT_.out (by kernel_rfl)) (fun _ _ _ h => h) (Or.inl ⟨by rfl, ?_⟩) ?_ ?_
       rotate_left
       ·intro w'
        go_simp; with_reducible rfl
       rotate_left
       ·simp only [Act.put, q1, q2, q3, i64_w, i32_w]
        rfl
       refine pure_ (i := 6) (N := some 147) (v := ?_) (a' := ?_) #[Y,Y,Y,Y,Y,Z,Y,Z,Z,Z,Z,Z,Z,Z,Z,Z,Z,Z] rfl rfl (any_of HT_.out (by kernel_rfl)) (fun _ _ _ h => h) (Or.inl ⟨by rfl, ?_⟩) ?_ ?_
       rotate_left
       ·intro w'
        go_simp; with_reducible rfl
       rotate_left
       ·simp only [Act.put, q1, q2, q3, i64_w, i32_w]
        rfl
       refine pure_ (i := 9) (N := some 150) (v := ?_) (a' := ?_) #[Y,Y,Y,Y,Y,Z,Y,Z,Z,Y,Z,Z,Z,Z,Z,Z,Z,Z] rfl rfl (any_of HT_.out (by kernel_rfl)) (fun _ _ _ h => h) (Or.inl ⟨by rfl, ?_⟩) ?_ ?_
       rotate_left
       ·intro w'
        go_simp; with_reducible rfl
       rotate_left
       ·simp only [Act.put, q1, q2, q3, i64_w, i32_w]
        rfl
       refine pure_ (i := 10) (N := some 151) (v := ?_) (a' := ?_) #[Y,Y,Y,Y,Y,Z,Y,Z,Z,Y,Y,Z,Z,Z,Z,Z,Z,Z] rfl rfl (any_of HT_.out (by kernel_rfl)) (fun _ _ _ h => h) (Or.inl ⟨by rfl, ?_⟩) ?_ ?_
       rotate_left
       ·intro w'
        go_simp; with_reducible rfl
       rotate_left
       ·simp only [Act.put, q1, q2, q3, i64_w, i32_w]
        rfl
       refine pure_ (i := 11) (N := some 152) (v := ?_) (a' := ?_) #[Y,Y,Y,Y,Y,Z,Y,Z,Z,Y,Y,Y,Z,Z,Z,Z,Z,Z] rfl rfl (any_of HT_.out (by kernel_rfl)) (fun _ _ _ h => h) (Or.inl ⟨by rfl, ?_⟩) ?_ ?_
       rotate_left
       ·intro w'
        go_simp; with_reducible rfl
       rotate_left
       ·simp only [Act.put, q1, q2, q3, i64_w, i32_w]
        rfl
       refine take_ (i := 5) (N := some 146) (v := ?_) (a' := ?_) #[Y,Y,Y,Y,Y,Y,Y,Z,Z,Y,Y,Y,Z,Z,Z,Z,Z,Z] rfl rfl (take_ofW HT_.out HW_.out (by kernel_rfl)) (fun _ _ _ h => h) (Or.inl ⟨by rfl, ?_⟩) hHeld ?_ ?_
       rotate_left
       ·intro w' s0
        go_simp; with_reducible rfl
       rotate_left
       ·simp only [Act.put, q1, q2, q3, i64_w, i32_w]
        rfl
       refine take_ (i := 7) (N := some 148) (v := ?_) (a' := ?_) #[Y,Y,Y,Y,Y,Y,Y,Y,Z,Y,Y,Y,Z,Z,Z,Z,Z,Z] rfl rfl (take_ofW HT_.out HW_.out (by kernel_rfl)) (fun _ _ _ h => h) (Or.inl ⟨by rfl, ?_⟩) hHeld ?_ ?_
       rotate_left
       ·intro w' s0
        go_simp; with_reducible rfl
       rotate_left
       ·simp only [Act.put, q1, q2, q3, i64_w, i32_w]
        rfl
       refine pure_ (i := 8) (N := some 149) (v := ?_) (a' := ?_) #[Y,Y,Y,Y,Y,Y,Y,Y,Y,Y,Y,Y,Z,Z,Z,Z,Z,Z] rfl rfl (any_of HT_.out (by kernel_rfl)) (fun _ _ _ h => h) (Or.inl ⟨by rfl, ?_⟩) ?_ ?_
       rotate_left
       ·intro w'
        go_simp; with_reducible rfl
       rotate_left
       ·simp only [Act.put, q1, q2, q3, i64_w, i32_w]
        rfl
       refine take_ (i := 12) (N := some 153) (v := ?_) (a' := ?_) #[Y,Y,Y,Y,Y,Y,Y,Y,Y,Y,Y,Y,Y,Z,Z,Z,Z,Z] rfl rfl (take_ofW HT_.out HW_.out (by kernel_rfl)) (fun _ _ _ h => h) (Or.inl ⟨by rfl, ?_⟩) hHeld ?_ ?_
       rotate_left
       ·intro w' s0
        go_simp; with_reducible rfl
       rotate_left
       ·simp only [Act.put, q1, q2, q3, i64_w, i32_w]
        rfl
       refine pure_ (i := 13) (N := some 154) (v := ?_) (a' := ?_) #[Y,Y,Y,Y,Y,Y,Y,Y,Y,Y,Y,Y,Y,Y,Z,Z,Z,Z] rfl rfl (any_of HT_.out (by kernel_rfl)) (fun _ _ _ h => h) (Or.inl ⟨by rfl, ?_⟩) ?_ ?_
       rotate_left
       ·intro w'
        go_simp; with_reducible rfl
       rotate_left
       ·simp only [Act.put, q1, q2, q3, i64_w, i32_w]
        rfl
       refine pure_ (i := 14) (N := some 155) (v := ?_) (a' := ?_) #[Y,Y,Y,Y,Y,Y,Y,Y,Y,Y,Y,Y,Y,Y,Y,Z,Z,Z] rfl rfl (any_of HT_.out (by kernel_rfl)) (fun _ _ _ h => h) (Or.inl ⟨by rfl, ?_⟩) ?_ ?_
       rotate_left
       ·intro w'
        go_simp; with_reducible rfl
       rotate_left
       ·simp only [Act.put, q1, q2, q3, i64_w, i32_w]
        rfl
       refine pure_ (i := 15) (N := some 156) (v := ?_) (a' := ?_) #[Y,Y,Y,Y,Y,Y,Y,Y,Y,Y,Y,Y,Y,Y,Y,Y,Z,Z] rfl rfl (any_of HT_.out (by kernel_rfl)) (fun _ _ _ h => h) (Or.inl ⟨by rfl, ?_⟩) ?_ ?_
       rotate_left
       ·intro w'
        go_simp; with_reducible rfl
       rotate_left
       ·simp only [Act.put, q1, q2, q3, i64_w, i32_w]
        rfl
       refine pure_ (i := 16) (N := some 157) (v := ?_) (a' := ?_) #[Y,Y,Y,Y,Y,Y,Y,Y,Y,Y,Y,Y,Y,Y,Y,Y,Y,Z] rfl rfl (any_of HT_.out (by kernel_rfl)) (fun _ _ _ h => h) (Or.inl ⟨by rfl, ?_⟩) ?_ ?_
       rotate_left
       ·intro w'
        go_simp; with_reducible rfl
       rotate_left
       ·simp only [Act.put, q1, q2, q3, i64_w, i32_w]
        rfl
       refine pure_ (i := 17) (N := some 158) (v := ?_) (a' := ?_) #[Y,Y,Y,Y,Y,Y,Y,Y,Y,Y,Y,Y,Y,Y,Y,Y,Y,Y] rfl rfl (any_of HT_.out (by kernel_rfl)) (fun _ _ _ h => h) (Or.inl ⟨by rfl, ?_⟩) ?_ ?_
       rotate_left
       ·intro w'
        go_simp; with_reducible rfl
       rotate_left
       ·simp only [Act.put, q1, q2, q3, i64_w, i32_w]
        rfl
       refine done_ (done_of HT_.out (by kernel_rfl)) ?_
       try go_wp2
       go_roundg kj44
       case measure => have := HJ9.out; have := HK2.out; have := HJ44.out; omega
       case rel => exact ⟨(y224), (wrap64 (x100_2 + 1)), (by first | rfl | (simp; done) | (simp [*]; done)), H', ⟨by have := HJ9.out; have := HK2.out; have := HJ44.out; omega⟩, ⟨by (with_reducible repeat (first | apply rA | apply rB | apply rC)); exact Kd.R_mono HO_6.out (fun _ hk => hk.2)⟩, ⟨by (with_reducible repeat (first | apply rA | apply rB | apply rC)); exact HO226.out⟩, ⟨by (with_reducible repeat (first | apply rA | apply rB | apply rC)); exact Kd.R_mono HO_98.out (fun _ hk => hk.2)⟩, ⟨by repeat (first | (with_reducible first | exact HB.out | apply c1 | apply c2 | apply c3) | exact HB.out)⟩⟩

end Go.Proofs.YtndlmckfacegeaaGreatDoor.QFnFolds
