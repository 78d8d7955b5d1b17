-- Printed for this claim by a changed copy of the kit's print (the session's own; own contracts in place of some functions).
import Derived.Test.YteelfcmlghjknaaQFnExactCutPolygonx0
import Derived.Test.YteelfcmlghjknaaQFnExactCutPolygonx2
import Derived.Test.YteelfcmlghjknaaQFnExactCutPolygonx8
import Derived.Test.YteelfcmlghjknaaQFnExactCutPolygonx12
namespace Go.Proofs.Yteelfcmlghjknaa.QFnExactCutPolygon
open Go.RowKit Go.Proofs.YteelfcmlghjknaaW.PrintWords Go.Proofs.YteelfcmlghjknaaW.PrintLast Go.Proofs.YteelfcmlghjknaaW.PrintMore
attribute [local go_sem] max2_int min2_int max_two min_two max_three min_three max_four min_four   -- for this text's walks alone
set_option linter.unusedVariables false
set_option linter.unusedSimpArgs false

/-! ### laws_FnExactCutPolygon: function 8 -/
mutual
def laws_FnExactCutPolygon.j0 : Nat → List (S69) → Int → Int → List (S65) → List (S65) → Bool → List (S65) → List (S65) → List (S65) → Bool → Bool → Option (Bool)
 | 0, _, _, _, _, _, _, _, _, _, _, _ => none
 | k + 1, x0, x1, x2, x8, x9, x10, x11, x12, x13, x14, x59 => if x59 = true then (some false) else ((laws_toPointS.f k x0).bind fun t281 => ((laws_eqPointS.f k x11 t281).bind fun t284 => (if t284 = true then ((laws_markPointS.f k x11 1).bind fun bt285 => (if bt285.1 < 0 then (laws_FnExactCutPolygon.j1 k x0 x1 x2 x8 x9 x10 x12 x13 true) else ((laws_eqPointS.f k x12 x8).bind fun t287 => (if t287 = true then ((laws_eqPointS.f k x13 x9).bind fun t288 => (if t288 = true then (laws_FnExactCutPolygon.j1 k x0 x1 x2 x8 x9 x10 x12 x13 (x14 != x10)) else (laws_FnExactCutPolygon.j1 k x0 x1 x2 x8 x9 x10 x12 x13 true))) else (laws_FnExactCutPolygon.j1 k x0 x1 x2 x8 x9 x10 x12 x13 true))))) else (some false))))
def laws_FnExactCutPolygon.j1 : Nat → List (S69) → Int → Int → List (S65) → List (S65) → Bool → List (S65) → List (S65) → Bool → Option (Bool)
 | 0, _, _, _, _, _, _, _, _, _ => none
 | k + 1, x0, x1, x2, x8, x9, x10, x12, x13, x86 => if x86 = true then (some false) else ((laws_markPointS.f k x12 1).bind fun bt289 => ((laws_markPointS.f k x13 bt289.1).bind fun bt291 => ((laws_heldPointS.f k bt289.2 1).bind fun t293 => (if t293 < 0 then (some false) else ((laws_heldPointS.f k bt291.2 t293).bind fun t294 => (if t294 < 0 then (some false) else (if t294 = bt291.1 then ((laws_toPointS.f k x0).bind fun t295 => ((impl_CutPolygon.f k t295 x1 x2).bind fun bt298 => ((laws_eqPointS.f k bt298.1 x8).bind fun t305 => (if t305 = true then ((laws_eqPointS.f k bt298.2.1 x9).bind fun t306 => (if t306 = true then (laws_FnExactCutPolygon.j2 k bt289.2 bt291.2 bt291.1 (bt298.2.2 != x10)) else (laws_FnExactCutPolygon.j2 k bt289.2 bt291.2 bt291.1 true))) else (laws_FnExactCutPolygon.j2 k bt289.2 bt291.2 bt291.1 true))))) else (some false))))))))
def laws_FnExactCutPolygon.j2 : Nat → List (S65) → List (S65) → Int → Bool → Option (Bool)
 | 0, _, _, _, _ => none
 | k + 1, x12, x13, x16, x129 => if x129 = true then (some false) else ((laws_heldPointS.f k x12 1).bind fun t307 => (if t307 < 0 then (some false) else ((laws_heldPointS.f k x13 t307).bind fun t308 => (if t308 < 0 then (some false) else (if t308 = x16 then (some true) else (some false))))))
end
def laws_FnExactCutPolygon.f (k : Nat) (l0 : List (S69)) (a1 : Int) (a2 : Int) : Option (Bool) := (laws_szPointS.f l0 1048576).bind fun t258 => (if t258 < 0 then (some true) else ((laws_toPointS.f k l0).bind fun t259 => ((spec_CutPolygon.f k t259 a1 a2).bind fun bt262 => ((laws_toPointS.f k l0).bind fun t269 => ((impl_CutPolygon.f k t269 a1 a2).bind fun bt272 => ((laws_eqPointS.f k bt272.1 bt262.1).bind fun t279 => (if t279 = true then ((laws_eqPointS.f k bt272.2.1 bt262.2.1).bind fun t280 => (if t280 = true then (laws_FnExactCutPolygon.j0 k l0 a1 a2 bt262.1 bt262.2.1 bt262.2.2 t269 bt272.1 bt272.2.1 bt272.2.2 (bt272.2.2 != bt262.2.2)) else (laws_FnExactCutPolygon.j0 k l0 a1 a2 bt262.1 bt262.2.1 bt262.2.2 t269 bt272.1 bt272.2.1 bt272.2.2 true))) else (laws_FnExactCutPolygon.j0 k l0 a1 a2 bt262.1 bt262.2.1 bt262.2.2 t269 bt272.1 bt272.2.1 bt272.2.2 true))))))))
theorem laws_FnExactCutPolygon.mono_l : ∀ k, (∀ y0 y1 y2 y3 y4 y5 y6 y7 y8 y9 y10, LeO (laws_FnExactCutPolygon.j0 k y0 y1 y2 y3 y4 y5 y6 y7 y8 y9 y10) (laws_FnExactCutPolygon.j0 (k + 1) y0 y1 y2 y3 y4 y5 y6 y7 y8 y9 y10)) ∧ (∀ y0 y1 y2 y3 y4 y5 y6 y7 y8, LeO (laws_FnExactCutPolygon.j1 k y0 y1 y2 y3 y4 y5 y6 y7 y8) (laws_FnExactCutPolygon.j1 (k + 1) y0 y1 y2 y3 y4 y5 y6 y7 y8)) ∧ (∀ y0 y1 y2 y3, LeO (laws_FnExactCutPolygon.j2 k y0 y1 y2 y3) (laws_FnExactCutPolygon.j2 (k + 1) y0 y1 y2 y3))
 | 0 => ⟨fun _ _ _ _ _ _ _ _ _ _ _ r h => by simp [laws_FnExactCutPolygon.j0] at h, fun _ _ _ _ _ _ _ _ _ r h => by simp [laws_FnExactCutPolygon.j1] at h, fun _ _ _ _ r h => by simp [laws_FnExactCutPolygon.j2] at h⟩
 | k + 1 => by
  obtain ⟨ih0, ih1, ih2⟩ := laws_FnExactCutPolygon.mono_l k
  refine ⟨?_, ?_, ?_⟩
  ·intro y0 y1 y2 y3 y4 y5 y6 y7 y8 y9 y10
   unfold laws_FnExactCutPolygon.j0
   repeat' first
   | (with_reducible exact ih0 _ _ _ _ _ _ _ _ _ _ _)
   | (with_reducible exact ih1 _ _ _ _ _ _ _ _ _)
   | (with_reducible exact ih2 _ _ _ _)
   | (with_reducible exact impl_CutPolygon.mono _ _ _ _)
   | (with_reducible exact laws_eqPointS.mono _ _ _)
   | (with_reducible exact laws_heldPointS.mono _ _ _)
   | (with_reducible exact laws_markPointS.mono _ _ _)
   | (with_reducible exact laws_toPointS.mono _ _)
   | (with_reducible exact spec_CutPolygon.mono _ _ _ _)
   | (with_reducible exact LeO.refl _)
   | (with_reducible exact LeO.none _)
   | (with_reducible refine LeO.ite ?_ ?_)
   | (with_reducible refine LeO.bind ?_ (fun _ => ?_))
   | exact ih0 _ _ _ _ _ _ _ _ _ _ _
   | exact ih1 _ _ _ _ _ _ _ _ _
   | exact ih2 _ _ _ _
   | exact impl_CutPolygon.mono _ _ _ _
   | exact laws_eqPointS.mono _ _ _
   | exact laws_heldPointS.mono _ _ _
   | exact laws_markPointS.mono _ _ _
   | exact laws_toPointS.mono _ _
   | exact spec_CutPolygon.mono _ _ _ _
   | exact LeO.none _
   | refine LeO.ite ?_ ?_
   | refine LeO.bind ?_ (fun _ => ?_)
  ·intro y0 y1 y2 y3 y4 y5 y6 y7 y8
   unfold laws_FnExactCutPolygon.j1
   repeat' first
   | (with_reducible exact ih0 _ _ _ _ _ _ _ _ _ _ _)
   | (with_reducible exact ih1 _ _ _ _ _ _ _ _ _)
   | (with_reducible exact ih2 _ _ _ _)
   | (with_reducible exact impl_CutPolygon.mono _ _ _ _)
   | (with_reducible exact laws_eqPointS.mono _ _ _)
   | (with_reducible exact laws_heldPointS.mono _ _ _)
   | (with_reducible exact laws_markPointS.mono _ _ _)
   | (with_reducible exact laws_toPointS.mono _ _)
   | (with_reducible exact spec_CutPolygon.mono _ _ _ _)
   | (with_reducible exact LeO.refl _)
   | (with_reducible exact LeO.none _)
   | (with_reducible refine LeO.ite ?_ ?_)
   | (with_reducible refine LeO.bind ?_ (fun _ => ?_))
   | exact ih0 _ _ _ _ _ _ _ _ _ _ _
   | exact ih1 _ _ _ _ _ _ _ _ _
   | exact ih2 _ _ _ _
   | exact impl_CutPolygon.mono _ _ _ _
   | exact laws_eqPointS.mono _ _ _
   | exact laws_heldPointS.mono _ _ _
   | exact laws_markPointS.mono _ _ _
   | exact laws_toPointS.mono _ _
   | exact spec_CutPolygon.mono _ _ _ _
   | exact LeO.none _
   | refine LeO.ite ?_ ?_
   | refine LeO.bind ?_ (fun _ => ?_)
  ·intro y0 y1 y2 y3
   unfold laws_FnExactCutPolygon.j2
   repeat' first
   | (with_reducible exact ih0 _ _ _ _ _ _ _ _ _ _ _)
   | (with_reducible exact ih1 _ _ _ _ _ _ _ _ _)
   | (with_reducible exact ih2 _ _ _ _)
   | (with_reducible exact impl_CutPolygon.mono _ _ _ _)
   | (with_reducible exact laws_eqPointS.mono _ _ _)
   | (with_reducible exact laws_heldPointS.mono _ _ _)
   | (with_reducible exact laws_markPointS.mono _ _ _)
   | (with_reducible exact laws_toPointS.mono _ _)
   | (with_reducible exact spec_CutPolygon.mono _ _ _ _)
   | (with_reducible exact LeO.refl _)
   | (with_reducible exact LeO.none _)
   | (with_reducible refine LeO.ite ?_ ?_)
   | (with_reducible refine LeO.bind ?_ (fun _ => ?_))
   | exact ih0 _ _ _ _ _ _ _ _ _ _ _
   | exact ih1 _ _ _ _ _ _ _ _ _
   | exact ih2 _ _ _ _
   | exact impl_CutPolygon.mono _ _ _ _
   | exact laws_eqPointS.mono _ _ _
   | exact laws_heldPointS.mono _ _ _
   | exact laws_markPointS.mono _ _ _
   | exact laws_toPointS.mono _ _
   | exact spec_CutPolygon.mono _ _ _ _
   | exact LeO.none _
   | refine LeO.ite ?_ ?_
   | refine LeO.bind ?_ (fun _ => ?_)
theorem laws_FnExactCutPolygon.mono : ∀ a0 a1 a2 k, LeO (laws_FnExactCutPolygon.f k a0 a1 a2) (laws_FnExactCutPolygon.f (k + 1) a0 a1 a2) := by
 intro a0 a1 a2 k
 obtain ⟨ih0, ih1, ih2⟩ := laws_FnExactCutPolygon.mono_l k
 unfold laws_FnExactCutPolygon.f
 repeat' first
   | (with_reducible exact ih0 _ _ _ _ _ _ _ _ _ _ _)
   | (with_reducible exact ih1 _ _ _ _ _ _ _ _ _)
   | (with_reducible exact ih2 _ _ _ _)
   | (with_reducible exact impl_CutPolygon.mono _ _ _ _)
   | (with_reducible exact laws_eqPointS.mono _ _ _)
   | (with_reducible exact laws_heldPointS.mono _ _ _)
   | (with_reducible exact laws_markPointS.mono _ _ _)
   | (with_reducible exact laws_toPointS.mono _ _)
   | (with_reducible exact spec_CutPolygon.mono _ _ _ _)
   | (with_reducible exact LeO.refl _)
   | (with_reducible exact LeO.none _)
   | (with_reducible refine LeO.ite ?_ ?_)
   | (with_reducible refine LeO.bind ?_ (fun _ => ?_))
   | exact ih0 _ _ _ _ _ _ _ _ _ _ _
   | exact ih1 _ _ _ _ _ _ _ _ _
   | exact ih2 _ _ _ _
   | exact impl_CutPolygon.mono _ _ _ _
   | exact laws_eqPointS.mono _ _ _
   | exact laws_heldPointS.mono _ _ _
   | exact laws_markPointS.mono _ _ _
   | exact laws_toPointS.mono _ _
   | exact spec_CutPolygon.mono _ _ _ _
   | exact LeO.none _
   | refine LeO.ite ?_ ?_
   | refine LeO.bind ?_ (fun _ => ?_)
set_option maxHeartbeats 8000000 in
set_option maxRecDepth 100000 in
theorem laws_FnExactCutPolygon.calls (k : Nat) (A0 : Option Addr) (c0 : Nat) (l0 : List (S69)) (a1 : Int) (a2 : Int) (r : Bool) (w : World) (hr0 : Kd.C k69 w A0 l0.length l0) (hc0 : l0.length ≤ c0) (h : laws_FnExactCutPolygon.f k l0 a1 a2 = some r) :
  Calls Try.prog 8 #[.slice A0 l0.length c0, .int .i64 a1, .int .i64 a2] w fun e w' => e = .returned (.bool r) ∧ Below w.heap.size w w' := by
 have HR0 := zm1 hr0
 have HC0 := zm1 hc0
 clear hr0 hc0
 have HB := zm1 (Below.refl w.heap.size w)
 have H : ((laws_szPointS.f l0 1048576).bind fun t258 => (if t258 < 0 then (some true) else ((laws_toPointS.f k l0).bind fun t259 => ((spec_CutPolygon.f k t259 a1 a2).bind fun bt262 => ((laws_toPointS.f k l0).bind fun t269 => ((impl_CutPolygon.f k t269 a1 a2).bind fun bt272 => ((laws_eqPointS.f k bt272.1 bt262.1).bind fun t279 => (if t279 = true then ((laws_eqPointS.f k bt272.2.1 bt262.2.1).bind fun t280 => (if t280 = true then (laws_FnExactCutPolygon.j0 k l0 a1 a2 bt262.1 bt262.2.1 bt262.2.2 t269 bt272.1 bt272.2.1 bt272.2.2 (bt272.2.2 != bt262.2.2)) else (laws_FnExactCutPolygon.j0 k l0 a1 a2 bt262.1 bt262.2.1 bt262.2.2 t269 bt272.1 bt272.2.1 bt272.2.2 true))) else (laws_FnExactCutPolygon.j0 k l0 a1 a2 bt262.1 bt262.2.1 bt262.2.2 t269 bt272.1 bt272.2.1 bt272.2.2 true))))))))) = some r := h
 clear h
 replace H := Option.bind_eq_some_iff.mp H
 obtain ⟨t258, A40, H⟩ := H
 replace H : (if t258 < 0 then (some true) else ((laws_toPointS.f k l0).bind fun t259 => ((spec_CutPolygon.f k t259 a1 a2).bind fun bt262 => ((laws_toPointS.f k l0).bind fun t269 => ((impl_CutPolygon.f k t269 a1 a2).bind fun bt272 => ((laws_eqPointS.f k bt272.1 bt262.1).bind fun t279 => (if t279 = true then ((laws_eqPointS.f k bt272.2.1 bt262.2.1).bind fun t280 => (if t280 = true then (laws_FnExactCutPolygon.j0 k l0 a1 a2 bt262.1 bt262.2.1 bt262.2.2 t269 bt272.1 bt272.2.1 bt272.2.2 (bt272.2.2 != bt262.2.2)) else (laws_FnExactCutPolygon.j0 k l0 a1 a2 bt262.1 bt262.2.1 bt262.2.2 t269 bt272.1 bt272.2.1 bt272.2.2 true))) else (laws_FnExactCutPolygon.j0 k l0 a1 a2 bt262.1 bt262.2.1 bt262.2.2 t269 bt272.1 bt272.2.1 bt272.2.2 true)))))))) = some r := H
 have A4 := zm1 A40
 clear A40
 by_cases c5 : t258 < 0
 ·rw [if_pos c5] at H
  have c5b0 : decide (t258 < 0) = true := decide_eq_true c5
  clear c5
  obtain rfl := Option.some.inj H
  go_enter Try.func8, Try.ntmps8
  go_wp2_with (first | ((with_reducible refine gate_callee (f := 18) rfl ?_); refine goesL_ (some 23) rfl rfl Try.func18 (by kernel_rfl) rfl #[.slice A0 l0.length c0, .int .i64 1048576] rfl (by (try simp only [List.map_toArray, List.map_cons, List.map_nil]); first | done | rfl | (simp only [List.length_drop, List.length_take]; rfl)) ?_; (with_reducible refine (laws_szPointS.calls _ _ l0 1048576 t258 _ ?side1 ?side2 A4.out).mono ?_); (case side1 => repeat (first | exact HR0.out | (with_reducible refine Kd.C_alloc ?_ _) | (with_reducible refine Kd.C_drewN ?_ _) | (with_reducible refine Kd.C_drew ?_))); (case side2 => exact HC0.out); rintro e w' ⟨rfl, ⟨nd, rfl⟩⟩; refine ⟨_, rfl, ?_⟩))
  go_ret
  exact ⟨by first | rfl | (simp [errW_none, errW_some] <;> rfl) | (simp [*, errW_none, errW_some] <;> rfl), by repeat (first | (with_reducible first | exact HB.out | apply zc1 | apply zc2 | apply zc3) | exact HB.out)⟩
 ·rw [if_neg c5] at H
  have c5b0 : decide (t258 < 0) = false := decide_eq_false c5
  clear c5
  replace H := Option.bind_eq_some_iff.mp H
  obtain ⟨t259, A60, H⟩ := H
  replace H : ((spec_CutPolygon.f k t259 a1 a2).bind fun bt262 => ((laws_toPointS.f k l0).bind fun t269 => ((impl_CutPolygon.f k t269 a1 a2).bind fun bt272 => ((laws_eqPointS.f k bt272.1 bt262.1).bind fun t279 => (if t279 = true then ((laws_eqPointS.f k bt272.2.1 bt262.2.1).bind fun t280 => (if t280 = true then (laws_FnExactCutPolygon.j0 k l0 a1 a2 bt262.1 bt262.2.1 bt262.2.2 t269 bt272.1 bt272.2.1 bt272.2.2 (bt272.2.2 != bt262.2.2)) else (laws_FnExactCutPolygon.j0 k l0 a1 a2 bt262.1 bt262.2.1 bt262.2.2 t269 bt272.1 bt272.2.1 bt272.2.2 true))) else (laws_FnExactCutPolygon.j0 k l0 a1 a2 bt262.1 bt262.2.1 bt262.2.2 t269 bt272.1 bt272.2.1 bt272.2.2 true)))))) = some r := H
  have A6 := zm1 A60
  clear A60
  replace H := Option.bind_eq_some_iff.mp H
  obtain ⟨⟨t262, t263, t264⟩, A70, H⟩ := H
  replace H : ((laws_toPointS.f k l0).bind fun t269 => ((impl_CutPolygon.f k t269 a1 a2).bind fun bt272 => ((laws_eqPointS.f k bt272.1 t262).bind fun t279 => (if t279 = true then ((laws_eqPointS.f k bt272.2.1 t263).bind fun t280 => (if t280 = true then (laws_FnExactCutPolygon.j0 k l0 a1 a2 t262 t263 t264 t269 bt272.1 bt272.2.1 bt272.2.2 (bt272.2.2 != t264)) else (laws_FnExactCutPolygon.j0 k l0 a1 a2 t262 t263 t264 t269 bt272.1 bt272.2.1 bt272.2.2 true))) else (laws_FnExactCutPolygon.j0 k l0 a1 a2 t262 t263 t264 t269 bt272.1 bt272.2.1 bt272.2.2 true))))) = some r := H
  have A7 := zm1 A70
  clear A70
  replace H := Option.bind_eq_some_iff.mp H
  obtain ⟨t269, A80, H⟩ := H
  replace H : ((impl_CutPolygon.f k t269 a1 a2).bind fun bt272 => ((laws_eqPointS.f k bt272.1 t262).bind fun t279 => (if t279 = true then ((laws_eqPointS.f k bt272.2.1 t263).bind fun t280 => (if t280 = true then (laws_FnExactCutPolygon.j0 k l0 a1 a2 t262 t263 t264 t269 bt272.1 bt272.2.1 bt272.2.2 (bt272.2.2 != t264)) else (laws_FnExactCutPolygon.j0 k l0 a1 a2 t262 t263 t264 t269 bt272.1 bt272.2.1 bt272.2.2 true))) else (laws_FnExactCutPolygon.j0 k l0 a1 a2 t262 t263 t264 t269 bt272.1 bt272.2.1 bt272.2.2 true)))) = some r := H
  have A8 := zm1 A80
  clear A80
  replace H := Option.bind_eq_some_iff.mp H
  obtain ⟨⟨t272, t273, t274⟩, A90, H⟩ := H
  replace H : ((laws_eqPointS.f k t272 t262).bind fun t279 => (if t279 = true then ((laws_eqPointS.f k t273 t263).bind fun t280 => (if t280 = true then (laws_FnExactCutPolygon.j0 k l0 a1 a2 t262 t263 t264 t269 t272 t273 t274 (t274 != t264)) else (laws_FnExactCutPolygon.j0 k l0 a1 a2 t262 t263 t264 t269 t272 t273 t274 true))) else (laws_FnExactCutPolygon.j0 k l0 a1 a2 t262 t263 t264 t269 t272 t273 t274 true))) = some r := H
  have A9 := zm1 A90
  clear A90
  have HC10 := zm1 H
  clear H
  go_enter Try.func8, Try.ntmps8
  go_upto_region 8 with (first | ((with_reducible refine gate_callee (f := 18) rfl ?_); refine goesL_ (some 23) rfl rfl Try.func18 (by kernel_rfl) rfl #[.slice A0 l0.length c0, .int .i64 1048576] rfl (by (try simp only [List.map_toArray, List.map_cons, List.map_nil]); first | done | rfl | (simp only [List.length_drop, List.length_take]; rfl)) ?_; (with_reducible refine (laws_szPointS.calls _ _ l0 1048576 t258 _ ?side1 ?side2 A4.out).mono ?_); (case side1 => repeat (first | exact HR0.out | (with_reducible refine Kd.C_alloc ?_ _) | (with_reducible refine Kd.C_drewN ?_ _) | (with_reducible refine Kd.C_drew ?_))); (case side2 => exact HC0.out); rintro e w' ⟨rfl, ⟨nd, rfl⟩⟩; refine ⟨_, rfl, ?_⟩) | ((with_reducible refine gate_callee (f := 20) rfl ?_); refine goesL_ (some 28) rfl rfl Try.func20 (by kernel_rfl) rfl #[.slice A0 l0.length c0] rfl (by (try simp only [List.map_toArray, List.map_cons, List.map_nil]); first | done | rfl | (simp only [List.length_drop, List.length_take]; rfl)) ?_; (with_reducible refine (laws_toPointS.calls k _ _ l0 t259 _ ?side1 ?side2 A6.out).mono ?_); (case side1 => repeat (first | exact HR0.out | (with_reducible refine Kd.C_alloc ?_ _) | (with_reducible refine Kd.C_drewN ?_ _) | (with_reducible refine Kd.C_drew ?_))); (case side2 => exact HC0.out); rintro e w11 ⟨v260, rfl, ho0, hb⟩; refine ⟨_, rfl, ?_⟩; have n0_ := zm1 (Kd.R_lower ho0 (zc5 (by repeat (first | (with_reducible first | exact HB.out | apply zc1 | apply zc2 | apply zc3) | exact HB.out)))); have n1_ := zm1 (zc6 (by repeat (first | (with_reducible first | exact HB.out | apply zc1 | apply zc2 | apply zc3) | exact HB.out)) hb); clear HB; have HO261 := n0_; have HB := n1_; clear n0_ n1_; (try clear hb); (try clear hb2); (try clear hk); (try clear hi); (try clear ho0); obtain ⟨Ao12, co12, eo12⟩ := Kd.R_slice HO261.out; subst eo12) | ((with_reducible refine gate_callee (f := 40) rfl ?_); refine goesL_ (some 31) rfl rfl Try.func40 (by kernel_rfl) rfl #[.slice Ao12 t259.length co12, .int .i64 a1, .int .i64 a2] rfl (by (try simp only [List.map_toArray, List.map_cons, List.map_nil]); first | done | rfl | (simp only [List.length_drop, List.length_take]; rfl)) ?_; (with_reducible refine (spec_CutPolygon.calls k _ _ t259 a1 a2 t262 t263 t264 _ ?side1 ?side2 A7.out).mono ?_); (case side1 => repeat (first | exact (Kd.R_reads' HO261.out).2.2 | (with_reducible refine Kd.C_alloc ?_ _) | (with_reducible refine Kd.C_drewN ?_ _) | (with_reducible refine Kd.C_drew ?_))); (case side2 => exact (Kd.R_reads' HO261.out).2.1); rintro e w13 ⟨v265, v267, rfl, ho0, ho1, hb⟩; refine ⟨_, rfl, ?_⟩; have n0_ := zm1 (Kd.R_mono (Kd.R_told (Kd.R_told (Kd.R_old (by (with_reducible repeat (first | apply zr1 | apply zr2 | apply zr3)); exact HO261.out) hb) (Kd.R_base ho0)) (Kd.R_base ho1)) (fun _ h_ => h_.1)); have n1_ := zm1 (Kd.R_lower (Kd.R_new' ho0 (Kd.R_lt (by (with_reducible repeat (first | apply zr1 | apply zr2 | apply zr3)); exact HO261.out))) (zc5 (by repeat (first | (with_reducible first | exact HB.out | apply zc1 | apply zc2 | apply zc3) | exact HB.out)))); have n2_ := zm1 (Kd.R_lower (Kd.R_new' ho1 (Kd.R_lt (by (with_reducible repeat (first | apply zr1 | apply zr2 | apply zr3)); exact HO261.out))) (zc5 (by repeat (first | (with_reducible first | exact HB.out | apply zc1 | apply zc2 | apply zc3) | exact HB.out)))); have n3_ := zm1 (zc6 (by repeat (first | (with_reducible first | exact HB.out | apply zc1 | apply zc2 | apply zc3) | exact HB.out)) hb); clear HO261; clear HB; have HO261 := n0_; have HO266 := n1_; have HO268 := n2_; have HB := n3_; clear n0_ n1_ n2_ n3_; (try clear hb); (try clear hb2); (try clear hk); (try clear hi); (try clear ho0); (try clear ho1)) | ((with_reducible refine gate_callee (f := 20) rfl ?_); refine goesL_ (some 36) rfl rfl Try.func20 (by kernel_rfl) rfl #[.slice A0 l0.length c0] rfl (by (try simp only [List.map_toArray, List.map_cons, List.map_nil]); first | done | rfl | (simp only [List.length_drop, List.length_take]; rfl)) ?_; (with_reducible refine (laws_toPointS.calls k _ _ l0 t269 _ ?side1 ?side2 A8.out).mono ?_); (case side1 => repeat (first | exact (Kd.C_below HR0.out HB.out) | (with_reducible refine Kd.C_alloc ?_ _) | (with_reducible refine Kd.C_drewN ?_ _) | (with_reducible refine Kd.C_drew ?_))); (case side2 => exact HC0.out); rintro e w14 ⟨v270, rfl, ho0, hb⟩; refine ⟨_, rfl, ?_⟩; have n0_ := zm1 (Kd.R_elder' (by (with_reducible repeat (first | apply zr1 | apply zr2 | apply zr3)); exact HO261.out) (Kd.R_base ho0) hb); have n1_ := zm1 (Kd.R_elder' (by (with_reducible repeat (first | apply zr1 | apply zr2 | apply zr3)); exact HO266.out) (Kd.R_base ho0) hb); have n2_ := zm1 (Kd.R_elder' (by (with_reducible repeat (first | apply zr1 | apply zr2 | apply zr3)); exact HO268.out) (Kd.R_base ho0) hb); have n3_ := zm1 (Kd.R_lower (Kd.R_new' (Kd.R_new' (Kd.R_new' ho0 (Kd.R_lt (by (with_reducible repeat (first | apply zr1 | apply zr2 | apply zr3)); exact HO261.out))) (Kd.R_lt (by (with_reducible repeat (first | apply zr1 | apply zr2 | apply zr3)); exact HO266.out))) (Kd.R_lt (by (with_reducible repeat (first | apply zr1 | apply zr2 | apply zr3)); exact HO268.out))) (zc5 (by repeat (first | (with_reducible first | exact HB.out | apply zc1 | apply zc2 | apply zc3) | exact HB.out)))); have n4_ := zm1 (zc6 (by repeat (first | (with_reducible first | exact HB.out | apply zc1 | apply zc2 | apply zc3) | exact HB.out)) hb); clear HO261; clear HO266; clear HO268; clear HB; have HO261 := n0_; have HO266 := n1_; have HO268 := n2_; have HO271 := n3_; have HB := n4_; clear n0_ n1_ n2_ n3_ n4_; (try clear hb); (try clear hb2); (try clear hk); (try clear hi); (try clear ho0); obtain ⟨Ao15, co15, eo15⟩ := Kd.R_slice HO271.out; subst eo15) | ((with_reducible refine gate_callee (f := 41) rfl ?_); refine goesL_ (some 41) rfl rfl Try.func41 (by kernel_rfl) rfl #[.slice Ao15 t269.length co15, .int .i64 a1, .int .i64 a2] rfl (by (try simp only [List.map_toArray, List.map_cons, List.map_nil]); first | done | rfl | (simp only [List.length_drop, List.length_take]; rfl)) ?_; (with_reducible refine (impl_CutPolygon.calls k _ _ t269 a1 a2 t272 t273 t274 _ ?side1 ?side2 A9.out).mono ?_); (case side1 => repeat (first | exact (Kd.R_reads' HO271.out).2.2 | (with_reducible refine Kd.C_alloc ?_ _) | (with_reducible refine Kd.C_drewN ?_ _) | (with_reducible refine Kd.C_drew ?_))); (case side2 => exact (Kd.R_reads' HO271.out).2.1); rintro e w16 ⟨v275, v277, rfl, ho0, ho1, hb⟩; refine ⟨_, rfl, ?_⟩; have n0_ := zm1 (Kd.R_mono (Kd.R_told (Kd.R_told (Kd.R_old (by (with_reducible repeat (first | apply zr1 | apply zr2 | apply zr3)); exact HO261.out) hb) (Kd.R_base ho0)) (Kd.R_base ho1)) (fun _ h_ => h_.1)); have n1_ := zm1 (Kd.R_mono (Kd.R_told (Kd.R_told (Kd.R_old (by (with_reducible repeat (first | apply zr1 | apply zr2 | apply zr3)); exact HO266.out) hb) (Kd.R_base ho0)) (Kd.R_base ho1)) (fun _ h_ => h_.1)); have n2_ := zm1 (Kd.R_mono (Kd.R_told (Kd.R_told (Kd.R_old (by (with_reducible repeat (first | apply zr1 | apply zr2 | apply zr3)); exact HO268.out) hb) (Kd.R_base ho0)) (Kd.R_base ho1)) (fun _ h_ => h_.1)); have n3_ := zm1 (Kd.R_mono (Kd.R_told (Kd.R_told (Kd.R_old (by (with_reducible repeat (first | apply zr1 | apply zr2 | apply zr3)); exact HO271.out) hb) (Kd.R_base ho0)) (Kd.R_base ho1)) (fun _ h_ => h_.1)); have n4_ := zm1 (Kd.R_lower (Kd.R_new' (Kd.R_new' (Kd.R_new' (Kd.R_new' ho0 (Kd.R_lt (by (with_reducible repeat (first | apply zr1 | apply zr2 | apply zr3)); exact HO261.out))) (Kd.R_lt (by (with_reducible repeat (first | apply zr1 | apply zr2 | apply zr3)); exact HO266.out))) (Kd.R_lt (by (with_reducible repeat (first | apply zr1 | apply zr2 | apply zr3)); exact HO268.out))) (Kd.R_lt (by (with_reducible repeat (first | apply zr1 | apply zr2 | apply zr3)); exact HO271.out))) (zc5 (by repeat (first | (with_reducible first | exact HB.out | apply zc1 | apply zc2 | apply zc3) | exact HB.out)))); have n5_ := zm1 (Kd.R_lower (Kd.R_new' (Kd.R_new' (Kd.R_new' (Kd.R_new' ho1 (Kd.R_lt (by (with_reducible repeat (first | apply zr1 | apply zr2 | apply zr3)); exact HO261.out))) (Kd.R_lt (by (with_reducible repeat (first | apply zr1 | apply zr2 | apply zr3)); exact HO266.out))) (Kd.R_lt (by (with_reducible repeat (first | apply zr1 | apply zr2 | apply zr3)); exact HO268.out))) (Kd.R_lt (by (with_reducible repeat (first | apply zr1 | apply zr2 | apply zr3)); exact HO271.out))) (zc5 (by repeat (first | (with_reducible first | exact HB.out | apply zc1 | apply zc2 | apply zc3) | exact HB.out)))); have n6_ := zm1 (zc6 (by repeat (first | (with_reducible first | exact HB.out | apply zc1 | apply zc2 | apply zc3) | exact HB.out)) hb); clear HO261; clear HO266; clear HO268; clear HO271; clear HB; have HO261 := n0_; have HO266 := n1_; have HO268 := n2_; have HO271 := n3_; have HO276 := n4_; have HO278 := n5_; have HB := n6_; clear n0_ n1_ n2_ n3_ n4_ n5_ n6_; (try clear hb); (try clear hb2); (try clear hk); (try clear hi); (try clear ho0); (try clear ho1)))
  (try simp only [Act.put, zs1, zs2, zs3])
  go_cut [59] (fun v59 wc => ∃ (kq : Nat) (x59_9 : Bool), v59 = .bool x59_9 ∧ Aside0 (laws_FnExactCutPolygon.j0 kq l0 a1 a2 t262 t263 t264 t269 t272 t273 t274 x59_9 = some r) ∧ Aside0 (kq ≤ k) ∧ Aside0 (Kd.R k65 65 wc w.heap.size (fun k_ => some k_ ≠ (v267 : Value).ownBlock ∧ some k_ ≠ ((.slice Ao15 t269.length co15) : Value).ownBlock ∧ some k_ ≠ (v275 : Value).ownBlock ∧ some k_ ≠ (v277 : Value).ownBlock) v265 t262) ∧ Aside0 (Kd.R k65 65 wc w.heap.size (fun k_ => some k_ ≠ (v265 : Value).ownBlock ∧ some k_ ≠ ((.slice Ao15 t269.length co15) : Value).ownBlock ∧ some k_ ≠ (v275 : Value).ownBlock ∧ some k_ ≠ (v277 : Value).ownBlock) v267 t263) ∧ Aside0 (Kd.R k65 65 wc w.heap.size (fun k_ => some k_ ≠ (v265 : Value).ownBlock ∧ some k_ ≠ (v267 : Value).ownBlock ∧ some k_ ≠ (v275 : Value).ownBlock ∧ some k_ ≠ (v277 : Value).ownBlock) (.slice Ao15 t269.length co15) t269) ∧ Aside0 (Kd.R k65 65 wc w.heap.size (fun k_ => some k_ ≠ (v265 : Value).ownBlock ∧ some k_ ≠ (v267 : Value).ownBlock ∧ some k_ ≠ ((.slice Ao15 t269.length co15) : Value).ownBlock ∧ some k_ ≠ (v277 : Value).ownBlock) v275 t272) ∧ Aside0 (Kd.R k65 65 wc w.heap.size (fun k_ => some k_ ≠ (v265 : Value).ownBlock ∧ some k_ ≠ (v267 : Value).ownBlock ∧ some k_ ≠ ((.slice Ao15 t269.length co15) : Value).ownBlock ∧ some k_ ≠ (v275 : Value).ownBlock) v277 t273) ∧ Aside0 (Below w.heap.size w wc))
  case first =>
   have H := HC10.out
   clear HC10
   replace H := Option.bind_eq_some_iff.mp H
   obtain ⟨t279, A170, H⟩ := H
   replace H : (if t279 = true then ((laws_eqPointS.f k t273 t263).bind fun t280 => (if t280 = true then (laws_FnExactCutPolygon.j0 k l0 a1 a2 t262 t263 t264 t269 t272 t273 t274 (t274 != t264)) else (laws_FnExactCutPolygon.j0 k l0 a1 a2 t262 t263 t264 t269 t272 t273 t274 true))) else (laws_FnExactCutPolygon.j0 k l0 a1 a2 t262 t263 t264 t269 t272 t273 t274 true)) = some r := H
   have A17 := zm1 A170
   clear A170
   by_cases c18 : t279 = true
   ·subst c18
    have H1 : ((laws_eqPointS.f k t273 t263).bind fun t280 => (if t280 = true then (laws_FnExactCutPolygon.j0 k l0 a1 a2 t262 t263 t264 t269 t272 t273 t274 (t274 != t264)) else (laws_FnExactCutPolygon.j0 k l0 a1 a2 t262 t263 t264 t269 t272 t273 t274 true))) = some r := by rw [if_pos rfl] at H; exact H
    clear H
    have H := H1
    clear H1
    replace H := Option.bind_eq_some_iff.mp H
    obtain ⟨t280, A190, H⟩ := H
    replace H : (if t280 = true then (laws_FnExactCutPolygon.j0 k l0 a1 a2 t262 t263 t264 t269 t272 t273 t274 (t274 != t264)) else (laws_FnExactCutPolygon.j0 k l0 a1 a2 t262 t263 t264 t269 t272 t273 t274 true)) = some r := H
    have A19 := zm1 A190
    clear A190
    by_cases c20 : t280 = true
    ·subst c20
     have H1 : (laws_FnExactCutPolygon.j0 k l0 a1 a2 t262 t263 t264 t269 t272 t273 t274 (t274 != t264)) = some r := by rw [if_pos rfl] at H; exact H
     clear H
     have H := H1
     clear H1
     have H' := zm1 H
     clear H
     obtain ⟨Ao21, co21, eo21⟩ := Kd.R_slice HO276.out
     subst eo21
     obtain ⟨Ao22, co22, eo22⟩ := Kd.R_slice HO266.out
     subst eo22
     go_wp2_with (first | ((with_reducible refine gate_callee (f := 23) rfl ?_); refine goesL_ (some 47) rfl rfl Try.func23 (by kernel_rfl) rfl #[.slice Ao21 t272.length co21, .slice Ao22 t262.length co22] rfl (by (try simp only [List.map_toArray, List.map_cons, List.map_nil]); first | done | rfl | (simp only [List.length_drop, List.length_take]; rfl)) ?_; (with_reducible refine (laws_eqPointS.calls k _ _ t272 _ _ t262 true _ ?side1 ?side2 ?side3 ?side4 A17.out).mono ?_); (case side1 => repeat (first | exact (Kd.R_reads' HO276.out).2.2 | (with_reducible refine Kd.C_alloc ?_ _) | (with_reducible refine Kd.C_drewN ?_ _) | (with_reducible refine Kd.C_drew ?_))); (case side2 => exact (Kd.R_reads' HO276.out).2.1); (case side3 => repeat (first | exact (Kd.R_reads' HO266.out).2.2 | (with_reducible refine Kd.C_alloc ?_ _) | (with_reducible refine Kd.C_drewN ?_ _) | (with_reducible refine Kd.C_drew ?_))); (case side4 => exact (Kd.R_reads' HO266.out).2.1); rintro e w23 ⟨rfl, hb⟩; refine ⟨_, rfl, ?_⟩; have n0_ := zm1 (Kd.R_below (by (with_reducible repeat (first | apply zr1 | apply zr2 | apply zr3)); exact HO261.out) hb); have n1_ := zm1 (Kd.R_below (by (with_reducible repeat (first | apply zr1 | apply zr2 | apply zr3)); exact HO266.out) hb); have n2_ := zm1 (Kd.R_below (by (with_reducible repeat (first | apply zr1 | apply zr2 | apply zr3)); exact HO268.out) hb); have n3_ := zm1 (Kd.R_below (by (with_reducible repeat (first | apply zr1 | apply zr2 | apply zr3)); exact HO271.out) hb); have n4_ := zm1 (Kd.R_below (by (with_reducible repeat (first | apply zr1 | apply zr2 | apply zr3)); exact HO276.out) hb); have n5_ := zm1 (Kd.R_below (by (with_reducible repeat (first | apply zr1 | apply zr2 | apply zr3)); exact HO278.out) hb); have n6_ := zm1 (zc6 (by repeat (first | (with_reducible first | exact HB.out | apply zc1 | apply zc2 | apply zc3) | exact HB.out)) hb); clear HO261; clear HO266; clear HO268; clear HO271; clear HO276; clear HO278; clear HB; have HO261 := n0_; have HO266 := n1_; have HO268 := n2_; have HO271 := n3_; have HO276 := n4_; have HO278 := n5_; have HB := n6_; clear n0_ n1_ n2_ n3_ n4_ n5_ n6_; (try clear hb); (try clear hb2); (try clear hk); (try clear hi); obtain ⟨Ao24, co24, eo24⟩ := Kd.R_slice HO278.out; subst eo24; obtain ⟨Ao25, co25, eo25⟩ := Kd.R_slice HO268.out; subst eo25) | (go_at_call 23; (with_reducible refine (laws_eqPointS.calls k _ _ t273 _ _ t263 true _ ?side1 ?side2 ?side3 ?side4 A19.out).mono ?_); (case side1 => repeat (first | exact (Kd.R_reads' HO278.out).2.2 | (with_reducible refine Kd.C_alloc ?_ _) | (with_reducible refine Kd.C_drewN ?_ _) | (with_reducible refine Kd.C_drew ?_))); (case side2 => exact (Kd.R_reads' HO278.out).2.1); (case side3 => repeat (first | exact (Kd.R_reads' HO268.out).2.2 | (with_reducible refine Kd.C_alloc ?_ _) | (with_reducible refine Kd.C_drewN ?_ _) | (with_reducible refine Kd.C_drew ?_))); (case side4 => exact (Kd.R_reads' HO268.out).2.1); rintro e w26 ⟨rfl, hb⟩; have n0_ := zm1 (Kd.R_below (by (with_reducible repeat (first | apply zr1 | apply zr2 | apply zr3)); exact HO261.out) hb); have n1_ := zm1 (Kd.R_below (by (with_reducible repeat (first | apply zr1 | apply zr2 | apply zr3)); exact HO266.out) hb); have n2_ := zm1 (Kd.R_below (by (with_reducible repeat (first | apply zr1 | apply zr2 | apply zr3)); exact HO268.out) hb); have n3_ := zm1 (Kd.R_below (by (with_reducible repeat (first | apply zr1 | apply zr2 | apply zr3)); exact HO271.out) hb); have n4_ := zm1 (Kd.R_below (by (with_reducible repeat (first | apply zr1 | apply zr2 | apply zr3)); exact HO276.out) hb); have n5_ := zm1 (Kd.R_below (by (with_reducible repeat (first | apply zr1 | apply zr2 | apply zr3)); exact HO278.out) hb); have n6_ := zm1 (zc6 (by repeat (first | (with_reducible first | exact HB.out | apply zc1 | apply zc2 | apply zc3) | exact HB.out)) hb); clear HO261; clear HO266; clear HO268; clear HO271; clear HO276; clear HO278; clear HB; have HO261 := n0_; have HO266 := n1_; have HO268 := n2_; have HO271 := n3_; have HO276 := n4_; have HO278 := n5_; have HB := n6_; clear n0_ n1_ n2_ n3_ n4_ n5_ n6_; (try clear hb); (try clear hb2); (try clear hk); (try clear hi)))
     go_meet
     case rel => exact ⟨_, ((t274 != t264)), (by first | rfl | (simp; done) | (simp [*]; done)), H', ⟨by first | omega | exact Nat.le_refl _⟩, ⟨by (with_reducible repeat (first | apply zr1 | apply zr2 | apply zr3)); exact Kd.R_mono HO266.out (fun _ hk => ⟨hk.1.1.1.1, ⟨hk.1.1.2, ⟨hk.1.2, hk.2⟩⟩⟩)⟩, ⟨by (with_reducible repeat (first | apply zr1 | apply zr2 | apply zr3)); exact Kd.R_mono HO268.out (fun _ hk => ⟨hk.1.1.1.1, ⟨hk.1.1.2, ⟨hk.1.2, hk.2⟩⟩⟩)⟩, ⟨by (with_reducible repeat (first | apply zr1 | apply zr2 | apply zr3)); exact Kd.R_mono HO271.out (fun _ hk => ⟨hk.1.1.1.2, ⟨hk.1.1.2, ⟨hk.1.2, hk.2⟩⟩⟩)⟩, ⟨by (with_reducible repeat (first | apply zr1 | apply zr2 | apply zr3)); exact Kd.R_mono HO276.out (fun _ hk => ⟨hk.1.1.2, ⟨hk.1.2, ⟨hk.2, hk.1.1.1.1⟩⟩⟩)⟩, ⟨by (with_reducible repeat (first | apply zr1 | apply zr2 | apply zr3)); exact Kd.R_mono HO278.out (fun _ hk => ⟨hk.1.1.2, ⟨hk.1.2, ⟨hk.2, hk.1.1.1.1⟩⟩⟩)⟩, ⟨by repeat (first | (with_reducible first | exact HB.out | apply zc1 | apply zc2 | apply zc3) | exact HB.out)⟩⟩
    ·replace c20 := Bool.eq_false_iff.mpr c20
     subst c20
     have H1 : (laws_FnExactCutPolygon.j0 k l0 a1 a2 t262 t263 t264 t269 t272 t273 t274 true) = some r := by rw [if_neg (show ¬ (false = true) by decide)] at H; exact H
     clear H
     have H := H1
     clear H1
     have H' := zm1 H
     clear H
     obtain ⟨Ao27, co27, eo27⟩ := Kd.R_slice HO276.out
     subst eo27
     obtain ⟨Ao28, co28, eo28⟩ := Kd.R_slice HO266.out
     subst eo28
     go_wp2_with (first | ((with_reducible refine gate_callee (f := 23) rfl ?_); refine goesL_ (some 47) rfl rfl Try.func23 (by kernel_rfl) rfl #[.slice Ao27 t272.length co27, .slice Ao28 t262.length co28] rfl (by (try simp only [List.map_toArray, List.map_cons, List.map_nil]); first | done | rfl | (simp only [List.length_drop, List.length_take]; rfl)) ?_; (with_reducible refine (laws_eqPointS.calls k _ _ t272 _ _ t262 true _ ?side1 ?side2 ?side3 ?side4 A17.out).mono ?_); (case side1 => repeat (first | exact (Kd.R_reads' HO276.out).2.2 | (with_reducible refine Kd.C_alloc ?_ _) | (with_reducible refine Kd.C_drewN ?_ _) | (with_reducible refine Kd.C_drew ?_))); (case side2 => exact (Kd.R_reads' HO276.out).2.1); (case side3 => repeat (first | exact (Kd.R_reads' HO266.out).2.2 | (with_reducible refine Kd.C_alloc ?_ _) | (with_reducible refine Kd.C_drewN ?_ _) | (with_reducible refine Kd.C_drew ?_))); (case side4 => exact (Kd.R_reads' HO266.out).2.1); rintro e w29 ⟨rfl, hb⟩; refine ⟨_, rfl, ?_⟩; have n0_ := zm1 (Kd.R_below (by (with_reducible repeat (first | apply zr1 | apply zr2 | apply zr3)); exact HO261.out) hb); have n1_ := zm1 (Kd.R_below (by (with_reducible repeat (first | apply zr1 | apply zr2 | apply zr3)); exact HO266.out) hb); have n2_ := zm1 (Kd.R_below (by (with_reducible repeat (first | apply zr1 | apply zr2 | apply zr3)); exact HO268.out) hb); have n3_ := zm1 (Kd.R_below (by (with_reducible repeat (first | apply zr1 | apply zr2 | apply zr3)); exact HO271.out) hb); have n4_ := zm1 (Kd.R_below (by (with_reducible repeat (first | apply zr1 | apply zr2 | apply zr3)); exact HO276.out) hb); have n5_ := zm1 (Kd.R_below (by (with_reducible repeat (first | apply zr1 | apply zr2 | apply zr3)); exact HO278.out) hb); have n6_ := zm1 (zc6 (by repeat (first | (with_reducible first | exact HB.out | apply zc1 | apply zc2 | apply zc3) | exact HB.out)) hb); clear HO261; clear HO266; clear HO268; clear HO271; clear HO276; clear HO278; clear HB; have HO261 := n0_; have HO266 := n1_; have HO268 := n2_; have HO271 := n3_; have HO276 := n4_; have HO278 := n5_; have HB := n6_; clear n0_ n1_ n2_ n3_ n4_ n5_ n6_; (try clear hb); (try clear hb2); (try clear hk); (try clear hi); obtain ⟨Ao30, co30, eo30⟩ := Kd.R_slice HO278.out; subst eo30; obtain ⟨Ao31, co31, eo31⟩ := Kd.R_slice HO268.out; subst eo31) | (go_at_call 23; (with_reducible refine (laws_eqPointS.calls k _ _ t273 _ _ t263 false _ ?side1 ?side2 ?side3 ?side4 A19.out).mono ?_); (case side1 => repeat (first | exact (Kd.R_reads' HO278.out).2.2 | (with_reducible refine Kd.C_alloc ?_ _) | (with_reducible refine Kd.C_drewN ?_ _) | (with_reducible refine Kd.C_drew ?_))); (case side2 => exact (Kd.R_reads' HO278.out).2.1); (case side3 => repeat (first | exact (Kd.R_reads' HO268.out).2.2 | (with_reducible refine Kd.C_alloc ?_ _) | (with_reducible refine Kd.C_drewN ?_ _) | (with_reducible refine Kd.C_drew ?_))); (case side4 => exact (Kd.R_reads' HO268.out).2.1); rintro e w32 ⟨rfl, hb⟩; have n0_ := zm1 (Kd.R_below (by (with_reducible repeat (first | apply zr1 | apply zr2 | apply zr3)); exact HO261.out) hb); have n1_ := zm1 (Kd.R_below (by (with_reducible repeat (first | apply zr1 | apply zr2 | apply zr3)); exact HO266.out) hb); have n2_ := zm1 (Kd.R_below (by (with_reducible repeat (first | apply zr1 | apply zr2 | apply zr3)); exact HO268.out) hb); have n3_ := zm1 (Kd.R_below (by (with_reducible repeat (first | apply zr1 | apply zr2 | apply zr3)); exact HO271.out) hb); have n4_ := zm1 (Kd.R_below (by (with_reducible repeat (first | apply zr1 | apply zr2 | apply zr3)); exact HO276.out) hb); have n5_ := zm1 (Kd.R_below (by (with_reducible repeat (first | apply zr1 | apply zr2 | apply zr3)); exact HO278.out) hb); have n6_ := zm1 (zc6 (by repeat (first | (with_reducible first | exact HB.out | apply zc1 | apply zc2 | apply zc3) | exact HB.out)) hb); clear HO261; clear HO266; clear HO268; clear HO271; clear HO276; clear HO278; clear HB; have HO261 := n0_; have HO266 := n1_; have HO268 := n2_; have HO271 := n3_; have HO276 := n4_; have HO278 := n5_; have HB := n6_; clear n0_ n1_ n2_ n3_ n4_ n5_ n6_; (try clear hb); (try clear hb2); (try clear hk); (try clear hi)))
     go_meet
     case rel => exact ⟨_, (true), (by first | rfl | (simp; done) | (simp [*]; done)), H', ⟨by first | omega | exact Nat.le_refl _⟩, ⟨by (with_reducible repeat (first | apply zr1 | apply zr2 | apply zr3)); exact Kd.R_mono HO266.out (fun _ hk => ⟨hk.1.1.1.1, ⟨hk.1.1.2, ⟨hk.1.2, hk.2⟩⟩⟩)⟩, ⟨by (with_reducible repeat (first | apply zr1 | apply zr2 | apply zr3)); exact Kd.R_mono HO268.out (fun _ hk => ⟨hk.1.1.1.1, ⟨hk.1.1.2, ⟨hk.1.2, hk.2⟩⟩⟩)⟩, ⟨by (with_reducible repeat (first | apply zr1 | apply zr2 | apply zr3)); exact Kd.R_mono HO271.out (fun _ hk => ⟨hk.1.1.1.2, ⟨hk.1.1.2, ⟨hk.1.2, hk.2⟩⟩⟩)⟩, ⟨by (with_reducible repeat (first | apply zr1 | apply zr2 | apply zr3)); exact Kd.R_mono HO276.out (fun _ hk => ⟨hk.1.1.2, ⟨hk.1.2, ⟨hk.2, hk.1.1.1.1⟩⟩⟩)⟩, ⟨by (with_reducible repeat (first | apply zr1 | apply zr2 | apply zr3)); exact Kd.R_mono HO278.out (fun _ hk => ⟨hk.1.1.2, ⟨hk.1.2, ⟨hk.2, hk.1.1.1.1⟩⟩⟩)⟩, ⟨by repeat (first | (with_reducible first | exact HB.out | apply zc1 | apply zc2 | apply zc3) | exact HB.out)⟩⟩
   ·replace c18 := Bool.eq_false_iff.mpr c18
    subst c18
    have H1 : (laws_FnExactCutPolygon.j0 k l0 a1 a2 t262 t263 t264 t269 t272 t273 t274 true) = some r := by rw [if_neg (show ¬ (false = true) by decide)] at H; exact H
    clear H
    have H := H1
    clear H1
    have H' := zm1 H
    clear H
    obtain ⟨Ao33, co33, eo33⟩ := Kd.R_slice HO276.out
    subst eo33
    obtain ⟨Ao34, co34, eo34⟩ := Kd.R_slice HO266.out
    subst eo34
    go_wp2_with (first | ((with_reducible refine gate_callee (f := 23) rfl ?_); refine goesL_ (some 47) rfl rfl Try.func23 (by kernel_rfl) rfl #[.slice Ao33 t272.length co33, .slice Ao34 t262.length co34] rfl (by (try simp only [List.map_toArray, List.map_cons, List.map_nil]); first | done | rfl | (simp only [List.length_drop, List.length_take]; rfl)) ?_; (with_reducible refine (laws_eqPointS.calls k _ _ t272 _ _ t262 false _ ?side1 ?side2 ?side3 ?side4 A17.out).mono ?_); (case side1 => repeat (first | exact (Kd.R_reads' HO276.out).2.2 | (with_reducible refine Kd.C_alloc ?_ _) | (with_reducible refine Kd.C_drewN ?_ _) | (with_reducible refine Kd.C_drew ?_))); (case side2 => exact (Kd.R_reads' HO276.out).2.1); (case side3 => repeat (first | exact (Kd.R_reads' HO266.out).2.2 | (with_reducible refine Kd.C_alloc ?_ _) | (with_reducible refine Kd.C_drewN ?_ _) | (with_reducible refine Kd.C_drew ?_))); (case side4 => exact (Kd.R_reads' HO266.out).2.1); rintro e w35 ⟨rfl, hb⟩; refine ⟨_, rfl, ?_⟩; have n0_ := zm1 (Kd.R_below (by (with_reducible repeat (first | apply zr1 | apply zr2 | apply zr3)); exact HO261.out) hb); have n1_ := zm1 (Kd.R_below (by (with_reducible repeat (first | apply zr1 | apply zr2 | apply zr3)); exact HO266.out) hb); have n2_ := zm1 (Kd.R_below (by (with_reducible repeat (first | apply zr1 | apply zr2 | apply zr3)); exact HO268.out) hb); have n3_ := zm1 (Kd.R_below (by (with_reducible repeat (first | apply zr1 | apply zr2 | apply zr3)); exact HO271.out) hb); have n4_ := zm1 (Kd.R_below (by (with_reducible repeat (first | apply zr1 | apply zr2 | apply zr3)); exact HO276.out) hb); have n5_ := zm1 (Kd.R_below (by (with_reducible repeat (first | apply zr1 | apply zr2 | apply zr3)); exact HO278.out) hb); have n6_ := zm1 (zc6 (by repeat (first | (with_reducible first | exact HB.out | apply zc1 | apply zc2 | apply zc3) | exact HB.out)) hb); clear HO261; clear HO266; clear HO268; clear HO271; clear HO276; clear HO278; clear HB; have HO261 := n0_; have HO266 := n1_; have HO268 := n2_; have HO271 := n3_; have HO276 := n4_; have HO278 := n5_; have HB := n6_; clear n0_ n1_ n2_ n3_ n4_ n5_ n6_; (try clear hb); (try clear hb2); (try clear hk); (try clear hi)))
    go_meet
    case rel => exact ⟨_, (true), (by first | rfl | (simp; done) | (simp [*]; done)), H', ⟨by first | omega | exact Nat.le_refl _⟩, ⟨by (with_reducible repeat (first | apply zr1 | apply zr2 | apply zr3)); exact Kd.R_mono HO266.out (fun _ hk => ⟨hk.1.1.1.1, ⟨hk.1.1.2, ⟨hk.1.2, hk.2⟩⟩⟩)⟩, ⟨by (with_reducible repeat (first | apply zr1 | apply zr2 | apply zr3)); exact Kd.R_mono HO268.out (fun _ hk => ⟨hk.1.1.1.1, ⟨hk.1.1.2, ⟨hk.1.2, hk.2⟩⟩⟩)⟩, ⟨by (with_reducible repeat (first | apply zr1 | apply zr2 | apply zr3)); exact Kd.R_mono HO271.out (fun _ hk => ⟨hk.1.1.1.2, ⟨hk.1.1.2, ⟨hk.1.2, hk.2⟩⟩⟩)⟩, ⟨by (with_reducible repeat (first | apply zr1 | apply zr2 | apply zr3)); exact Kd.R_mono HO276.out (fun _ hk => ⟨hk.1.1.2, ⟨hk.1.2, ⟨hk.2, hk.1.1.1.1⟩⟩⟩)⟩, ⟨by (with_reducible repeat (first | apply zr1 | apply zr2 | apply zr3)); exact Kd.R_mono HO278.out (fun _ hk => ⟨hk.1.1.2, ⟨hk.1.2, ⟨hk.2, hk.1.1.1.1⟩⟩⟩)⟩, ⟨by repeat (first | (with_reducible first | exact HB.out | apply zc1 | apply zc2 | apply zc3) | exact HB.out)⟩⟩
  case rest =>
   clear HC10
   try clear c1
   try clear c2
   try clear p2
   try clear c4
   try clear c5
   try clear c5b0
   try clear c8
   try clear c18
   try clear c20
   try clear c23
   obtain ⟨kq, x59_9, rfl, HA, HJ9, HO_8, HO_9, HO_11, HO_12, HO_13, HB⟩ := hcut
   cases kq with
   | zero => exact absurd HA.out (by simp [laws_FnExactCutPolygon.j0])
   | succ kj9 =>
    have H := HA.out
    clear HA
    simp only [laws_FnExactCutPolygon.j0] at H
    by_cases c36 : x59_9 = true
    ·subst c36
     have H1 : (some false) = some r := by rw [if_pos rfl] at H; exact H
     clear H
     have H := H1
     clear H1
     obtain rfl := Option.some.inj H
     go_wp2
     go_ret
     exact ⟨by first | rfl | (simp [errW_none, errW_some] <;> rfl) | (simp [*, errW_none, errW_some] <;> rfl), by repeat (first | (with_reducible first | exact HB.out | apply zc1 | apply zc2 | apply zc3) | exact HB.out)⟩
    ·replace c36 := Bool.eq_false_iff.mpr c36
     subst c36
     have H1 : ((laws_toPointS.f kj9 l0).bind fun t281 => ((laws_eqPointS.f kj9 t269 t281).bind fun t284 => (if t284 = true then ((laws_markPointS.f kj9 t269 1).bind fun bt285 => (if bt285.1 < 0 then (laws_FnExactCutPolygon.j1 kj9 l0 a1 a2 t262 t263 t264 t272 t273 true) else ((laws_eqPointS.f kj9 t272 t262).bind fun t287 => (if t287 = true then ((laws_eqPointS.f kj9 t273 t263).bind fun t288 => (if t288 = true then (laws_FnExactCutPolygon.j1 kj9 l0 a1 a2 t262 t263 t264 t272 t273 (t274 != t264)) else (laws_FnExactCutPolygon.j1 kj9 l0 a1 a2 t262 t263 t264 t272 t273 true))) else (laws_FnExactCutPolygon.j1 kj9 l0 a1 a2 t262 t263 t264 t272 t273 true))))) else (some false)))) = some r := by rw [if_neg (show ¬ (false = true) by decide)] at H; exact H
     clear H
     have H := H1
     clear H1
     replace H := Option.bind_eq_some_iff.mp H
     obtain ⟨t281, A370, H⟩ := H
     replace H : ((laws_eqPointS.f kj9 t269 t281).bind fun t284 => (if t284 = true then ((laws_markPointS.f kj9 t269 1).bind fun bt285 => (if bt285.1 < 0 then (laws_FnExactCutPolygon.j1 kj9 l0 a1 a2 t262 t263 t264 t272 t273 true) else ((laws_eqPointS.f kj9 t272 t262).bind fun t287 => (if t287 = true then ((laws_eqPointS.f kj9 t273 t263).bind fun t288 => (if t288 = true then (laws_FnExactCutPolygon.j1 kj9 l0 a1 a2 t262 t263 t264 t272 t273 (t274 != t264)) else (laws_FnExactCutPolygon.j1 kj9 l0 a1 a2 t262 t263 t264 t272 t273 true))) else (laws_FnExactCutPolygon.j1 kj9 l0 a1 a2 t262 t263 t264 t272 t273 true))))) else (some false))) = some r := H
     have A37 := zm1 A370
     clear A370
     replace H := Option.bind_eq_some_iff.mp H
     obtain ⟨t284, A380, H⟩ := H
     replace H : (if t284 = true then ((laws_markPointS.f kj9 t269 1).bind fun bt285 => (if bt285.1 < 0 then (laws_FnExactCutPolygon.j1 kj9 l0 a1 a2 t262 t263 t264 t272 t273 true) else ((laws_eqPointS.f kj9 t272 t262).bind fun t287 => (if t287 = true then ((laws_eqPointS.f kj9 t273 t263).bind fun t288 => (if t288 = true then (laws_FnExactCutPolygon.j1 kj9 l0 a1 a2 t262 t263 t264 t272 t273 (t274 != t264)) else (laws_FnExactCutPolygon.j1 kj9 l0 a1 a2 t262 t263 t264 t272 t273 true))) else (laws_FnExactCutPolygon.j1 kj9 l0 a1 a2 t262 t263 t264 t272 t273 true))))) else (some false)) = some r := H
     have A38 := zm1 A380
     clear A380
     by_cases c39 : t284 = true
     ·subst c39
      have H1 : ((laws_markPointS.f kj9 t269 1).bind fun bt285 => (if bt285.1 < 0 then (laws_FnExactCutPolygon.j1 kj9 l0 a1 a2 t262 t263 t264 t272 t273 true) else ((laws_eqPointS.f kj9 t272 t262).bind fun t287 => (if t287 = true then ((laws_eqPointS.f kj9 t273 t263).bind fun t288 => (if t288 = true then (laws_FnExactCutPolygon.j1 kj9 l0 a1 a2 t262 t263 t264 t272 t273 (t274 != t264)) else (laws_FnExactCutPolygon.j1 kj9 l0 a1 a2 t262 t263 t264 t272 t273 true))) else (laws_FnExactCutPolygon.j1 kj9 l0 a1 a2 t262 t263 t264 t272 t273 true))))) = some r := by rw [if_pos rfl] at H; exact H
      clear H
      have H := H1
      clear H1
      replace H := Option.bind_eq_some_iff.mp H
      obtain ⟨⟨t285, t286⟩, A400, H⟩ := H
      replace H : (if t285 < 0 then (laws_FnExactCutPolygon.j1 kj9 l0 a1 a2 t262 t263 t264 t272 t273 true) else ((laws_eqPointS.f kj9 t272 t262).bind fun t287 => (if t287 = true then ((laws_eqPointS.f kj9 t273 t263).bind fun t288 => (if t288 = true then (laws_FnExactCutPolygon.j1 kj9 l0 a1 a2 t262 t263 t264 t272 t273 (t274 != t264)) else (laws_FnExactCutPolygon.j1 kj9 l0 a1 a2 t262 t263 t264 t272 t273 true))) else (laws_FnExactCutPolygon.j1 kj9 l0 a1 a2 t262 t263 t264 t272 t273 true)))) = some r := H
      have A40 := zm1 A400
      clear A400
      have HC41 := zm1 H
      clear H
      go_upto_region 14 with (first | ((with_reducible refine gate_callee (f := 20) rfl ?_); refine goesL_ (some 62) rfl rfl Try.func20 (by kernel_rfl) rfl #[.slice A0 l0.length c0] rfl (by (try simp only [List.map_toArray, List.map_cons, List.map_nil]); first | done | rfl | (simp only [List.length_drop, List.length_take]; rfl)) ?_; (with_reducible refine (laws_toPointS.calls kj9 _ _ l0 t281 _ ?side1 ?side2 A37.out).mono ?_); (case side1 => repeat (first | exact (Kd.C_below HR0.out HB.out) | (with_reducible refine Kd.C_alloc ?_ _) | (with_reducible refine Kd.C_drewN ?_ _) | (with_reducible refine Kd.C_drew ?_))); (case side2 => exact HC0.out); rintro e w42 ⟨v282, rfl, ho0, hb⟩; refine ⟨_, rfl, ?_⟩; have n0_ := zm1 (Kd.R_elder' (by (with_reducible repeat (first | apply zr1 | apply zr2 | apply zr3)); exact HO_8.out) (Kd.R_base ho0) hb); have n1_ := zm1 (Kd.R_elder' (by (with_reducible repeat (first | apply zr1 | apply zr2 | apply zr3)); exact HO_9.out) (Kd.R_base ho0) hb); have n2_ := zm1 (Kd.R_elder' (by (with_reducible repeat (first | apply zr1 | apply zr2 | apply zr3)); exact HO_11.out) (Kd.R_base ho0) hb); have n3_ := zm1 (Kd.R_elder' (by (with_reducible repeat (first | apply zr1 | apply zr2 | apply zr3)); exact HO_12.out) (Kd.R_base ho0) hb); have n4_ := zm1 (Kd.R_elder' (by (with_reducible repeat (first | apply zr1 | apply zr2 | apply zr3)); exact HO_13.out) (Kd.R_base ho0) hb); have n5_ := zm1 (Kd.R_lower (Kd.R_new' (Kd.R_new' (Kd.R_new' (Kd.R_new' (Kd.R_new' ho0 (Kd.R_lt (by (with_reducible repeat (first | apply zr1 | apply zr2 | apply zr3)); exact HO_8.out))) (Kd.R_lt (by (with_reducible repeat (first | apply zr1 | apply zr2 | apply zr3)); exact HO_9.out))) (Kd.R_lt (by (with_reducible repeat (first | apply zr1 | apply zr2 | apply zr3)); exact HO_11.out))) (Kd.R_lt (by (with_reducible repeat (first | apply zr1 | apply zr2 | apply zr3)); exact HO_12.out))) (Kd.R_lt (by (with_reducible repeat (first | apply zr1 | apply zr2 | apply zr3)); exact HO_13.out))) (zc5 (by repeat (first | (with_reducible first | exact HB.out | apply zc1 | apply zc2 | apply zc3) | exact HB.out)))); have n6_ := zm1 (zc6 (by repeat (first | (with_reducible first | exact HB.out | apply zc1 | apply zc2 | apply zc3) | exact HB.out)) hb); clear HO_8; clear HO_9; clear HO_11; clear HO_12; clear HO_13; clear HB; have HO_8 := n0_; have HO_9 := n1_; have HO_11 := n2_; have HO_12 := n3_; have HO_13 := n4_; have HO283 := n5_; have HB := n6_; clear n0_ n1_ n2_ n3_ n4_ n5_ n6_; (try clear hb); (try clear hb2); (try clear hk); (try clear hi); (try clear ho0); obtain ⟨Ao43, co43, eo43⟩ := Kd.R_slice HO283.out; subst eo43) | ((with_reducible refine gate_callee (f := 23) rfl ?_); refine goesL_ (some 63) rfl rfl Try.func23 (by kernel_rfl) rfl #[.slice Ao15 t269.length co15, .slice Ao43 t281.length co43] rfl (by (try simp only [List.map_toArray, List.map_cons, List.map_nil]); first | done | rfl | (simp only [List.length_drop, List.length_take]; rfl)) ?_; (with_reducible refine (laws_eqPointS.calls kj9 _ _ t269 _ _ t281 true _ ?side1 ?side2 ?side3 ?side4 A38.out).mono ?_); (case side1 => repeat (first | exact (Kd.R_reads' HO_11.out).2.2 | (with_reducible refine Kd.C_alloc ?_ _) | (with_reducible refine Kd.C_drewN ?_ _) | (with_reducible refine Kd.C_drew ?_))); (case side2 => exact (Kd.R_reads' HO_11.out).2.1); (case side3 => repeat (first | exact (Kd.R_reads' HO283.out).2.2 | (with_reducible refine Kd.C_alloc ?_ _) | (with_reducible refine Kd.C_drewN ?_ _) | (with_reducible refine Kd.C_drew ?_))); (case side4 => exact (Kd.R_reads' HO283.out).2.1); rintro e w44 ⟨rfl, hb⟩; refine ⟨_, rfl, ?_⟩; have n0_ := zm1 (Kd.R_below (by (with_reducible repeat (first | apply zr1 | apply zr2 | apply zr3)); exact HO_8.out) hb); have n1_ := zm1 (Kd.R_below (by (with_reducible repeat (first | apply zr1 | apply zr2 | apply zr3)); exact HO_9.out) hb); have n2_ := zm1 (Kd.R_below (by (with_reducible repeat (first | apply zr1 | apply zr2 | apply zr3)); exact HO_11.out) hb); have n3_ := zm1 (Kd.R_below (by (with_reducible repeat (first | apply zr1 | apply zr2 | apply zr3)); exact HO_12.out) hb); have n4_ := zm1 (Kd.R_below (by (with_reducible repeat (first | apply zr1 | apply zr2 | apply zr3)); exact HO_13.out) hb); have n5_ := zm1 (Kd.R_below (by (with_reducible repeat (first | apply zr1 | apply zr2 | apply zr3)); exact HO283.out) hb); have n6_ := zm1 (zc6 (by repeat (first | (with_reducible first | exact HB.out | apply zc1 | apply zc2 | apply zc3) | exact HB.out)) hb); clear HO_8; clear HO_9; clear HO_11; clear HO_12; clear HO_13; clear HO283; clear HB; have HO_8 := n0_; have HO_9 := n1_; have HO_11 := n2_; have HO_12 := n3_; have HO_13 := n4_; have HO283 := n5_; have HB := n6_; clear n0_ n1_ n2_ n3_ n4_ n5_ n6_; (try clear hb); (try clear hb2); (try clear hk); (try clear hi)) | ((with_reducible refine gate_callee (f := 24) rfl ?_); refine goesL_ (some 67) rfl rfl Try.func24 (by kernel_rfl) rfl #[.slice Ao15 t269.length co15, .int .i64 1] rfl (by (try simp only [List.map_toArray, List.map_cons, List.map_nil]); first | done | rfl | (simp only [List.length_drop, List.length_take]; rfl)) ?_; (with_reducible refine (laws_markPointS.calls kj9 (fun k_ => some k_ = (.slice Ao15 t269.length co15 : Value).ownBlock) (.slice Ao15 t269.length co15) t269 1 t285 t286 w _ ?side1 ?side2 A40.out).mono ?_); (case side1 => repeat (first | (with_reducible first | exact HB.out | apply zc1 | apply zc2 | apply zc3) | exact HB.out)); (case side2 => exact Kd.R_tight rfl HO_11.out); rintro e w45 ⟨rfl, hy0, hb, hkp⟩; refine ⟨_, rfl, ?_⟩; have n0_ := zm1 (Kd.R_mono (ok' := fun k_ => some k_ ≠ (v267 : Value).ownBlock ∧ some k_ ≠ (.slice Ao15 t269.length co15 : Value).ownBlock ∧ some k_ ≠ (v275 : Value).ownBlock ∧ some k_ ≠ (v277 : Value).ownBlock ∧ some k_ ≠ (.slice Ao43 t281.length co43 : Value).ownBlock) (Kd.R_keptB (HO_8.out) hkp (fun k_ hk_ hs_ => (hk_.1.2.1) hs_)) (fun k_ hk_ => ⟨hk_.1.1.1, hk_.1.1.2.1, hk_.1.1.2.2.1, hk_.1.1.2.2.2, hk_.1.2⟩)); have n1_ := zm1 (Kd.R_mono (ok' := fun k_ => some k_ ≠ (v265 : Value).ownBlock ∧ some k_ ≠ (.slice Ao15 t269.length co15 : Value).ownBlock ∧ some k_ ≠ (v275 : Value).ownBlock ∧ some k_ ≠ (v277 : Value).ownBlock ∧ some k_ ≠ (.slice Ao43 t281.length co43 : Value).ownBlock) (Kd.R_keptB (HO_9.out) hkp (fun k_ hk_ hs_ => (hk_.1.2.1) hs_)) (fun k_ hk_ => ⟨hk_.1.1.1, hk_.1.1.2.1, hk_.1.1.2.2.1, hk_.1.1.2.2.2, hk_.1.2⟩)); have n2_ := zm1 (Kd.R_reok rfl hy0 (fun k_ e_ => HO_11.out.1 k_ e_)); have n3_ := zm1 (Kd.R_mono (ok' := fun k_ => some k_ ≠ (v265 : Value).ownBlock ∧ some k_ ≠ (v267 : Value).ownBlock ∧ some k_ ≠ (.slice Ao15 t269.length co15 : Value).ownBlock ∧ some k_ ≠ (v277 : Value).ownBlock ∧ some k_ ≠ (.slice Ao43 t281.length co43 : Value).ownBlock) (Kd.R_keptB (HO_12.out) hkp (fun k_ hk_ hs_ => (hk_.1.2.2.1) hs_)) (fun k_ hk_ => ⟨hk_.1.1.1, hk_.1.1.2.1, hk_.1.1.2.2.1, hk_.1.1.2.2.2, hk_.1.2⟩)); have n4_ := zm1 (Kd.R_mono (ok' := fun k_ => some k_ ≠ (v265 : Value).ownBlock ∧ some k_ ≠ (v267 : Value).ownBlock ∧ some k_ ≠ (.slice Ao15 t269.length co15 : Value).ownBlock ∧ some k_ ≠ (v275 : Value).ownBlock ∧ some k_ ≠ (.slice Ao43 t281.length co43 : Value).ownBlock) (Kd.R_keptB (HO_13.out) hkp (fun k_ hk_ hs_ => (hk_.1.2.2.1) hs_)) (fun k_ hk_ => ⟨hk_.1.1.1, hk_.1.1.2.1, hk_.1.1.2.2.1, hk_.1.1.2.2.2, hk_.1.2⟩)); have n5_ := zm1 (Kd.R_mono (ok' := fun k_ => some k_ ≠ (v265 : Value).ownBlock ∧ some k_ ≠ (v267 : Value).ownBlock ∧ some k_ ≠ (.slice Ao15 t269.length co15 : Value).ownBlock ∧ some k_ ≠ (v275 : Value).ownBlock ∧ some k_ ≠ (v277 : Value).ownBlock) (Kd.R_keptB (HO283.out) hkp (fun k_ hk_ hs_ => (hk_.1.1.2) hs_)) (fun k_ hk_ => ⟨hk_.1.1.1.1.1.2, hk_.1.1.1.1.2, hk_.1.1.1.2, hk_.1.1.2, hk_.1.2⟩)); have n6_ := zm1 (hb); clear HO_8; clear HO_9; clear HO_11; clear HO_12; clear HO_13; clear HO283; clear HB; have HO_8 := n0_; have HO_9 := n1_; have HO_11 := n2_; have HO_12 := n3_; have HO_13 := n4_; have HO283 := n5_; have HB := n6_; clear n0_ n1_ n2_ n3_ n4_ n5_ n6_; (try clear hb); (try clear hkp); (try clear hy0)))
      (try simp only [Act.put, zs1, zs2, zs3])
      go_cut [86] (fun v86 wc => ∃ (kq : Nat) (x86_40 : Bool), v86 = .bool x86_40 ∧ Aside0 (laws_FnExactCutPolygon.j1 kq l0 a1 a2 t262 t263 t264 t272 t273 x86_40 = some r) ∧ Aside0 (kq ≤ kj9) ∧ Aside0 (Kd.R k65 65 wc w.heap.size (fun k_ => some k_ ≠ (v267 : Value).ownBlock ∧ some k_ ≠ (v275 : Value).ownBlock ∧ some k_ ≠ (v277 : Value).ownBlock) v265 t262) ∧ Aside0 (Kd.R k65 65 wc w.heap.size (fun k_ => some k_ ≠ (v265 : Value).ownBlock ∧ some k_ ≠ (v275 : Value).ownBlock ∧ some k_ ≠ (v277 : Value).ownBlock) v267 t263) ∧ Aside0 (Kd.R k65 65 wc w.heap.size (fun k_ => some k_ ≠ (v265 : Value).ownBlock ∧ some k_ ≠ (v267 : Value).ownBlock ∧ some k_ ≠ (v277 : Value).ownBlock) v275 t272) ∧ Aside0 (Kd.R k65 65 wc w.heap.size (fun k_ => some k_ ≠ (v265 : Value).ownBlock ∧ some k_ ≠ (v267 : Value).ownBlock ∧ some k_ ≠ (v275 : Value).ownBlock) v277 t273) ∧ Aside0 (Below w.heap.size w wc))
      case first =>
       have H := HC41.out
       clear HC41
       by_cases c46 : t285 < 0
       ·rw [if_pos c46] at H
        have c46b0 : decide (t285 < 0) = true := decide_eq_true c46
        clear c46
        (first | rw [c46b0] | (simp only [i64_w, i32_w]; rw [c46b0]) | skip)
        have H' := zm1 H
        clear H
        go_wp2
        go_meet
        case rel => exact ⟨_, (true), (by first | rfl | (simp; done) | (simp [*]; done)), H', ⟨by have := HJ9.out; first | omega | exact Nat.le_refl _⟩, ⟨by (with_reducible repeat (first | apply zr1 | apply zr2 | apply zr3)); exact Kd.R_mono HO_8.out (fun _ hk => ⟨hk.1, ⟨hk.2.2.1, hk.2.2.2.1⟩⟩)⟩, ⟨by (with_reducible repeat (first | apply zr1 | apply zr2 | apply zr3)); exact Kd.R_mono HO_9.out (fun _ hk => ⟨hk.1, ⟨hk.2.2.1, hk.2.2.2.1⟩⟩)⟩, ⟨by (with_reducible repeat (first | apply zr1 | apply zr2 | apply zr3)); exact Kd.R_mono HO_12.out (fun _ hk => ⟨hk.1, ⟨hk.2.1, hk.2.2.2.1⟩⟩)⟩, ⟨by (with_reducible repeat (first | apply zr1 | apply zr2 | apply zr3)); exact Kd.R_mono HO_13.out (fun _ hk => ⟨hk.1, ⟨hk.2.1, hk.2.2.2.1⟩⟩)⟩, ⟨by repeat (first | (with_reducible first | exact HB.out | apply zc1 | apply zc2 | apply zc3) | exact HB.out)⟩⟩
       ·rw [if_neg c46] at H
        have c46b0 : decide (t285 < 0) = false := decide_eq_false c46
        clear c46
        (first | rw [c46b0] | (simp only [i64_w, i32_w]; rw [c46b0]) | skip)
        replace H := Option.bind_eq_some_iff.mp H
        obtain ⟨t287, A470, H⟩ := H
        replace H : (if t287 = true then ((laws_eqPointS.f kj9 t273 t263).bind fun t288 => (if t288 = true then (laws_FnExactCutPolygon.j1 kj9 l0 a1 a2 t262 t263 t264 t272 t273 (t274 != t264)) else (laws_FnExactCutPolygon.j1 kj9 l0 a1 a2 t262 t263 t264 t272 t273 true))) else (laws_FnExactCutPolygon.j1 kj9 l0 a1 a2 t262 t263 t264 t272 t273 true)) = some r := H
        have A47 := zm1 A470
        clear A470
        by_cases c48 : t287 = true
        ·subst c48
         have H1 : ((laws_eqPointS.f kj9 t273 t263).bind fun t288 => (if t288 = true then (laws_FnExactCutPolygon.j1 kj9 l0 a1 a2 t262 t263 t264 t272 t273 (t274 != t264)) else (laws_FnExactCutPolygon.j1 kj9 l0 a1 a2 t262 t263 t264 t272 t273 true))) = some r := by rw [if_pos rfl] at H; exact H
         clear H
         have H := H1
         clear H1
         replace H := Option.bind_eq_some_iff.mp H
         obtain ⟨t288, A490, H⟩ := H
         replace H : (if t288 = true then (laws_FnExactCutPolygon.j1 kj9 l0 a1 a2 t262 t263 t264 t272 t273 (t274 != t264)) else (laws_FnExactCutPolygon.j1 kj9 l0 a1 a2 t262 t263 t264 t272 t273 true)) = some r := H
         have A49 := zm1 A490
         clear A490
         by_cases c50 : t288 = true
         ·subst c50
          have H1 : (laws_FnExactCutPolygon.j1 kj9 l0 a1 a2 t262 t263 t264 t272 t273 (t274 != t264)) = some r := by rw [if_pos rfl] at H; exact H
          clear H
          have H := H1
          clear H1
          have H' := zm1 H
          clear H
          obtain ⟨Ao51, co51, eo51⟩ := Kd.R_slice HO_12.out
          subst eo51
          obtain ⟨Ao52, co52, eo52⟩ := Kd.R_slice HO_8.out
          subst eo52
          go_wp2_with (first | (go_at_call 23; (with_reducible refine (laws_eqPointS.calls kj9 _ _ t272 _ _ t262 true _ ?side1 ?side2 ?side3 ?side4 A47.out).mono ?_); (case side1 => repeat (first | exact (Kd.R_reads' HO_12.out).2.2 | (with_reducible refine Kd.C_alloc ?_ _) | (with_reducible refine Kd.C_drewN ?_ _) | (with_reducible refine Kd.C_drew ?_))); (case side2 => exact (Kd.R_reads' HO_12.out).2.1); (case side3 => repeat (first | exact (Kd.R_reads' HO_8.out).2.2 | (with_reducible refine Kd.C_alloc ?_ _) | (with_reducible refine Kd.C_drewN ?_ _) | (with_reducible refine Kd.C_drew ?_))); (case side4 => exact (Kd.R_reads' HO_8.out).2.1); rintro e w53 ⟨rfl, hb⟩; have n0_ := zm1 (Kd.R_below (by (with_reducible repeat (first | apply zr1 | apply zr2 | apply zr3)); exact HO_8.out) hb); have n1_ := zm1 (Kd.R_below (by (with_reducible repeat (first | apply zr1 | apply zr2 | apply zr3)); exact HO_9.out) hb); have n2_ := zm1 (Kd.R_below (by (with_reducible repeat (first | apply zr1 | apply zr2 | apply zr3)); exact HO_11.out) hb); have n3_ := zm1 (Kd.R_below (by (with_reducible repeat (first | apply zr1 | apply zr2 | apply zr3)); exact HO_12.out) hb); have n4_ := zm1 (Kd.R_below (by (with_reducible repeat (first | apply zr1 | apply zr2 | apply zr3)); exact HO_13.out) hb); have n5_ := zm1 (Kd.R_below (by (with_reducible repeat (first | apply zr1 | apply zr2 | apply zr3)); exact HO283.out) hb); have n6_ := zm1 (zc6 (by repeat (first | (with_reducible first | exact HB.out | apply zc1 | apply zc2 | apply zc3) | exact HB.out)) hb); clear HO_8; clear HO_9; clear HO_11; clear HO_12; clear HO_13; clear HO283; clear HB; have HO_8 := n0_; have HO_9 := n1_; have HO_11 := n2_; have HO_12 := n3_; have HO_13 := n4_; have HO283 := n5_; have HB := n6_; clear n0_ n1_ n2_ n3_ n4_ n5_ n6_; (try clear hb); (try clear hb2); (try clear hk); (try clear hi); obtain ⟨Ao54, co54, eo54⟩ := Kd.R_slice HO_13.out; subst eo54; obtain ⟨Ao55, co55, eo55⟩ := Kd.R_slice HO_9.out; subst eo55) | (go_at_call 23; (with_reducible refine (laws_eqPointS.calls kj9 _ _ t273 _ _ t263 true _ ?side1 ?side2 ?side3 ?side4 A49.out).mono ?_); (case side1 => repeat (first | exact (Kd.R_reads' HO_13.out).2.2 | (with_reducible refine Kd.C_alloc ?_ _) | (with_reducible refine Kd.C_drewN ?_ _) | (with_reducible refine Kd.C_drew ?_))); (case side2 => exact (Kd.R_reads' HO_13.out).2.1); (case side3 => repeat (first | exact (Kd.R_reads' HO_9.out).2.2 | (with_reducible refine Kd.C_alloc ?_ _) | (with_reducible refine Kd.C_drewN ?_ _) | (with_reducible refine Kd.C_drew ?_))); (case side4 => exact (Kd.R_reads' HO_9.out).2.1); rintro e w56 ⟨rfl, hb⟩; have n0_ := zm1 (Kd.R_below (by (with_reducible repeat (first | apply zr1 | apply zr2 | apply zr3)); exact HO_8.out) hb); have n1_ := zm1 (Kd.R_below (by (with_reducible repeat (first | apply zr1 | apply zr2 | apply zr3)); exact HO_9.out) hb); have n2_ := zm1 (Kd.R_below (by (with_reducible repeat (first | apply zr1 | apply zr2 | apply zr3)); exact HO_11.out) hb); have n3_ := zm1 (Kd.R_below (by (with_reducible repeat (first | apply zr1 | apply zr2 | apply zr3)); exact HO_12.out) hb); have n4_ := zm1 (Kd.R_below (by (with_reducible repeat (first | apply zr1 | apply zr2 | apply zr3)); exact HO_13.out) hb); have n5_ := zm1 (Kd.R_below (by (with_reducible repeat (first | apply zr1 | apply zr2 | apply zr3)); exact HO283.out) hb); have n6_ := zm1 (zc6 (by repeat (first | (with_reducible first | exact HB.out | apply zc1 | apply zc2 | apply zc3) | exact HB.out)) hb); clear HO_8; clear HO_9; clear HO_11; clear HO_12; clear HO_13; clear HO283; clear HB; have HO_8 := n0_; have HO_9 := n1_; have HO_11 := n2_; have HO_12 := n3_; have HO_13 := n4_; have HO283 := n5_; have HB := n6_; clear n0_ n1_ n2_ n3_ n4_ n5_ n6_; (try clear hb); (try clear hb2); (try clear hk); (try clear hi)))
          go_meet
          case rel => exact ⟨_, ((t274 != t264)), (by first | rfl | (simp; done) | (simp [*]; done)), H', ⟨by have := HJ9.out; first | omega | exact Nat.le_refl _⟩, ⟨by (with_reducible repeat (first | apply zr1 | apply zr2 | apply zr3)); exact Kd.R_mono HO_8.out (fun _ hk => ⟨hk.1, ⟨hk.2.2.1, hk.2.2.2.1⟩⟩)⟩, ⟨by (with_reducible repeat (first | apply zr1 | apply zr2 | apply zr3)); exact Kd.R_mono HO_9.out (fun _ hk => ⟨hk.1, ⟨hk.2.2.1, hk.2.2.2.1⟩⟩)⟩, ⟨by (with_reducible repeat (first | apply zr1 | apply zr2 | apply zr3)); exact Kd.R_mono HO_12.out (fun _ hk => ⟨hk.1, ⟨hk.2.1, hk.2.2.2.1⟩⟩)⟩, ⟨by (with_reducible repeat (first | apply zr1 | apply zr2 | apply zr3)); exact Kd.R_mono HO_13.out (fun _ hk => ⟨hk.1, ⟨hk.2.1, hk.2.2.2.1⟩⟩)⟩, ⟨by repeat (first | (with_reducible first | exact HB.out | apply zc1 | apply zc2 | apply zc3) | exact HB.out)⟩⟩
         ·replace c50 := Bool.eq_false_iff.mpr c50
          subst c50
          have H1 : (laws_FnExactCutPolygon.j1 kj9 l0 a1 a2 t262 t263 t264 t272 t273 true) = some r := by rw [if_neg (show ¬ (false = true) by decide)] at H; exact H
          clear H
          have H := H1
          clear H1
          have H' := zm1 H
          clear H
          obtain ⟨Ao57, co57, eo57⟩ := Kd.R_slice HO_12.out
          subst eo57
          obtain ⟨Ao58, co58, eo58⟩ := Kd.R_slice HO_8.out
          subst eo58
          go_wp2_with (first | (go_at_call 23; (with_reducible refine (laws_eqPointS.calls kj9 _ _ t272 _ _ t262 true _ ?side1 ?side2 ?side3 ?side4 A47.out).mono ?_); (case side1 => repeat (first | exact (Kd.R_reads' HO_12.out).2.2 | (with_reducible refine Kd.C_alloc ?_ _) | (with_reducible refine Kd.C_drewN ?_ _) | (with_reducible refine Kd.C_drew ?_))); (case side2 => exact (Kd.R_reads' HO_12.out).2.1); (case side3 => repeat (first | exact (Kd.R_reads' HO_8.out).2.2 | (with_reducible refine Kd.C_alloc ?_ _) | (with_reducible refine Kd.C_drewN ?_ _) | (with_reducible refine Kd.C_drew ?_))); (case side4 => exact (Kd.R_reads' HO_8.out).2.1); rintro e w59 ⟨rfl, hb⟩; have n0_ := zm1 (Kd.R_below (by (with_reducible repeat (first | apply zr1 | apply zr2 | apply zr3)); exact HO_8.out) hb); have n1_ := zm1 (Kd.R_below (by (with_reducible repeat (first | apply zr1 | apply zr2 | apply zr3)); exact HO_9.out) hb); have n2_ := zm1 (Kd.R_below (by (with_reducible repeat (first | apply zr1 | apply zr2 | apply zr3)); exact HO_11.out) hb); have n3_ := zm1 (Kd.R_below (by (with_reducible repeat (first | apply zr1 | apply zr2 | apply zr3)); exact HO_12.out) hb); have n4_ := zm1 (Kd.R_below (by (with_reducible repeat (first | apply zr1 | apply zr2 | apply zr3)); exact HO_13.out) hb); have n5_ := zm1 (Kd.R_below (by (with_reducible repeat (first | apply zr1 | apply zr2 | apply zr3)); exact HO283.out) hb); have n6_ := zm1 (zc6 (by repeat (first | (with_reducible first | exact HB.out | apply zc1 | apply zc2 | apply zc3) | exact HB.out)) hb); clear HO_8; clear HO_9; clear HO_11; clear HO_12; clear HO_13; clear HO283; clear HB; have HO_8 := n0_; have HO_9 := n1_; have HO_11 := n2_; have HO_12 := n3_; have HO_13 := n4_; have HO283 := n5_; have HB := n6_; clear n0_ n1_ n2_ n3_ n4_ n5_ n6_; (try clear hb); (try clear hb2); (try clear hk); (try clear hi); obtain ⟨Ao60, co60, eo60⟩ := Kd.R_slice HO_13.out; subst eo60; obtain ⟨Ao61, co61, eo61⟩ := Kd.R_slice HO_9.out; subst eo61) | (go_at_call 23; (with_reducible refine (laws_eqPointS.calls kj9 _ _ t273 _ _ t263 false _ ?side1 ?side2 ?side3 ?side4 A49.out).mono ?_); (case side1 => repeat (first | exact (Kd.R_reads' HO_13.out).2.2 | (with_reducible refine Kd.C_alloc ?_ _) | (with_reducible refine Kd.C_drewN ?_ _) | (with_reducible refine Kd.C_drew ?_))); (case side2 => exact (Kd.R_reads' HO_13.out).2.1); (case side3 => repeat (first | exact (Kd.R_reads' HO_9.out).2.2 | (with_reducible refine Kd.C_alloc ?_ _) | (with_reducible refine Kd.C_drewN ?_ _) | (with_reducible refine Kd.C_drew ?_))); (case side4 => exact (Kd.R_reads' HO_9.out).2.1); rintro e w62 ⟨rfl, hb⟩; have n0_ := zm1 (Kd.R_below (by (with_reducible repeat (first | apply zr1 | apply zr2 | apply zr3)); exact HO_8.out) hb); have n1_ := zm1 (Kd.R_below (by (with_reducible repeat (first | apply zr1 | apply zr2 | apply zr3)); exact HO_9.out) hb); have n2_ := zm1 (Kd.R_below (by (with_reducible repeat (first | apply zr1 | apply zr2 | apply zr3)); exact HO_11.out) hb); have n3_ := zm1 (Kd.R_below (by (with_reducible repeat (first | apply zr1 | apply zr2 | apply zr3)); exact HO_12.out) hb); have n4_ := zm1 (Kd.R_below (by (with_reducible repeat (first | apply zr1 | apply zr2 | apply zr3)); exact HO_13.out) hb); have n5_ := zm1 (Kd.R_below (by (with_reducible repeat (first | apply zr1 | apply zr2 | apply zr3)); exact HO283.out) hb); have n6_ := zm1 (zc6 (by repeat (first | (with_reducible first | exact HB.out | apply zc1 | apply zc2 | apply zc3) | exact HB.out)) hb); clear HO_8; clear HO_9; clear HO_11; clear HO_12; clear HO_13; clear HO283; clear HB; have HO_8 := n0_; have HO_9 := n1_; have HO_11 := n2_; have HO_12 := n3_; have HO_13 := n4_; have HO283 := n5_; have HB := n6_; clear n0_ n1_ n2_ n3_ n4_ n5_ n6_; (try clear hb); (try clear hb2); (try clear hk); (try clear hi)))
          go_meet
          case rel => exact ⟨_, (true), (by first | rfl | (simp; done) | (simp [*]; done)), H', ⟨by have := HJ9.out; first | omega | exact Nat.le_refl _⟩, ⟨by (with_reducible repeat (first | apply zr1 | apply zr2 | apply zr3)); exact Kd.R_mono HO_8.out (fun _ hk => ⟨hk.1, ⟨hk.2.2.1, hk.2.2.2.1⟩⟩)⟩, ⟨by (with_reducible repeat (first | apply zr1 | apply zr2 | apply zr3)); exact Kd.R_mono HO_9.out (fun _ hk => ⟨hk.1, ⟨hk.2.2.1, hk.2.2.2.1⟩⟩)⟩, ⟨by (with_reducible repeat (first | apply zr1 | apply zr2 | apply zr3)); exact Kd.R_mono HO_12.out (fun _ hk => ⟨hk.1, ⟨hk.2.1, hk.2.2.2.1⟩⟩)⟩, ⟨by (with_reducible repeat (first | apply zr1 | apply zr2 | apply zr3)); exact Kd.R_mono HO_13.out (fun _ hk => ⟨hk.1, ⟨hk.2.1, hk.2.2.2.1⟩⟩)⟩, ⟨by repeat (first | (with_reducible first | exact HB.out | apply zc1 | apply zc2 | apply zc3) | exact HB.out)⟩⟩
        ·replace c48 := Bool.eq_false_iff.mpr c48
         subst c48
         have H1 : (laws_FnExactCutPolygon.j1 kj9 l0 a1 a2 t262 t263 t264 t272 t273 true) = some r := by rw [if_neg (show ¬ (false = true) by decide)] at H; exact H
         clear H
         have H := H1
         clear H1
         have H' := zm1 H
         clear H
         obtain ⟨Ao63, co63, eo63⟩ := Kd.R_slice HO_12.out
         subst eo63
         obtain ⟨Ao64, co64, eo64⟩ := Kd.R_slice HO_8.out
         subst eo64
         go_wp2_with (first | (go_at_call 23; (with_reducible refine (laws_eqPointS.calls kj9 _ _ t272 _ _ t262 false _ ?side1 ?side2 ?side3 ?side4 A47.out).mono ?_); (case side1 => repeat (first | exact (Kd.R_reads' HO_12.out).2.2 | (with_reducible refine Kd.C_alloc ?_ _) | (with_reducible refine Kd.C_drewN ?_ _) | (with_reducible refine Kd.C_drew ?_))); (case side2 => exact (Kd.R_reads' HO_12.out).2.1); (case side3 => repeat (first | exact (Kd.R_reads' HO_8.out).2.2 | (with_reducible refine Kd.C_alloc ?_ _) | (with_reducible refine Kd.C_drewN ?_ _) | (with_reducible refine Kd.C_drew ?_))); (case side4 => exact (Kd.R_reads' HO_8.out).2.1); rintro e w65 ⟨rfl, hb⟩; have n0_ := zm1 (Kd.R_below (by (with_reducible repeat (first | apply zr1 | apply zr2 | apply zr3)); exact HO_8.out) hb); have n1_ := zm1 (Kd.R_below (by (with_reducible repeat (first | apply zr1 | apply zr2 | apply zr3)); exact HO_9.out) hb); have n2_ := zm1 (Kd.R_below (by (with_reducible repeat (first | apply zr1 | apply zr2 | apply zr3)); exact HO_11.out) hb); have n3_ := zm1 (Kd.R_below (by (with_reducible repeat (first | apply zr1 | apply zr2 | apply zr3)); exact HO_12.out) hb); have n4_ := zm1 (Kd.R_below (by (with_reducible repeat (first | apply zr1 | apply zr2 | apply zr3)); exact HO_13.out) hb); have n5_ := zm1 (Kd.R_below (by (with_reducible repeat (first | apply zr1 | apply zr2 | apply zr3)); exact HO283.out) hb); have n6_ := zm1 (zc6 (by repeat (first | (with_reducible first | exact HB.out | apply zc1 | apply zc2 | apply zc3) | exact HB.out)) hb); clear HO_8; clear HO_9; clear HO_11; clear HO_12; clear HO_13; clear HO283; clear HB; have HO_8 := n0_; have HO_9 := n1_; have HO_11 := n2_; have HO_12 := n3_; have HO_13 := n4_; have HO283 := n5_; have HB := n6_; clear n0_ n1_ n2_ n3_ n4_ n5_ n6_; (try clear hb); (try clear hb2); (try clear hk); (try clear hi)))
         go_meet
         case rel => exact ⟨_, (true), (by first | rfl | (simp; done) | (simp [*]; done)), H', ⟨by have := HJ9.out; first | omega | exact Nat.le_refl _⟩, ⟨by (with_reducible repeat (first | apply zr1 | apply zr2 | apply zr3)); exact Kd.R_mono HO_8.out (fun _ hk => ⟨hk.1, ⟨hk.2.2.1, hk.2.2.2.1⟩⟩)⟩, ⟨by (with_reducible repeat (first | apply zr1 | apply zr2 | apply zr3)); exact Kd.R_mono HO_9.out (fun _ hk => ⟨hk.1, ⟨hk.2.2.1, hk.2.2.2.1⟩⟩)⟩, ⟨by (with_reducible repeat (first | apply zr1 | apply zr2 | apply zr3)); exact Kd.R_mono HO_12.out (fun _ hk => ⟨hk.1, ⟨hk.2.1, hk.2.2.2.1⟩⟩)⟩, ⟨by (with_reducible repeat (first | apply zr1 | apply zr2 | apply zr3)); exact Kd.R_mono HO_13.out (fun _ hk => ⟨hk.1, ⟨hk.2.1, hk.2.2.2.1⟩⟩)⟩, ⟨by repeat (first | (with_reducible first | exact HB.out | apply zc1 | apply zc2 | apply zc3) | exact HB.out)⟩⟩
      case rest =>
       clear HC41
       try clear c1
       try clear c2
       try clear p2
       try clear c3
       try clear c4
       try clear c5
       try clear c5b0
       try clear c8
       try clear c18
       try clear c20
       try clear c23
       try clear c24
       try clear c36
       try clear c39
       try clear c40
       try clear c41
       try clear c46
       try clear c46b0
       try clear c48
       try clear c50
       try clear p2
       obtain ⟨kq, x86_40, rfl, HA, HJ40, HO_8, HO_9, HO_12, HO_13, HB⟩ := hcut
       cases kq with
       | zero => exact absurd HA.out (by simp [laws_FnExactCutPolygon.j1])
       | succ kj40 =>
        have H := HA.out
        clear HA
        simp only [laws_FnExactCutPolygon.j1] at H
        by_cases c66 : x86_40 = true
        ·subst c66
         have H1 : (some false) = some r := by rw [if_pos rfl] at H; exact H
         clear H
         have H := H1
         clear H1
         obtain rfl := Option.some.inj H
         go_wp2
         go_ret
         exact ⟨by first | rfl | (simp [errW_none, errW_some] <;> rfl) | (simp [*, errW_none, errW_some] <;> rfl), by repeat (first | (with_reducible first | exact HB.out | apply zc1 | apply zc2 | apply zc3) | exact HB.out)⟩
        ·replace c66 := Bool.eq_false_iff.mpr c66
         subst c66
         have H1 : ((laws_markPointS.f kj40 t272 1).bind fun bt289 => ((laws_markPointS.f kj40 t273 bt289.1).bind fun bt291 => ((laws_heldPointS.f kj40 bt289.2 1).bind fun t293 => (if t293 < 0 then (some false) else ((laws_heldPointS.f kj40 bt291.2 t293).bind fun t294 => (if t294 < 0 then (some false) else (if t294 = bt291.1 then ((laws_toPointS.f kj40 l0).bind fun t295 => ((impl_CutPolygon.f kj40 t295 a1 a2).bind fun bt298 => ((laws_eqPointS.f kj40 bt298.1 t262).bind fun t305 => (if t305 = true then ((laws_eqPointS.f kj40 bt298.2.1 t263).bind fun t306 => (if t306 = true then (laws_FnExactCutPolygon.j2 kj40 bt289.2 bt291.2 bt291.1 (bt298.2.2 != t264)) else (laws_FnExactCutPolygon.j2 kj40 bt289.2 bt291.2 bt291.1 true))) else (laws_FnExactCutPolygon.j2 kj40 bt289.2 bt291.2 bt291.1 true))))) else (some false)))))))) = some r := by rw [if_neg (show ¬ (false = true) by decide)] at H; exact H
         clear H
         have H := H1
         clear H1
         replace H := Option.bind_eq_some_iff.mp H
         obtain ⟨⟨t289, t290⟩, A670, H⟩ := H
         replace H : ((laws_markPointS.f kj40 t273 t289).bind fun bt291 => ((laws_heldPointS.f kj40 t290 1).bind fun t293 => (if t293 < 0 then (some false) else ((laws_heldPointS.f kj40 bt291.2 t293).bind fun t294 => (if t294 < 0 then (some false) else (if t294 = bt291.1 then ((laws_toPointS.f kj40 l0).bind fun t295 => ((impl_CutPolygon.f kj40 t295 a1 a2).bind fun bt298 => ((laws_eqPointS.f kj40 bt298.1 t262).bind fun t305 => (if t305 = true then ((laws_eqPointS.f kj40 bt298.2.1 t263).bind fun t306 => (if t306 = true then (laws_FnExactCutPolygon.j2 kj40 t290 bt291.2 bt291.1 (bt298.2.2 != t264)) else (laws_FnExactCutPolygon.j2 kj40 t290 bt291.2 bt291.1 true))) else (laws_FnExactCutPolygon.j2 kj40 t290 bt291.2 bt291.1 true))))) else (some false))))))) = some r := H
         have A67 := zm1 A670
         clear A670
         replace H := Option.bind_eq_some_iff.mp H
         obtain ⟨⟨t291, t292⟩, A680, H⟩ := H
         replace H : ((laws_heldPointS.f kj40 t290 1).bind fun t293 => (if t293 < 0 then (some false) else ((laws_heldPointS.f kj40 t292 t293).bind fun t294 => (if t294 < 0 then (some false) else (if t294 = t291 then ((laws_toPointS.f kj40 l0).bind fun t295 => ((impl_CutPolygon.f kj40 t295 a1 a2).bind fun bt298 => ((laws_eqPointS.f kj40 bt298.1 t262).bind fun t305 => (if t305 = true then ((laws_eqPointS.f kj40 bt298.2.1 t263).bind fun t306 => (if t306 = true then (laws_FnExactCutPolygon.j2 kj40 t290 t292 t291 (bt298.2.2 != t264)) else (laws_FnExactCutPolygon.j2 kj40 t290 t292 t291 true))) else (laws_FnExactCutPolygon.j2 kj40 t290 t292 t291 true))))) else (some false)))))) = some r := H
         have A68 := zm1 A680
         clear A680
         replace H := Option.bind_eq_some_iff.mp H
         obtain ⟨t293, A690, H⟩ := H
         replace H : (if t293 < 0 then (some false) else ((laws_heldPointS.f kj40 t292 t293).bind fun t294 => (if t294 < 0 then (some false) else (if t294 = t291 then ((laws_toPointS.f kj40 l0).bind fun t295 => ((impl_CutPolygon.f kj40 t295 a1 a2).bind fun bt298 => ((laws_eqPointS.f kj40 bt298.1 t262).bind fun t305 => (if t305 = true then ((laws_eqPointS.f kj40 bt298.2.1 t263).bind fun t306 => (if t306 = true then (laws_FnExactCutPolygon.j2 kj40 t290 t292 t291 (bt298.2.2 != t264)) else (laws_FnExactCutPolygon.j2 kj40 t290 t292 t291 true))) else (laws_FnExactCutPolygon.j2 kj40 t290 t292 t291 true))))) else (some false))))) = some r := H
         have A69 := zm1 A690
         clear A690
         by_cases c70 : t293 < 0
         ·rw [if_pos c70] at H
          have c70b0 : decide (t293 < 0) = true := decide_eq_true c70
          clear c70
          obtain rfl := Option.some.inj H
          obtain ⟨Ao71, co71, eo71⟩ := Kd.R_slice HO_12.out
          subst eo71
          go_wp2_with (first | ((with_reducible refine gate_callee (f := 24) rfl ?_); refine goesL_ (some 89) rfl rfl Try.func24 (by kernel_rfl) rfl #[.slice Ao71 t272.length co71, .int .i64 1] rfl (by (try simp only [List.map_toArray, List.map_cons, List.map_nil]); first | done | rfl | (simp only [List.length_drop, List.length_take]; rfl)) ?_; (with_reducible refine (laws_markPointS.calls kj40 (fun k_ => some k_ = (.slice Ao71 t272.length co71 : Value).ownBlock) (.slice Ao71 t272.length co71) t272 1 t289 t290 w _ ?side1 ?side2 A67.out).mono ?_); (case side1 => repeat (first | (with_reducible first | exact HB.out | apply zc1 | apply zc2 | apply zc3) | exact HB.out)); (case side2 => exact Kd.R_tight rfl HO_12.out); rintro e w72 ⟨rfl, hy0, hb, hkp⟩; refine ⟨_, rfl, ?_⟩; have n0_ := zm1 (Kd.R_mono (ok' := fun k_ => some k_ ≠ (v267 : Value).ownBlock ∧ some k_ ≠ (.slice Ao71 t272.length co71 : Value).ownBlock ∧ some k_ ≠ (v277 : Value).ownBlock) (Kd.R_keptB (HO_8.out) hkp (fun k_ hk_ hs_ => (hk_.2.1) hs_)) (fun k_ hk_ => ⟨hk_.1.1, hk_.1.2.1, hk_.1.2.2⟩)); have n1_ := zm1 (Kd.R_mono (ok' := fun k_ => some k_ ≠ (v265 : Value).ownBlock ∧ some k_ ≠ (.slice Ao71 t272.length co71 : Value).ownBlock ∧ some k_ ≠ (v277 : Value).ownBlock) (Kd.R_keptB (HO_9.out) hkp (fun k_ hk_ hs_ => (hk_.2.1) hs_)) (fun k_ hk_ => ⟨hk_.1.1, hk_.1.2.1, hk_.1.2.2⟩)); have n2_ := zm1 (Kd.R_reok rfl hy0 (fun k_ e_ => HO_12.out.1 k_ e_)); have n3_ := zm1 (Kd.R_mono (ok' := fun k_ => some k_ ≠ (v265 : Value).ownBlock ∧ some k_ ≠ (v267 : Value).ownBlock ∧ some k_ ≠ (.slice Ao71 t272.length co71 : Value).ownBlock) (Kd.R_keptB (HO_13.out) hkp (fun k_ hk_ hs_ => (hk_.2.2) hs_)) (fun k_ hk_ => ⟨hk_.1.1, hk_.1.2.1, hk_.1.2.2⟩)); have n4_ := zm1 (hb); clear HO_8; clear HO_9; clear HO_12; clear HO_13; clear HB; have HO_8 := n0_; have HO_9 := n1_; have HO_12 := n2_; have HO_13 := n3_; have HB := n4_; clear n0_ n1_ n2_ n3_ n4_; (try clear hb); (try clear hkp); (try clear hy0); obtain ⟨Ao73, co73, eo73⟩ := Kd.R_slice HO_13.out; subst eo73) | ((with_reducible refine gate_callee (f := 24) rfl ?_); refine goesL_ (some 92) rfl rfl Try.func24 (by kernel_rfl) rfl #[.slice Ao73 t273.length co73, .int .i64 t289] rfl (by (try simp only [List.map_toArray, List.map_cons, List.map_nil]); first | done | rfl | (simp only [List.length_drop, List.length_take]; rfl)) ?_; (with_reducible refine (laws_markPointS.calls kj40 (fun k_ => some k_ = (.slice Ao73 t273.length co73 : Value).ownBlock) (.slice Ao73 t273.length co73) t273 t289 t291 t292 w _ ?side1 ?side2 A68.out).mono ?_); (case side1 => repeat (first | (with_reducible first | exact HB.out | apply zc1 | apply zc2 | apply zc3) | exact HB.out)); (case side2 => exact Kd.R_tight rfl HO_13.out); rintro e w74 ⟨rfl, hy0, hb, hkp⟩; refine ⟨_, rfl, ?_⟩; have n0_ := zm1 (Kd.R_mono (ok' := fun k_ => some k_ ≠ (v267 : Value).ownBlock ∧ some k_ ≠ (.slice Ao71 t272.length co71 : Value).ownBlock ∧ some k_ ≠ (.slice Ao73 t273.length co73 : Value).ownBlock) (Kd.R_keptB (HO_8.out) hkp (fun k_ hk_ hs_ => (hk_.2.2) hs_)) (fun k_ hk_ => ⟨hk_.1.1, hk_.1.2.1, hk_.1.2.2⟩)); have n1_ := zm1 (Kd.R_mono (ok' := fun k_ => some k_ ≠ (v265 : Value).ownBlock ∧ some k_ ≠ (.slice Ao71 t272.length co71 : Value).ownBlock ∧ some k_ ≠ (.slice Ao73 t273.length co73 : Value).ownBlock) (Kd.R_keptB (HO_9.out) hkp (fun k_ hk_ hs_ => (hk_.2.2) hs_)) (fun k_ hk_ => ⟨hk_.1.1, hk_.1.2.1, hk_.1.2.2⟩)); have n2_ := zm1 (Kd.R_mono (ok' := fun k_ => some k_ ≠ (v265 : Value).ownBlock ∧ some k_ ≠ (v267 : Value).ownBlock ∧ some k_ ≠ (.slice Ao73 t273.length co73 : Value).ownBlock) (Kd.R_keptB (HO_12.out) hkp (fun k_ hk_ hs_ => (hk_.2.2) hs_)) (fun k_ hk_ => ⟨hk_.1.1, hk_.1.2.1, hk_.1.2.2⟩)); have n3_ := zm1 (Kd.R_reok rfl hy0 (fun k_ e_ => HO_13.out.1 k_ e_)); have n4_ := zm1 (hb); clear HO_8; clear HO_9; clear HO_12; clear HO_13; clear HB; have HO_8 := n0_; have HO_9 := n1_; have HO_12 := n2_; have HO_13 := n3_; have HB := n4_; clear n0_ n1_ n2_ n3_ n4_; (try clear hb); (try clear hkp); (try clear hy0)) | ((with_reducible refine gate_callee (f := 42) rfl ?_); refine goesL_ (some 95) rfl rfl Try.func42 (by kernel_rfl) rfl #[.slice Ao71 t290.length co71, .int .i64 1] rfl (by (try simp only [List.map_toArray, List.map_cons, List.map_nil]); first | done | (rw [show t290.length = t272.length from (Kd.R_reads' HO_12.out).1.symm] <;> rfl) | rfl | (simp only [List.length_drop, List.length_take]; rfl)) ?_; (with_reducible refine (laws_heldPointS.calls kj40 _ _ t290 1 t293 _ ?side1 ?side2 A69.out).mono ?_); (case side1 => repeat (first | exact (Kd.R_reads' HO_12.out).2.2 | (with_reducible refine Kd.C_alloc ?_ _) | (with_reducible refine Kd.C_drewN ?_ _) | (with_reducible refine Kd.C_drew ?_))); (case side2 => rw [show t290.length = t272.length from (Kd.R_reads' HO_12.out).1.symm]; exact (Kd.R_reads' HO_12.out).2.1); rintro e w' ⟨rfl, ⟨nd, rfl⟩⟩; refine ⟨_, rfl, ?_⟩))
          go_ret
          exact ⟨by first | rfl | (simp [errW_none, errW_some] <;> rfl) | (simp [*, errW_none, errW_some] <;> rfl), by repeat (first | (with_reducible first | exact HB.out | apply zc1 | apply zc2 | apply zc3) | exact HB.out)⟩
         ·rw [if_neg c70] at H
          have c70b0 : decide (t293 < 0) = false := decide_eq_false c70
          clear c70
          replace H := Option.bind_eq_some_iff.mp H
          obtain ⟨t294, A750, H⟩ := H
          replace H : (if t294 < 0 then (some false) else (if t294 = t291 then ((laws_toPointS.f kj40 l0).bind fun t295 => ((impl_CutPolygon.f kj40 t295 a1 a2).bind fun bt298 => ((laws_eqPointS.f kj40 bt298.1 t262).bind fun t305 => (if t305 = true then ((laws_eqPointS.f kj40 bt298.2.1 t263).bind fun t306 => (if t306 = true then (laws_FnExactCutPolygon.j2 kj40 t290 t292 t291 (bt298.2.2 != t264)) else (laws_FnExactCutPolygon.j2 kj40 t290 t292 t291 true))) else (laws_FnExactCutPolygon.j2 kj40 t290 t292 t291 true))))) else (some false))) = some r := H
          have A75 := zm1 A750
          clear A750
          by_cases c76 : t294 < 0
          ·rw [if_pos c76] at H
           have c76b0 : decide (t294 < 0) = true := decide_eq_true c76
           clear c76
           obtain rfl := Option.some.inj H
           obtain ⟨Ao77, co77, eo77⟩ := Kd.R_slice HO_12.out
           subst eo77
           go_wp2_with (first | ((with_reducible refine gate_callee (f := 24) rfl ?_); refine goesL_ (some 89) rfl rfl Try.func24 (by kernel_rfl) rfl #[.slice Ao77 t272.length co77, .int .i64 1] rfl (by (try simp only [List.map_toArray, List.map_cons, List.map_nil]); first | done | rfl | (simp only [List.length_drop, List.length_take]; rfl)) ?_; (with_reducible refine (laws_markPointS.calls kj40 (fun k_ => some k_ = (.slice Ao77 t272.length co77 : Value).ownBlock) (.slice Ao77 t272.length co77) t272 1 t289 t290 w _ ?side1 ?side2 A67.out).mono ?_); (case side1 => repeat (first | (with_reducible first | exact HB.out | apply zc1 | apply zc2 | apply zc3) | exact HB.out)); (case side2 => exact Kd.R_tight rfl HO_12.out); rintro e w78 ⟨rfl, hy0, hb, hkp⟩; refine ⟨_, rfl, ?_⟩; have n0_ := zm1 (Kd.R_mono (ok' := fun k_ => some k_ ≠ (v267 : Value).ownBlock ∧ some k_ ≠ (.slice Ao77 t272.length co77 : Value).ownBlock ∧ some k_ ≠ (v277 : Value).ownBlock) (Kd.R_keptB (HO_8.out) hkp (fun k_ hk_ hs_ => (hk_.2.1) hs_)) (fun k_ hk_ => ⟨hk_.1.1, hk_.1.2.1, hk_.1.2.2⟩)); have n1_ := zm1 (Kd.R_mono (ok' := fun k_ => some k_ ≠ (v265 : Value).ownBlock ∧ some k_ ≠ (.slice Ao77 t272.length co77 : Value).ownBlock ∧ some k_ ≠ (v277 : Value).ownBlock) (Kd.R_keptB (HO_9.out) hkp (fun k_ hk_ hs_ => (hk_.2.1) hs_)) (fun k_ hk_ => ⟨hk_.1.1, hk_.1.2.1, hk_.1.2.2⟩)); have n2_ := zm1 (Kd.R_reok rfl hy0 (fun k_ e_ => HO_12.out.1 k_ e_)); have n3_ := zm1 (Kd.R_mono (ok' := fun k_ => some k_ ≠ (v265 : Value).ownBlock ∧ some k_ ≠ (v267 : Value).ownBlock ∧ some k_ ≠ (.slice Ao77 t272.length co77 : Value).ownBlock) (Kd.R_keptB (HO_13.out) hkp (fun k_ hk_ hs_ => (hk_.2.2) hs_)) (fun k_ hk_ => ⟨hk_.1.1, hk_.1.2.1, hk_.1.2.2⟩)); have n4_ := zm1 (hb); clear HO_8; clear HO_9; clear HO_12; clear HO_13; clear HB; have HO_8 := n0_; have HO_9 := n1_; have HO_12 := n2_; have HO_13 := n3_; have HB := n4_; clear n0_ n1_ n2_ n3_ n4_; (try clear hb); (try clear hkp); (try clear hy0); obtain ⟨Ao79, co79, eo79⟩ := Kd.R_slice HO_13.out; subst eo79) | ((with_reducible refine gate_callee (f := 24) rfl ?_); refine goesL_ (some 92) rfl rfl Try.func24 (by kernel_rfl) rfl #[.slice Ao79 t273.length co79, .int .i64 t289] rfl (by (try simp only [List.map_toArray, List.map_cons, List.map_nil]); first | done | rfl | (simp only [List.length_drop, List.length_take]; rfl)) ?_; (with_reducible refine (laws_markPointS.calls kj40 (fun k_ => some k_ = (.slice Ao79 t273.length co79 : Value).ownBlock) (.slice Ao79 t273.length co79) t273 t289 t291 t292 w _ ?side1 ?side2 A68.out).mono ?_); (case side1 => repeat (first | (with_reducible first | exact HB.out | apply zc1 | apply zc2 | apply zc3) | exact HB.out)); (case side2 => exact Kd.R_tight rfl HO_13.out); rintro e w80 ⟨rfl, hy0, hb, hkp⟩; refine ⟨_, rfl, ?_⟩; have n0_ := zm1 (Kd.R_mono (ok' := fun k_ => some k_ ≠ (v267 : Value).ownBlock ∧ some k_ ≠ (.slice Ao77 t272.length co77 : Value).ownBlock ∧ some k_ ≠ (.slice Ao79 t273.length co79 : Value).ownBlock) (Kd.R_keptB (HO_8.out) hkp (fun k_ hk_ hs_ => (hk_.2.2) hs_)) (fun k_ hk_ => ⟨hk_.1.1, hk_.1.2.1, hk_.1.2.2⟩)); have n1_ := zm1 (Kd.R_mono (ok' := fun k_ => some k_ ≠ (v265 : Value).ownBlock ∧ some k_ ≠ (.slice Ao77 t272.length co77 : Value).ownBlock ∧ some k_ ≠ (.slice Ao79 t273.length co79 : Value).ownBlock) (Kd.R_keptB (HO_9.out) hkp (fun k_ hk_ hs_ => (hk_.2.2) hs_)) (fun k_ hk_ => ⟨hk_.1.1, hk_.1.2.1, hk_.1.2.2⟩)); have n2_ := zm1 (Kd.R_mono (ok' := fun k_ => some k_ ≠ (v265 : Value).ownBlock ∧ some k_ ≠ (v267 : Value).ownBlock ∧ some k_ ≠ (.slice Ao79 t273.length co79 : Value).ownBlock) (Kd.R_keptB (HO_12.out) hkp (fun k_ hk_ hs_ => (hk_.2.2) hs_)) (fun k_ hk_ => ⟨hk_.1.1, hk_.1.2.1, hk_.1.2.2⟩)); have n3_ := zm1 (Kd.R_reok rfl hy0 (fun k_ e_ => HO_13.out.1 k_ e_)); have n4_ := zm1 (hb); clear HO_8; clear HO_9; clear HO_12; clear HO_13; clear HB; have HO_8 := n0_; have HO_9 := n1_; have HO_12 := n2_; have HO_13 := n3_; have HB := n4_; clear n0_ n1_ n2_ n3_ n4_; (try clear hb); (try clear hkp); (try clear hy0)) | ((with_reducible refine gate_callee (f := 42) rfl ?_); refine goesL_ (some 95) rfl rfl Try.func42 (by kernel_rfl) rfl #[.slice Ao77 t290.length co77, .int .i64 1] rfl (by (try simp only [List.map_toArray, List.map_cons, List.map_nil]); first | done | (rw [show t290.length = t272.length from (Kd.R_reads' HO_12.out).1.symm] <;> rfl) | rfl | (simp only [List.length_drop, List.length_take]; rfl)) ?_; (with_reducible refine (laws_heldPointS.calls kj40 _ _ t290 1 t293 _ ?side1 ?side2 A69.out).mono ?_); (case side1 => repeat (first | exact (Kd.R_reads' HO_12.out).2.2 | (with_reducible refine Kd.C_alloc ?_ _) | (with_reducible refine Kd.C_drewN ?_ _) | (with_reducible refine Kd.C_drew ?_))); (case side2 => rw [show t290.length = t272.length from (Kd.R_reads' HO_12.out).1.symm]; exact (Kd.R_reads' HO_12.out).2.1); rintro e w' ⟨rfl, ⟨nd, rfl⟩⟩; refine ⟨_, rfl, ?_⟩) | ((with_reducible refine gate_callee (f := 42) rfl ?_); refine goesL_ (some 100) rfl rfl Try.func42 (by kernel_rfl) rfl #[.slice Ao79 t292.length co79, .int .i64 t293] rfl (by (try simp only [List.map_toArray, List.map_cons, List.map_nil]); first | done | (rw [show t292.length = t273.length from (Kd.R_reads' HO_13.out).1.symm] <;> rfl) | rfl | (simp only [List.length_drop, List.length_take]; rfl)) ?_; (with_reducible refine (laws_heldPointS.calls kj40 _ _ t292 t293 t294 _ ?side1 ?side2 A75.out).mono ?_); (case side1 => repeat (first | exact (Kd.R_reads' HO_13.out).2.2 | (with_reducible refine Kd.C_alloc ?_ _) | (with_reducible refine Kd.C_drewN ?_ _) | (with_reducible refine Kd.C_drew ?_))); (case side2 => rw [show t292.length = t273.length from (Kd.R_reads' HO_13.out).1.symm]; exact (Kd.R_reads' HO_13.out).2.1); rintro e w' ⟨rfl, ⟨nd, rfl⟩⟩; refine ⟨_, rfl, ?_⟩))
           go_ret
           exact ⟨by first | rfl | (simp [errW_none, errW_some] <;> rfl) | (simp [*, errW_none, errW_some] <;> rfl), by repeat (first | (with_reducible first | exact HB.out | apply zc1 | apply zc2 | apply zc3) | exact HB.out)⟩
          ·rw [if_neg c76] at H
           have c76b0 : decide (t294 < 0) = false := decide_eq_false c76
           clear c76
           by_cases c81 : t294 = t291
           ·rw [if_pos c81] at H
            have c81b0 : (t294 == t291) = true := beq_iff_eq.mpr c81
            have c81b1 : (t294 != t291) = false := bne_eq_false_iff_eq.mpr c81
            clear c81
            replace H := Option.bind_eq_some_iff.mp H
            obtain ⟨t295, A820, H⟩ := H
            replace H : ((impl_CutPolygon.f kj40 t295 a1 a2).bind fun bt298 => ((laws_eqPointS.f kj40 bt298.1 t262).bind fun t305 => (if t305 = true then ((laws_eqPointS.f kj40 bt298.2.1 t263).bind fun t306 => (if t306 = true then (laws_FnExactCutPolygon.j2 kj40 t290 t292 t291 (bt298.2.2 != t264)) else (laws_FnExactCutPolygon.j2 kj40 t290 t292 t291 true))) else (laws_FnExactCutPolygon.j2 kj40 t290 t292 t291 true)))) = some r := H
            have A82 := zm1 A820
            clear A820
            replace H := Option.bind_eq_some_iff.mp H
            obtain ⟨⟨t298, t299, t300⟩, A830, H⟩ := H
            replace H : ((laws_eqPointS.f kj40 t298 t262).bind fun t305 => (if t305 = true then ((laws_eqPointS.f kj40 t299 t263).bind fun t306 => (if t306 = true then (laws_FnExactCutPolygon.j2 kj40 t290 t292 t291 (t300 != t264)) else (laws_FnExactCutPolygon.j2 kj40 t290 t292 t291 true))) else (laws_FnExactCutPolygon.j2 kj40 t290 t292 t291 true))) = some r := H
            have A83 := zm1 A830
            clear A830
            have HC84 := zm1 H
            clear H
            obtain ⟨Ao85, co85, eo85⟩ := Kd.R_slice HO_12.out
            subst eo85
            go_upto_region 29 with (first | ((with_reducible refine gate_callee (f := 24) rfl ?_); refine goesL_ (some 89) rfl rfl Try.func24 (by kernel_rfl) rfl #[.slice Ao85 t272.length co85, .int .i64 1] rfl (by (try simp only [List.map_toArray, List.map_cons, List.map_nil]); first | done | rfl | (simp only [List.length_drop, List.length_take]; rfl)) ?_; (with_reducible refine (laws_markPointS.calls kj40 (fun k_ => some k_ = (.slice Ao85 t272.length co85 : Value).ownBlock) (.slice Ao85 t272.length co85) t272 1 t289 t290 w _ ?side1 ?side2 A67.out).mono ?_); (case side1 => repeat (first | (with_reducible first | exact HB.out | apply zc1 | apply zc2 | apply zc3) | exact HB.out)); (case side2 => exact Kd.R_tight rfl HO_12.out); rintro e w86 ⟨rfl, hy0, hb, hkp⟩; refine ⟨_, rfl, ?_⟩; have n0_ := zm1 (Kd.R_mono (ok' := fun k_ => some k_ ≠ (v267 : Value).ownBlock ∧ some k_ ≠ (.slice Ao85 t272.length co85 : Value).ownBlock ∧ some k_ ≠ (v277 : Value).ownBlock) (Kd.R_keptB (HO_8.out) hkp (fun k_ hk_ hs_ => (hk_.2.1) hs_)) (fun k_ hk_ => ⟨hk_.1.1, hk_.1.2.1, hk_.1.2.2⟩)); have n1_ := zm1 (Kd.R_mono (ok' := fun k_ => some k_ ≠ (v265 : Value).ownBlock ∧ some k_ ≠ (.slice Ao85 t272.length co85 : Value).ownBlock ∧ some k_ ≠ (v277 : Value).ownBlock) (Kd.R_keptB (HO_9.out) hkp (fun k_ hk_ hs_ => (hk_.2.1) hs_)) (fun k_ hk_ => ⟨hk_.1.1, hk_.1.2.1, hk_.1.2.2⟩)); have n2_ := zm1 (Kd.R_reok rfl hy0 (fun k_ e_ => HO_12.out.1 k_ e_)); have n3_ := zm1 (Kd.R_mono (ok' := fun k_ => some k_ ≠ (v265 : Value).ownBlock ∧ some k_ ≠ (v267 : Value).ownBlock ∧ some k_ ≠ (.slice Ao85 t272.length co85 : Value).ownBlock) (Kd.R_keptB (HO_13.out) hkp (fun k_ hk_ hs_ => (hk_.2.2) hs_)) (fun k_ hk_ => ⟨hk_.1.1, hk_.1.2.1, hk_.1.2.2⟩)); have n4_ := zm1 (hb); clear HO_8; clear HO_9; clear HO_12; clear HO_13; clear HB; have HO_8 := n0_; have HO_9 := n1_; have HO_12 := n2_; have HO_13 := n3_; have HB := n4_; clear n0_ n1_ n2_ n3_ n4_; (try clear hb); (try clear hkp); (try clear hy0); obtain ⟨Ao87, co87, eo87⟩ := Kd.R_slice HO_13.out; subst eo87) | ((with_reducible refine gate_callee (f := 24) rfl ?_); refine goesL_ (some 92) rfl rfl Try.func24 (by kernel_rfl) rfl #[.slice Ao87 t273.length co87, .int .i64 t289] rfl (by (try simp only [List.map_toArray, List.map_cons, List.map_nil]); first | done | rfl | (simp only [List.length_drop, List.length_take]; rfl)) ?_; (with_reducible refine (laws_markPointS.calls kj40 (fun k_ => some k_ = (.slice Ao87 t273.length co87 : Value).ownBlock) (.slice Ao87 t273.length co87) t273 t289 t291 t292 w _ ?side1 ?side2 A68.out).mono ?_); (case side1 => repeat (first | (with_reducible first | exact HB.out | apply zc1 | apply zc2 | apply zc3) | exact HB.out)); (case side2 => exact Kd.R_tight rfl HO_13.out); rintro e w88 ⟨rfl, hy0, hb, hkp⟩; refine ⟨_, rfl, ?_⟩; have n0_ := zm1 (Kd.R_mono (ok' := fun k_ => some k_ ≠ (v267 : Value).ownBlock ∧ some k_ ≠ (.slice Ao85 t272.length co85 : Value).ownBlock ∧ some k_ ≠ (.slice Ao87 t273.length co87 : Value).ownBlock) (Kd.R_keptB (HO_8.out) hkp (fun k_ hk_ hs_ => (hk_.2.2) hs_)) (fun k_ hk_ => ⟨hk_.1.1, hk_.1.2.1, hk_.1.2.2⟩)); have n1_ := zm1 (Kd.R_mono (ok' := fun k_ => some k_ ≠ (v265 : Value).ownBlock ∧ some k_ ≠ (.slice Ao85 t272.length co85 : Value).ownBlock ∧ some k_ ≠ (.slice Ao87 t273.length co87 : Value).ownBlock) (Kd.R_keptB (HO_9.out) hkp (fun k_ hk_ hs_ => (hk_.2.2) hs_)) (fun k_ hk_ => ⟨hk_.1.1, hk_.1.2.1, hk_.1.2.2⟩)); have n2_ := zm1 (Kd.R_mono (ok' := fun k_ => some k_ ≠ (v265 : Value).ownBlock ∧ some k_ ≠ (v267 : Value).ownBlock ∧ some k_ ≠ (.slice Ao87 t273.length co87 : Value).ownBlock) (Kd.R_keptB (HO_12.out) hkp (fun k_ hk_ hs_ => (hk_.2.2) hs_)) (fun k_ hk_ => ⟨hk_.1.1, hk_.1.2.1, hk_.1.2.2⟩)); have n3_ := zm1 (Kd.R_reok rfl hy0 (fun k_ e_ => HO_13.out.1 k_ e_)); have n4_ := zm1 (hb); clear HO_8; clear HO_9; clear HO_12; clear HO_13; clear HB; have HO_8 := n0_; have HO_9 := n1_; have HO_12 := n2_; have HO_13 := n3_; have HB := n4_; clear n0_ n1_ n2_ n3_ n4_; (try clear hb); (try clear hkp); (try clear hy0)) | ((with_reducible refine gate_callee (f := 42) rfl ?_); refine goesL_ (some 95) rfl rfl Try.func42 (by kernel_rfl) rfl #[.slice Ao85 t290.length co85, .int .i64 1] rfl (by (try simp only [List.map_toArray, List.map_cons, List.map_nil]); first | done | (rw [show t290.length = t272.length from (Kd.R_reads' HO_12.out).1.symm] <;> rfl) | rfl | (simp only [List.length_drop, List.length_take]; rfl)) ?_; (with_reducible refine (laws_heldPointS.calls kj40 _ _ t290 1 t293 _ ?side1 ?side2 A69.out).mono ?_); (case side1 => repeat (first | exact (Kd.R_reads' HO_12.out).2.2 | (with_reducible refine Kd.C_alloc ?_ _) | (with_reducible refine Kd.C_drewN ?_ _) | (with_reducible refine Kd.C_drew ?_))); (case side2 => rw [show t290.length = t272.length from (Kd.R_reads' HO_12.out).1.symm]; exact (Kd.R_reads' HO_12.out).2.1); rintro e w' ⟨rfl, ⟨nd, rfl⟩⟩; refine ⟨_, rfl, ?_⟩) | ((with_reducible refine gate_callee (f := 42) rfl ?_); refine goesL_ (some 100) rfl rfl Try.func42 (by kernel_rfl) rfl #[.slice Ao87 t292.length co87, .int .i64 t293] rfl (by (try simp only [List.map_toArray, List.map_cons, List.map_nil]); first | done | (rw [show t292.length = t273.length from (Kd.R_reads' HO_13.out).1.symm] <;> rfl) | rfl | (simp only [List.length_drop, List.length_take]; rfl)) ?_; (with_reducible refine (laws_heldPointS.calls kj40 _ _ t292 t293 t294 _ ?side1 ?side2 A75.out).mono ?_); (case side1 => repeat (first | exact (Kd.R_reads' HO_13.out).2.2 | (with_reducible refine Kd.C_alloc ?_ _) | (with_reducible refine Kd.C_drewN ?_ _) | (with_reducible refine Kd.C_drew ?_))); (case side2 => rw [show t292.length = t273.length from (Kd.R_reads' HO_13.out).1.symm]; exact (Kd.R_reads' HO_13.out).2.1); rintro e w' ⟨rfl, ⟨nd, rfl⟩⟩; refine ⟨_, rfl, ?_⟩) | ((with_reducible refine gate_callee (f := 20) rfl ?_); refine goesL_ (some 108) rfl rfl Try.func20 (by kernel_rfl) rfl #[.slice A0 l0.length c0] rfl (by (try simp only [List.map_toArray, List.map_cons, List.map_nil]); first | done | rfl | (simp only [List.length_drop, List.length_take]; rfl)) ?_; (with_reducible refine (laws_toPointS.calls kj40 _ _ l0 t295 _ ?side1 ?side2 A82.out).mono ?_); (case side1 => repeat (first | exact (Kd.C_below HR0.out (by repeat (first | (with_reducible first | exact HB.out | apply zc1 | apply zc2 | apply zc3) | exact HB.out))) | (with_reducible refine Kd.C_alloc ?_ _) | (with_reducible refine Kd.C_drewN ?_ _) | (with_reducible refine Kd.C_drew ?_))); (case side2 => exact HC0.out); rintro e w89 ⟨v296, rfl, ho0, hb⟩; refine ⟨_, rfl, ?_⟩; have n0_ := zm1 (Kd.R_elder' (by (with_reducible repeat (first | apply zr1 | apply zr2 | apply zr3)); exact HO_8.out) (Kd.R_base ho0) hb); have n1_ := zm1 (Kd.R_elder' (by (with_reducible repeat (first | apply zr1 | apply zr2 | apply zr3)); exact HO_9.out) (Kd.R_base ho0) hb); have n2_ := zm1 (Kd.R_elder' (by (with_reducible repeat (first | apply zr1 | apply zr2 | apply zr3)); exact HO_12.out) (Kd.R_base ho0) hb); have n3_ := zm1 (Kd.R_elder' (by (with_reducible repeat (first | apply zr1 | apply zr2 | apply zr3)); exact HO_13.out) (Kd.R_base ho0) hb); have n4_ := zm1 (Kd.R_lower (Kd.R_new' (Kd.R_new' (Kd.R_new' (Kd.R_new' ho0 (Kd.R_lt (by (with_reducible repeat (first | apply zr1 | apply zr2 | apply zr3)); exact HO_8.out))) (Kd.R_lt (by (with_reducible repeat (first | apply zr1 | apply zr2 | apply zr3)); exact HO_9.out))) (Kd.R_lt (by (with_reducible repeat (first | apply zr1 | apply zr2 | apply zr3)); exact HO_12.out))) (Kd.R_lt (by (with_reducible repeat (first | apply zr1 | apply zr2 | apply zr3)); exact HO_13.out))) (zc5 (by repeat (first | (with_reducible first | exact HB.out | apply zc1 | apply zc2 | apply zc3) | exact HB.out)))); have n5_ := zm1 (zc6 (by repeat (first | (with_reducible first | exact HB.out | apply zc1 | apply zc2 | apply zc3) | exact HB.out)) hb); clear HO_8; clear HO_9; clear HO_12; clear HO_13; clear HB; have HO_8 := n0_; have HO_9 := n1_; have HO_12 := n2_; have HO_13 := n3_; have HO297 := n4_; have HB := n5_; clear n0_ n1_ n2_ n3_ n4_ n5_; (try clear hb); (try clear hb2); (try clear hk); (try clear hi); (try clear ho0); obtain ⟨Ao90, co90, eo90⟩ := Kd.R_slice HO297.out; subst eo90) | ((with_reducible refine gate_callee (f := 41) rfl ?_); refine goesL_ (some 111) rfl rfl Try.func41 (by kernel_rfl) rfl #[.slice Ao90 t295.length co90, .int .i64 a1, .int .i64 a2] rfl (by (try simp only [List.map_toArray, List.map_cons, List.map_nil]); first | done | rfl | (simp only [List.length_drop, List.length_take]; rfl)) ?_; (with_reducible refine (impl_CutPolygon.calls kj40 _ _ t295 a1 a2 t298 t299 t300 _ ?side1 ?side2 A83.out).mono ?_); (case side1 => repeat (first | exact (Kd.R_reads' HO297.out).2.2 | (with_reducible refine Kd.C_alloc ?_ _) | (with_reducible refine Kd.C_drewN ?_ _) | (with_reducible refine Kd.C_drew ?_))); (case side2 => exact (Kd.R_reads' HO297.out).2.1); rintro e w91 ⟨v301, v303, rfl, ho0, ho1, hb⟩; refine ⟨_, rfl, ?_⟩; have n0_ := zm1 (Kd.R_mono (Kd.R_told (Kd.R_told (Kd.R_old (by (with_reducible repeat (first | apply zr1 | apply zr2 | apply zr3)); exact HO_8.out) hb) (Kd.R_base ho0)) (Kd.R_base ho1)) (fun _ h_ => h_.1)); have n1_ := zm1 (Kd.R_mono (Kd.R_told (Kd.R_told (Kd.R_old (by (with_reducible repeat (first | apply zr1 | apply zr2 | apply zr3)); exact HO_9.out) hb) (Kd.R_base ho0)) (Kd.R_base ho1)) (fun _ h_ => h_.1)); have n2_ := zm1 (Kd.R_mono (Kd.R_told (Kd.R_told (Kd.R_old (by (with_reducible repeat (first | apply zr1 | apply zr2 | apply zr3)); exact HO_12.out) hb) (Kd.R_base ho0)) (Kd.R_base ho1)) (fun _ h_ => h_.1)); have n3_ := zm1 (Kd.R_mono (Kd.R_told (Kd.R_told (Kd.R_old (by (with_reducible repeat (first | apply zr1 | apply zr2 | apply zr3)); exact HO_13.out) hb) (Kd.R_base ho0)) (Kd.R_base ho1)) (fun _ h_ => h_.1)); have n4_ := zm1 (Kd.R_mono (Kd.R_told (Kd.R_told (Kd.R_old (by (with_reducible repeat (first | apply zr1 | apply zr2 | apply zr3)); exact HO297.out) hb) (Kd.R_base ho0)) (Kd.R_base ho1)) (fun _ h_ => h_.1)); have n5_ := zm1 (Kd.R_lower (Kd.R_new' (Kd.R_new' (Kd.R_new' (Kd.R_new' (Kd.R_new' ho0 (Kd.R_lt (by (with_reducible repeat (first | apply zr1 | apply zr2 | apply zr3)); exact HO_8.out))) (Kd.R_lt (by (with_reducible repeat (first | apply zr1 | apply zr2 | apply zr3)); exact HO_9.out))) (Kd.R_lt (by (with_reducible repeat (first | apply zr1 | apply zr2 | apply zr3)); exact HO_12.out))) (Kd.R_lt (by (with_reducible repeat (first | apply zr1 | apply zr2 | apply zr3)); exact HO_13.out))) (Kd.R_lt (by (with_reducible repeat (first | apply zr1 | apply zr2 | apply zr3)); exact HO297.out))) (zc5 (by repeat (first | (with_reducible first | exact HB.out | apply zc1 | apply zc2 | apply zc3) | exact HB.out)))); have n6_ := zm1 (Kd.R_lower (Kd.R_new' (Kd.R_new' (Kd.R_new' (Kd.R_new' (Kd.R_new' ho1 (Kd.R_lt (by (with_reducible repeat (first | apply zr1 | apply zr2 | apply zr3)); exact HO_8.out))) (Kd.R_lt (by (with_reducible repeat (first | apply zr1 | apply zr2 | apply zr3)); exact HO_9.out))) (Kd.R_lt (by (with_reducible repeat (first | apply zr1 | apply zr2 | apply zr3)); exact HO_12.out))) (Kd.R_lt (by (with_reducible repeat (first | apply zr1 | apply zr2 | apply zr3)); exact HO_13.out))) (Kd.R_lt (by (with_reducible repeat (first | apply zr1 | apply zr2 | apply zr3)); exact HO297.out))) (zc5 (by repeat (first | (with_reducible first | exact HB.out | apply zc1 | apply zc2 | apply zc3) | exact HB.out)))); have n7_ := zm1 (zc6 (by repeat (first | (with_reducible first | exact HB.out | apply zc1 | apply zc2 | apply zc3) | exact HB.out)) hb); clear HO_8; clear HO_9; clear HO_12; clear HO_13; clear HO297; clear HB; have HO_8 := n0_; have HO_9 := n1_; have HO_12 := n2_; have HO_13 := n3_; have HO297 := n4_; have HO302 := n5_; have HO304 := n6_; have HB := n7_; clear n0_ n1_ n2_ n3_ n4_ n5_ n6_ n7_; (try clear hb); (try clear hb2); (try clear hk); (try clear hi); (try clear ho0); (try clear ho1)))
            (try simp only [Act.put, zs1, zs2, zs3])
            go_cut [129] (fun v129 wc => ∃ (kq : Nat) (x129_83 : Bool), v129 = .bool x129_83 ∧ Aside0 (laws_FnExactCutPolygon.j2 kq t290 t292 t291 x129_83 = some r) ∧ Aside0 (kq ≤ kj40) ∧ Aside0 (Kd.R k65 65 wc w.heap.size (fun k_ => some k_ ≠ ((.slice Ao87 t273.length co87) : Value).ownBlock) (.slice Ao85 t272.length co85) t290) ∧ Aside0 (Kd.R k65 65 wc w.heap.size (fun k_ => some k_ ≠ ((.slice Ao85 t272.length co85) : Value).ownBlock) (.slice Ao87 t273.length co87) t292) ∧ Aside0 (Below w.heap.size w wc))
            case first =>
             have H := HC84.out
             clear HC84
             replace H := Option.bind_eq_some_iff.mp H
             obtain ⟨t305, A920, H⟩ := H
             replace H : (if t305 = true then ((laws_eqPointS.f kj40 t299 t263).bind fun t306 => (if t306 = true then (laws_FnExactCutPolygon.j2 kj40 t290 t292 t291 (t300 != t264)) else (laws_FnExactCutPolygon.j2 kj40 t290 t292 t291 true))) else (laws_FnExactCutPolygon.j2 kj40 t290 t292 t291 true)) = some r := H
             have A92 := zm1 A920
             clear A920
             by_cases c93 : t305 = true
             ·subst c93
              have H1 : ((laws_eqPointS.f kj40 t299 t263).bind fun t306 => (if t306 = true then (laws_FnExactCutPolygon.j2 kj40 t290 t292 t291 (t300 != t264)) else (laws_FnExactCutPolygon.j2 kj40 t290 t292 t291 true))) = some r := by rw [if_pos rfl] at H; exact H
              clear H
              have H := H1
              clear H1
              replace H := Option.bind_eq_some_iff.mp H
              obtain ⟨t306, A940, H⟩ := H
              replace H : (if t306 = true then (laws_FnExactCutPolygon.j2 kj40 t290 t292 t291 (t300 != t264)) else (laws_FnExactCutPolygon.j2 kj40 t290 t292 t291 true)) = some r := H
              have A94 := zm1 A940
              clear A940
              by_cases c95 : t306 = true
              ·subst c95
               have H1 : (laws_FnExactCutPolygon.j2 kj40 t290 t292 t291 (t300 != t264)) = some r := by rw [if_pos rfl] at H; exact H
               clear H
               have H := H1
               clear H1
               have H' := zm1 H
               clear H
               obtain ⟨Ao96, co96, eo96⟩ := Kd.R_slice HO302.out
               subst eo96
               obtain ⟨Ao97, co97, eo97⟩ := Kd.R_slice HO_8.out
               subst eo97
               go_wp2_with (first | ((with_reducible refine gate_callee (f := 23) rfl ?_); refine goesL_ (some 117) rfl rfl Try.func23 (by kernel_rfl) rfl #[.slice Ao96 t298.length co96, .slice Ao97 t262.length co97] rfl (by (try simp only [List.map_toArray, List.map_cons, List.map_nil]); first | done | rfl | (simp only [List.length_drop, List.length_take]; rfl)) ?_; (with_reducible refine (laws_eqPointS.calls kj40 _ _ t298 _ _ t262 true _ ?side1 ?side2 ?side3 ?side4 A92.out).mono ?_); (case side1 => repeat (first | exact (Kd.R_reads' HO302.out).2.2 | (with_reducible refine Kd.C_alloc ?_ _) | (with_reducible refine Kd.C_drewN ?_ _) | (with_reducible refine Kd.C_drew ?_))); (case side2 => exact (Kd.R_reads' HO302.out).2.1); (case side3 => repeat (first | exact (Kd.R_reads' HO_8.out).2.2 | (with_reducible refine Kd.C_alloc ?_ _) | (with_reducible refine Kd.C_drewN ?_ _) | (with_reducible refine Kd.C_drew ?_))); (case side4 => exact (Kd.R_reads' HO_8.out).2.1); rintro e w98 ⟨rfl, hb⟩; refine ⟨_, rfl, ?_⟩; have n0_ := zm1 (Kd.R_below (by (with_reducible repeat (first | apply zr1 | apply zr2 | apply zr3)); exact HO_8.out) hb); have n1_ := zm1 (Kd.R_below (by (with_reducible repeat (first | apply zr1 | apply zr2 | apply zr3)); exact HO_9.out) hb); have n2_ := zm1 (Kd.R_below (by (with_reducible repeat (first | apply zr1 | apply zr2 | apply zr3)); exact HO_12.out) hb); have n3_ := zm1 (Kd.R_below (by (with_reducible repeat (first | apply zr1 | apply zr2 | apply zr3)); exact HO_13.out) hb); have n4_ := zm1 (Kd.R_below (by (with_reducible repeat (first | apply zr1 | apply zr2 | apply zr3)); exact HO297.out) hb); have n5_ := zm1 (Kd.R_below (by (with_reducible repeat (first | apply zr1 | apply zr2 | apply zr3)); exact HO302.out) hb); have n6_ := zm1 (Kd.R_below (by (with_reducible repeat (first | apply zr1 | apply zr2 | apply zr3)); exact HO304.out) hb); have n7_ := zm1 (zc6 (by repeat (first | (with_reducible first | exact HB.out | apply zc1 | apply zc2 | apply zc3) | exact HB.out)) hb); clear HO_8; clear HO_9; clear HO_12; clear HO_13; clear HO297; clear HO302; clear HO304; clear HB; have HO_8 := n0_; have HO_9 := n1_; have HO_12 := n2_; have HO_13 := n3_; have HO297 := n4_; have HO302 := n5_; have HO304 := n6_; have HB := n7_; clear n0_ n1_ n2_ n3_ n4_ n5_ n6_ n7_; (try clear hb); (try clear hb2); (try clear hk); (try clear hi); obtain ⟨Ao99, co99, eo99⟩ := Kd.R_slice HO304.out; subst eo99; obtain ⟨Ao100, co100, eo100⟩ := Kd.R_slice HO_9.out; subst eo100) | (go_at_call 23; (with_reducible refine (laws_eqPointS.calls kj40 _ _ t299 _ _ t263 true _ ?side1 ?side2 ?side3 ?side4 A94.out).mono ?_); (case side1 => repeat (first | exact (Kd.R_reads' HO304.out).2.2 | (with_reducible refine Kd.C_alloc ?_ _) | (with_reducible refine Kd.C_drewN ?_ _) | (with_reducible refine Kd.C_drew ?_))); (case side2 => exact (Kd.R_reads' HO304.out).2.1); (case side3 => repeat (first | exact (Kd.R_reads' HO_9.out).2.2 | (with_reducible refine Kd.C_alloc ?_ _) | (with_reducible refine Kd.C_drewN ?_ _) | (with_reducible refine Kd.C_drew ?_))); (case side4 => exact (Kd.R_reads' HO_9.out).2.1); rintro e w101 ⟨rfl, hb⟩; have n0_ := zm1 (Kd.R_below (by (with_reducible repeat (first | apply zr1 | apply zr2 | apply zr3)); exact HO_8.out) hb); have n1_ := zm1 (Kd.R_below (by (with_reducible repeat (first | apply zr1 | apply zr2 | apply zr3)); exact HO_9.out) hb); have n2_ := zm1 (Kd.R_below (by (with_reducible repeat (first | apply zr1 | apply zr2 | apply zr3)); exact HO_12.out) hb); have n3_ := zm1 (Kd.R_below (by (with_reducible repeat (first | apply zr1 | apply zr2 | apply zr3)); exact HO_13.out) hb); have n4_ := zm1 (Kd.R_below (by (with_reducible repeat (first | apply zr1 | apply zr2 | apply zr3)); exact HO297.out) hb); have n5_ := zm1 (Kd.R_below (by (with_reducible repeat (first | apply zr1 | apply zr2 | apply zr3)); exact HO302.out) hb); have n6_ := zm1 (Kd.R_below (by (with_reducible repeat (first | apply zr1 | apply zr2 | apply zr3)); exact HO304.out) hb); have n7_ := zm1 (zc6 (by repeat (first | (with_reducible first | exact HB.out | apply zc1 | apply zc2 | apply zc3) | exact HB.out)) hb); clear HO_8; clear HO_9; clear HO_12; clear HO_13; clear HO297; clear HO302; clear HO304; clear HB; have HO_8 := n0_; have HO_9 := n1_; have HO_12 := n2_; have HO_13 := n3_; have HO297 := n4_; have HO302 := n5_; have HO304 := n6_; have HB := n7_; clear n0_ n1_ n2_ n3_ n4_ n5_ n6_ n7_; (try clear hb); (try clear hb2); (try clear hk); (try clear hi)))
               go_meet
               case rel => exact ⟨_, ((t300 != t264)), (by first | rfl | (simp; done) | (simp [*]; done)), H', ⟨by have := HJ9.out; have := HJ40.out; first | omega | exact Nat.le_refl _⟩, ⟨by (with_reducible repeat (first | apply zr1 | apply zr2 | apply zr3)); exact Kd.R_mono HO_12.out (fun _ hk => hk.1.1.1.2.2)⟩, ⟨by (with_reducible repeat (first | apply zr1 | apply zr2 | apply zr3)); exact Kd.R_mono HO_13.out (fun _ hk => hk.1.1.1.2.2)⟩, ⟨by repeat (first | (with_reducible first | exact HB.out | apply zc1 | apply zc2 | apply zc3) | exact HB.out)⟩⟩
              ·replace c95 := Bool.eq_false_iff.mpr c95
               subst c95
               have H1 : (laws_FnExactCutPolygon.j2 kj40 t290 t292 t291 true) = some r := by rw [if_neg (show ¬ (false = true) by decide)] at H; exact H
               clear H
               have H := H1
               clear H1
               have H' := zm1 H
               clear H
               obtain ⟨Ao102, co102, eo102⟩ := Kd.R_slice HO302.out
               subst eo102
               obtain ⟨Ao103, co103, eo103⟩ := Kd.R_slice HO_8.out
               subst eo103
               go_wp2_with (first | ((with_reducible refine gate_callee (f := 23) rfl ?_); refine goesL_ (some 117) rfl rfl Try.func23 (by kernel_rfl) rfl #[.slice Ao102 t298.length co102, .slice Ao103 t262.length co103] rfl (by (try simp only [List.map_toArray, List.map_cons, List.map_nil]); first | done | rfl | (simp only [List.length_drop, List.length_take]; rfl)) ?_; (with_reducible refine (laws_eqPointS.calls kj40 _ _ t298 _ _ t262 true _ ?side1 ?side2 ?side3 ?side4 A92.out).mono ?_); (case side1 => repeat (first | exact (Kd.R_reads' HO302.out).2.2 | (with_reducible refine Kd.C_alloc ?_ _) | (with_reducible refine Kd.C_drewN ?_ _) | (with_reducible refine Kd.C_drew ?_))); (case side2 => exact (Kd.R_reads' HO302.out).2.1); (case side3 => repeat (first | exact (Kd.R_reads' HO_8.out).2.2 | (with_reducible refine Kd.C_alloc ?_ _) | (with_reducible refine Kd.C_drewN ?_ _) | (with_reducible refine Kd.C_drew ?_))); (case side4 => exact (Kd.R_reads' HO_8.out).2.1); rintro e w104 ⟨rfl, hb⟩; refine ⟨_, rfl, ?_⟩; have n0_ := zm1 (Kd.R_below (by (with_reducible repeat (first | apply zr1 | apply zr2 | apply zr3)); exact HO_8.out) hb); have n1_ := zm1 (Kd.R_below (by (with_reducible repeat (first | apply zr1 | apply zr2 | apply zr3)); exact HO_9.out) hb); have n2_ := zm1 (Kd.R_below (by (with_reducible repeat (first | apply zr1 | apply zr2 | apply zr3)); exact HO_12.out) hb); have n3_ := zm1 (Kd.R_below (by (with_reducible repeat (first | apply zr1 | apply zr2 | apply zr3)); exact HO_13.out) hb); have n4_ := zm1 (Kd.R_below (by (with_reducible repeat (first | apply zr1 | apply zr2 | apply zr3)); exact HO297.out) hb); have n5_ := zm1 (Kd.R_below (by (with_reducible repeat (first | apply zr1 | apply zr2 | apply zr3)); exact HO302.out) hb); have n6_ := zm1 (Kd.R_below (by (with_reducible repeat (first | apply zr1 | apply zr2 | apply zr3)); exact HO304.out) hb); have n7_ := zm1 (zc6 (by repeat (first | (with_reducible first | exact HB.out | apply zc1 | apply zc2 | apply zc3) | exact HB.out)) hb); clear HO_8; clear HO_9; clear HO_12; clear HO_13; clear HO297; clear HO302; clear HO304; clear HB; have HO_8 := n0_; have HO_9 := n1_; have HO_12 := n2_; have HO_13 := n3_; have HO297 := n4_; have HO302 := n5_; have HO304 := n6_; have HB := n7_; clear n0_ n1_ n2_ n3_ n4_ n5_ n6_ n7_; (try clear hb); (try clear hb2); (try clear hk); (try clear hi); obtain ⟨Ao105, co105, eo105⟩ := Kd.R_slice HO304.out; subst eo105; obtain ⟨Ao106, co106, eo106⟩ := Kd.R_slice HO_9.out; subst eo106) | (go_at_call 23; (with_reducible refine (laws_eqPointS.calls kj40 _ _ t299 _ _ t263 false _ ?side1 ?side2 ?side3 ?side4 A94.out).mono ?_); (case side1 => repeat (first | exact (Kd.R_reads' HO304.out).2.2 | (with_reducible refine Kd.C_alloc ?_ _) | (with_reducible refine Kd.C_drewN ?_ _) | (with_reducible refine Kd.C_drew ?_))); (case side2 => exact (Kd.R_reads' HO304.out).2.1); (case side3 => repeat (first | exact (Kd.R_reads' HO_9.out).2.2 | (with_reducible refine Kd.C_alloc ?_ _) | (with_reducible refine Kd.C_drewN ?_ _) | (with_reducible refine Kd.C_drew ?_))); (case side4 => exact (Kd.R_reads' HO_9.out).2.1); rintro e w107 ⟨rfl, hb⟩; have n0_ := zm1 (Kd.R_below (by (with_reducible repeat (first | apply zr1 | apply zr2 | apply zr3)); exact HO_8.out) hb); have n1_ := zm1 (Kd.R_below (by (with_reducible repeat (first | apply zr1 | apply zr2 | apply zr3)); exact HO_9.out) hb); have n2_ := zm1 (Kd.R_below (by (with_reducible repeat (first | apply zr1 | apply zr2 | apply zr3)); exact HO_12.out) hb); have n3_ := zm1 (Kd.R_below (by (with_reducible repeat (first | apply zr1 | apply zr2 | apply zr3)); exact HO_13.out) hb); have n4_ := zm1 (Kd.R_below (by (with_reducible repeat (first | apply zr1 | apply zr2 | apply zr3)); exact HO297.out) hb); have n5_ := zm1 (Kd.R_below (by (with_reducible repeat (first | apply zr1 | apply zr2 | apply zr3)); exact HO302.out) hb); have n6_ := zm1 (Kd.R_below (by (with_reducible repeat (first | apply zr1 | apply zr2 | apply zr3)); exact HO304.out) hb); have n7_ := zm1 (zc6 (by repeat (first | (with_reducible first | exact HB.out | apply zc1 | apply zc2 | apply zc3) | exact HB.out)) hb); clear HO_8; clear HO_9; clear HO_12; clear HO_13; clear HO297; clear HO302; clear HO304; clear HB; have HO_8 := n0_; have HO_9 := n1_; have HO_12 := n2_; have HO_13 := n3_; have HO297 := n4_; have HO302 := n5_; have HO304 := n6_; have HB := n7_; clear n0_ n1_ n2_ n3_ n4_ n5_ n6_ n7_; (try clear hb); (try clear hb2); (try clear hk); (try clear hi)))
               go_meet
               case rel => exact ⟨_, (true), (by first | rfl | (simp; done) | (simp [*]; done)), H', ⟨by have := HJ9.out; have := HJ40.out; first | omega | exact Nat.le_refl _⟩, ⟨by (with_reducible repeat (first | apply zr1 | apply zr2 | apply zr3)); exact Kd.R_mono HO_12.out (fun _ hk => hk.1.1.1.2.2)⟩, ⟨by (with_reducible repeat (first | apply zr1 | apply zr2 | apply zr3)); exact Kd.R_mono HO_13.out (fun _ hk => hk.1.1.1.2.2)⟩, ⟨by repeat (first | (with_reducible first | exact HB.out | apply zc1 | apply zc2 | apply zc3) | exact HB.out)⟩⟩
             ·replace c93 := Bool.eq_false_iff.mpr c93
              subst c93
              have H1 : (laws_FnExactCutPolygon.j2 kj40 t290 t292 t291 true) = some r := by rw [if_neg (show ¬ (false = true) by decide)] at H; exact H
              clear H
              have H := H1
              clear H1
              have H' := zm1 H
              clear H
              obtain ⟨Ao108, co108, eo108⟩ := Kd.R_slice HO302.out
              subst eo108
              obtain ⟨Ao109, co109, eo109⟩ := Kd.R_slice HO_8.out
              subst eo109
              go_wp2_with (first | ((with_reducible refine gate_callee (f := 23) rfl ?_); refine goesL_ (some 117) rfl rfl Try.func23 (by kernel_rfl) rfl #[.slice Ao108 t298.length co108, .slice Ao109 t262.length co109] rfl (by (try simp only [List.map_toArray, List.map_cons, List.map_nil]); first | done | rfl | (simp only [List.length_drop, List.length_take]; rfl)) ?_; (with_reducible refine (laws_eqPointS.calls kj40 _ _ t298 _ _ t262 false _ ?side1 ?side2 ?side3 ?side4 A92.out).mono ?_); (case side1 => repeat (first | exact (Kd.R_reads' HO302.out).2.2 | (with_reducible refine Kd.C_alloc ?_ _) | (with_reducible refine Kd.C_drewN ?_ _) | (with_reducible refine Kd.C_drew ?_))); (case side2 => exact (Kd.R_reads' HO302.out).2.1); (case side3 => repeat (first | exact (Kd.R_reads' HO_8.out).2.2 | (with_reducible refine Kd.C_alloc ?_ _) | (with_reducible refine Kd.C_drewN ?_ _) | (with_reducible refine Kd.C_drew ?_))); (case side4 => exact (Kd.R_reads' HO_8.out).2.1); rintro e w110 ⟨rfl, hb⟩; refine ⟨_, rfl, ?_⟩; have n0_ := zm1 (Kd.R_below (by (with_reducible repeat (first | apply zr1 | apply zr2 | apply zr3)); exact HO_8.out) hb); have n1_ := zm1 (Kd.R_below (by (with_reducible repeat (first | apply zr1 | apply zr2 | apply zr3)); exact HO_9.out) hb); have n2_ := zm1 (Kd.R_below (by (with_reducible repeat (first | apply zr1 | apply zr2 | apply zr3)); exact HO_12.out) hb); have n3_ := zm1 (Kd.R_below (by (with_reducible repeat (first | apply zr1 | apply zr2 | apply zr3)); exact HO_13.out) hb); have n4_ := zm1 (Kd.R_below (by (with_reducible repeat (first | apply zr1 | apply zr2 | apply zr3)); exact HO297.out) hb); have n5_ := zm1 (Kd.R_below (by (with_reducible repeat (first | apply zr1 | apply zr2 | apply zr3)); exact HO302.out) hb); have n6_ := zm1 (Kd.R_below (by (with_reducible repeat (first | apply zr1 | apply zr2 | apply zr3)); exact HO304.out) hb); have n7_ := zm1 (zc6 (by repeat (first | (with_reducible first | exact HB.out | apply zc1 | apply zc2 | apply zc3) | exact HB.out)) hb); clear HO_8; clear HO_9; clear HO_12; clear HO_13; clear HO297; clear HO302; clear HO304; clear HB; have HO_8 := n0_; have HO_9 := n1_; have HO_12 := n2_; have HO_13 := n3_; have HO297 := n4_; have HO302 := n5_; have HO304 := n6_; have HB := n7_; clear n0_ n1_ n2_ n3_ n4_ n5_ n6_ n7_; (try clear hb); (try clear hb2); (try clear hk); (try clear hi)))
              go_meet
              case rel => exact ⟨_, (true), (by first | rfl | (simp; done) | (simp [*]; done)), H', ⟨by have := HJ9.out; have := HJ40.out; first | omega | exact Nat.le_refl _⟩, ⟨by (with_reducible repeat (first | apply zr1 | apply zr2 | apply zr3)); exact Kd.R_mono HO_12.out (fun _ hk => hk.1.1.1.2.2)⟩, ⟨by (with_reducible repeat (first | apply zr1 | apply zr2 | apply zr3)); exact Kd.R_mono HO_13.out (fun _ hk => hk.1.1.1.2.2)⟩, ⟨by repeat (first | (with_reducible first | exact HB.out | apply zc1 | apply zc2 | apply zc3) | exact HB.out)⟩⟩
            case rest =>
             clear HC84
             try clear c1
             try clear c2
             try clear p2
             try clear c3
             try clear c4
             try clear c5
             try clear c5b0
             try clear c6
             try clear c7
             try clear c8
             try clear c9
             try clear c18
             try clear c20
             try clear c23
             try clear c24
             try clear c36
             try clear c39
             try clear c40
             try clear c41
             try clear c42
             try clear c46
             try clear c46b0
             try clear c48
             try clear c50
             try clear c66
             try clear c70
             try clear c70b0
             try clear c76
             try clear c76b0
             try clear c81
             try clear c81b0
             try clear c81b1
             try clear c93
             try clear c95
             try clear p2
             obtain ⟨kq, x129_83, rfl, HA, HJ83, HO_12, HO_13, HB⟩ := hcut
             have hl12_83 := (Kd.R_reads' HO_12.out).1
             rw [hl12_83] at HO_12
             (try simp only [hl12_83])
             (try simp only [hl12_83] at HO_13)
             have hl13_83 := (Kd.R_reads' HO_13.out).1
             rw [hl13_83] at HO_13
             (try simp only [hl13_83])
             (try simp only [hl13_83] at HO_12)
             cases kq with
             | zero => exact absurd HA.out (by simp [laws_FnExactCutPolygon.j2])
             | succ kj83 =>
              have H := HA.out
              clear HA
              simp only [laws_FnExactCutPolygon.j2] at H
              by_cases c111 : x129_83 = true
              ·subst c111
               have H1 : (some false) = some r := by rw [if_pos rfl] at H; exact H
               clear H
               have H := H1
               clear H1
               obtain rfl := Option.some.inj H
               go_wp2
               go_ret
               exact ⟨by first | rfl | (simp [errW_none, errW_some] <;> rfl) | (simp [*, errW_none, errW_some] <;> rfl), by repeat (first | (with_reducible first | exact HB.out | apply zc1 | apply zc2 | apply zc3) | exact HB.out)⟩
              ·replace c111 := Bool.eq_false_iff.mpr c111
               subst c111
               have H1 : ((laws_heldPointS.f kj83 t290 1).bind fun t307 => (if t307 < 0 then (some false) else ((laws_heldPointS.f kj83 t292 t307).bind fun t308 => (if t308 < 0 then (some false) else (if t308 = t291 then (some true) else (some false)))))) = some r := by rw [if_neg (show ¬ (false = true) by decide)] at H; exact H
               clear H
               have H := H1
               clear H1
               replace H := Option.bind_eq_some_iff.mp H
               obtain ⟨t307, A1120, H⟩ := H
               replace H : (if t307 < 0 then (some false) else ((laws_heldPointS.f kj83 t292 t307).bind fun t308 => (if t308 < 0 then (some false) else (if t308 = t291 then (some true) else (some false))))) = some r := H
               have A112 := zm1 A1120
               clear A1120
               by_cases c113 : t307 < 0
               ·rw [if_pos c113] at H
                have c113b0 : decide (t307 < 0) = true := decide_eq_true c113
                clear c113
                obtain rfl := Option.some.inj H
                go_wp2_with (first | ((with_reducible refine gate_callee (f := 42) rfl ?_); refine goesL_ (some 132) rfl rfl Try.func42 (by kernel_rfl) rfl #[.slice Ao85 t290.length co85, .int .i64 1] rfl (by (try simp only [List.map_toArray, List.map_cons, List.map_nil]); first | done | rfl | (simp only [List.length_drop, List.length_take]; rfl)) ?_; (with_reducible refine (laws_heldPointS.calls kj83 _ _ t290 1 t307 _ ?side1 ?side2 A112.out).mono ?_); (case side1 => repeat (first | exact (Kd.R_reads' HO_12.out).2.2 | (with_reducible refine Kd.C_alloc ?_ _) | (with_reducible refine Kd.C_drewN ?_ _) | (with_reducible refine Kd.C_drew ?_))); (case side2 => exact (Kd.R_reads' HO_12.out).2.1); rintro e w' ⟨rfl, ⟨nd, rfl⟩⟩; refine ⟨_, rfl, ?_⟩))
                go_ret
                exact ⟨by first | rfl | (simp [errW_none, errW_some] <;> rfl) | (simp [*, errW_none, errW_some] <;> rfl), by repeat (first | (with_reducible first | exact HB.out | apply zc1 | apply zc2 | apply zc3) | exact HB.out)⟩
               ·rw [if_neg c113] at H
                have c113b0 : decide (t307 < 0) = false := decide_eq_false c113
                clear c113
                replace H := Option.bind_eq_some_iff.mp H
                obtain ⟨t308, A1140, H⟩ := H
                replace H : (if t308 < 0 then (some false) else (if t308 = t291 then (some true) else (some false))) = some r := H
                have A114 := zm1 A1140
                clear A1140
                by_cases c115 : t308 < 0
                ·rw [if_pos c115] at H
                 have c115b0 : decide (t308 < 0) = true := decide_eq_true c115
                 clear c115
                 obtain rfl := Option.some.inj H
                 go_wp2_with (first | ((with_reducible refine gate_callee (f := 42) rfl ?_); refine goesL_ (some 132) rfl rfl Try.func42 (by kernel_rfl) rfl #[.slice Ao85 t290.length co85, .int .i64 1] rfl (by (try simp only [List.map_toArray, List.map_cons, List.map_nil]); first | done | rfl | (simp only [List.length_drop, List.length_take]; rfl)) ?_; (with_reducible refine (laws_heldPointS.calls kj83 _ _ t290 1 t307 _ ?side1 ?side2 A112.out).mono ?_); (case side1 => repeat (first | exact (Kd.R_reads' HO_12.out).2.2 | (with_reducible refine Kd.C_alloc ?_ _) | (with_reducible refine Kd.C_drewN ?_ _) | (with_reducible refine Kd.C_drew ?_))); (case side2 => exact (Kd.R_reads' HO_12.out).2.1); rintro e w' ⟨rfl, ⟨nd, rfl⟩⟩; refine ⟨_, rfl, ?_⟩) | ((with_reducible refine gate_callee (f := 42) rfl ?_); refine goesL_ (some 137) rfl rfl Try.func42 (by kernel_rfl) rfl #[.slice Ao87 t292.length co87, .int .i64 t307] rfl (by (try simp only [List.map_toArray, List.map_cons, List.map_nil]); first | done | rfl | (simp only [List.length_drop, List.length_take]; rfl)) ?_; (with_reducible refine (laws_heldPointS.calls kj83 _ _ t292 t307 t308 _ ?side1 ?side2 A114.out).mono ?_); (case side1 => repeat (first | exact (Kd.R_reads' HO_13.out).2.2 | (with_reducible refine Kd.C_alloc ?_ _) | (with_reducible refine Kd.C_drewN ?_ _) | (with_reducible refine Kd.C_drew ?_))); (case side2 => exact (Kd.R_reads' HO_13.out).2.1); rintro e w' ⟨rfl, ⟨nd, rfl⟩⟩; refine ⟨_, rfl, ?_⟩))
                 go_ret
                 exact ⟨by first | rfl | (simp [errW_none, errW_some] <;> rfl) | (simp [*, errW_none, errW_some] <;> rfl), by repeat (first | (with_reducible first | exact HB.out | apply zc1 | apply zc2 | apply zc3) | exact HB.out)⟩
                ·rw [if_neg c115] at H
                 have c115b0 : decide (t308 < 0) = false := decide_eq_false c115
                 clear c115
                 by_cases c116 : t308 = t291
                 ·rw [if_pos c116] at H
                  have c116b0 : (t308 == t291) = true := beq_iff_eq.mpr c116
                  have c116b1 : (t308 != t291) = false := bne_eq_false_iff_eq.mpr c116
                  clear c116
                  obtain rfl := Option.some.inj H
                  go_wp2_with (first | ((with_reducible refine gate_callee (f := 42) rfl ?_); refine goesL_ (some 132) rfl rfl Try.func42 (by kernel_rfl) rfl #[.slice Ao85 t290.length co85, .int .i64 1] rfl (by (try simp only [List.map_toArray, List.map_cons, List.map_nil]); first | done | rfl | (simp only [List.length_drop, List.length_take]; rfl)) ?_; (with_reducible refine (laws_heldPointS.calls kj83 _ _ t290 1 t307 _ ?side1 ?side2 A112.out).mono ?_); (case side1 => repeat (first | exact (Kd.R_reads' HO_12.out).2.2 | (with_reducible refine Kd.C_alloc ?_ _) | (with_reducible refine Kd.C_drewN ?_ _) | (with_reducible refine Kd.C_drew ?_))); (case side2 => exact (Kd.R_reads' HO_12.out).2.1); rintro e w' ⟨rfl, ⟨nd, rfl⟩⟩; refine ⟨_, rfl, ?_⟩) | ((with_reducible refine gate_callee (f := 42) rfl ?_); refine goesL_ (some 137) rfl rfl Try.func42 (by kernel_rfl) rfl #[.slice Ao87 t292.length co87, .int .i64 t307] rfl (by (try simp only [List.map_toArray, List.map_cons, List.map_nil]); first | done | rfl | (simp only [List.length_drop, List.length_take]; rfl)) ?_; (with_reducible refine (laws_heldPointS.calls kj83 _ _ t292 t307 t308 _ ?side1 ?side2 A114.out).mono ?_); (case side1 => repeat (first | exact (Kd.R_reads' HO_13.out).2.2 | (with_reducible refine Kd.C_alloc ?_ _) | (with_reducible refine Kd.C_drewN ?_ _) | (with_reducible refine Kd.C_drew ?_))); (case side2 => exact (Kd.R_reads' HO_13.out).2.1); rintro e w' ⟨rfl, ⟨nd, rfl⟩⟩; refine ⟨_, rfl, ?_⟩))
                  go_ret
                  exact ⟨by first | rfl | (simp [errW_none, errW_some] <;> rfl) | (simp [*, errW_none, errW_some] <;> rfl), by repeat (first | (with_reducible first | exact HB.out | apply zc1 | apply zc2 | apply zc3) | exact HB.out)⟩
                 ·rw [if_neg c116] at H
                  have c116b0 : (t308 == t291) = false := beq_eq_false_iff_ne.mpr c116
                  have c116b1 : (t308 != t291) = true := bne_iff_ne.mpr c116
                  obtain rfl := Option.some.inj H
                  go_wp2_with (first | ((with_reducible refine gate_callee (f := 42) rfl ?_); refine goesL_ (some 132) rfl rfl Try.func42 (by kernel_rfl) rfl #[.slice Ao85 t290.length co85, .int .i64 1] rfl (by (try simp only [List.map_toArray, List.map_cons, List.map_nil]); first | done | rfl | (simp only [List.length_drop, List.length_take]; rfl)) ?_; (with_reducible refine (laws_heldPointS.calls kj83 _ _ t290 1 t307 _ ?side1 ?side2 A112.out).mono ?_); (case side1 => repeat (first | exact (Kd.R_reads' HO_12.out).2.2 | (with_reducible refine Kd.C_alloc ?_ _) | (with_reducible refine Kd.C_drewN ?_ _) | (with_reducible refine Kd.C_drew ?_))); (case side2 => exact (Kd.R_reads' HO_12.out).2.1); rintro e w' ⟨rfl, ⟨nd, rfl⟩⟩; refine ⟨_, rfl, ?_⟩) | ((with_reducible refine gate_callee (f := 42) rfl ?_); refine goesL_ (some 137) rfl rfl Try.func42 (by kernel_rfl) rfl #[.slice Ao87 t292.length co87, .int .i64 t307] rfl (by (try simp only [List.map_toArray, List.map_cons, List.map_nil]); first | done | rfl | (simp only [List.length_drop, List.length_take]; rfl)) ?_; (with_reducible refine (laws_heldPointS.calls kj83 _ _ t292 t307 t308 _ ?side1 ?side2 A114.out).mono ?_); (case side1 => repeat (first | exact (Kd.R_reads' HO_13.out).2.2 | (with_reducible refine Kd.C_alloc ?_ _) | (with_reducible refine Kd.C_drewN ?_ _) | (with_reducible refine Kd.C_drew ?_))); (case side2 => exact (Kd.R_reads' HO_13.out).2.1); rintro e w' ⟨rfl, ⟨nd, rfl⟩⟩; refine ⟨_, rfl, ?_⟩))
                  go_ret
                  exact ⟨by first | rfl | (simp [errW_none, errW_some] <;> rfl) | (simp [*, errW_none, errW_some] <;> rfl), by repeat (first | (with_reducible first | exact HB.out | apply zc1 | apply zc2 | apply zc3) | exact HB.out)⟩
           ·rw [if_neg c81] at H
            have c81b0 : (t294 == t291) = false := beq_eq_false_iff_ne.mpr c81
            have c81b1 : (t294 != t291) = true := bne_iff_ne.mpr c81
            obtain rfl := Option.some.inj H
            obtain ⟨Ao117, co117, eo117⟩ := Kd.R_slice HO_12.out
            subst eo117
            go_wp2_with (first | ((with_reducible refine gate_callee (f := 24) rfl ?_); refine goesL_ (some 89) rfl rfl Try.func24 (by kernel_rfl) rfl #[.slice Ao117 t272.length co117, .int .i64 1] rfl (by (try simp only [List.map_toArray, List.map_cons, List.map_nil]); first | done | rfl | (simp only [List.length_drop, List.length_take]; rfl)) ?_; (with_reducible refine (laws_markPointS.calls kj40 (fun k_ => some k_ = (.slice Ao117 t272.length co117 : Value).ownBlock) (.slice Ao117 t272.length co117) t272 1 t289 t290 w _ ?side1 ?side2 A67.out).mono ?_); (case side1 => repeat (first | (with_reducible first | exact HB.out | apply zc1 | apply zc2 | apply zc3) | exact HB.out)); (case side2 => exact Kd.R_tight rfl HO_12.out); rintro e w118 ⟨rfl, hy0, hb, hkp⟩; refine ⟨_, rfl, ?_⟩; have n0_ := zm1 (Kd.R_mono (ok' := fun k_ => some k_ ≠ (v267 : Value).ownBlock ∧ some k_ ≠ (.slice Ao117 t272.length co117 : Value).ownBlock ∧ some k_ ≠ (v277 : Value).ownBlock) (Kd.R_keptB (HO_8.out) hkp (fun k_ hk_ hs_ => (hk_.2.1) hs_)) (fun k_ hk_ => ⟨hk_.1.1, hk_.1.2.1, hk_.1.2.2⟩)); have n1_ := zm1 (Kd.R_mono (ok' := fun k_ => some k_ ≠ (v265 : Value).ownBlock ∧ some k_ ≠ (.slice Ao117 t272.length co117 : Value).ownBlock ∧ some k_ ≠ (v277 : Value).ownBlock) (Kd.R_keptB (HO_9.out) hkp (fun k_ hk_ hs_ => (hk_.2.1) hs_)) (fun k_ hk_ => ⟨hk_.1.1, hk_.1.2.1, hk_.1.2.2⟩)); have n2_ := zm1 (Kd.R_reok rfl hy0 (fun k_ e_ => HO_12.out.1 k_ e_)); have n3_ := zm1 (Kd.R_mono (ok' := fun k_ => some k_ ≠ (v265 : Value).ownBlock ∧ some k_ ≠ (v267 : Value).ownBlock ∧ some k_ ≠ (.slice Ao117 t272.length co117 : Value).ownBlock) (Kd.R_keptB (HO_13.out) hkp (fun k_ hk_ hs_ => (hk_.2.2) hs_)) (fun k_ hk_ => ⟨hk_.1.1, hk_.1.2.1, hk_.1.2.2⟩)); have n4_ := zm1 (hb); clear HO_8; clear HO_9; clear HO_12; clear HO_13; clear HB; have HO_8 := n0_; have HO_9 := n1_; have HO_12 := n2_; have HO_13 := n3_; have HB := n4_; clear n0_ n1_ n2_ n3_ n4_; (try clear hb); (try clear hkp); (try clear hy0); obtain ⟨Ao119, co119, eo119⟩ := Kd.R_slice HO_13.out; subst eo119) | ((with_reducible refine gate_callee (f := 24) rfl ?_); refine goesL_ (some 92) rfl rfl Try.func24 (by kernel_rfl) rfl #[.slice Ao119 t273.length co119, .int .i64 t289] rfl (by (try simp only [List.map_toArray, List.map_cons, List.map_nil]); first | done | rfl | (simp only [List.length_drop, List.length_take]; rfl)) ?_; (with_reducible refine (laws_markPointS.calls kj40 (fun k_ => some k_ = (.slice Ao119 t273.length co119 : Value).ownBlock) (.slice Ao119 t273.length co119) t273 t289 t291 t292 w _ ?side1 ?side2 A68.out).mono ?_); (case side1 => repeat (first | (with_reducible first | exact HB.out | apply zc1 | apply zc2 | apply zc3) | exact HB.out)); (case side2 => exact Kd.R_tight rfl HO_13.out); rintro e w120 ⟨rfl, hy0, hb, hkp⟩; refine ⟨_, rfl, ?_⟩; have n0_ := zm1 (Kd.R_mono (ok' := fun k_ => some k_ ≠ (v267 : Value).ownBlock ∧ some k_ ≠ (.slice Ao117 t272.length co117 : Value).ownBlock ∧ some k_ ≠ (.slice Ao119 t273.length co119 : Value).ownBlock) (Kd.R_keptB (HO_8.out) hkp (fun k_ hk_ hs_ => (hk_.2.2) hs_)) (fun k_ hk_ => ⟨hk_.1.1, hk_.1.2.1, hk_.1.2.2⟩)); have n1_ := zm1 (Kd.R_mono (ok' := fun k_ => some k_ ≠ (v265 : Value).ownBlock ∧ some k_ ≠ (.slice Ao117 t272.length co117 : Value).ownBlock ∧ some k_ ≠ (.slice Ao119 t273.length co119 : Value).ownBlock) (Kd.R_keptB (HO_9.out) hkp (fun k_ hk_ hs_ => (hk_.2.2) hs_)) (fun k_ hk_ => ⟨hk_.1.1, hk_.1.2.1, hk_.1.2.2⟩)); have n2_ := zm1 (Kd.R_mono (ok' := fun k_ => some k_ ≠ (v265 : Value).ownBlock ∧ some k_ ≠ (v267 : Value).ownBlock ∧ some k_ ≠ (.slice Ao119 t273.length co119 : Value).ownBlock) (Kd.R_keptB (HO_12.out) hkp (fun k_ hk_ hs_ => (hk_.2.2) hs_)) (fun k_ hk_ => ⟨hk_.1.1, hk_.1.2.1, hk_.1.2.2⟩)); have n3_ := zm1 (Kd.R_reok rfl hy0 (fun k_ e_ => HO_13.out.1 k_ e_)); have n4_ := zm1 (hb); clear HO_8; clear HO_9; clear HO_12; clear HO_13; clear HB; have HO_8 := n0_; have HO_9 := n1_; have HO_12 := n2_; have HO_13 := n3_; have HB := n4_; clear n0_ n1_ n2_ n3_ n4_; (try clear hb); (try clear hkp); (try clear hy0)) | ((with_reducible refine gate_callee (f := 42) rfl ?_); refine goesL_ (some 95) rfl rfl Try.func42 (by kernel_rfl) rfl #[.slice Ao117 t290.length co117, .int .i64 1] rfl (by (try simp only [List.map_toArray, List.map_cons, List.map_nil]); first | done | (rw [show t290.length = t272.length from (Kd.R_reads' HO_12.out).1.symm] <;> rfl) | rfl | (simp only [List.length_drop, List.length_take]; rfl)) ?_; (with_reducible refine (laws_heldPointS.calls kj40 _ _ t290 1 t293 _ ?side1 ?side2 A69.out).mono ?_); (case side1 => repeat (first | exact (Kd.R_reads' HO_12.out).2.2 | (with_reducible refine Kd.C_alloc ?_ _) | (with_reducible refine Kd.C_drewN ?_ _) | (with_reducible refine Kd.C_drew ?_))); (case side2 => rw [show t290.length = t272.length from (Kd.R_reads' HO_12.out).1.symm]; exact (Kd.R_reads' HO_12.out).2.1); rintro e w' ⟨rfl, ⟨nd, rfl⟩⟩; refine ⟨_, rfl, ?_⟩) | ((with_reducible refine gate_callee (f := 42) rfl ?_); refine goesL_ (some 100) rfl rfl Try.func42 (by kernel_rfl) rfl #[.slice Ao119 t292.length co119, .int .i64 t293] rfl (by (try simp only [List.map_toArray, List.map_cons, List.map_nil]); first | done | (rw [show t292.length = t273.length from (Kd.R_reads' HO_13.out).1.symm] <;> rfl) | rfl | (simp only [List.length_drop, List.length_take]; rfl)) ?_; (with_reducible refine (laws_heldPointS.calls kj40 _ _ t292 t293 t294 _ ?side1 ?side2 A75.out).mono ?_); (case side1 => repeat (first | exact (Kd.R_reads' HO_13.out).2.2 | (with_reducible refine Kd.C_alloc ?_ _) | (with_reducible refine Kd.C_drewN ?_ _) | (with_reducible refine Kd.C_drew ?_))); (case side2 => rw [show t292.length = t273.length from (Kd.R_reads' HO_13.out).1.symm]; exact (Kd.R_reads' HO_13.out).2.1); rintro e w' ⟨rfl, ⟨nd, rfl⟩⟩; refine ⟨_, rfl, ?_⟩))
            go_ret
            exact ⟨by first | rfl | (simp [errW_none, errW_some] <;> rfl) | (simp [*, errW_none, errW_some] <;> rfl), by repeat (first | (with_reducible first | exact HB.out | apply zc1 | apply zc2 | apply zc3) | exact HB.out)⟩
     ·replace c39 := Bool.eq_false_iff.mpr c39
      subst c39
      have H1 : (some false) = some r := by rw [if_neg (show ¬ (false = true) by decide)] at H; exact H
      clear H
      have H := H1
      clear H1
      obtain rfl := Option.some.inj H
      go_wp2_with (first | ((with_reducible refine gate_callee (f := 20) rfl ?_); refine goesL_ (some 62) rfl rfl Try.func20 (by kernel_rfl) rfl #[.slice A0 l0.length c0] rfl (by (try simp only [List.map_toArray, List.map_cons, List.map_nil]); first | done | rfl | (simp only [List.length_drop, List.length_take]; rfl)) ?_; (with_reducible refine (laws_toPointS.calls kj9 _ _ l0 t281 _ ?side1 ?side2 A37.out).mono ?_); (case side1 => repeat (first | exact (Kd.C_below HR0.out HB.out) | (with_reducible refine Kd.C_alloc ?_ _) | (with_reducible refine Kd.C_drewN ?_ _) | (with_reducible refine Kd.C_drew ?_))); (case side2 => exact HC0.out); rintro e w121 ⟨v282, rfl, ho0, hb⟩; refine ⟨_, rfl, ?_⟩; have n0_ := zm1 (Kd.R_elder' (by (with_reducible repeat (first | apply zr1 | apply zr2 | apply zr3)); exact HO_8.out) (Kd.R_base ho0) hb); have n1_ := zm1 (Kd.R_elder' (by (with_reducible repeat (first | apply zr1 | apply zr2 | apply zr3)); exact HO_9.out) (Kd.R_base ho0) hb); have n2_ := zm1 (Kd.R_elder' (by (with_reducible repeat (first | apply zr1 | apply zr2 | apply zr3)); exact HO_11.out) (Kd.R_base ho0) hb); have n3_ := zm1 (Kd.R_elder' (by (with_reducible repeat (first | apply zr1 | apply zr2 | apply zr3)); exact HO_12.out) (Kd.R_base ho0) hb); have n4_ := zm1 (Kd.R_elder' (by (with_reducible repeat (first | apply zr1 | apply zr2 | apply zr3)); exact HO_13.out) (Kd.R_base ho0) hb); have n5_ := zm1 (Kd.R_lower (Kd.R_new' (Kd.R_new' (Kd.R_new' (Kd.R_new' (Kd.R_new' ho0 (Kd.R_lt (by (with_reducible repeat (first | apply zr1 | apply zr2 | apply zr3)); exact HO_8.out))) (Kd.R_lt (by (with_reducible repeat (first | apply zr1 | apply zr2 | apply zr3)); exact HO_9.out))) (Kd.R_lt (by (with_reducible repeat (first | apply zr1 | apply zr2 | apply zr3)); exact HO_11.out))) (Kd.R_lt (by (with_reducible repeat (first | apply zr1 | apply zr2 | apply zr3)); exact HO_12.out))) (Kd.R_lt (by (with_reducible repeat (first | apply zr1 | apply zr2 | apply zr3)); exact HO_13.out))) (zc5 (by repeat (first | (with_reducible first | exact HB.out | apply zc1 | apply zc2 | apply zc3) | exact HB.out)))); have n6_ := zm1 (zc6 (by repeat (first | (with_reducible first | exact HB.out | apply zc1 | apply zc2 | apply zc3) | exact HB.out)) hb); clear HO_8; clear HO_9; clear HO_11; clear HO_12; clear HO_13; clear HB; have HO_8 := n0_; have HO_9 := n1_; have HO_11 := n2_; have HO_12 := n3_; have HO_13 := n4_; have HO283 := n5_; have HB := n6_; clear n0_ n1_ n2_ n3_ n4_ n5_ n6_; (try clear hb); (try clear hb2); (try clear hk); (try clear hi); (try clear ho0); obtain ⟨Ao122, co122, eo122⟩ := Kd.R_slice HO283.out; subst eo122) | ((with_reducible refine gate_callee (f := 23) rfl ?_); refine goesL_ (some 63) rfl rfl Try.func23 (by kernel_rfl) rfl #[.slice Ao15 t269.length co15, .slice Ao122 t281.length co122] rfl (by (try simp only [List.map_toArray, List.map_cons, List.map_nil]); first | done | rfl | (simp only [List.length_drop, List.length_take]; rfl)) ?_; (with_reducible refine (laws_eqPointS.calls kj9 _ _ t269 _ _ t281 false _ ?side1 ?side2 ?side3 ?side4 A38.out).mono ?_); (case side1 => repeat (first | exact (Kd.R_reads' HO_11.out).2.2 | (with_reducible refine Kd.C_alloc ?_ _) | (with_reducible refine Kd.C_drewN ?_ _) | (with_reducible refine Kd.C_drew ?_))); (case side2 => exact (Kd.R_reads' HO_11.out).2.1); (case side3 => repeat (first | exact (Kd.R_reads' HO283.out).2.2 | (with_reducible refine Kd.C_alloc ?_ _) | (with_reducible refine Kd.C_drewN ?_ _) | (with_reducible refine Kd.C_drew ?_))); (case side4 => exact (Kd.R_reads' HO283.out).2.1); rintro e w123 ⟨rfl, hb⟩; refine ⟨_, rfl, ?_⟩; have n0_ := zm1 (Kd.R_below (by (with_reducible repeat (first | apply zr1 | apply zr2 | apply zr3)); exact HO_8.out) hb); have n1_ := zm1 (Kd.R_below (by (with_reducible repeat (first | apply zr1 | apply zr2 | apply zr3)); exact HO_9.out) hb); have n2_ := zm1 (Kd.R_below (by (with_reducible repeat (first | apply zr1 | apply zr2 | apply zr3)); exact HO_11.out) hb); have n3_ := zm1 (Kd.R_below (by (with_reducible repeat (first | apply zr1 | apply zr2 | apply zr3)); exact HO_12.out) hb); have n4_ := zm1 (Kd.R_below (by (with_reducible repeat (first | apply zr1 | apply zr2 | apply zr3)); exact HO_13.out) hb); have n5_ := zm1 (Kd.R_below (by (with_reducible repeat (first | apply zr1 | apply zr2 | apply zr3)); exact HO283.out) hb); have n6_ := zm1 (zc6 (by repeat (first | (with_reducible first | exact HB.out | apply zc1 | apply zc2 | apply zc3) | exact HB.out)) hb); clear HO_8; clear HO_9; clear HO_11; clear HO_12; clear HO_13; clear HO283; clear HB; have HO_8 := n0_; have HO_9 := n1_; have HO_11 := n2_; have HO_12 := n3_; have HO_13 := n4_; have HO283 := n5_; have HB := n6_; clear n0_ n1_ n2_ n3_ n4_ n5_ n6_; (try clear hb); (try clear hb2); (try clear hk); (try clear hi)))
      go_ret
      exact ⟨by first | rfl | (simp [errW_none, errW_some] <;> rfl) | (simp [*, errW_none, errW_some] <;> rfl), by repeat (first | (with_reducible first | exact HB.out | apply zc1 | apply zc2 | apply zc3) | exact HB.out)⟩

end Go.Proofs.Yteelfcmlghjknaa.QFnExactCutPolygon
