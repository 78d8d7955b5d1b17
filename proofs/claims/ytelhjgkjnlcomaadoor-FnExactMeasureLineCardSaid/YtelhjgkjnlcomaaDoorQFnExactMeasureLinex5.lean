-- Printed for this claim by a changed copy of the kit's print (the session's own; own contracts in place of some functions).
import Derived.Test.YtelhjgkjnlcomaaDoorQFnExactMeasureLinex0
import Derived.Test.YtelhjgkjnlcomaaDoorQFnExactMeasureLinex1
import Derived.Test.YtelhjgkjnlcomaaDoorQFnExactMeasureLinex2
import Derived.Test.YtelhjgkjnlcomaaDoorQFnExactMeasureLinex4
namespace Go.Proofs.YtelhjgkjnlcomaaDoor.QFnExactMeasureLine
open Go.RowKit Go.Proofs.YtelhjgkjnlcomaaDoorW.PrintWords Go.Proofs.YtelhjgkjnlcomaaDoorW.PrintLast Go.Proofs.YtelhjgkjnlcomaaDoorW.PrintMore
attribute [local go_sem] max2_int min2_int max_two min_two max_three min_three max_four min_four   -- for this text's walks alone
set_option linter.unusedVariables false
set_option linter.unusedSimpArgs false

attribute [local go_sem high] eqA53
/-! ### spec_PolygonOk: function 41 -/
mutual
def spec_PolygonOk.l0 : Nat → List (S53) → List (S53) → Int → Int → Option (Bool)
 | 0, _, _, _, _ => none
 | k + 1, x0, x14, x15, x16 => if x16 < x15 then (if 0 ≤ x16 then (if x16 < (x14.length : Int) then ((spec_PointOk.f ((rd_T53 x14 x16).f0) ((rd_T53 x14 x16).f1)).bind fun t137 => (if t137 = true then (spec_PolygonOk.l0 k x0 x14 x15 (wrap64 (x16 + 1))) else (some false))) else (none)) else (none)) else (spec_PolygonOk.l1 k x0 (x0.length : Int) (x0.length : Int) 0)
def spec_PolygonOk.l1 : Nat → List (S53) → Int → Int → Int → Option (Bool)
 | 0, _, _, _, _ => none
 | k + 1, x0, x5, x27, x28 => if x28 < x27 then (if 0 ≤ x28 then (if x28 < (x0.length : Int) then (if x5 = 0 then (none) else (if 0 ≤ (Int.tmod (wrap64 (x28 + 1)) x5) then (if (Int.tmod (wrap64 (x28 + 1)) x5) < (x0.length : Int) then (if (((rd_T53 x0 x28).f0) == ((rd_T53 x0 (Int.tmod (wrap64 (x28 + 1)) x5)).f0) && (((rd_T53 x0 x28).f1) == ((rd_T53 x0 (Int.tmod (wrap64 (x28 + 1)) x5)).f1))) = true then (some false) else (spec_PolygonOk.l1 k x0 x5 x27 (wrap64 (x28 + 1)))) else (none)) else (none))) else (none)) else (none)) else (spec_PolygonOk.l2 k x0 x5 (x0.length : Int) 0)
def spec_PolygonOk.l2 : Nat → List (S53) → Int → Int → Int → Option (Bool)
 | 0, _, _, _, _ => none
 | k + 1, x0, x5, x45, x46 => if x46 < x45 then (spec_PolygonOk.l3 k x0 x5 x46 (wrap64 (x46 + 1)) x45 x46) else (some true)
def spec_PolygonOk.l3 : Nat → List (S53) → Int → Int → Int → Int → Int → Option (Bool)
 | 0, _, _, _, _, _, _ => none
 | k + 1, x0, x5, x7, x8, x45, x46 => if x8 < x5 then (if 0 ≤ x7 then (if x7 < (x0.length : Int) then (if x5 = 0 then (none) else (if 0 ≤ (Int.tmod (wrap64 (x7 + 1)) x5) then (if (Int.tmod (wrap64 (x7 + 1)) x5) < (x0.length : Int) then (if 0 ≤ x8 then (if x8 < (x0.length : Int) then (if 0 ≤ (Int.tmod (wrap64 (x8 + 1)) x5) then (if (Int.tmod (wrap64 (x8 + 1)) x5) < (x0.length : Int) then ((spec_l02Meet.f ((rd_T53 x0 x7).f0) ((rd_T53 x0 x7).f1) ((rd_T53 x0 (Int.tmod (wrap64 (x7 + 1)) x5)).f0) ((rd_T53 x0 (Int.tmod (wrap64 (x7 + 1)) x5)).f1) ((rd_T53 x0 x8).f0) ((rd_T53 x0 x8).f1) ((rd_T53 x0 (Int.tmod (wrap64 (x8 + 1)) x5)).f0) ((rd_T53 x0 (Int.tmod (wrap64 (x8 + 1)) x5)).f1)).bind fun t144 => (if x8 = (wrap64 (x7 + 1)) then (spec_PolygonOk.j4 k x0 x5 x7 x8 t144 x45 x46 true) else (if x7 = 0 then (spec_PolygonOk.j4 k x0 x5 x7 x8 t144 x45 x46 (x8 == (wrap64 (x5 - 1)))) else (spec_PolygonOk.j4 k x0 x5 x7 x8 t144 x45 x46 false)))) else (none)) else (none)) else (none)) else (none)) else (none)) else (none))) else (none)) else (none)) else (spec_PolygonOk.l2 k x0 x5 x45 (wrap64 (x46 + 1)))
def spec_PolygonOk.j4 : Nat → List (S53) → Int → Int → Int → Int → Int → Int → Bool → Option (Bool)
 | 0, _, _, _, _, _, _, _, _ => none
 | k + 1, x0, x5, x7, x8, x9, x45, x46, x92 => if x92 = true then (if x9 = 1 then (spec_PolygonOk.l3 k x0 x5 x7 (wrap64 (x8 + 1)) x45 x46) else (some false)) else (if x9 = 0 then (spec_PolygonOk.l3 k x0 x5 x7 (wrap64 (x8 + 1)) x45 x46) else (some false))
end
def spec_PolygonOk.f (k : Nat) (l0 : List (S53)) : Option (Bool) := (spec_l01In.f (l0.length : Int) 3 10).bind fun t134 => (if t134 = true then (spec_PolygonOk.l0 k l0 l0 (l0.length : Int) 0) else (some false))
theorem spec_PolygonOk.mono_l : ∀ k, (∀ y0 y1 y2 y3, LeO (spec_PolygonOk.l0 k y0 y1 y2 y3) (spec_PolygonOk.l0 (k + 1) y0 y1 y2 y3)) ∧ (∀ y0 y1 y2 y3, LeO (spec_PolygonOk.l1 k y0 y1 y2 y3) (spec_PolygonOk.l1 (k + 1) y0 y1 y2 y3)) ∧ (∀ y0 y1 y2 y3, LeO (spec_PolygonOk.l2 k y0 y1 y2 y3) (spec_PolygonOk.l2 (k + 1) y0 y1 y2 y3)) ∧ (∀ y0 y1 y2 y3 y4 y5, LeO (spec_PolygonOk.l3 k y0 y1 y2 y3 y4 y5) (spec_PolygonOk.l3 (k + 1) y0 y1 y2 y3 y4 y5)) ∧ (∀ y0 y1 y2 y3 y4 y5 y6 y7, LeO (spec_PolygonOk.j4 k y0 y1 y2 y3 y4 y5 y6 y7) (spec_PolygonOk.j4 (k + 1) y0 y1 y2 y3 y4 y5 y6 y7))
 | 0 => ⟨fun _ _ _ _ r h => by simp [spec_PolygonOk.l0] at h, fun _ _ _ _ r h => by simp [spec_PolygonOk.l1] at h, fun _ _ _ _ r h => by simp [spec_PolygonOk.l2] at h, fun _ _ _ _ _ _ r h => by simp [spec_PolygonOk.l3] at h, fun _ _ _ _ _ _ _ _ r h => by simp [spec_PolygonOk.j4] at h⟩
 | k + 1 => by
  obtain ⟨ih0, ih1, ih2, ih3, ih4⟩ := spec_PolygonOk.mono_l k
  refine ⟨?_, ?_, ?_, ?_, ?_⟩
  ·intro y0 y1 y2 y3
   unfold spec_PolygonOk.l0
   repeat' first
   | (with_reducible exact ih0 _ _ _ _)
   | (with_reducible exact ih1 _ _ _ _)
   | (with_reducible exact ih2 _ _ _ _)
   | (with_reducible exact ih3 _ _ _ _ _ _)
   | (with_reducible exact ih4 _ _ _ _ _ _ _ _)
   | (with_reducible exact LeO.refl _)
   | (with_reducible exact LeO.none _)
   | (with_reducible refine LeO.ite ?_ ?_)
   | (with_reducible refine LeO.bind ?_ (fun _ => ?_))
   | exact ih0 _ _ _ _
   | exact ih1 _ _ _ _
   | exact ih2 _ _ _ _
   | exact ih3 _ _ _ _ _ _
   | exact ih4 _ _ _ _ _ _ _ _
   | exact LeO.none _
   | refine LeO.ite ?_ ?_
   | refine LeO.bind ?_ (fun _ => ?_)
  ·intro y0 y1 y2 y3
   unfold spec_PolygonOk.l1
   repeat' first
   | (with_reducible exact ih0 _ _ _ _)
   | (with_reducible exact ih1 _ _ _ _)
   | (with_reducible exact ih2 _ _ _ _)
   | (with_reducible exact ih3 _ _ _ _ _ _)
   | (with_reducible exact ih4 _ _ _ _ _ _ _ _)
   | (with_reducible exact LeO.refl _)
   | (with_reducible exact LeO.none _)
   | (with_reducible refine LeO.ite ?_ ?_)
   | (with_reducible refine LeO.bind ?_ (fun _ => ?_))
   | exact ih0 _ _ _ _
   | exact ih1 _ _ _ _
   | exact ih2 _ _ _ _
   | exact ih3 _ _ _ _ _ _
   | exact ih4 _ _ _ _ _ _ _ _
   | exact LeO.none _
   | refine LeO.ite ?_ ?_
   | refine LeO.bind ?_ (fun _ => ?_)
  ·intro y0 y1 y2 y3
   unfold spec_PolygonOk.l2
   repeat' first
   | (with_reducible exact ih0 _ _ _ _)
   | (with_reducible exact ih1 _ _ _ _)
   | (with_reducible exact ih2 _ _ _ _)
   | (with_reducible exact ih3 _ _ _ _ _ _)
   | (with_reducible exact ih4 _ _ _ _ _ _ _ _)
   | (with_reducible exact LeO.refl _)
   | (with_reducible exact LeO.none _)
   | (with_reducible refine LeO.ite ?_ ?_)
   | (with_reducible refine LeO.bind ?_ (fun _ => ?_))
   | exact ih0 _ _ _ _
   | exact ih1 _ _ _ _
   | exact ih2 _ _ _ _
   | exact ih3 _ _ _ _ _ _
   | exact ih4 _ _ _ _ _ _ _ _
   | exact LeO.none _
   | refine LeO.ite ?_ ?_
   | refine LeO.bind ?_ (fun _ => ?_)
  ·intro y0 y1 y2 y3 y4 y5
   unfold spec_PolygonOk.l3
   repeat' first
   | (with_reducible exact ih0 _ _ _ _)
   | (with_reducible exact ih1 _ _ _ _)
   | (with_reducible exact ih2 _ _ _ _)
   | (with_reducible exact ih3 _ _ _ _ _ _)
   | (with_reducible exact ih4 _ _ _ _ _ _ _ _)
   | (with_reducible exact LeO.refl _)
   | (with_reducible exact LeO.none _)
   | (with_reducible refine LeO.ite ?_ ?_)
   | (with_reducible refine LeO.bind ?_ (fun _ => ?_))
   | exact ih0 _ _ _ _
   | exact ih1 _ _ _ _
   | exact ih2 _ _ _ _
   | exact ih3 _ _ _ _ _ _
   | exact ih4 _ _ _ _ _ _ _ _
   | exact LeO.none _
   | refine LeO.ite ?_ ?_
   | refine LeO.bind ?_ (fun _ => ?_)
  ·intro y0 y1 y2 y3 y4 y5 y6 y7
   unfold spec_PolygonOk.j4
   repeat' first
   | (with_reducible exact ih0 _ _ _ _)
   | (with_reducible exact ih1 _ _ _ _)
   | (with_reducible exact ih2 _ _ _ _)
   | (with_reducible exact ih3 _ _ _ _ _ _)
   | (with_reducible exact ih4 _ _ _ _ _ _ _ _)
   | (with_reducible exact LeO.refl _)
   | (with_reducible exact LeO.none _)
   | (with_reducible refine LeO.ite ?_ ?_)
   | (with_reducible refine LeO.bind ?_ (fun _ => ?_))
   | exact ih0 _ _ _ _
   | exact ih1 _ _ _ _
   | exact ih2 _ _ _ _
   | exact ih3 _ _ _ _ _ _
   | exact ih4 _ _ _ _ _ _ _ _
   | exact LeO.none _
   | refine LeO.ite ?_ ?_
   | refine LeO.bind ?_ (fun _ => ?_)
theorem spec_PolygonOk.mono : ∀ a0 k, LeO (spec_PolygonOk.f k a0) (spec_PolygonOk.f (k + 1) a0) := by
 intro a0 k
 obtain ⟨ih0, ih1, ih2, ih3, ih4⟩ := spec_PolygonOk.mono_l k
 unfold spec_PolygonOk.f
 repeat' first
   | (with_reducible exact ih0 _ _ _ _)
   | (with_reducible exact ih1 _ _ _ _)
   | (with_reducible exact ih2 _ _ _ _)
   | (with_reducible exact ih3 _ _ _ _ _ _)
   | (with_reducible exact ih4 _ _ _ _ _ _ _ _)
   | (with_reducible exact LeO.refl _)
   | (with_reducible exact LeO.none _)
   | (with_reducible refine LeO.ite ?_ ?_)
   | (with_reducible refine LeO.bind ?_ (fun _ => ?_))
   | exact ih0 _ _ _ _
   | exact ih1 _ _ _ _
   | exact ih2 _ _ _ _
   | exact ih3 _ _ _ _ _ _
   | exact ih4 _ _ _ _ _ _ _ _
   | exact LeO.none _
   | refine LeO.ite ?_ ?_
   | refine LeO.bind ?_ (fun _ => ?_)
def spec_PolygonOk.T13 : Bool × List (List Nat × List Nat) := (true, [([], []), ([], []), ([0, 1], [0, 1]), ([2], [2]), ([], []), ([], []), ([5], [5]), ([], []), ([6, 7], [6, 7]), ([4, 8], [4, 8]), ([9], [9]), ([3, 10], [3, 10])])
def spec_PolygonOk.B13 : List Nat := [0, 0, 3, 7, 0, 0, 32, 0, 224, 496, 1008, 2047]
theorem spec_PolygonOk.tab13 : rtab .any (opsOf Tryd.f41 13) = spec_PolygonOk.T13 := by kernel_rfl
theorem spec_PolygonOk.bits13 : waitsOk spec_PolygonOk.T13.2 spec_PolygonOk.B13 = true := by kernel_rfl
def spec_PolygonOk.T22 : Bool × List (List Nat × List Nat) := (true, [([], []), ([], []), ([0, 1], [0, 1]), ([2], [2]), ([], []), ([], []), ([5], [5]), ([], []), ([6, 7], [6, 7]), ([4, 8], [4, 8]), ([9], [9]), ([], []), ([], []), ([11, 12], [11, 12]), ([13], [13]), ([], []), ([], []), ([16], [16]), ([], []), ([17, 18], [17, 18]), ([15, 19], [15, 19]), ([20], [20]), ([3, 10, 14, 21], [3, 10, 14, 21]), ([22, 22, 0, 1, 2, 3, 4, 5, 6, 7, 8, 9, 10, 11, 12, 13, 14, 15, 16, 17, 18, 19, 20, 21, 22], [22])])
def spec_PolygonOk.B22 : List Nat := [0, 0, 3, 7, 0, 0, 32, 0, 224, 496, 1008, 0, 0, 6144, 14336, 0, 0, 65536, 0, 458752, 1015808, 2064384, 4194303, 8388607]
theorem spec_PolygonOk.tab22 : rtab .any (opsOf Tryd.f41 22) = spec_PolygonOk.T22 := by kernel_rfl
theorem spec_PolygonOk.bits22 : waitsOk spec_PolygonOk.T22.2 spec_PolygonOk.B22 = true := by kernel_rfl
set_option maxHeartbeats 8000000 in
set_option maxRecDepth 100000 in
theorem spec_PolygonOk.calls (k : Nat) (A0 : Option Addr) (c0 : Nat) (l0 : List (S53)) (r : Bool) (w : World) (hr0 : Kd.C k53 w A0 l0.length l0) (hc0 : l0.length ≤ c0) (h : spec_PolygonOk.f k l0 = some r) :
  Calls Tryd.prog 41 #[.slice A0 l0.length c0] w fun e w' => e = .returned (.bool r) ∧ Below w.heap.size w w' := by
 have hu53 := Tryd.underlying53
 have HR0 := zm1 hr0
 have HC0 := zm1 hc0
 clear hr0 hc0
 have HB := zm1 (Below.refl w.heap.size w)
 have H : ((spec_l01In.f (l0.length : Int) 3 10).bind fun t134 => (if t134 = true then (spec_PolygonOk.l0 k l0 l0 (l0.length : Int) 0) else (some false))) = some r := h
 clear h
 replace H := Option.bind_eq_some_iff.mp H
 obtain ⟨t134, A20, H⟩ := H
 replace H : (if t134 = true then (spec_PolygonOk.l0 k l0 l0 (l0.length : Int) 0) else (some false)) = some r := H
 have A2 := zm1 A20
 clear A20
 by_cases c3 : t134 = true
 ·subst c3
  have H1 : (spec_PolygonOk.l0 k l0 l0 (l0.length : Int) 0) = some r := by rw [if_pos rfl] at H; exact H
  clear H
  have H := H1
  clear H1
  have H' := zm1 H
  clear H
  go_enter Tryd.func41, Tryd.ntmps41
  go_wp2_with (first | ((with_reducible refine gate_callee (f := 51) rfl ?_); refine goesL_ (some 12) rfl rfl Tryd.func51 (by kernel_rfl) rfl #[.int .i64 (l0.length : Int), .int .i64 3, .int .i64 10] rfl (by (try simp only [List.map_toArray, List.map_cons, List.map_nil]); first | done | rfl | (simp only [List.length_drop, List.length_take]; rfl)) ?_; (with_reducible refine (spec_l01In.calls (l0.length : Int) 3 10 true _ A2.out).mono ?_); rintro e w' ⟨rfl, ⟨nd, rfl⟩⟩; refine ⟨_, rfl, ?_⟩))
  go_loopg [16] k (fun kq v16 w' => ∃ (x16_1 : Int), v16 = .int .i64 x16_1 ∧ Aside0 (spec_PolygonOk.l0 kq l0 l0 (l0.length : Int) x16_1 = some r) ∧ Aside0 (kq ≤ k) ∧ Aside0 (Below w.heap.size w w'))
  case atStart => exact ⟨(0), (by first | rfl | (simp; done) | (simp [*]; done)), H', ⟨Nat.le_refl _⟩, ⟨by repeat (first | (with_reducible first | exact HB.out | apply zc1 | apply zc2 | apply zc3) | exact HB.out)⟩⟩
  case round =>
   clear H'
   try clear p2
   try clear c3
   obtain ⟨x16_1, rfl, HA, HK1, HB⟩ := hrel
   cases gk with
   | zero => exact absurd HA.out (by simp [spec_PolygonOk.l0])
   | succ k1 =>
    have H := HA.out
    clear HA
    simp only [spec_PolygonOk.l0] at H
    by_cases c4 : x16_1 < (l0.length : Int)
    ·rw [if_pos c4] at H
     have c4b0 : decide (x16_1 < (l0.length : Int)) = true := decide_eq_true c4
     clear c4
     by_cases c5 : 0 ≤ x16_1
     ·rw [if_pos c5] at H
      have c5b0 : decide (0 ≤ x16_1) = true := decide_eq_true c5
      clear c5
      by_cases c6 : x16_1 < (l0.length : Int)
      ·rw [if_pos c6] at H
       have c6b0 : decide (x16_1 < (l0.length : Int)) = true := decide_eq_true c6
       clear c6
       replace H := Option.bind_eq_some_iff.mp H
       obtain ⟨t137, A70, H⟩ := H
       replace H : (if t137 = true then (spec_PolygonOk.l0 k1 l0 l0 (l0.length : Int) (wrap64 (x16_1 + 1))) else (some false)) = some r := H
       have A7 := zm1 A70
       clear A70
       by_cases c8 : t137 = true
       ·subst c8
        have H1 : (spec_PolygonOk.l0 k1 l0 l0 (l0.length : Int) (wrap64 (x16_1 + 1))) = some r := by rw [if_pos rfl] at H; exact H
        clear H
        have H := H1
        clear H1
        have H' := zm1 H
        clear H
        have p135 : 0 ≤ (x16_1 : Int) := of_decide_eq_true (by assumption)
        have q135 : x16_1 < (l0.length : Int) := of_decide_eq_true (by assumption)
        obtain ⟨ad135, e135, hx135_0, hx135_1⟩ := at_T53 HR0.out x16_1 p135 q135
        cases e135
        (try replace hx135_0 := (HB.out.cell (zl hx135_0)).trans hx135_0)
        (try replace hx135_1 := (HB.out.cell (zl hx135_1)).trans hx135_1)
        replace p135 := eq_true p135
        replace q135 := eq_true q135
        go_wp2_with (first | ((with_reducible refine gate_dst (N := 4) rfl ?_); refine box_event ?hg (N := 4) ?hd (cs := #[.int .i64 0, .int .i64 0]) (t := 53) ?hr ?_; (case hd => rfl); (case hg => rfl); (case hr => first | (go_simp; done) | (go_simp; rfl)); intro gb136 hg w9 hbox hb; have n0_ := zm1 (zc6 (by repeat (first | (with_reducible first | exact HB.out | apply zc1 | apply zc2 | apply zc3) | exact HB.out)) hb); have n1_ := zm1 (hbox); have n2_ := zm1 ((by rw [hg]; exact (zc5 (by repeat (first | (with_reducible first | exact HB.out | apply zc1 | apply zc2 | apply zc3) | exact HB.out))) : w.heap.size ≤ gb136)); have n3_ := zm1 ((by rw [hg]; exact (zc5 (by repeat (first | (with_reducible first | exact HB.out | apply zc1 | apply zc2 | apply zc3) | exact HB.out))) : w.heap.size ≤ gb136)); clear HB; have HB := n0_; have BK136 := n1_; have GW136 := n2_; have GE136 := n3_; clear n0_ n1_ n2_ n3_; clear hb hbox hg; have hcz10_0 : w9.cell? ⟨gb136, 0, none⟩ = some (.int .i64 0) := (blk_cell BK136.out 0).trans rfl; have hcz10_1 : w9.cell? ⟨gb136, 1, none⟩ = some (.int .i64 0) := (blk_cell BK136.out 1).trans rfl; have hfz10_0 := blk_frozen BK136.out 0; have hfz10_1 := blk_frozen BK136.out 1) | ((with_reducible refine gate_callee (f := 64) rfl ?_); refine goesL_ (some 21) rfl rfl Tryd.func64 (by kernel_rfl) rfl #[.agg #[.int .i64 ((rd_T53 l0 x16_1).f0), .int .i64 ((rd_T53 l0 x16_1).f1)]] rfl (by (try simp only [List.map_toArray, List.map_cons, List.map_nil]); first | done | rfl | (simp only [List.length_drop, List.length_take]; rfl)) ?_; (with_reducible refine (spec_PointOk.calls ((rd_T53 l0 x16_1).f0) ((rd_T53 l0 x16_1).f1) true _ A7.out).mono ?_); rintro e w11 ⟨rfl, hb⟩; refine ⟨_, rfl, ?_⟩; have n0_ := zm1 (zd1 (o := .cells #[.int .i64 ((rd_T53 l0 x16_1).f0), .int .i64 ((rd_T53 l0 x16_1).f1)] 53 (0, 0)) (by (with_reducible repeat (first | apply zb1 | apply zb2 | apply zb3)); refine blk_put (cs := #[.int .i64 ((rd_T53 l0 x16_1).f0), .int .i64 0]) ?_ 1 _ rfl; (with_reducible repeat (first | apply zb1 | apply zb2 | apply zb3)); refine blk_put (cs := #[.int .i64 0, .int .i64 0]) ?_ 0 _ rfl; (with_reducible repeat (first | apply zb1 | apply zb2 | apply zb3)); exact BK136.out) hb); have n1_ := zm1 (zc6 (by repeat (first | (with_reducible first | exact HB.out | apply zc1 | apply zc2 | apply zc3 | refine zc4 ?_ GE136.out) | exact HB.out)) hb); clear BK136; clear HB; have BK136 := n0_; have HB := n1_; clear n0_ n1_; (try clear hb); (try clear hb2); (try clear hk); (try clear hi)))
        go_roundg k1
        case measure => have := HK1.out; omega
        case rel => exact ⟨(wrap64 (x16_1 + 1)), (by first | rfl | (simp; done) | (simp [*]; done)), H', ⟨by have := HK1.out; omega⟩, ⟨by repeat (first | (with_reducible first | exact HB.out | apply zc1 | apply zc2 | apply zc3 | refine zc4 ?_ GE136.out) | exact HB.out)⟩⟩
       ·replace c8 := Bool.eq_false_iff.mpr c8
        subst c8
        have H1 : (some false) = some r := by rw [if_neg (show ¬ (false = true) by decide)] at H; exact H
        clear H
        have H := H1
        clear H1
        obtain rfl := Option.some.inj H
        have p135 : 0 ≤ (x16_1 : Int) := of_decide_eq_true (by assumption)
        have q135 : x16_1 < (l0.length : Int) := of_decide_eq_true (by assumption)
        obtain ⟨ad135, e135, hx135_0, hx135_1⟩ := at_T53 HR0.out x16_1 p135 q135
        cases e135
        (try replace hx135_0 := (HB.out.cell (zl hx135_0)).trans hx135_0)
        (try replace hx135_1 := (HB.out.cell (zl hx135_1)).trans hx135_1)
        replace p135 := eq_true p135
        replace q135 := eq_true q135
        go_wp2_with (first | ((with_reducible refine gate_dst (N := 4) rfl ?_); refine box_event ?hg (N := 4) ?hd (cs := #[.int .i64 0, .int .i64 0]) (t := 53) ?hr ?_; (case hd => rfl); (case hg => rfl); (case hr => first | (go_simp; done) | (go_simp; rfl)); intro gb136 hg w12 hbox hb; have n0_ := zm1 (zc6 (by repeat (first | (with_reducible first | exact HB.out | apply zc1 | apply zc2 | apply zc3) | exact HB.out)) hb); have n1_ := zm1 (hbox); have n2_ := zm1 ((by rw [hg]; exact (zc5 (by repeat (first | (with_reducible first | exact HB.out | apply zc1 | apply zc2 | apply zc3) | exact HB.out))) : w.heap.size ≤ gb136)); have n3_ := zm1 ((by rw [hg]; exact (zc5 (by repeat (first | (with_reducible first | exact HB.out | apply zc1 | apply zc2 | apply zc3) | exact HB.out))) : w.heap.size ≤ gb136)); clear HB; have HB := n0_; have BK136 := n1_; have GW136 := n2_; have GE136 := n3_; clear n0_ n1_ n2_ n3_; clear hb hbox hg; have hcz13_0 : w12.cell? ⟨gb136, 0, none⟩ = some (.int .i64 0) := (blk_cell BK136.out 0).trans rfl; have hcz13_1 : w12.cell? ⟨gb136, 1, none⟩ = some (.int .i64 0) := (blk_cell BK136.out 1).trans rfl; have hfz13_0 := blk_frozen BK136.out 0; have hfz13_1 := blk_frozen BK136.out 1) | ((with_reducible refine gate_callee (f := 64) rfl ?_); refine goesL_ (some 21) rfl rfl Tryd.func64 (by kernel_rfl) rfl #[.agg #[.int .i64 ((rd_T53 l0 x16_1).f0), .int .i64 ((rd_T53 l0 x16_1).f1)]] rfl (by (try simp only [List.map_toArray, List.map_cons, List.map_nil]); first | done | rfl | (simp only [List.length_drop, List.length_take]; rfl)) ?_; (with_reducible refine (spec_PointOk.calls ((rd_T53 l0 x16_1).f0) ((rd_T53 l0 x16_1).f1) false _ A7.out).mono ?_); rintro e w14 ⟨rfl, hb⟩; refine ⟨_, rfl, ?_⟩; have n0_ := zm1 (zd1 (o := .cells #[.int .i64 ((rd_T53 l0 x16_1).f0), .int .i64 ((rd_T53 l0 x16_1).f1)] 53 (0, 0)) (by (with_reducible repeat (first | apply zb1 | apply zb2 | apply zb3)); refine blk_put (cs := #[.int .i64 ((rd_T53 l0 x16_1).f0), .int .i64 0]) ?_ 1 _ rfl; (with_reducible repeat (first | apply zb1 | apply zb2 | apply zb3)); refine blk_put (cs := #[.int .i64 0, .int .i64 0]) ?_ 0 _ rfl; (with_reducible repeat (first | apply zb1 | apply zb2 | apply zb3)); exact BK136.out) hb); have n1_ := zm1 (zc6 (by repeat (first | (with_reducible first | exact HB.out | apply zc1 | apply zc2 | apply zc3 | refine zc4 ?_ GE136.out) | exact HB.out)) hb); clear BK136; clear HB; have BK136 := n0_; have HB := n1_; clear n0_ n1_; (try clear hb); (try clear hb2); (try clear hk); (try clear hi)))
        go_ret
        exact ⟨by first | rfl | (simp [errW_none, errW_some] <;> rfl) | (simp [*, errW_none, errW_some] <;> rfl), by repeat (first | (with_reducible first | exact HB.out | apply zc1 | apply zc2 | apply zc3 | refine zc4 ?_ GE136.out) | exact HB.out)⟩
      ·rw [if_neg c6] at H
       exact absurd H (by simp)
     ·rw [if_neg c5] at H
      exact absurd H (by simp)
    ·rw [if_neg c4] at H
     have c4b0 : decide (x16_1 < (l0.length : Int)) = false := decide_eq_false c4
     clear c4
     have H' := zm1 H
     clear H
     go_wp2
     go_loopg [28] k1 (fun kq v28 w' => ∃ (x28_2 : Int), v28 = .int .i64 x28_2 ∧ Aside0 (spec_PolygonOk.l1 kq l0 (l0.length : Int) (l0.length : Int) x28_2 = some r) ∧ Aside0 (kq ≤ k1) ∧ Aside0 (Below w.heap.size w w'))
     case atStart => exact ⟨(0), (by first | rfl | (simp; done) | (simp [*]; done)), H', ⟨Nat.le_refl _⟩, ⟨by repeat (first | (with_reducible first | exact HB.out | apply zc1 | apply zc2 | apply zc3) | exact HB.out)⟩⟩
     case round =>
      clear H'
      try clear p1
      try clear q1
      try clear hx1
      try clear p2
      try clear c3
      try clear c4
      try clear c4b0
      try clear c5
      try clear c5b0
      try clear c6
      try clear c6b0
      try clear p6
      try clear c8
      try clear p13
      try clear q13
      try clear hx13
      try clear hcz10_0
      try clear hcz10_1
      try clear hcz13_0
      try clear hcz13_1
      try clear hfz10_0
      try clear hfz10_1
      try clear hfz13_0
      try clear hfz13_1
      try clear hx135_0
      try clear hx135_1
      try clear p135
      try clear p2
      try clear q135
      obtain ⟨x28_2, rfl, HA, HK2, HB⟩ := hrel
      cases gk with
      | zero => exact absurd HA.out (by simp [spec_PolygonOk.l1])
      | succ k2 =>
       have H := HA.out
       clear HA
       simp only [spec_PolygonOk.l1] at H
       by_cases c15 : x28_2 < (l0.length : Int)
       ·rw [if_pos c15] at H
        have c15b0 : decide (x28_2 < (l0.length : Int)) = true := decide_eq_true c15
        clear c15
        by_cases c16 : 0 ≤ x28_2
        ·rw [if_pos c16] at H
         have c16b0 : decide (0 ≤ x28_2) = true := decide_eq_true c16
         clear c16
         by_cases c17 : x28_2 < (l0.length : Int)
         ·rw [if_pos c17] at H
          have c17b0 : decide (x28_2 < (l0.length : Int)) = true := decide_eq_true c17
          clear c17
          by_cases c18 : (l0.length : Int) = 0
          ·rw [if_pos c18] at H
           exact absurd H (by simp)
          ·rw [if_neg c18] at H
           have c18b0 : ((l0.length : Int) == 0) = false := beq_eq_false_iff_ne.mpr c18
           have c18b1 : ((l0.length : Int) != 0) = true := bne_iff_ne.mpr c18
           have c18b2 : ¬ (l0 = []) := fun h_ => c18 (by rw [h_]; rfl)
           obtain ⟨ji19, hji19⟩ : ∃ j_ : Int, (Int.tmod (wrap64 (x28_2 + 1)) (l0.length : Int)) = j_ := ⟨_, rfl⟩
           replace H : (if 0 ≤ (ji19) then (if (ji19) < (l0.length : Int) then (if (((rd_T53 l0 x28_2).f0) == ((rd_T53 l0 (ji19)).f0) && (((rd_T53 l0 x28_2).f1) == ((rd_T53 l0 (ji19)).f1))) = true then (some false) else (spec_PolygonOk.l1 k2 l0 (l0.length : Int) (l0.length : Int) (wrap64 (x28_2 + 1)))) else (none)) else (none)) = some r := by first | (rw [hji19] at H; exact H) | (simp only [hji19] at H ⊢; exact H)
           by_cases c20 : 0 ≤ (ji19)
           ·rw [if_pos c20] at H
            have c20b0 : decide (0 ≤ (ji19)) = true := decide_eq_true c20
            clear c20
            by_cases c21 : (ji19) < (l0.length : Int)
            ·rw [if_pos c21] at H
             have c21b0 : decide ((ji19) < (l0.length : Int)) = true := decide_eq_true c21
             clear c21
             by_cases c22 : (((rd_T53 l0 x28_2).f0) == ((rd_T53 l0 (ji19)).f0) && (((rd_T53 l0 x28_2).f1) == ((rd_T53 l0 (ji19)).f1))) = true
             ·rw [if_pos c22] at H
              have c22b0 : (((rd_T53 l0 x28_2).f0) == ((rd_T53 l0 (ji19)).f0) && (((rd_T53 l0 x28_2).f1) == ((rd_T53 l0 (ji19)).f1))) = true := c22
              (try (have c22b1 : decide (((rd_T53 l0 x28_2).f0) = ((rd_T53 l0 (ji19)).f0) && (((rd_T53 l0 x28_2).f1) == ((rd_T53 l0 (ji19)).f1))) = true := by simpa using c22))
              (try (have c22b2 : (((rd_T53 l0 x28_2).f0) == ((rd_T53 l0 (ji19)).f0) && (((rd_T53 l0 x28_2).f1) == ((rd_T53 l0 (ji19)).f1))) = true := by simpa using c22))
              clear c22
              obtain rfl := Option.some.inj H
              try go_wp2
              have n0_ := zm1 (below_drew1 HB.out)
              clear HB
              have HB := n0_
              clear n0_
              have p138 : 0 ≤ (x28_2 : Int) := of_decide_eq_true (by assumption)
              have q138 : x28_2 < (l0.length : Int) := of_decide_eq_true (by assumption)
              obtain ⟨ad138, e138, hx138_0, hx138_1⟩ := at_T53 HR0.out x28_2 p138 q138
              have hw138_1 := hx138_1
              have hw138_0 := hx138_0
              cases e138
              (try replace hx138_0 := (HB.out.cell (zl hx138_0)).trans hx138_0)
              (try replace hx138_1 := (HB.out.cell (zl hx138_1)).trans hx138_1)
              replace p138 := eq_true p138
              replace q138 := eq_true q138
              have p139 : 0 ≤ ((ji19) : Int) := of_decide_eq_true (by assumption)
              have q139 : (ji19) < (l0.length : Int) := of_decide_eq_true (by assumption)
              obtain ⟨ad139, e139, hx139_0, hx139_1⟩ := at_T53 HR0.out (ji19) p139 q139
              have hw139_1 := hx139_1
              have hw139_0 := hx139_0
              obtain rfl : ad138 = ad139 := (by injection e139)
              (try replace hx139_0 := (HB.out.cell (zl hx139_0)).trans hx139_0)
              (try replace hx139_1 := (HB.out.cell (zl hx139_1)).trans hx139_1)
              replace p139 := eq_true p139
              replace q139 := eq_true q139
              refine start_ (n := 12) (S := fun w' => w'.cell? (ad138.add ((x28_2).toNat * 2)) = some (.int .i64 ((rd_T53 l0 x28_2).f0)) ∧ w'.cell? ⟨(ad138.add ((x28_2).toNat * 2)).block, (ad138.add ((x28_2).toNat * 2)).off + 1, none⟩ = some (.int .i64 ((rd_T53 l0 x28_2).f1)) ∧ w'.cell? (ad138.add (((ji19)).toNat * 2)) = some (.int .i64 ((rd_T53 l0 (ji19)).f0)) ∧ w'.cell? ⟨(ad138.add (((ji19)).toNat * 2)).block, (ad138.add (((ji19)).toNat * 2)).off + 1, none⟩ = some (.int .i64 ((rd_T53 l0 (ji19)).f1))) (ds := []) #[false, false, false, false, false, false, false, false, false, false, false, false] (by kernel_rfl) rfl rfl ⟨((HB.out.cell (zl hw138_0)).trans hw138_0), ((HB.out.cell (zl hw138_1)).trans hw138_1), ((HB.out.cell (zl hw139_0)).trans hw139_0), ((HB.out.cell (zl hw139_1)).trans hw139_1)⟩ (fun hHeld => ?_); refine with_tabW spec_PolygonOk.tab13 spec_PolygonOk.bits13 (fun HT_ HW_ => ?_)
              generalize wr.drew = w23 at HB hx138_0 hx138_1 hx139_0 hx139_1 hHeld ⊢
              refine pure_ (i := 0) (N := some 31) (v := ?_) (a' := ?_) #[true, false, false, false, false, false, false, false, false, false, false, false] rfl rfl (any_of HT_.out (by kernel_rfl)) (fun _ _ _ h => h) (Or.inl ⟨by rfl, ?_⟩) ?_ ?_
              rotate_left
              ·intro w'
               go_simp
               with_reducible rfl
              rotate_left
              ·simp only [Act.put, zs1, zs2, zs3, i64_w, i32_w]
               rfl
              refine pure_ (i := 1) (N := some 32) (v := ?_) (a' := ?_) #[true, true, false, false, false, false, false, false, false, false, false, false] rfl rfl (any_of HT_.out (by kernel_rfl)) (fun _ _ _ h => h) (Or.inl ⟨by rfl, ?_⟩) ?_ ?_
              rotate_left
              ·intro w'
               go_simp
               with_reducible rfl
              rotate_left
              ·simp only [Act.put, zs1, zs2, zs3, i64_w, i32_w]
               rfl
              refine pure_ (i := 2) (N := some 33) (v := ?_) (a' := ?_) #[true, true, true, false, false, false, false, false, false, false, false, false] rfl rfl (any_of HT_.out (by kernel_rfl)) (fun _ _ _ h => h) (Or.inl ⟨by rfl, ?_⟩) ?_ ?_
              rotate_left
              ·intro w'
               go_simp
               with_reducible rfl
              rotate_left
              ·simp only [Act.put, zs1, zs2, zs3, i64_w, i32_w]
               rfl
              refine pure_ (i := 4) (N := some 35) (v := ?_) (a' := ?_) #[true, true, true, false, true, false, false, false, false, false, false, false] rfl rfl (any_of HT_.out (by kernel_rfl)) (fun _ _ _ h => h) (Or.inl ⟨by rfl, ?_⟩) ?_ ?_
              rotate_left
              ·intro w'
               go_simp
               with_reducible rfl
              rotate_left
              ·simp only [Act.put, zs1, zs2, zs3, i64_w, i32_w]
               rfl
              refine pure_ (i := 5) (N := some 36) (v := ?_) (a' := ?_) #[true, true, true, false, true, true, false, false, false, false, false, false] rfl rfl (any_of HT_.out (by kernel_rfl)) (fun _ _ _ h => h) (Or.inl ⟨by rfl, ?_⟩) ?_ ?_
              rotate_left
              ·intro w'
               go_simp
               with_reducible rfl
              rotate_left
              ·simp only [Act.put, zs1, zs2, zs3, i64_w, i32_w]
               rfl
              refine pure_ (i := 6) (N := some 37) (v := ?_) (a' := ?_) #[true, true, true, false, true, true, true, false, false, false, false, false] rfl rfl (any_of HT_.out (by kernel_rfl)) (fun _ _ _ h => h) (Or.inl ⟨by rfl, ?_⟩) ?_ ?_
              rotate_left
              ·intro w'
               go_simp
               with_reducible rfl
              rotate_left
              ·simp only [Act.put, zs1, zs2, zs3, i64_w, i32_w]
               rfl
              refine pure_ (i := 7) (N := some 38) (v := ?_) (a' := ?_) #[true, true, true, false, true, true, true, true, false, false, false, false] rfl rfl (any_of HT_.out (by kernel_rfl)) (fun _ _ _ h => h) (Or.inl ⟨by rfl, ?_⟩) ?_ ?_
              rotate_left
              ·intro w'
               go_simp
               with_reducible rfl
              rotate_left
              ·simp only [Act.put, zs1, zs2, zs3, i64_w, i32_w]
               rfl
              refine pure_ (i := 8) (N := some 39) (v := ?_) (a' := ?_) #[true, true, true, false, true, true, true, true, true, false, false, false] rfl rfl (any_of HT_.out (by kernel_rfl)) (fun _ _ _ h => h) (Or.inl ⟨by rfl, ?_⟩) ?_ ?_
              rotate_left
              ·intro w'
               go_simp
               with_reducible rfl
              rotate_left
              ·simp only [Act.put, zs1, zs2, zs3, i64_w, i32_w]
               rfl
              refine pure_ (i := 9) (N := some 40) (v := ?_) (a' := ?_) #[true, true, true, false, true, true, true, true, true, true, false, false] rfl rfl (any_of HT_.out (by kernel_rfl)) (fun _ _ _ h => h) (Or.inl ⟨by rfl, ?_⟩) ?_ ?_
              rotate_left
              ·intro w'
               go_simp
               with_reducible rfl
              rotate_left
              ·simp only [Act.put, zs1, zs2, zs3, i64_w, i32_w]
               rfl
              refine take_ (i := 3) (N := some 34) (v := ?_) (a' := ?_) #[true, true, true, true, true, true, true, true, true, true, false, false] rfl rfl (take_ofW HT_.out HW_.out (by kernel_rfl)) (fun _ _ _ h => h) (Or.inl ⟨by rfl, ?_⟩) hHeld ?_ ?_
              rotate_left
              ·rintro w' ⟨s0, s1, s2, s3⟩
               go_simp
               with_reducible rfl
              rotate_left
              ·simp only [Act.put, zs1, zs2, zs3, i64_w, i32_w]
               rfl
              refine take_ (i := 10) (N := some 41) (v := ?_) (a' := ?_) #[true, true, true, true, true, true, true, true, true, true, true, false] rfl rfl (take_ofW HT_.out HW_.out (by kernel_rfl)) (fun _ _ _ h => h) (Or.inl ⟨by rfl, ?_⟩) hHeld ?_ ?_
              rotate_left
              ·rintro w' ⟨s0, s1, s2, s3⟩
               go_simp
               with_reducible rfl
              rotate_left
              ·simp only [Act.put, zs1, zs2, zs3, i64_w, i32_w]
               rfl
              refine pure_ (i := 11) (N := some 42) (v := ?_) (a' := ?_) #[true, true, true, true, true, true, true, true, true, true, true, true] rfl rfl (any_of HT_.out (by kernel_rfl)) (fun _ _ _ h => h) (Or.inl ⟨by rfl, ?_⟩) ?_ ?_
              rotate_left
              ·intro w'
               go_simp
               with_reducible rfl
              rotate_left
              ·simp only [Act.put, zs1, zs2, zs3, i64_w, i32_w]
               rfl
              refine done_ (done_of HT_.out (by kernel_rfl)) ?_
              try go_wp2
              go_ret
              exact ⟨by first | rfl | (simp [errW_none, errW_some] <;> rfl) | (simp only [← hji19]; first | rfl | (simp [errW_none, errW_some] <;> rfl)) | (simp [*, errW_none, errW_some] <;> rfl), by repeat (first | (with_reducible first | exact HB.out | apply zc1 | apply zc2 | apply zc3) | exact HB.out)⟩
             ·rw [if_neg c22] at H
              have c22b0 : (((rd_T53 l0 x28_2).f0) == ((rd_T53 l0 (ji19)).f0) && (((rd_T53 l0 x28_2).f1) == ((rd_T53 l0 (ji19)).f1))) = false := by simpa using c22
              (try (have c22b1 : decide (((rd_T53 l0 x28_2).f0) = ((rd_T53 l0 (ji19)).f0) && (((rd_T53 l0 x28_2).f1) == ((rd_T53 l0 (ji19)).f1))) = false := by simpa using c22))
              (try (have c22b2 : (((rd_T53 l0 x28_2).f0) == ((rd_T53 l0 (ji19)).f0) && (((rd_T53 l0 x28_2).f1) == ((rd_T53 l0 (ji19)).f1))) = false := by simpa using c22))
              (try (have c22b3 : ¬ (((rd_T53 l0 x28_2).f0) = ((rd_T53 l0 (ji19)).f0) && (((rd_T53 l0 x28_2).f1) == ((rd_T53 l0 (ji19)).f1))) := by simpa using c22))
              clear c22
              have H' := zm1 H
              clear H
              try go_wp2
              have n0_ := zm1 (below_drew1 HB.out)
              clear HB
              have HB := n0_
              clear n0_
              have p138 : 0 ≤ (x28_2 : Int) := of_decide_eq_true (by assumption)
              have q138 : x28_2 < (l0.length : Int) := of_decide_eq_true (by assumption)
              obtain ⟨ad138, e138, hx138_0, hx138_1⟩ := at_T53 HR0.out x28_2 p138 q138
              have hw138_1 := hx138_1
              have hw138_0 := hx138_0
              cases e138
              (try replace hx138_0 := (HB.out.cell (zl hx138_0)).trans hx138_0)
              (try replace hx138_1 := (HB.out.cell (zl hx138_1)).trans hx138_1)
              replace p138 := eq_true p138
              replace q138 := eq_true q138
              have p139 : 0 ≤ ((ji19) : Int) := of_decide_eq_true (by assumption)
              have q139 : (ji19) < (l0.length : Int) := of_decide_eq_true (by assumption)
              obtain ⟨ad139, e139, hx139_0, hx139_1⟩ := at_T53 HR0.out (ji19) p139 q139
              have hw139_1 := hx139_1
              have hw139_0 := hx139_0
              obtain rfl : ad138 = ad139 := (by injection e139)
              (try replace hx139_0 := (HB.out.cell (zl hx139_0)).trans hx139_0)
              (try replace hx139_1 := (HB.out.cell (zl hx139_1)).trans hx139_1)
              replace p139 := eq_true p139
              replace q139 := eq_true q139
              refine start_ (n := 12) (S := fun w' => w'.cell? (ad138.add ((x28_2).toNat * 2)) = some (.int .i64 ((rd_T53 l0 x28_2).f0)) ∧ w'.cell? ⟨(ad138.add ((x28_2).toNat * 2)).block, (ad138.add ((x28_2).toNat * 2)).off + 1, none⟩ = some (.int .i64 ((rd_T53 l0 x28_2).f1)) ∧ w'.cell? (ad138.add (((ji19)).toNat * 2)) = some (.int .i64 ((rd_T53 l0 (ji19)).f0)) ∧ w'.cell? ⟨(ad138.add (((ji19)).toNat * 2)).block, (ad138.add (((ji19)).toNat * 2)).off + 1, none⟩ = some (.int .i64 ((rd_T53 l0 (ji19)).f1))) (ds := []) #[false, false, false, false, false, false, false, false, false, false, false, false] (by kernel_rfl) rfl rfl ⟨((HB.out.cell (zl hw138_0)).trans hw138_0), ((HB.out.cell (zl hw138_1)).trans hw138_1), ((HB.out.cell (zl hw139_0)).trans hw139_0), ((HB.out.cell (zl hw139_1)).trans hw139_1)⟩ (fun hHeld => ?_); refine with_tabW spec_PolygonOk.tab13 spec_PolygonOk.bits13 (fun HT_ HW_ => ?_)
              generalize wr.drew = w24 at HB hx138_0 hx138_1 hx139_0 hx139_1 hHeld ⊢
              refine pure_ (i := 0) (N := some 31) (v := ?_) (a' := ?_) #[true, false, false, false, false, false, false, false, false, false, false, false] rfl rfl (any_of HT_.out (by kernel_rfl)) (fun _ _ _ h => h) (Or.inl ⟨by rfl, ?_⟩) ?_ ?_
              rotate_left
              ·intro w'
               go_simp
               with_reducible rfl
              rotate_left
              ·simp only [Act.put, zs1, zs2, zs3, i64_w, i32_w]
               rfl
              refine pure_ (i := 1) (N := some 32) (v := ?_) (a' := ?_) #[true, true, false, false, false, false, false, false, false, false, false, false] rfl rfl (any_of HT_.out (by kernel_rfl)) (fun _ _ _ h => h) (Or.inl ⟨by rfl, ?_⟩) ?_ ?_
              rotate_left
              ·intro w'
               go_simp
               with_reducible rfl
              rotate_left
              ·simp only [Act.put, zs1, zs2, zs3, i64_w, i32_w]
               rfl
              refine pure_ (i := 2) (N := some 33) (v := ?_) (a' := ?_) #[true, true, true, false, false, false, false, false, false, false, false, false] rfl rfl (any_of HT_.out (by kernel_rfl)) (fun _ _ _ h => h) (Or.inl ⟨by rfl, ?_⟩) ?_ ?_
              rotate_left
              ·intro w'
               go_simp
               with_reducible rfl
              rotate_left
              ·simp only [Act.put, zs1, zs2, zs3, i64_w, i32_w]
               rfl
              refine pure_ (i := 4) (N := some 35) (v := ?_) (a' := ?_) #[true, true, true, false, true, false, false, false, false, false, false, false] rfl rfl (any_of HT_.out (by kernel_rfl)) (fun _ _ _ h => h) (Or.inl ⟨by rfl, ?_⟩) ?_ ?_
              rotate_left
              ·intro w'
               go_simp
               with_reducible rfl
              rotate_left
              ·simp only [Act.put, zs1, zs2, zs3, i64_w, i32_w]
               rfl
              refine pure_ (i := 5) (N := some 36) (v := ?_) (a' := ?_) #[true, true, true, false, true, true, false, false, false, false, false, false] rfl rfl (any_of HT_.out (by kernel_rfl)) (fun _ _ _ h => h) (Or.inl ⟨by rfl, ?_⟩) ?_ ?_
              rotate_left
              ·intro w'
               go_simp
               with_reducible rfl
              rotate_left
              ·simp only [Act.put, zs1, zs2, zs3, i64_w, i32_w]
               rfl
              refine pure_ (i := 6) (N := some 37) (v := ?_) (a' := ?_) #[true, true, true, false, true, true, true, false, false, false, false, false] rfl rfl (any_of HT_.out (by kernel_rfl)) (fun _ _ _ h => h) (Or.inl ⟨by rfl, ?_⟩) ?_ ?_
              rotate_left
              ·intro w'
               go_simp
               with_reducible rfl
              rotate_left
              ·simp only [Act.put, zs1, zs2, zs3, i64_w, i32_w]
               rfl
              refine pure_ (i := 7) (N := some 38) (v := ?_) (a' := ?_) #[true, true, true, false, true, true, true, true, false, false, false, false] rfl rfl (any_of HT_.out (by kernel_rfl)) (fun _ _ _ h => h) (Or.inl ⟨by rfl, ?_⟩) ?_ ?_
              rotate_left
              ·intro w'
               go_simp
               with_reducible rfl
              rotate_left
              ·simp only [Act.put, zs1, zs2, zs3, i64_w, i32_w]
               rfl
              refine pure_ (i := 8) (N := some 39) (v := ?_) (a' := ?_) #[true, true, true, false, true, true, true, true, true, false, false, false] rfl rfl (any_of HT_.out (by kernel_rfl)) (fun _ _ _ h => h) (Or.inl ⟨by rfl, ?_⟩) ?_ ?_
              rotate_left
              ·intro w'
               go_simp
               with_reducible rfl
              rotate_left
              ·simp only [Act.put, zs1, zs2, zs3, i64_w, i32_w]
               rfl
              refine pure_ (i := 9) (N := some 40) (v := ?_) (a' := ?_) #[true, true, true, false, true, true, true, true, true, true, false, false] rfl rfl (any_of HT_.out (by kernel_rfl)) (fun _ _ _ h => h) (Or.inl ⟨by rfl, ?_⟩) ?_ ?_
              rotate_left
              ·intro w'
               go_simp
               with_reducible rfl
              rotate_left
              ·simp only [Act.put, zs1, zs2, zs3, i64_w, i32_w]
               rfl
              refine take_ (i := 3) (N := some 34) (v := ?_) (a' := ?_) #[true, true, true, true, true, true, true, true, true, true, false, false] rfl rfl (take_ofW HT_.out HW_.out (by kernel_rfl)) (fun _ _ _ h => h) (Or.inl ⟨by rfl, ?_⟩) hHeld ?_ ?_
              rotate_left
              ·rintro w' ⟨s0, s1, s2, s3⟩
               go_simp
               with_reducible rfl
              rotate_left
              ·simp only [Act.put, zs1, zs2, zs3, i64_w, i32_w]
               rfl
              refine take_ (i := 10) (N := some 41) (v := ?_) (a' := ?_) #[true, true, true, true, true, true, true, true, true, true, true, false] rfl rfl (take_ofW HT_.out HW_.out (by kernel_rfl)) (fun _ _ _ h => h) (Or.inl ⟨by rfl, ?_⟩) hHeld ?_ ?_
              rotate_left
              ·rintro w' ⟨s0, s1, s2, s3⟩
               go_simp
               with_reducible rfl
              rotate_left
              ·simp only [Act.put, zs1, zs2, zs3, i64_w, i32_w]
               rfl
              refine pure_ (i := 11) (N := some 42) (v := ?_) (a' := ?_) #[true, true, true, true, true, true, true, true, true, true, true, true] rfl rfl (any_of HT_.out (by kernel_rfl)) (fun _ _ _ h => h) (Or.inl ⟨by rfl, ?_⟩) ?_ ?_
              rotate_left
              ·intro w'
               go_simp
               with_reducible rfl
              rotate_left
              ·simp only [Act.put, zs1, zs2, zs3, i64_w, i32_w]
               rfl
              refine done_ (done_of HT_.out (by kernel_rfl)) ?_
              try go_wp2
              go_roundg k2
              case measure => have := HK1.out; have := HK2.out; omega
              case rel => exact ⟨(wrap64 (x28_2 + 1)), (by first | rfl | (simp; done) | (simp [*]; done)), H', ⟨by have := HK1.out; have := HK2.out; omega⟩, ⟨by repeat (first | (with_reducible first | exact HB.out | apply zc1 | apply zc2 | apply zc3) | exact HB.out)⟩⟩
            ·rw [if_neg c21] at H
             exact absurd H (by simp)
           ·rw [if_neg c20] at H
            exact absurd H (by simp)
         ·rw [if_neg c17] at H
          exact absurd H (by simp)
        ·rw [if_neg c16] at H
         exact absurd H (by simp)
       ·rw [if_neg c15] at H
        have c15b0 : decide (x28_2 < (l0.length : Int)) = false := decide_eq_false c15
        clear c15
        have H' := zm1 H
        clear H
        go_wp2
        go_loopg [46] k2 (fun kq v46 w' => ∃ (x46_3 : Int), v46 = .int .i64 x46_3 ∧ Aside0 (spec_PolygonOk.l2 kq l0 (l0.length : Int) (l0.length : Int) x46_3 = some r) ∧ Aside0 (kq ≤ k2) ∧ Aside0 (Below w.heap.size w w'))
        case atStart => exact ⟨(0), (by first | rfl | (simp; done) | (simp [*]; done)), H', ⟨Nat.le_refl _⟩, ⟨by repeat (first | (with_reducible first | exact HB.out | apply zc1 | apply zc2 | apply zc3) | exact HB.out)⟩⟩
        case round =>
         clear H'
         try clear c1
         try clear p1
         try clear q1
         try clear hx1
         try clear c2
         try clear p2
         try clear c3
         try clear c4
         try clear c4b0
         try clear c5
         try clear c5b0
         try clear c6
         try clear c6b0
         try clear p6
         try clear c8
         try clear p13
         try clear q13
         try clear hx13
         try clear c15
         try clear c15b0
         try clear c16
         try clear c16b0
         try clear c17
         try clear c17b0
         try clear c18
         try clear c18b0
         try clear c18b1
         try clear c18b2
         try clear c20
         try clear c20b0
         try clear c21
         try clear c21b0
         try clear c22
         try clear c22b0
         try clear c22b1
         try clear c22b2
         try clear hcz10_0
         try clear hcz10_1
         try clear hcz13_0
         try clear hcz13_1
         try clear hfz10_0
         try clear hfz10_1
         try clear hfz13_0
         try clear hfz13_1
         try clear hx135_0
         try clear hx135_1
         try clear hx138_0
         try clear hx138_1
         try clear hx139_0
         try clear hx139_1
         try clear p1
         try clear p13
         try clear p135
         try clear p138
         try clear p139
         try clear p2
         try clear p6
         try clear q1
         try clear q13
         try clear q135
         try clear q138
         try clear q139
         obtain ⟨x46_3, rfl, HA, HK3, HB⟩ := hrel
         cases gk with
         | zero => exact absurd HA.out (by simp [spec_PolygonOk.l2])
         | succ k3 =>
          have H := HA.out
          clear HA
          simp only [spec_PolygonOk.l2] at H
          by_cases c25 : x46_3 < (l0.length : Int)
          ·rw [if_pos c25] at H
           have c25b0 : decide (x46_3 < (l0.length : Int)) = true := decide_eq_true c25
           clear c25
           have H' := zm1 H
           clear H
           go_wp2
           go_loopg [8] k3 (fun kq v8 w' => ∃ (x8_4 : Int), v8 = .int .i64 x8_4 ∧ Aside0 (spec_PolygonOk.l3 kq l0 (l0.length : Int) x46_3 x8_4 (l0.length : Int) x46_3 = some r) ∧ Aside0 (kq ≤ k3) ∧ Aside0 (Below w.heap.size w w'))
           case atStart => exact ⟨(wrap64 (x46_3 + 1)), (by first | rfl | (simp; done) | (simp [*]; done)), H', ⟨Nat.le_refl _⟩, ⟨by repeat (first | (with_reducible first | exact HB.out | apply zc1 | apply zc2 | apply zc3) | exact HB.out)⟩⟩
           case round =>
            clear H'
            try clear c1
            try clear p1
            try clear q1
            try clear hx1
            try clear c2
            try clear p2
            try clear c3
            try clear c4
            try clear c4b0
            try clear c5
            try clear c5b0
            try clear c6
            try clear c6b0
            try clear p6
            try clear c8
            try clear p13
            try clear q13
            try clear hx13
            try clear c15
            try clear c15b0
            try clear c16
            try clear c16b0
            try clear c17
            try clear c17b0
            try clear c18
            try clear c18b0
            try clear c18b1
            try clear c18b2
            try clear c20
            try clear c20b0
            try clear c21
            try clear c21b0
            try clear c22
            try clear c22b0
            try clear c22b1
            try clear c22b2
            try clear c25
            try clear c25b0
            try clear hcz10_0
            try clear hcz10_1
            try clear hcz13_0
            try clear hcz13_1
            try clear hfz10_0
            try clear hfz10_1
            try clear hfz13_0
            try clear hfz13_1
            try clear hx135_0
            try clear hx135_1
            try clear hx138_0
            try clear hx138_1
            try clear hx139_0
            try clear hx139_1
            try clear p1
            try clear p13
            try clear p135
            try clear p138
            try clear p139
            try clear p2
            try clear p6
            try clear q1
            try clear q13
            try clear q135
            try clear q138
            try clear q139
            obtain ⟨x8_4, rfl, HA, HK4, HB⟩ := hrel
            cases gk with
            | zero => exact absurd HA.out (by simp [spec_PolygonOk.l3])
            | succ k4 =>
             have H := HA.out
             clear HA
             simp only [spec_PolygonOk.l3] at H
             by_cases c26 : x8_4 < (l0.length : Int)
             ·rw [if_pos c26] at H
              have c26b0 : decide (x8_4 < (l0.length : Int)) = true := decide_eq_true c26
              clear c26
              by_cases c27 : 0 ≤ x46_3
              ·rw [if_pos c27] at H
               have c27b0 : decide (0 ≤ x46_3) = true := decide_eq_true c27
               clear c27
               by_cases c28 : x46_3 < (l0.length : Int)
               ·rw [if_pos c28] at H
                have c28b0 : decide (x46_3 < (l0.length : Int)) = true := decide_eq_true c28
                clear c28
                by_cases c29 : (l0.length : Int) = 0
                ·rw [if_pos c29] at H
                 exact absurd H (by simp)
                ·rw [if_neg c29] at H
                 have c29b0 : ((l0.length : Int) == 0) = false := beq_eq_false_iff_ne.mpr c29
                 have c29b1 : ((l0.length : Int) != 0) = true := bne_iff_ne.mpr c29
                 have c29b2 : ¬ (l0 = []) := fun h_ => c29 (by rw [h_]; rfl)
                 obtain ⟨ji30, hji30⟩ : ∃ j_ : Int, (Int.tmod (wrap64 (x46_3 + 1)) (l0.length : Int)) = j_ := ⟨_, rfl⟩
                 replace H : (if 0 ≤ (ji30) then (if (ji30) < (l0.length : Int) then (if 0 ≤ x8_4 then (if x8_4 < (l0.length : Int) then (if 0 ≤ (Int.tmod (wrap64 (x8_4 + 1)) (l0.length : Int)) then (if (Int.tmod (wrap64 (x8_4 + 1)) (l0.length : Int)) < (l0.length : Int) then ((spec_l02Meet.f ((rd_T53 l0 x46_3).f0) ((rd_T53 l0 x46_3).f1) ((rd_T53 l0 (ji30)).f0) ((rd_T53 l0 (ji30)).f1) ((rd_T53 l0 x8_4).f0) ((rd_T53 l0 x8_4).f1) ((rd_T53 l0 (Int.tmod (wrap64 (x8_4 + 1)) (l0.length : Int))).f0) ((rd_T53 l0 (Int.tmod (wrap64 (x8_4 + 1)) (l0.length : Int))).f1)).bind fun t144 => (if x8_4 = (wrap64 (x46_3 + 1)) then (spec_PolygonOk.j4 k4 l0 (l0.length : Int) x46_3 x8_4 t144 (l0.length : Int) x46_3 true) else (if x46_3 = 0 then (spec_PolygonOk.j4 k4 l0 (l0.length : Int) x46_3 x8_4 t144 (l0.length : Int) x46_3 (x8_4 == (wrap64 ((l0.length : Int) - 1)))) else (spec_PolygonOk.j4 k4 l0 (l0.length : Int) x46_3 x8_4 t144 (l0.length : Int) x46_3 false)))) else (none)) else (none)) else (none)) else (none)) else (none)) else (none)) = some r := by first | (rw [hji30] at H; exact H) | (simp only [hji30] at H ⊢; exact H)
                 by_cases c31 : 0 ≤ (ji30)
                 ·rw [if_pos c31] at H
                  have c31b0 : decide (0 ≤ (ji30)) = true := decide_eq_true c31
                  clear c31
                  by_cases c32 : (ji30) < (l0.length : Int)
                  ·rw [if_pos c32] at H
                   have c32b0 : decide ((ji30) < (l0.length : Int)) = true := decide_eq_true c32
                   clear c32
                   by_cases c33 : 0 ≤ x8_4
                   ·rw [if_pos c33] at H
                    have c33b0 : decide (0 ≤ x8_4) = true := decide_eq_true c33
                    clear c33
                    by_cases c34 : x8_4 < (l0.length : Int)
                    ·rw [if_pos c34] at H
                     have c34b0 : decide (x8_4 < (l0.length : Int)) = true := decide_eq_true c34
                     clear c34
                     obtain ⟨ji35, hji35⟩ : ∃ j_ : Int, (Int.tmod (wrap64 (x8_4 + 1)) (l0.length : Int)) = j_ := ⟨_, rfl⟩
                     replace H : (if 0 ≤ (ji35) then (if (ji35) < (l0.length : Int) then ((spec_l02Meet.f ((rd_T53 l0 x46_3).f0) ((rd_T53 l0 x46_3).f1) ((rd_T53 l0 (ji30)).f0) ((rd_T53 l0 (ji30)).f1) ((rd_T53 l0 x8_4).f0) ((rd_T53 l0 x8_4).f1) ((rd_T53 l0 (ji35)).f0) ((rd_T53 l0 (ji35)).f1)).bind fun t144 => (if x8_4 = (wrap64 (x46_3 + 1)) then (spec_PolygonOk.j4 k4 l0 (l0.length : Int) x46_3 x8_4 t144 (l0.length : Int) x46_3 true) else (if x46_3 = 0 then (spec_PolygonOk.j4 k4 l0 (l0.length : Int) x46_3 x8_4 t144 (l0.length : Int) x46_3 (x8_4 == (wrap64 ((l0.length : Int) - 1)))) else (spec_PolygonOk.j4 k4 l0 (l0.length : Int) x46_3 x8_4 t144 (l0.length : Int) x46_3 false)))) else (none)) else (none)) = some r := by first | (rw [hji35] at H; exact H) | (simp only [hji35] at H ⊢; exact H)
                     by_cases c36 : 0 ≤ (ji35)
                     ·rw [if_pos c36] at H
                      have c36b0 : decide (0 ≤ (ji35)) = true := decide_eq_true c36
                      clear c36
                      by_cases c37 : (ji35) < (l0.length : Int)
                      ·rw [if_pos c37] at H
                       have c37b0 : decide ((ji35) < (l0.length : Int)) = true := decide_eq_true c37
                       clear c37
                       replace H := Option.bind_eq_some_iff.mp H
                       obtain ⟨t144, A380, H⟩ := H
                       replace H : (if x8_4 = (wrap64 (x46_3 + 1)) then (spec_PolygonOk.j4 k4 l0 (l0.length : Int) x46_3 x8_4 t144 (l0.length : Int) x46_3 true) else (if x46_3 = 0 then (spec_PolygonOk.j4 k4 l0 (l0.length : Int) x46_3 x8_4 t144 (l0.length : Int) x46_3 (x8_4 == (wrap64 ((l0.length : Int) - 1)))) else (spec_PolygonOk.j4 k4 l0 (l0.length : Int) x46_3 x8_4 t144 (l0.length : Int) x46_3 false))) = some r := H
                       have A38 := zm1 A380
                       clear A380
                       have HC39 := zm1 H
                       clear H
                       try go_wp2
                       have n0_ := zm1 (below_drew1 HB.out)
                       clear HB
                       have HB := n0_
                       clear n0_
                       have p140 : 0 ≤ (x46_3 : Int) := of_decide_eq_true (by assumption)
                       have q140 : x46_3 < (l0.length : Int) := of_decide_eq_true (by assumption)
                       obtain ⟨ad140, e140, hx140_0, hx140_1⟩ := at_T53 HR0.out x46_3 p140 q140
                       have hw140_1 := hx140_1
                       have hw140_0 := hx140_0
                       cases e140
                       (try replace hx140_0 := (HB.out.cell (zl hx140_0)).trans hx140_0)
                       (try replace hx140_1 := (HB.out.cell (zl hx140_1)).trans hx140_1)
                       replace p140 := eq_true p140
                       replace q140 := eq_true q140
                       have p141 : 0 ≤ ((ji30) : Int) := of_decide_eq_true (by assumption)
                       have q141 : (ji30) < (l0.length : Int) := of_decide_eq_true (by assumption)
                       obtain ⟨ad141, e141, hx141_0, hx141_1⟩ := at_T53 HR0.out (ji30) p141 q141
                       have hw141_1 := hx141_1
                       have hw141_0 := hx141_0
                       obtain rfl : ad140 = ad141 := (by injection e141)
                       (try replace hx141_0 := (HB.out.cell (zl hx141_0)).trans hx141_0)
                       (try replace hx141_1 := (HB.out.cell (zl hx141_1)).trans hx141_1)
                       replace p141 := eq_true p141
                       replace q141 := eq_true q141
                       have p142 : 0 ≤ (x8_4 : Int) := of_decide_eq_true (by assumption)
                       have q142 : x8_4 < (l0.length : Int) := of_decide_eq_true (by assumption)
                       obtain ⟨ad142, e142, hx142_0, hx142_1⟩ := at_T53 HR0.out x8_4 p142 q142
                       have hw142_1 := hx142_1
                       have hw142_0 := hx142_0
                       obtain rfl : ad140 = ad142 := (by injection e142)
                       (try replace hx142_0 := (HB.out.cell (zl hx142_0)).trans hx142_0)
                       (try replace hx142_1 := (HB.out.cell (zl hx142_1)).trans hx142_1)
                       replace p142 := eq_true p142
                       replace q142 := eq_true q142
                       have p143 : 0 ≤ ((ji35) : Int) := of_decide_eq_true (by assumption)
                       have q143 : (ji35) < (l0.length : Int) := of_decide_eq_true (by assumption)
                       obtain ⟨ad143, e143, hx143_0, hx143_1⟩ := at_T53 HR0.out (ji35) p143 q143
                       have hw143_1 := hx143_1
                       have hw143_0 := hx143_0
                       obtain rfl : ad140 = ad143 := (by injection e143)
                       (try replace hx143_0 := (HB.out.cell (zl hx143_0)).trans hx143_0)
                       (try replace hx143_1 := (HB.out.cell (zl hx143_1)).trans hx143_1)
                       replace p143 := eq_true p143
                       replace q143 := eq_true q143
                       refine start_ (n := 24) (S := fun w' => w'.cell? (ad140.add ((x46_3).toNat * 2)) = some (.int .i64 ((rd_T53 l0 x46_3).f0)) ∧ w'.cell? ⟨(ad140.add ((x46_3).toNat * 2)).block, (ad140.add ((x46_3).toNat * 2)).off + 1, none⟩ = some (.int .i64 ((rd_T53 l0 x46_3).f1)) ∧ w'.cell? (ad140.add (((ji30)).toNat * 2)) = some (.int .i64 ((rd_T53 l0 (ji30)).f0)) ∧ w'.cell? ⟨(ad140.add (((ji30)).toNat * 2)).block, (ad140.add (((ji30)).toNat * 2)).off + 1, none⟩ = some (.int .i64 ((rd_T53 l0 (ji30)).f1)) ∧ w'.cell? (ad140.add ((x8_4).toNat * 2)) = some (.int .i64 ((rd_T53 l0 x8_4).f0)) ∧ w'.cell? ⟨(ad140.add ((x8_4).toNat * 2)).block, (ad140.add ((x8_4).toNat * 2)).off + 1, none⟩ = some (.int .i64 ((rd_T53 l0 x8_4).f1)) ∧ w'.cell? (ad140.add (((ji35)).toNat * 2)) = some (.int .i64 ((rd_T53 l0 (ji35)).f0)) ∧ w'.cell? ⟨(ad140.add (((ji35)).toNat * 2)).block, (ad140.add (((ji35)).toNat * 2)).off + 1, none⟩ = some (.int .i64 ((rd_T53 l0 (ji35)).f1))) (ds := []) #[false, false, false, false, false, false, false, false, false, false, false, false, false, false, false, false, false, false, false, false, false, false, false, false] (by kernel_rfl) rfl rfl ⟨((HB.out.cell (zl hw140_0)).trans hw140_0), ((HB.out.cell (zl hw140_1)).trans hw140_1), ((HB.out.cell (zl hw141_0)).trans hw141_0), ((HB.out.cell (zl hw141_1)).trans hw141_1), ((HB.out.cell (zl hw142_0)).trans hw142_0), ((HB.out.cell (zl hw142_1)).trans hw142_1), ((HB.out.cell (zl hw143_0)).trans hw143_0), ((HB.out.cell (zl hw143_1)).trans hw143_1)⟩ (fun hHeld => ?_); refine with_tabW spec_PolygonOk.tab22 spec_PolygonOk.bits22 (fun HT_ HW_ => ?_)
                       generalize wr.drew = w40 at HB hx140_0 hx140_1 hx141_0 hx141_1 hx142_0 hx142_1 hx143_0 hx143_1 hHeld ⊢
                       refine pure_ (i := 0) (N := some 56) (v := ?_) (a' := ?_) #[true, false, false, false, false, false, false, false, false, false, false, false, false, false, false, false, false, false, false, false, false, false, false, false] rfl rfl (any_of HT_.out (by kernel_rfl)) (fun _ _ _ h => h) (Or.inl ⟨by rfl, ?_⟩) ?_ ?_
                       rotate_left
                       ·intro w'
                        go_simp
                        with_reducible rfl
                       rotate_left
                       ·simp only [Act.put, zs1, zs2, zs3, i64_w, i32_w]
                        rfl
                       refine pure_ (i := 1) (N := some 57) (v := ?_) (a' := ?_) #[true, true, false, false, false, false, false, false, false, false, false, false, false, false, false, false, false, false, false, false, false, false, false, false] rfl rfl (any_of HT_.out (by kernel_rfl)) (fun _ _ _ h => h) (Or.inl ⟨by rfl, ?_⟩) ?_ ?_
                       rotate_left
                       ·intro w'
                        go_simp
                        with_reducible rfl
                       rotate_left
                       ·simp only [Act.put, zs1, zs2, zs3, i64_w, i32_w]
                        rfl
                       refine pure_ (i := 2) (N := some 58) (v := ?_) (a' := ?_) #[true, true, true, false, false, false, false, false, false, false, false, false, false, false, false, false, false, false, false, false, false, false, false, false] rfl rfl (any_of HT_.out (by kernel_rfl)) (fun _ _ _ h => h) (Or.inl ⟨by rfl, ?_⟩) ?_ ?_
                       rotate_left
                       ·intro w'
                        go_simp
                        with_reducible rfl
                       rotate_left
                       ·simp only [Act.put, zs1, zs2, zs3, i64_w, i32_w]
                        rfl
                       refine pure_ (i := 4) (N := some 60) (v := ?_) (a' := ?_) #[true, true, true, false, true, false, false, false, false, false, false, false, false, false, false, false, false, false, false, false, false, false, false, false] rfl rfl (any_of HT_.out (by kernel_rfl)) (fun _ _ _ h => h) (Or.inl ⟨by rfl, ?_⟩) ?_ ?_
                       rotate_left
                       ·intro w'
                        go_simp
                        with_reducible rfl
                       rotate_left
                       ·simp only [Act.put, zs1, zs2, zs3, i64_w, i32_w]
                        rfl
                       refine pure_ (i := 5) (N := some 61) (v := ?_) (a' := ?_) #[true, true, true, false, true, true, false, false, false, false, false, false, false, false, false, false, false, false, false, false, false, false, false, false] rfl rfl (any_of HT_.out (by kernel_rfl)) (fun _ _ _ h => h) (Or.inl ⟨by rfl, ?_⟩) ?_ ?_
                       rotate_left
                       ·intro w'
                        go_simp
                        with_reducible rfl
                       rotate_left
                       ·simp only [Act.put, zs1, zs2, zs3, i64_w, i32_w]
                        rfl
                       refine pure_ (i := 6) (N := some 62) (v := ?_) (a' := ?_) #[true, true, true, false, true, true, true, false, false, false, false, false, false, false, false, false, false, false, false, false, false, false, false, false] rfl rfl (any_of HT_.out (by kernel_rfl)) (fun _ _ _ h => h) (Or.inl ⟨by rfl, ?_⟩) ?_ ?_
                       rotate_left
                       ·intro w'
                        go_simp
                        with_reducible rfl
                       rotate_left
                       ·simp only [Act.put, zs1, zs2, zs3, i64_w, i32_w]
                        rfl
                       refine pure_ (i := 7) (N := some 63) (v := ?_) (a' := ?_) #[true, true, true, false, true, true, true, true, false, false, false, false, false, false, false, false, false, false, false, false, false, false, false, false] rfl rfl (any_of HT_.out (by kernel_rfl)) (fun _ _ _ h => h) (Or.inl ⟨by rfl, ?_⟩) ?_ ?_
                       rotate_left
                       ·intro w'
                        go_simp
                        with_reducible rfl
                       rotate_left
                       ·simp only [Act.put, zs1, zs2, zs3, i64_w, i32_w]
                        rfl
                       refine pure_ (i := 8) (N := some 64) (v := ?_) (a' := ?_) #[true, true, true, false, true, true, true, true, true, false, false, false, false, false, false, false, false, false, false, false, false, false, false, false] rfl rfl (any_of HT_.out (by kernel_rfl)) (fun _ _ _ h => h) (Or.inl ⟨by rfl, ?_⟩) ?_ ?_
                       rotate_left
                       ·intro w'
                        go_simp
                        with_reducible rfl
                       rotate_left
                       ·simp only [Act.put, zs1, zs2, zs3, i64_w, i32_w]
                        rfl
                       refine pure_ (i := 9) (N := some 65) (v := ?_) (a' := ?_) #[true, true, true, false, true, true, true, true, true, true, false, false, false, false, false, false, false, false, false, false, false, false, false, false] rfl rfl (any_of HT_.out (by kernel_rfl)) (fun _ _ _ h => h) (Or.inl ⟨by rfl, ?_⟩) ?_ ?_
                       rotate_left
                       ·intro w'
                        go_simp
                        with_reducible rfl
                       rotate_left
                       ·simp only [Act.put, zs1, zs2, zs3, i64_w, i32_w]
                        rfl
                       refine pure_ (i := 11) (N := some 67) (v := ?_) (a' := ?_) #[true, true, true, false, true, true, true, true, true, true, false, true, false, false, false, false, false, false, false, false, false, false, false, false] rfl rfl (any_of HT_.out (by kernel_rfl)) (fun _ _ _ h => h) (Or.inl ⟨by rfl, ?_⟩) ?_ ?_
                       rotate_left
                       ·intro w'
                        go_simp
                        with_reducible rfl
                       rotate_left
                       ·simp only [Act.put, zs1, zs2, zs3, i64_w, i32_w]
                        rfl
                       refine pure_ (i := 12) (N := some 68) (v := ?_) (a' := ?_) #[true, true, true, false, true, true, true, true, true, true, false, true, true, false, false, false, false, false, false, false, false, false, false, false] rfl rfl (any_of HT_.out (by kernel_rfl)) (fun _ _ _ h => h) (Or.inl ⟨by rfl, ?_⟩) ?_ ?_
                       rotate_left
                       ·intro w'
                        go_simp
                        with_reducible rfl
                       rotate_left
                       ·simp only [Act.put, zs1, zs2, zs3, i64_w, i32_w]
                        rfl
                       refine pure_ (i := 13) (N := some 69) (v := ?_) (a' := ?_) #[true, true, true, false, true, true, true, true, true, true, false, true, true, true, false, false, false, false, false, false, false, false, false, false] rfl rfl (any_of HT_.out (by kernel_rfl)) (fun _ _ _ h => h) (Or.inl ⟨by rfl, ?_⟩) ?_ ?_
                       rotate_left
                       ·intro w'
                        go_simp
                        with_reducible rfl
                       rotate_left
                       ·simp only [Act.put, zs1, zs2, zs3, i64_w, i32_w]
                        rfl
                       refine pure_ (i := 15) (N := some 71) (v := ?_) (a' := ?_) #[true, true, true, false, true, true, true, true, true, true, false, true, true, true, false, true, false, false, false, false, false, false, false, false] rfl rfl (any_of HT_.out (by kernel_rfl)) (fun _ _ _ h => h) (Or.inl ⟨by rfl, ?_⟩) ?_ ?_
                       rotate_left
                       ·intro w'
                        go_simp
                        with_reducible rfl
                       rotate_left
                       ·simp only [Act.put, zs1, zs2, zs3, i64_w, i32_w]
                        rfl
                       refine pure_ (i := 16) (N := some 72) (v := ?_) (a' := ?_) #[true, true, true, false, true, true, true, true, true, true, false, true, true, true, false, true, true, false, false, false, false, false, false, false] rfl rfl (any_of HT_.out (by kernel_rfl)) (fun _ _ _ h => h) (Or.inl ⟨by rfl, ?_⟩) ?_ ?_
                       rotate_left
                       ·intro w'
                        go_simp
                        with_reducible rfl
                       rotate_left
                       ·simp only [Act.put, zs1, zs2, zs3, i64_w, i32_w]
                        rfl
                       refine pure_ (i := 17) (N := some 73) (v := ?_) (a' := ?_) #[true, true, true, false, true, true, true, true, true, true, false, true, true, true, false, true, true, true, false, false, false, false, false, false] rfl rfl (any_of HT_.out (by kernel_rfl)) (fun _ _ _ h => h) (Or.inl ⟨by rfl, ?_⟩) ?_ ?_
                       rotate_left
                       ·intro w'
                        go_simp
                        with_reducible rfl
                       rotate_left
                       ·simp only [Act.put, zs1, zs2, zs3, i64_w, i32_w]
                        rfl
                       refine pure_ (i := 18) (N := some 74) (v := ?_) (a' := ?_) #[true, true, true, false, true, true, true, true, true, true, false, true, true, true, false, true, true, true, true, false, false, false, false, false] rfl rfl (any_of HT_.out (by kernel_rfl)) (fun _ _ _ h => h) (Or.inl ⟨by rfl, ?_⟩) ?_ ?_
                       rotate_left
                       ·intro w'
                        go_simp
                        with_reducible rfl
                       rotate_left
                       ·simp only [Act.put, zs1, zs2, zs3, i64_w, i32_w]
                        rfl
                       refine pure_ (i := 19) (N := some 75) (v := ?_) (a' := ?_) #[true, true, true, false, true, true, true, true, true, true, false, true, true, true, false, true, true, true, true, true, false, false, false, false] rfl rfl (any_of HT_.out (by kernel_rfl)) (fun _ _ _ h => h) (Or.inl ⟨by rfl, ?_⟩) ?_ ?_
                       rotate_left
                       ·intro w'
                        go_simp
                        with_reducible rfl
                       rotate_left
                       ·simp only [Act.put, zs1, zs2, zs3, i64_w, i32_w]
                        rfl
                       refine pure_ (i := 20) (N := some 76) (v := ?_) (a' := ?_) #[true, true, true, false, true, true, true, true, true, true, false, true, true, true, false, true, true, true, true, true, true, false, false, false] rfl rfl (any_of HT_.out (by kernel_rfl)) (fun _ _ _ h => h) (Or.inl ⟨by rfl, ?_⟩) ?_ ?_
                       rotate_left
                       ·intro w'
                        go_simp
                        with_reducible rfl
                       rotate_left
                       ·simp only [Act.put, zs1, zs2, zs3, i64_w, i32_w]
                        rfl
                       refine take_ (i := 3) (N := some 59) (v := ?_) (a' := ?_) #[true, true, true, true, true, true, true, true, true, true, false, true, true, true, false, true, true, true, true, true, true, false, false, false] rfl rfl (take_ofW HT_.out HW_.out (by kernel_rfl)) (fun _ _ _ h => h) (Or.inl ⟨by rfl, ?_⟩) hHeld ?_ ?_
                       rotate_left
                       ·rintro w' ⟨s0, s1, s2, s3, s4, s5, s6, s7⟩
                        go_simp
                        with_reducible rfl
                       rotate_left
                       ·simp only [Act.put, zs1, zs2, zs3, i64_w, i32_w]
                        rfl
                       refine take_ (i := 10) (N := some 66) (v := ?_) (a' := ?_) #[true, true, true, true, true, true, true, true, true, true, true, true, true, true, false, true, true, true, true, true, true, false, false, false] rfl rfl (take_ofW HT_.out HW_.out (by kernel_rfl)) (fun _ _ _ h => h) (Or.inl ⟨by rfl, ?_⟩) hHeld ?_ ?_
                       rotate_left
                       ·rintro w' ⟨s0, s1, s2, s3, s4, s5, s6, s7⟩
                        go_simp
                        with_reducible rfl
                       rotate_left
                       ·simp only [Act.put, zs1, zs2, zs3, i64_w, i32_w]
                        rfl
                       refine take_ (i := 14) (N := some 70) (v := ?_) (a' := ?_) #[true, true, true, true, true, true, true, true, true, true, true, true, true, true, true, true, true, true, true, true, true, false, false, false] rfl rfl (take_ofW HT_.out HW_.out (by kernel_rfl)) (fun _ _ _ h => h) (Or.inl ⟨by rfl, ?_⟩) hHeld ?_ ?_
                       rotate_left
                       ·rintro w' ⟨s0, s1, s2, s3, s4, s5, s6, s7⟩
                        go_simp
                        with_reducible rfl
                       rotate_left
                       ·simp only [Act.put, zs1, zs2, zs3, i64_w, i32_w]
                        rfl
                       refine take_ (i := 21) (N := some 77) (v := ?_) (a' := ?_) #[true, true, true, true, true, true, true, true, true, true, true, true, true, true, true, true, true, true, true, true, true, true, false, false] rfl rfl (take_ofW HT_.out HW_.out (by kernel_rfl)) (fun _ _ _ h => h) (Or.inl ⟨by rfl, ?_⟩) hHeld ?_ ?_
                       rotate_left
                       ·rintro w' ⟨s0, s1, s2, s3, s4, s5, s6, s7⟩
                        go_simp
                        with_reducible rfl
                       rotate_left
                       ·simp only [Act.put, zs1, zs2, zs3, i64_w, i32_w]
                        rfl
                       refine one_ (i := 22) (N := some 78) #[true, true, true, true, true, true, true, true, true, true, true, true, true, true, true, true, true, true, true, true, true, true, true, false] rfl rfl (one_of HT_.out (by kernel_rfl)) (by decide) (fun K hK => ?_)
                       refine goes_ Tryd.func65 (by kernel_rfl) rfl #[.agg #[.int .i64 ((rd_T53 l0 x46_3).f0), .int .i64 ((rd_T53 l0 x46_3).f1)], .agg #[.int .i64 ((rd_T53 l0 (ji30)).f0), .int .i64 ((rd_T53 l0 (ji30)).f1)], .agg #[.int .i64 ((rd_T53 l0 x8_4).f0), .int .i64 ((rd_T53 l0 x8_4).f1)], .agg #[.int .i64 ((rd_T53 l0 (ji35)).f0), .int .i64 ((rd_T53 l0 (ji35)).f1)]] (by rfl) rfl rfl (by (try simp only [List.map_toArray, List.map_cons, List.map_nil]); first | done | (simp only [hji30, hji35]; rfl) | rfl | (simp only [List.length_drop, List.length_take]; rfl)) ?_
                       with_reducible refine (spec_l02Meet.calls ((rd_T53 l0 x46_3).f0) ((rd_T53 l0 x46_3).f1) ((rd_T53 l0 (ji30)).f0) ((rd_T53 l0 (ji30)).f1) ((rd_T53 l0 x8_4).f0) ((rd_T53 l0 x8_4).f1) ((rd_T53 l0 (ji35)).f0) ((rd_T53 l0 (ji35)).f1) t144 _ A38.out).mono ?_
                       rintro e w41 ⟨rfl, hb⟩
                       refine ⟨_, rfl, ?_⟩
                       have n0_ := zm1 (zc6 (by repeat (first | (with_reducible first | exact HB.out | apply zc1 | apply zc2 | apply zc3) | exact HB.out)) hb)
                       clear HB
                       have HB := n0_
                       clear n0_
                       (try clear hb)
                       (try clear hb2)
                       (try clear hk)
                       (try clear hi)
                       refine hK.out _ _ ⟨((HB.out.cell (zl hw140_0)).trans hw140_0), ((HB.out.cell (zl hw140_1)).trans hw140_1), ((HB.out.cell (zl hw141_0)).trans hw141_0), ((HB.out.cell (zl hw141_1)).trans hw141_1), ((HB.out.cell (zl hw142_0)).trans hw142_0), ((HB.out.cell (zl hw142_1)).trans hw142_1), ((HB.out.cell (zl hw143_0)).trans hw143_0), ((HB.out.cell (zl hw143_1)).trans hw143_1)⟩ (fun hHeld => ?_)
                       clear hK K
                       refine norm_ (a' := ?_) ?_ ?_
                       rotate_left
                       ·show Act.put _ (some 78) _ = _
                        simp only [Act.put, zs1, zs2, zs3, i64_w, i32_w]
                        rfl
                       refine pure_ (i := 23) (N := some 9) (v := ?_) (a' := ?_) #[true, true, true, true, true, true, true, true, true, true, true, true, true, true, true, true, true, true, true, true, true, true, true, true] rfl rfl (any_of HT_.out (by kernel_rfl)) (fun _ _ _ h => h) (Or.inl ⟨by rfl, ?_⟩) ?_ ?_
                       rotate_left
                       ·intro w'
                        go_simp
                        with_reducible rfl
                       rotate_left
                       ·simp only [Act.put, zs1, zs2, zs3, i64_w, i32_w]
                        rfl
                       refine done_ (done_of HT_.out (by kernel_rfl)) ?_
                       go_upto_region 23 with (fail)
                       go_cut [92] (fun v92 wc => ∃ (kq : Nat) (x92_38 : Bool), v92 = .bool x92_38 ∧ Aside0 (spec_PolygonOk.j4 kq l0 (l0.length : Int) x46_3 x8_4 t144 (l0.length : Int) x46_3 x92_38 = some r) ∧ Aside0 (kq ≤ k4) ∧ Aside0 (Below w.heap.size w wc))
                       case first =>
                        have H := HC39.out
                        clear HC39
                        by_cases c42 : x8_4 = (wrap64 (x46_3 + 1))
                        ·rw [if_pos c42] at H
                         have c42b0 : (x8_4 == (wrap64 (x46_3 + 1))) = true := beq_iff_eq.mpr c42
                         have c42b1 : (x8_4 != (wrap64 (x46_3 + 1))) = false := bne_eq_false_iff_eq.mpr c42
                         clear c42
                         (first | rw [c42b0] | (simp only [i64_w, i32_w]; rw [c42b0]) | skip)
                         have H' := zm1 H
                         clear H
                         go_wp2
                         go_meet
                         case rel => exact ⟨_, (true), (by first | rfl | (simp; done) | (simp [*]; done)), H', ⟨by have := HK1.out; have := HK2.out; have := HK3.out; have := HK4.out; first | omega | exact Nat.le_refl _⟩, ⟨by repeat (first | (with_reducible first | exact HB.out | apply zc1 | apply zc2 | apply zc3) | exact HB.out)⟩⟩
                        ·rw [if_neg c42] at H
                         have c42b0 : (x8_4 == (wrap64 (x46_3 + 1))) = false := beq_eq_false_iff_ne.mpr c42
                         have c42b1 : (x8_4 != (wrap64 (x46_3 + 1))) = true := bne_iff_ne.mpr c42
                         (first | rw [c42b0] | (simp only [i64_w, i32_w]; rw [c42b0]) | skip)
                         by_cases c43 : x46_3 = 0
                         ·rw [if_pos c43] at H
                          have c43b0 : (x46_3 == 0) = true := beq_iff_eq.mpr c43
                          have c43b1 : (x46_3 != 0) = false := bne_eq_false_iff_eq.mpr c43
                          clear c43
                          have H' := zm1 H
                          clear H
                          go_wp2
                          go_meet
                          case rel => exact ⟨_, ((x8_4 == (wrap64 ((l0.length : Int) - 1)))), (by first | rfl | (simp; done) | (simp [*]; done)), H', ⟨by have := HK1.out; have := HK2.out; have := HK3.out; have := HK4.out; first | omega | exact Nat.le_refl _⟩, ⟨by repeat (first | (with_reducible first | exact HB.out | apply zc1 | apply zc2 | apply zc3) | exact HB.out)⟩⟩
                         ·rw [if_neg c43] at H
                          have c43b0 : (x46_3 == 0) = false := beq_eq_false_iff_ne.mpr c43
                          have c43b1 : (x46_3 != 0) = true := bne_iff_ne.mpr c43
                          have H' := zm1 H
                          clear H
                          go_wp2
                          go_meet
                          case rel => exact ⟨_, (false), (by first | rfl | (simp; done) | (simp [*]; done)), H', ⟨by have := HK1.out; have := HK2.out; have := HK3.out; have := HK4.out; first | omega | exact Nat.le_refl _⟩, ⟨by repeat (first | (with_reducible first | exact HB.out | apply zc1 | apply zc2 | apply zc3) | exact HB.out)⟩⟩
                       case rest =>
                        clear HC39
                        try clear c1
                        try clear p1
                        try clear q1
                        try clear hx1
                        try clear c2
                        try clear p2
                        try clear c3
                        try clear c4
                        try clear c4b0
                        try clear c5
                        try clear c5b0
                        try clear c6
                        try clear c6b0
                        try clear p6
                        try clear c8
                        try clear p13
                        try clear q13
                        try clear hx13
                        try clear p14
                        try clear q14
                        try clear hx14
                        try clear c15
                        try clear c15b0
                        try clear c16
                        try clear c16b0
                        try clear c17
                        try clear c17b0
                        try clear c18
                        try clear c18b0
                        try clear c18b1
                        try clear c18b2
                        try clear c20
                        try clear c20b0
                        try clear c21
                        try clear c21b0
                        try clear c22
                        try clear c22b0
                        try clear c22b1
                        try clear c22b2
                        try clear c25
                        try clear c25b0
                        try clear c26
                        try clear c26b0
                        try clear c27
                        try clear c27b0
                        try clear c28
                        try clear c28b0
                        try clear c29
                        try clear c29b0
                        try clear c29b1
                        try clear c29b2
                        try clear c31
                        try clear c31b0
                        try clear c32
                        try clear c32b0
                        try clear c33
                        try clear c33b0
                        try clear c34
                        try clear c34b0
                        try clear c36
                        try clear c36b0
                        try clear c37
                        try clear c37b0
                        try clear c42
                        try clear c42b0
                        try clear c42b1
                        try clear c43
                        try clear c43b0
                        try clear c43b1
                        try clear hcz10_0
                        try clear hcz10_1
                        try clear hcz13_0
                        try clear hcz13_1
                        try clear hfz10_0
                        try clear hfz10_1
                        try clear hfz13_0
                        try clear hfz13_1
                        try clear hx135_0
                        try clear hx135_1
                        try clear hx138_0
                        try clear hx138_1
                        try clear hx139_0
                        try clear hx139_1
                        try clear hx140_0
                        try clear hx140_1
                        try clear hx141_0
                        try clear hx141_1
                        try clear hx142_0
                        try clear hx142_1
                        try clear hx143_0
                        try clear hx143_1
                        try clear p1
                        try clear p13
                        try clear p135
                        try clear p138
                        try clear p139
                        try clear p140
                        try clear p141
                        try clear p142
                        try clear p143
                        try clear p2
                        try clear p6
                        try clear q1
                        try clear q13
                        try clear q135
                        try clear q138
                        try clear q139
                        try clear q140
                        try clear q141
                        try clear q142
                        try clear q143
                        obtain ⟨kq, x92_38, rfl, HA, HJ38, HB⟩ := hcut
                        cases kq with
                        | zero => exact absurd HA.out (by simp [spec_PolygonOk.j4])
                        | succ kj38 =>
                         have H := HA.out
                         clear HA
                         simp only [spec_PolygonOk.j4] at H
                         by_cases c44 : x92_38 = true
                         ·subst c44
                          have H1 : (if t144 = 1 then (spec_PolygonOk.l3 kj38 l0 (l0.length : Int) x46_3 (wrap64 (x8_4 + 1)) (l0.length : Int) x46_3) else (some false)) = some r := by rw [if_pos rfl] at H; exact H
                          clear H
                          have H := H1
                          clear H1
                          by_cases c45 : t144 = 1
                          ·rw [if_pos c45] at H
                           have c45b0 : (t144 == 1) = true := beq_iff_eq.mpr c45
                           have c45b1 : (t144 != 1) = false := bne_eq_false_iff_eq.mpr c45
                           clear c45
                           have H' := zm1 H
                           clear H
                           go_wp2
                           go_roundg kj38
                           case measure => have := HK1.out; have := HK2.out; have := HK3.out; have := HK4.out; have := HJ38.out; omega
                           case rel => exact ⟨(wrap64 (x8_4 + 1)), (by first | rfl | (simp; done) | (simp [*]; done)), H', ⟨by have := HK1.out; have := HK2.out; have := HK3.out; have := HK4.out; have := HJ38.out; omega⟩, ⟨by repeat (first | (with_reducible first | exact HB.out | apply zc1 | apply zc2 | apply zc3) | exact HB.out)⟩⟩
                          ·rw [if_neg c45] at H
                           have c45b0 : (t144 == 1) = false := beq_eq_false_iff_ne.mpr c45
                           have c45b1 : (t144 != 1) = true := bne_iff_ne.mpr c45
                           obtain rfl := Option.some.inj H
                           go_wp2
                           go_ret
                           exact ⟨by first | rfl | (simp [errW_none, errW_some] <;> rfl) | (simp only [← hji30, ← hji35]; first | rfl | (simp [errW_none, errW_some] <;> rfl)) | (simp [*, errW_none, errW_some] <;> rfl), by repeat (first | (with_reducible first | exact HB.out | apply zc1 | apply zc2 | apply zc3) | exact HB.out)⟩
                         ·replace c44 := Bool.eq_false_iff.mpr c44
                          subst c44
                          have H1 : (if t144 = 0 then (spec_PolygonOk.l3 kj38 l0 (l0.length : Int) x46_3 (wrap64 (x8_4 + 1)) (l0.length : Int) x46_3) else (some false)) = some r := by rw [if_neg (show ¬ (false = true) by decide)] at H; exact H
                          clear H
                          have H := H1
                          clear H1
                          by_cases c46 : t144 = 0
                          ·rw [if_pos c46] at H
                           have c46b0 : (t144 == 0) = true := beq_iff_eq.mpr c46
                           have c46b1 : (t144 != 0) = false := bne_eq_false_iff_eq.mpr c46
                           clear c46
                           have H' := zm1 H
                           clear H
                           go_wp2
                           go_roundg kj38
                           case measure => have := HK1.out; have := HK2.out; have := HK3.out; have := HK4.out; have := HJ38.out; omega
                           case rel => exact ⟨(wrap64 (x8_4 + 1)), (by first | rfl | (simp; done) | (simp [*]; done)), H', ⟨by have := HK1.out; have := HK2.out; have := HK3.out; have := HK4.out; have := HJ38.out; omega⟩, ⟨by repeat (first | (with_reducible first | exact HB.out | apply zc1 | apply zc2 | apply zc3) | exact HB.out)⟩⟩
                          ·rw [if_neg c46] at H
                           have c46b0 : (t144 == 0) = false := beq_eq_false_iff_ne.mpr c46
                           have c46b1 : (t144 != 0) = true := bne_iff_ne.mpr c46
                           obtain rfl := Option.some.inj H
                           go_wp2
                           go_ret
                           exact ⟨by first | rfl | (simp [errW_none, errW_some] <;> rfl) | (simp only [← hji30, ← hji35]; first | rfl | (simp [errW_none, errW_some] <;> rfl)) | (simp [*, errW_none, errW_some] <;> rfl), by repeat (first | (with_reducible first | exact HB.out | apply zc1 | apply zc2 | apply zc3) | exact HB.out)⟩
                      ·rw [if_neg c37] at H
                       exact absurd H (by simp)
                     ·rw [if_neg c36] at H
                      exact absurd H (by simp)
                    ·rw [if_neg c34] at H
                     exact absurd H (by simp)
                   ·rw [if_neg c33] at H
                    exact absurd H (by simp)
                  ·rw [if_neg c32] at H
                   exact absurd H (by simp)
                 ·rw [if_neg c31] at H
                  exact absurd H (by simp)
               ·rw [if_neg c28] at H
                exact absurd H (by simp)
              ·rw [if_neg c27] at H
               exact absurd H (by simp)
             ·rw [if_neg c26] at H
              have c26b0 : decide (x8_4 < (l0.length : Int)) = false := decide_eq_false c26
              clear c26
              have H' := zm1 H
              clear H
              go_wp2
              go_roundg k4
              case measure => have := HK1.out; have := HK2.out; have := HK3.out; have := HK4.out; omega
              case rel => exact ⟨(wrap64 (x46_3 + 1)), (by first | rfl | (simp; done) | (simp [*]; done)), H', ⟨by have := HK1.out; have := HK2.out; have := HK3.out; have := HK4.out; omega⟩, ⟨by repeat (first | (with_reducible first | exact HB.out | apply zc1 | apply zc2 | apply zc3) | exact HB.out)⟩⟩
          ·rw [if_neg c25] at H
           have c25b0 : decide (x46_3 < (l0.length : Int)) = false := decide_eq_false c25
           clear c25
           obtain rfl := Option.some.inj H
           go_wp2
           go_ret
           exact ⟨by first | rfl | (simp [errW_none, errW_some] <;> rfl) | (simp [*, errW_none, errW_some] <;> rfl), by repeat (first | (with_reducible first | exact HB.out | apply zc1 | apply zc2 | apply zc3) | exact HB.out)⟩
 ·replace c3 := Bool.eq_false_iff.mpr c3
  subst c3
  have H1 : (some false) = some r := by rw [if_neg (show ¬ (false = true) by decide)] at H; exact H
  clear H
  have H := H1
  clear H1
  obtain rfl := Option.some.inj H
  go_enter Tryd.func41, Tryd.ntmps41
  go_wp2_with (first | ((with_reducible refine gate_callee (f := 51) rfl ?_); refine goesL_ (some 12) rfl rfl Tryd.func51 (by kernel_rfl) rfl #[.int .i64 (l0.length : Int), .int .i64 3, .int .i64 10] rfl (by (try simp only [List.map_toArray, List.map_cons, List.map_nil]); first | done | rfl | (simp only [List.length_drop, List.length_take]; rfl)) ?_; (with_reducible refine (spec_l01In.calls (l0.length : Int) 3 10 false _ A2.out).mono ?_); rintro e w' ⟨rfl, ⟨nd, rfl⟩⟩; refine ⟨_, rfl, ?_⟩))
  go_ret
  exact ⟨by first | rfl | (simp [errW_none, errW_some] <;> rfl) | (simp [*, errW_none, errW_some] <;> rfl), by repeat (first | (with_reducible first | exact HB.out | apply zc1 | apply zc2 | apply zc3) | exact HB.out)⟩

end Go.Proofs.YtelhjgkjnlcomaaDoor.QFnExactMeasureLine
