-- Printed for this claim by a changed copy of the kit's print (the session's own; own contracts in place of some functions).
import Derived.Test.YtdiphnkkomfmdaaQFnExactBestCutx0
import Derived.Test.YtdiphnkkomfmdaaQFnExactBestCutx4
import Derived.Test.YtdiphnkkomfmdaaQFnExactBestCutx6
namespace Go.Proofs.Ytdiphnkkomfmdaa.QFnExactBestCut
open Go.RowKit Go.Proofs.YtdiphnkkomfmdaaW.PrintWords Go.Proofs.YtdiphnkkomfmdaaW.PrintLast Go.Proofs.YtdiphnkkomfmdaaW.PrintMore
attribute [local go_sem] max2_int min2_int max_two min_two max_three min_three max_four min_four   -- for this text's walks alone
set_option linter.unusedVariables false
set_option linter.unusedSimpArgs false

/-! ### spec_DiagonalsOf: function 85 -/
mutual
def spec_DiagonalsOf.l0 : Nat → List (S61) → List (List Int) → Int → Int → Option ((List (List Int)))
 | 0, _, _, _, _ => none
 | k + 1, x0, x3, x11, x12 => if x12 < x11 then (spec_DiagonalsOf.l1 k x0 x3 x12 (wrap64 (x12 + 1)) x11 x12) else (some x3)
def spec_DiagonalsOf.l1 : Nat → List (S61) → List (List Int) → Int → Int → Int → Int → Option ((List (List Int)))
 | 0, _, _, _, _, _, _ => none
 | k + 1, x0, x3, x4, x5, x11, x12 => if x5 < (x0.length : Int) then ((spec_l05Diagonal.f k x0 x4 x5).bind fun t174 => (if t174 = true then (if x3.length < 5864062014805 then (spec_DiagonalsOf.l1 k x0 (x3 ++ [(([x4, x5] : List Int))]) x4 (wrap64 (x5 + 1)) x11 x12) else (none)) else (spec_DiagonalsOf.l1 k x0 x3 x4 (wrap64 (x5 + 1)) x11 x12))) else (spec_DiagonalsOf.l0 k x0 x3 x11 (wrap64 (x12 + 1)))
end
def spec_DiagonalsOf.f (k : Nat) (l0 : List (S61)) : Option ((List (List Int))) := (spec_PolygonOk.f k l0).bind fun t170 => (if t170 = true then (spec_DiagonalsOf.l0 k l0 (([] : List (List Int))) (l0.length : Int) 0) else (some ([] : List (List Int))))
theorem spec_DiagonalsOf.mono_l : ∀ k, (∀ y0 y1 y2 y3, LeO (spec_DiagonalsOf.l0 k y0 y1 y2 y3) (spec_DiagonalsOf.l0 (k + 1) y0 y1 y2 y3)) ∧ (∀ y0 y1 y2 y3 y4 y5, LeO (spec_DiagonalsOf.l1 k y0 y1 y2 y3 y4 y5) (spec_DiagonalsOf.l1 (k + 1) y0 y1 y2 y3 y4 y5))
 | 0 => ⟨fun _ _ _ _ r h => by simp [spec_DiagonalsOf.l0] at h, fun _ _ _ _ _ _ r h => by simp [spec_DiagonalsOf.l1] at h⟩
 | k + 1 => by
  obtain ⟨ih0, ih1⟩ := spec_DiagonalsOf.mono_l k
  refine ⟨?_, ?_⟩
  ·intro y0 y1 y2 y3
   unfold spec_DiagonalsOf.l0
   repeat' first
   | (with_reducible exact ih0 _ _ _ _)
   | (with_reducible exact ih1 _ _ _ _ _ _)
   | (with_reducible exact spec_PolygonOk.mono _ _)
   | (with_reducible exact spec_l05Diagonal.mono _ _ _ _)
   | (with_reducible exact LeO.refl _)
   | (with_reducible exact LeO.none _)
   | (with_reducible refine LeO.ite ?_ ?_)
   | (with_reducible refine LeO.bind ?_ (fun _ => ?_))
   | exact ih0 _ _ _ _
   | exact ih1 _ _ _ _ _ _
   | exact spec_PolygonOk.mono _ _
   | exact spec_l05Diagonal.mono _ _ _ _
   | exact LeO.none _
   | refine LeO.ite ?_ ?_
   | refine LeO.bind ?_ (fun _ => ?_)
  ·intro y0 y1 y2 y3 y4 y5
   unfold spec_DiagonalsOf.l1
   repeat' first
   | (with_reducible exact ih0 _ _ _ _)
   | (with_reducible exact ih1 _ _ _ _ _ _)
   | (with_reducible exact spec_PolygonOk.mono _ _)
   | (with_reducible exact spec_l05Diagonal.mono _ _ _ _)
   | (with_reducible exact LeO.refl _)
   | (with_reducible exact LeO.none _)
   | (with_reducible refine LeO.ite ?_ ?_)
   | (with_reducible refine LeO.bind ?_ (fun _ => ?_))
   | exact ih0 _ _ _ _
   | exact ih1 _ _ _ _ _ _
   | exact spec_PolygonOk.mono _ _
   | exact spec_l05Diagonal.mono _ _ _ _
   | exact LeO.none _
   | refine LeO.ite ?_ ?_
   | refine LeO.bind ?_ (fun _ => ?_)
theorem spec_DiagonalsOf.mono : ∀ a0 k, LeO (spec_DiagonalsOf.f k a0) (spec_DiagonalsOf.f (k + 1) a0) := by
 intro a0 k
 obtain ⟨ih0, ih1⟩ := spec_DiagonalsOf.mono_l k
 unfold spec_DiagonalsOf.f
 repeat' first
   | (with_reducible exact ih0 _ _ _ _)
   | (with_reducible exact ih1 _ _ _ _ _ _)
   | (with_reducible exact spec_PolygonOk.mono _ _)
   | (with_reducible exact spec_l05Diagonal.mono _ _ _ _)
   | (with_reducible exact LeO.refl _)
   | (with_reducible exact LeO.none _)
   | (with_reducible refine LeO.ite ?_ ?_)
   | (with_reducible refine LeO.bind ?_ (fun _ => ?_))
   | exact ih0 _ _ _ _
   | exact ih1 _ _ _ _ _ _
   | exact spec_PolygonOk.mono _ _
   | exact spec_l05Diagonal.mono _ _ _ _
   | exact LeO.none _
   | refine LeO.ite ?_ ?_
   | refine LeO.bind ?_ (fun _ => ?_)
set_option maxHeartbeats 8000000 in
set_option maxRecDepth 100000 in
theorem spec_DiagonalsOf.calls (k : Nat) (A0 : Option Addr) (c0 : Nat) (l0 : List (S61)) (r : List (List Int)) (w : World) (hr0 : Kd.C k61 w A0 l0.length l0) (hc0 : l0.length ≤ c0) (h : spec_DiagonalsOf.f k l0 = some r) :
  Calls Try.prog 85 #[.slice A0 l0.length c0] w fun e w' => ∃ v0_ : Value, e = .returned (v0_) ∧ Kd.S (Kd.slice 3 (Kd.int .i64)) 30 w' w.heap.size (fun _ => True) v0_ r ∧ Below w.heap.size w w' := by
 have HR0 := zm1 hr0
 have HC0 := zm1 hc0
 clear hr0 hc0
 have HB := zm1 (Below.refl w.heap.size w)
 have H : ((spec_PolygonOk.f k l0).bind fun t170 => (if t170 = true then (spec_DiagonalsOf.l0 k l0 (([] : List (List Int))) (l0.length : Int) 0) else (some ([] : List (List Int))))) = some r := h
 clear h
 replace H := Option.bind_eq_some_iff.mp H
 obtain ⟨t170, A20, H⟩ := H
 replace H : (if t170 = true then (spec_DiagonalsOf.l0 k l0 (([] : List (List Int))) (l0.length : Int) 0) else (some ([] : List (List Int)))) = some r := H
 have A2 := zm1 A20
 clear A20
 by_cases c3 : t170 = true
 ·subst c3
  have H1 : (spec_DiagonalsOf.l0 k l0 (([] : List (List Int))) (l0.length : Int) 0) = some r := by rw [if_pos rfl] at H; exact H
  clear H
  have H := H1
  clear H1
  obtain ⟨y171, hy171⟩ : ∃ y_ : List (List Int), y_ = (([] : List (List Int))) := ⟨_, rfl⟩
  replace H : (spec_DiagonalsOf.l0 k l0 y171 (l0.length : Int) 0) = some r := by first | (rw [hy171]; with_reducible exact H) | (have H2_ := (Option.bind_some _ _).symm.trans H; rw [hy171]; with_reducible exact H2_) | (have H2_ := (Option.bind_some _ _).symm.trans H; with_reducible exact H2_) | with_reducible exact H | (rw [hy171]; exact H) | exact H
  have Ny171 := zm1 hy171
  clear hy171
  have H' := zm1 H
  clear H
  go_enter Try.func85, Try.ntmps85
  go_wp2_with (first | ((with_reducible refine gate_callee (f := 110) rfl ?_); refine goesL_ (some 7) rfl rfl Try.func110 (by kernel_rfl) rfl #[.slice A0 l0.length c0] rfl (by (try simp only [List.map_toArray, List.map_cons, List.map_nil]); first | done | rfl | (simp only [List.length_drop, List.length_take]; rfl)) ?_; (with_reducible refine (spec_PolygonOk.calls k _ _ l0 true _ ?side1 ?side2 A2.out).mono ?_); (case side1 => repeat (first | exact HR0.out | (with_reducible refine Kd.C_alloc ?_ _) | (with_reducible refine Kd.C_drewN ?_ _) | (with_reducible refine Kd.C_drew ?_))); (case side2 => exact HC0.out); rintro e w4 ⟨rfl, hb⟩; refine ⟨_, rfl, ?_⟩; have n0_ := zm1 (zc6 (by repeat (first | (with_reducible first | exact HB.out | apply zc1 | apply zc2 | apply zc3) | exact HB.out)) hb); clear HB; have HB := n0_; clear n0_; (try clear hb); (try clear hb2); (try clear hk); (try clear hi)) | ((with_reducible refine gate_dst (N := 9) rfl ?_); refine Kd.S_lit (Kd.slice 3 (Kd.int .i64)) _ 30 ?hg (N := 9) ?hd (xs := ([] : List (List Int))) (inner := []) (ok := fun _ => True) (okp := fun _ => True) ?hr ?hp (fun _ hk => hk) trivial (Below.refl _ _) (Nat.le_refl _) (by simp) ?_; (case hd => rfl); (case hg => rfl); (case hr => first | (go_simp; done) | (go_simp; rfl)); (case hp => exact (Reps.none _ _)); intro v172 w5 ho6 hb hg_ hnew_; clear hg_ hnew_; (first | rw [← Ny171.out] at ho6 | (simp only [Int.reduceToNat] at ho6; rw [← Ny171.out] at ho6)); have n0_ := zm1 (Kd.S_lower ho6 (zc5 (by repeat (first | (with_reducible first | exact HB.out | apply zc1 | apply zc2 | apply zc3) | exact HB.out)))); have n1_ := zm1 (zc6 (by repeat (first | (with_reducible first | exact HB.out | apply zc1 | apply zc2 | apply zc3) | exact HB.out)) hb); clear HB; have HO173 := n0_; have HB := n1_; clear n0_ n1_; clear hb ho6))
  go_loopg [3, 12] k (fun kq v3 v12 w' => ∃ (x3_1 : List (List Int)) (x12_1 : Int), v12 = .int .i64 x12_1 ∧ Aside0 (spec_DiagonalsOf.l0 kq l0 x3_1 (l0.length : Int) x12_1 = some r) ∧ Aside0 (kq ≤ k) ∧ Aside0 (Kd.S (Kd.slice 3 (Kd.int .i64)) 30 w' w.heap.size (fun _ => True) v3 x3_1) ∧ Aside0 (Below w.heap.size w w'))
  case atStart => exact ⟨(y171), (0), (by first | rfl | (simp; done) | (simp [*]; done)), H', ⟨Nat.le_refl _⟩, ⟨by (with_reducible repeat (first | apply Kd.S_alloc | apply Kd.S_drewN | apply Kd.S_drew)); exact HO173.out⟩, ⟨by repeat (first | (with_reducible first | exact HB.out | apply zc1 | apply zc2 | apply zc3) | exact HB.out)⟩⟩
  case round =>
   clear H'
   try clear c1
   try clear p2
   try clear c3
   obtain ⟨x3_1, x12_1, rfl, HA, HK1, HO_3, HB⟩ := hrel
   cases gk with
   | zero => exact absurd HA.out (by simp [spec_DiagonalsOf.l0])
   | succ k1 =>
    have H := HA.out
    clear HA
    simp only [spec_DiagonalsOf.l0] at H
    by_cases c7 : x12_1 < (l0.length : Int)
    ·rw [if_pos c7] at H
     have c7b0 : decide (x12_1 < (l0.length : Int)) = true := decide_eq_true c7
     clear c7
     have H' := zm1 H
     clear H
     go_wp2
     go_loopg [3, 5] k1 (fun kq v3 v5 w' => ∃ (x3_2 : List (List Int)) (x5_2 : Int), v5 = .int .i64 x5_2 ∧ Aside0 (spec_DiagonalsOf.l1 kq l0 x3_2 x12_1 x5_2 (l0.length : Int) x12_1 = some r) ∧ Aside0 (kq ≤ k1) ∧ Aside0 (Kd.S (Kd.slice 3 (Kd.int .i64)) 30 w' w.heap.size (fun _ => True) v3 x3_2) ∧ Aside0 (Below w.heap.size w w'))
     case atStart => exact ⟨(x3_1), (wrap64 (x12_1 + 1)), (by first | rfl | (simp; done) | (simp [*]; done)), H', ⟨Nat.le_refl _⟩, ⟨by (with_reducible repeat (first | apply Kd.S_alloc | apply Kd.S_drewN | apply Kd.S_drew)); exact HO_3.out⟩, ⟨by repeat (first | (with_reducible first | exact HB.out | apply zc1 | apply zc2 | apply zc3) | exact HB.out)⟩⟩
     case round =>
      clear H'
      try clear c1
      try clear p2
      try clear c3
      try clear p6
      try clear c7
      try clear c7b0
      try clear p2
      obtain ⟨x3_2, x5_2, rfl, HA, HK2, HO_3, HB⟩ := hrel
      cases gk with
      | zero => exact absurd HA.out (by simp [spec_DiagonalsOf.l1])
      | succ k2 =>
       have H := HA.out
       clear HA
       simp only [spec_DiagonalsOf.l1] at H
       by_cases c8 : x5_2 < (l0.length : Int)
       ·rw [if_pos c8] at H
        have c8b0 : decide (x5_2 < (l0.length : Int)) = true := decide_eq_true c8
        clear c8
        replace H := Option.bind_eq_some_iff.mp H
        obtain ⟨t174, A90, H⟩ := H
        replace H : (if t174 = true then (if x3_2.length < 5864062014805 then (spec_DiagonalsOf.l1 k2 l0 (x3_2 ++ [(([x12_1, x5_2] : List Int))]) x12_1 (wrap64 (x5_2 + 1)) (l0.length : Int) x12_1) else (none)) else (spec_DiagonalsOf.l1 k2 l0 x3_2 x12_1 (wrap64 (x5_2 + 1)) (l0.length : Int) x12_1)) = some r := H
        have A9 := zm1 A90
        clear A90
        by_cases c10 : t174 = true
        ·subst c10
         have H1 : (if x3_2.length < 5864062014805 then (spec_DiagonalsOf.l1 k2 l0 (x3_2 ++ [(([x12_1, x5_2] : List Int))]) x12_1 (wrap64 (x5_2 + 1)) (l0.length : Int) x12_1) else (none)) = some r := by rw [if_pos rfl] at H; exact H
         clear H
         have H := H1
         clear H1
         obtain ⟨y175, hy175⟩ : ∃ y_ : List Int, y_ = (([x12_1, x5_2] : List Int)) := ⟨_, rfl⟩
         replace H : (if x3_2.length < 5864062014805 then (spec_DiagonalsOf.l1 k2 l0 (x3_2 ++ [y175]) x12_1 (wrap64 (x5_2 + 1)) (l0.length : Int) x12_1) else (none)) = some r := by first | (rw [hy175]; with_reducible exact H) | (have H2_ := (Option.bind_some _ _).symm.trans H; rw [hy175]; with_reducible exact H2_) | (have H2_ := (Option.bind_some _ _).symm.trans H; with_reducible exact H2_) | with_reducible exact H | (rw [hy175]; exact H) | exact H
         have Ny175 := zm1 hy175
         clear hy175
         by_cases c11 : x3_2.length < 5864062014805
         ·rw [if_pos c11] at H
          have LMc11 := zm1 c11
          clear c11
          obtain ⟨y178, hy178⟩ : ∃ y_ : List (List Int), y_ = (x3_2 ++ [y175]) := ⟨_, rfl⟩
          replace H : (spec_DiagonalsOf.l1 k2 l0 y178 x12_1 (wrap64 (x5_2 + 1)) (l0.length : Int) x12_1) = some r := by first | (rw [hy178]; with_reducible exact H) | (have H2_ := (Option.bind_some _ _).symm.trans H; rw [hy178]; with_reducible exact H2_) | (have H2_ := (Option.bind_some _ _).symm.trans H; with_reducible exact H2_) | with_reducible exact H | (rw [hy178]; exact H) | exact H
          have Ny178 := zm1 hy178
          clear hy178
          have H' := zm1 H
          clear H
          go_wp2_with (first | ((with_reducible refine gate_callee (f := 111) rfl ?_); refine goesL_ (some 26) rfl rfl Try.func111 (by kernel_rfl) rfl #[.slice A0 l0.length c0, .int .i64 x12_1, .int .i64 x5_2] rfl (by (try simp only [List.map_toArray, List.map_cons, List.map_nil]); first | done | rfl | (simp only [List.length_drop, List.length_take]; rfl)) ?_; (with_reducible refine (spec_l05Diagonal.calls k2 _ _ l0 x12_1 x5_2 true _ ?side1 ?side2 A9.out).mono ?_); (case side1 => repeat (first | exact (Kd.C_below HR0.out HB.out) | (with_reducible refine Kd.C_alloc ?_ _) | (with_reducible refine Kd.C_drewN ?_ _) | (with_reducible refine Kd.C_drew ?_))); (case side2 => exact HC0.out); rintro e w12 ⟨rfl, hb⟩; refine ⟨_, rfl, ?_⟩; have n0_ := zm1 (Kd.S_below (by (with_reducible repeat (first | apply Kd.S_alloc | apply Kd.S_drewN | apply Kd.S_drew)); exact HO_3.out) hb); have n1_ := zm1 (zc6 (by repeat (first | (with_reducible first | exact HB.out | apply zc1 | apply zc2 | apply zc3) | exact HB.out)) hb); clear HO_3; clear HB; have HO_3 := n0_; have HB := n1_; clear n0_ n1_; (try clear hb); (try clear hb2); (try clear hk); (try clear hi)) | ((with_reducible refine gate_dst (N := 30) rfl ?_); refine Kd.R_lit (Kd.int .i64) _ 3 ?hg (N := 30) ?hd (xs := ([x12_1, x5_2] : List Int)) (inner := [.int .i64 x12_1, .int .i64 x5_2]) (ok := fun _ => True) (okp := fun _ => True) ?hr ?hp (fun _ hk => hk) trivial (Below.refl _ _) (Nat.le_refl _) (by simp) ?_; (case hd => rfl); (case hg => rfl); (case hr => first | (go_simp; done) | (go_simp; rfl)); (case hp => exact (Reps.one (show Kd.M (Kd.int .i64) _ _ _ x12_1 [.int .i64 x12_1] from rfl) (Reps.one (show Kd.M (Kd.int .i64) _ _ _ x5_2 [.int .i64 x5_2] from rfl) (Reps.none _ _)))); intro v176 w13 ho14 hb hg_ hnew_; clear hg_ hnew_; (first | rw [← Ny175.out] at ho14 | (simp only [Int.reduceToNat] at ho14; rw [← Ny175.out] at ho14)); have n0_ := zm1 (Kd.S_elder' (by (with_reducible repeat (first | apply Kd.S_alloc | apply Kd.S_drewN | apply Kd.S_drew)); exact HO_3.out) (Kd.R_base ho14) hb); have n1_ := zm1 (Kd.R_lower ho14 (zc5 (by repeat (first | (with_reducible first | exact HB.out | apply zc1 | apply zc2 | apply zc3) | exact HB.out)))); have n2_ := zm1 (zc6 (by repeat (first | (with_reducible first | exact HB.out | apply zc1 | apply zc2 | apply zc3) | exact HB.out)) hb); clear HO_3; clear HB; have HO_3 := n0_; have HO177 := n1_; have HB := n2_; clear n0_ n1_ n2_; clear hb ho14; obtain ⟨Ao16, co16, eo16⟩ := Kd.R_slice HO177.out; subst eo16) | ((with_reducible refine gate_builtin (b := .append) (xs := #[.tmp 27, .tmp 31]) rfl ?_); at_builtin; refine Kd.S_append (Kd.slice 3 (Kd.int .i64)) (w0 := w) w.heap.size rfl (.tmp 27) (.tmp 31) 28 30 (.slice none 0 0) 24 rfl Try.underlying28 info30 rfl (by decide) (by omega) u3 x3_2 y175 [.slice Ao16 y175.length co16] (fun _ => True) (fun k_ => some k_ = (.slice Ao16 y175.length co16 : Value).ownBlock) rfl rfl ?aP (fun k_ hk_ => ((Kd.R_mono (ok' := fun k_ => ((fun _ => True)) k_ ∧ some k_ ≠ (u3 : Value).ownBlock) (Kd.R_apart' (HO177.out) (Kd.S_typed HO_3.out) (by decide)) (fun k_ hk => ⟨trivial, hk.2⟩))).1 k_ hk_.symm) ?aF ?aO ?aB ?aS ?aL ?_; (case aP => exact Kd.M_row (Kd.R_mono (Kd.R_tight rfl (Kd.R_mono (ok' := fun k_ => ((fun _ => True)) k_ ∧ some k_ ≠ (u3 : Value).ownBlock) (Kd.R_apart' (HO177.out) (Kd.S_typed HO_3.out) (by decide)) (fun k_ hk => ⟨trivial, hk.2⟩))) (fun _ h_ => h_))); (case aB => exact (by repeat (first | (with_reducible first | exact HB.out | apply zc1 | apply zc2 | apply zc3) | exact HB.out))); (case aF => exact (fun _ _ => trivial)); (case aO => exact (by (with_reducible repeat (first | apply Kd.S_alloc | apply Kd.S_drewN | apply Kd.S_drew)); exact Kd.S_mono HO_3.out (fun k_ hk => ⟨trivial, fun e_ => hk.2 e_⟩))); (case aS => exact (zc5 (by repeat (first | (with_reducible first | exact HB.out | apply zc1 | apply zc2 | apply zc3) | exact HB.out)))); (case aL => have := LMc11.out; omega); intro v179 w15 ho hb hg hat; rw [← Ny178.out] at ho; have n0_ := zm1 (hb); have n1_ := zm1 (ho); clear HB; clear HO_3; clear HO177; have HB := n0_; have HO180 := n1_; clear n0_ n1_; clear ho hb hg hat))
          go_roundg k2
          case measure => have := HK1.out; have := HK2.out; omega
          case rel => exact ⟨(y178), (wrap64 (x5_2 + 1)), (by first | rfl | (simp; done) | (simp [*]; done)), H', ⟨by have := HK1.out; have := HK2.out; omega⟩, ⟨by (with_reducible repeat (first | apply Kd.S_alloc | apply Kd.S_drewN | apply Kd.S_drew)); exact HO180.out⟩, ⟨by repeat (first | (with_reducible first | exact HB.out | apply zc1 | apply zc2 | apply zc3) | exact HB.out)⟩⟩
         ·rw [if_neg c11] at H
          exact absurd H (by simp)
        ·replace c10 := Bool.eq_false_iff.mpr c10
         subst c10
         have H1 : (spec_DiagonalsOf.l1 k2 l0 x3_2 x12_1 (wrap64 (x5_2 + 1)) (l0.length : Int) x12_1) = some r := by rw [if_neg (show ¬ (false = true) by decide)] at H; exact H
         clear H
         have H := H1
         clear H1
         have H' := zm1 H
         clear H
         go_wp2_with (first | ((with_reducible refine gate_callee (f := 111) rfl ?_); refine goesL_ (some 26) rfl rfl Try.func111 (by kernel_rfl) rfl #[.slice A0 l0.length c0, .int .i64 x12_1, .int .i64 x5_2] rfl (by (try simp only [List.map_toArray, List.map_cons, List.map_nil]); first | done | rfl | (simp only [List.length_drop, List.length_take]; rfl)) ?_; (with_reducible refine (spec_l05Diagonal.calls k2 _ _ l0 x12_1 x5_2 false _ ?side1 ?side2 A9.out).mono ?_); (case side1 => repeat (first | exact (Kd.C_below HR0.out HB.out) | (with_reducible refine Kd.C_alloc ?_ _) | (with_reducible refine Kd.C_drewN ?_ _) | (with_reducible refine Kd.C_drew ?_))); (case side2 => exact HC0.out); rintro e w17 ⟨rfl, hb⟩; refine ⟨_, rfl, ?_⟩; have n0_ := zm1 (Kd.S_below (by (with_reducible repeat (first | apply Kd.S_alloc | apply Kd.S_drewN | apply Kd.S_drew)); exact HO_3.out) hb); have n1_ := zm1 (zc6 (by repeat (first | (with_reducible first | exact HB.out | apply zc1 | apply zc2 | apply zc3) | exact HB.out)) hb); clear HO_3; clear HB; have HO_3 := n0_; have HB := n1_; clear n0_ n1_; (try clear hb); (try clear hb2); (try clear hk); (try clear hi)))
         go_roundg k2
         case measure => have := HK1.out; have := HK2.out; omega
         case rel => exact ⟨(x3_2), (wrap64 (x5_2 + 1)), (by first | rfl | (simp; done) | (simp [*]; done)), H', ⟨by have := HK1.out; have := HK2.out; omega⟩, ⟨by (with_reducible repeat (first | apply Kd.S_alloc | apply Kd.S_drewN | apply Kd.S_drew)); exact HO_3.out⟩, ⟨by repeat (first | (with_reducible first | exact HB.out | apply zc1 | apply zc2 | apply zc3) | exact HB.out)⟩⟩
       ·rw [if_neg c8] at H
        have c8b0 : decide (x5_2 < (l0.length : Int)) = false := decide_eq_false c8
        clear c8
        have H' := zm1 H
        clear H
        go_wp2
        go_roundg k2
        case measure => have := HK1.out; have := HK2.out; omega
        case rel => exact ⟨(x3_2), (wrap64 (x12_1 + 1)), (by first | rfl | (simp; done) | (simp [*]; done)), H', ⟨by have := HK1.out; have := HK2.out; omega⟩, ⟨by (with_reducible repeat (first | apply Kd.S_alloc | apply Kd.S_drewN | apply Kd.S_drew)); exact HO_3.out⟩, ⟨by repeat (first | (with_reducible first | exact HB.out | apply zc1 | apply zc2 | apply zc3) | exact HB.out)⟩⟩
    ·rw [if_neg c7] at H
     have c7b0 : decide (x12_1 < (l0.length : Int)) = false := decide_eq_false c7
     clear c7
     obtain rfl := Option.some.inj H
     go_wp2
     go_ret
     exact ⟨_, by first | rfl | (simp [errW_none, errW_some] <;> rfl) | (simp [*, errW_none, errW_some] <;> rfl), by (with_reducible repeat (first | apply Kd.S_alloc | apply Kd.S_drewN | apply Kd.S_drew)); exact HO_3.out, by repeat (first | (with_reducible first | exact HB.out | apply zc1 | apply zc2 | apply zc3) | exact HB.out)⟩
 ·replace c3 := Bool.eq_false_iff.mpr c3
  subst c3
  have H1 : (some ([] : List (List Int))) = some r := by rw [if_neg (show ¬ (false = true) by decide)] at H; exact H
  clear H
  have H := H1
  clear H1
  obtain rfl := Option.some.inj H
  go_enter Try.func85, Try.ntmps85
  go_wp2_with (first | ((with_reducible refine gate_callee (f := 110) rfl ?_); refine goesL_ (some 7) rfl rfl Try.func110 (by kernel_rfl) rfl #[.slice A0 l0.length c0] rfl (by (try simp only [List.map_toArray, List.map_cons, List.map_nil]); first | done | rfl | (simp only [List.length_drop, List.length_take]; rfl)) ?_; (with_reducible refine (spec_PolygonOk.calls k _ _ l0 false _ ?side1 ?side2 A2.out).mono ?_); (case side1 => repeat (first | exact HR0.out | (with_reducible refine Kd.C_alloc ?_ _) | (with_reducible refine Kd.C_drewN ?_ _) | (with_reducible refine Kd.C_drew ?_))); (case side2 => exact HC0.out); rintro e w18 ⟨rfl, hb⟩; refine ⟨_, rfl, ?_⟩; have n0_ := zm1 (zc6 (by repeat (first | (with_reducible first | exact HB.out | apply zc1 | apply zc2 | apply zc3) | exact HB.out)) hb); clear HB; have HB := n0_; clear n0_; (try clear hb); (try clear hb2); (try clear hk); (try clear hi)))
  go_ret
  exact ⟨_, by first | rfl | (simp [errW_none, errW_some] <;> rfl) | (simp [*, errW_none, errW_some] <;> rfl), by first | exact Kd.S_nil _ _ _ _ _ | exact Kd.N_nil _ _ _ _ _ | exact Kd.V_nil _ _ _ _ _ | exact Kd.Q_nil _ _ _ _ _ | exact Kd.R_nil _ _ _ _ _, by repeat (first | (with_reducible first | exact HB.out | apply zc1 | apply zc2 | apply zc3) | exact HB.out)⟩

/-! ### spec_l04Mag: function 86 -/
def spec_l04Mag.f (a0 : Int) : Option (Int) := some (mx a0 (wrap64 (-a0)))
set_option maxHeartbeats 8000000 in
set_option maxRecDepth 100000 in
theorem spec_l04Mag.calls (a0 : Int) (r : Int) (w : World) (h : spec_l04Mag.f a0 = some r) :
  Calls Try.prog 86 #[.int .i64 a0] w fun e w' => e = .returned (.int .i64 r) ∧ Below w.heap.size w w' := by
 have HB := zm1 (Below.refl w.heap.size w)
 have H : (some (mx a0 (wrap64 (-a0)))) = some r := h
 clear h
 obtain ⟨ji2, hji2⟩ : ∃ j_ : Int, (mx a0 (wrap64 (-a0))) = j_ := ⟨_, rfl⟩
 replace H : (some ji2) = some r := by first | (rw [hji2] at H; exact H) | (simp only [hji2] at H ⊢; exact H)
 have hji2_ : (if a0 < (wrap64 (-a0)) then (wrap64 (-a0)) else a0) = ji2 := hji2
 obtain rfl := Option.some.inj H
 go_enter Try.func86, Try.ntmps86
 go_wp2
 go_ret
 exact ⟨by first | rfl | (simp [errW_none, errW_some] <;> rfl) | (simp only [← hji2]; first | rfl | (simp [errW_none, errW_some] <;> rfl)) | (simp [*, errW_none, errW_some] <;> rfl), by repeat (first | (with_reducible first | exact HB.out | apply zc1 | apply zc2 | apply zc3) | exact HB.out)⟩

/-! ### spec_l03Twice: function 87 -/
def spec_l03Twice.l0 : Nat → List (S61) → Int → List (S61) → Int → Int → Option (Int)
 | 0, _, _, _, _, _ => none
 | k + 1, x0, x3, x7, x8, x9 => if x9 < x8 then (if 0 ≤ x9 then (if x9 < (x7.length : Int) then (if (x0.length : Int) = 0 then (none) else (if 0 ≤ (Int.tmod (wrap64 (x9 + 1)) (x0.length : Int)) then (if (Int.tmod (wrap64 (x9 + 1)) (x0.length : Int)) < (x0.length : Int) then (spec_l03Twice.l0 k x0 (wrap64 ((wrap64 (x3 + (wrap64 (((rd_T61 x7 x9).f0) * ((rd_T61 x0 (Int.tmod (wrap64 (x9 + 1)) (x0.length : Int))).f1))))) - (wrap64 (((rd_T61 x7 x9).f1) * ((rd_T61 x0 (Int.tmod (wrap64 (x9 + 1)) (x0.length : Int))).f0))))) x7 x8 (wrap64 (x9 + 1))) else (none)) else (none))) else (none)) else (none)) else (some x3)
def spec_l03Twice.f (k : Nat) (l0 : List (S61)) : Option (Int) := spec_l03Twice.l0 k l0 0 l0 (l0.length : Int) 0
theorem spec_l03Twice.mono_l : ∀ k, (∀ y0 y1 y2 y3 y4, LeO (spec_l03Twice.l0 k y0 y1 y2 y3 y4) (spec_l03Twice.l0 (k + 1) y0 y1 y2 y3 y4))
 | 0 => fun _ _ _ _ _ r h => by simp [spec_l03Twice.l0] at h
 | k + 1 => by
  have ih0 := spec_l03Twice.mono_l k
  ·intro y0 y1 y2 y3 y4
   unfold spec_l03Twice.l0
   repeat' first
   | (with_reducible exact ih0 _ _ _ _ _)
   | (with_reducible exact LeO.refl _)
   | (with_reducible exact LeO.none _)
   | (with_reducible refine LeO.ite ?_ ?_)
   | (with_reducible refine LeO.bind ?_ (fun _ => ?_))
   | exact ih0 _ _ _ _ _
   | exact LeO.none _
   | refine LeO.ite ?_ ?_
   | refine LeO.bind ?_ (fun _ => ?_)
theorem spec_l03Twice.mono : ∀ a0 k, LeO (spec_l03Twice.f k a0) (spec_l03Twice.f (k + 1) a0) := by
 intro a0 k
 have ih0 := spec_l03Twice.mono_l k
 unfold spec_l03Twice.f
 repeat' first
   | (with_reducible exact ih0 _ _ _ _ _)
   | (with_reducible exact LeO.refl _)
   | (with_reducible exact LeO.none _)
   | (with_reducible refine LeO.ite ?_ ?_)
   | (with_reducible refine LeO.bind ?_ (fun _ => ?_))
   | exact ih0 _ _ _ _ _
   | exact LeO.none _
   | refine LeO.ite ?_ ?_
   | refine LeO.bind ?_ (fun _ => ?_)
set_option maxHeartbeats 8000000 in
set_option maxRecDepth 100000 in
theorem spec_l03Twice.calls (k : Nat) (A0 : Option Addr) (c0 : Nat) (l0 : List (S61)) (r : Int) (w : World) (hr0 : Kd.C k61 w A0 l0.length l0) (hc0 : l0.length ≤ c0) (h : spec_l03Twice.f k l0 = some r) :
  Calls Try.prog 87 #[.slice A0 l0.length c0] w fun e w' => e = .returned (.int .i64 r) ∧ Below w.heap.size w w' := by
 have hu61 := Try.underlying61
 have HR0 := zm1 hr0
 have HC0 := zm1 hc0
 clear hr0 hc0
 have HB := zm1 (Below.refl w.heap.size w)
 have H : (spec_l03Twice.l0 k l0 0 l0 (l0.length : Int) 0) = some r := h
 clear h
 have H' := zm1 H
 clear H
 go_enter Try.func87, Try.ntmps87
 go_wp2
 go_loopg [3, 9] k (fun kq v3 v9 w' => ∃ (x3_1 : Int) (x9_1 : Int), v3 = .int .i64 x3_1 ∧ v9 = .int .i64 x9_1 ∧ Aside0 (spec_l03Twice.l0 kq l0 x3_1 l0 (l0.length : Int) x9_1 = some r) ∧ Aside0 (kq ≤ k) ∧ Aside0 (Below w.heap.size w w'))
 case atStart => exact ⟨(0), (0), (by first | rfl | (simp; done) | (simp [*]; done)), (by first | rfl | (simp; done) | (simp [*]; done)), H', ⟨Nat.le_refl _⟩, ⟨by repeat (first | (with_reducible first | exact HB.out | apply zc1 | apply zc2 | apply zc3) | exact HB.out)⟩⟩
 case round =>
  clear H'
  obtain ⟨x3_1, x9_1, rfl, rfl, HA, HK1, HB⟩ := hrel
  cases gk with
  | zero => exact absurd HA.out (by simp [spec_l03Twice.l0])
  | succ k1 =>
   have H := HA.out
   clear HA
   simp only [spec_l03Twice.l0] at H
   by_cases c2 : x9_1 < (l0.length : Int)
   ·rw [if_pos c2] at H
    have c2b0 : decide (x9_1 < (l0.length : Int)) = true := decide_eq_true c2
    clear c2
    by_cases c3 : 0 ≤ x9_1
    ·rw [if_pos c3] at H
     have c3b0 : decide (0 ≤ x9_1) = true := decide_eq_true c3
     clear c3
     by_cases c4 : x9_1 < (l0.length : Int)
     ·rw [if_pos c4] at H
      have c4b0 : decide (x9_1 < (l0.length : Int)) = true := decide_eq_true c4
      clear c4
      by_cases c5 : (l0.length : Int) = 0
      ·rw [if_pos c5] at H
       exact absurd H (by simp)
      ·rw [if_neg c5] at H
       have c5b0 : ((l0.length : Int) == 0) = false := beq_eq_false_iff_ne.mpr c5
       have c5b1 : ((l0.length : Int) != 0) = true := bne_iff_ne.mpr c5
       have c5b2 : ¬ (l0 = []) := fun h_ => c5 (by rw [h_]; rfl)
       obtain ⟨ji6, hji6⟩ : ∃ j_ : Int, (Int.tmod (wrap64 (x9_1 + 1)) (l0.length : Int)) = j_ := ⟨_, rfl⟩
       replace H : (if 0 ≤ (ji6) then (if (ji6) < (l0.length : Int) then (spec_l03Twice.l0 k1 l0 (wrap64 ((wrap64 (x3_1 + (wrap64 (((rd_T61 l0 x9_1).f0) * ((rd_T61 l0 (ji6)).f1))))) - (wrap64 (((rd_T61 l0 x9_1).f1) * ((rd_T61 l0 (ji6)).f0))))) l0 (l0.length : Int) (wrap64 (x9_1 + 1))) else (none)) else (none)) = some r := by first | (rw [hji6] at H; exact H) | (simp only [hji6] at H ⊢; exact H)
       by_cases c7 : 0 ≤ (ji6)
       ·rw [if_pos c7] at H
        have c7b0 : decide (0 ≤ (ji6)) = true := decide_eq_true c7
        clear c7
        by_cases c8 : (ji6) < (l0.length : Int)
        ·rw [if_pos c8] at H
         have c8b0 : decide ((ji6) < (l0.length : Int)) = true := decide_eq_true c8
         clear c8
         have H' := zm1 H
         clear H
         have p181 : 0 ≤ (x9_1 : Int) := of_decide_eq_true (by assumption)
         have q181 : x9_1 < (l0.length : Int) := of_decide_eq_true (by assumption)
         obtain ⟨ad181, e181, hx181_0, hx181_1⟩ := at_T61 HR0.out x9_1 p181 q181
         cases e181
         (try replace hx181_0 := (HB.out.cell (zl hx181_0)).trans hx181_0)
         (try replace hx181_1 := (HB.out.cell (zl hx181_1)).trans hx181_1)
         replace p181 := eq_true p181
         replace q181 := eq_true q181
         go_wp2_with (first | ((with_reducible refine gate_dst (N := 5) rfl ?_); refine box_event ?hg (N := 5) ?hd (cs := #[.int .i64 0, .int .i64 0]) (t := 61) ?hr ?_; (case hd => rfl); (case hg => rfl); (case hr => first | (go_simp; done) | (go_simp; rfl)); intro gb182 hg w9 hbox hb; have n0_ := zm1 (zc6 (by repeat (first | (with_reducible first | exact HB.out | apply zc1 | apply zc2 | apply zc3) | exact HB.out)) hb); have n1_ := zm1 (hbox); have n2_ := zm1 ((by rw [hg]; exact (zc5 (by repeat (first | (with_reducible first | exact HB.out | apply zc1 | apply zc2 | apply zc3) | exact HB.out))) : w.heap.size ≤ gb182)); have n3_ := zm1 ((by rw [hg]; exact (zc5 (by repeat (first | (with_reducible first | exact HB.out | apply zc1 | apply zc2 | apply zc3) | exact HB.out))) : w.heap.size ≤ gb182)); clear HB; have HB := n0_; have BK182 := n1_; have GW182 := n2_; have GE182 := n3_; clear n0_ n1_ n2_ n3_; clear hb hbox hg; have hcz10_0 : w9.cell? ⟨gb182, 0, none⟩ = some (.int .i64 0) := (blk_cell BK182.out 0).trans rfl; have hcz10_1 : w9.cell? ⟨gb182, 1, none⟩ = some (.int .i64 0) := (blk_cell BK182.out 1).trans rfl; have hfz10_0 := blk_frozen BK182.out 0; have hfz10_1 := blk_frozen BK182.out 1; have p183 : 0 ≤ ((ji6) : Int) := of_decide_eq_true (by assumption); have q183 : (ji6) < (l0.length : Int) := of_decide_eq_true (by assumption); obtain ⟨ad183, e183, hx183_0, hx183_1⟩ := at_T61 HR0.out (ji6) p183 q183; obtain rfl : ad181 = ad183 := (by injection e183); have hn183_0 : ad181.block ≠ gb182 := Nat.ne_of_lt (Nat.lt_of_lt_of_le (by have := zl hx183_0; first | rwa [add_block] at this | exact this) GW182.out); have hn183_1 : ad181.block ≠ gb182 := Nat.ne_of_lt (Nat.lt_of_lt_of_le (by have := zl hx183_0; first | rwa [add_block] at this | exact this) GW182.out); (try replace hx183_0 := (HB.out.cell (zl hx183_0)).trans hx183_0); (try replace hx183_1 := (HB.out.cell (zl hx183_1)).trans hx183_1); replace hx183_0 := (cell_far (p := ⟨gb182, 0, none⟩) (by first | (rw [add_block]; exact hn183_0) | (show (Addr.add _ _).block ≠ _; rw [add_block]; exact hn183_0) | exact hn183_0) (.int .i64 ((rd_T61 l0 x9_1).f0))).trans hx183_0; replace hx183_1 := (cell_far (p := ⟨gb182, 0, none⟩) (by first | (rw [add_block]; exact hn183_0) | (show (Addr.add _ _).block ≠ _; rw [add_block]; exact hn183_0) | exact hn183_0) (.int .i64 ((rd_T61 l0 x9_1).f0))).trans hx183_1; replace hx183_0 := (cell_far (p := ⟨gb182, 1, none⟩) (by first | (rw [add_block]; exact hn183_1) | (show (Addr.add _ _).block ≠ _; rw [add_block]; exact hn183_1) | exact hn183_1) (.int .i64 ((rd_T61 l0 x9_1).f1))).trans hx183_0; replace hx183_1 := (cell_far (p := ⟨gb182, 1, none⟩) (by first | (rw [add_block]; exact hn183_1) | (show (Addr.add _ _).block ≠ _; rw [add_block]; exact hn183_1) | exact hn183_1) (.int .i64 ((rd_T61 l0 x9_1).f1))).trans hx183_1; clear hn183_0; clear hn183_1; replace p183 := eq_true p183; replace q183 := eq_true q183) | ((with_reducible refine gate_dst (N := 6) rfl ?_); refine box_event ?hg (N := 6) ?hd (cs := #[.int .i64 0, .int .i64 0]) (t := 61) ?hr ?_; (case hd => rfl); (case hg => rfl); (case hr => first | (go_simp; done) | (go_simp; rfl)); intro gb184 hg w11 hbox hb; have n0_ := zm1 (zd1 (o := .cells #[.int .i64 ((rd_T61 l0 x9_1).f0), .int .i64 ((rd_T61 l0 x9_1).f1)] 61 (0, 0)) (by (with_reducible repeat (first | apply zb1 | apply zb2 | apply zb3)); refine blk_put (cs := #[.int .i64 ((rd_T61 l0 x9_1).f0), .int .i64 0]) ?_ 1 _ rfl; (with_reducible repeat (first | apply zb1 | apply zb2 | apply zb3)); refine blk_put (cs := #[.int .i64 0, .int .i64 0]) ?_ 0 _ rfl; (with_reducible repeat (first | apply zb1 | apply zb2 | apply zb3)); exact BK182.out) hb); have n1_ := zm1 (zc6 (by repeat (first | (with_reducible first | exact HB.out | apply zc1 | apply zc2 | apply zc3 | refine zc4 ?_ GE182.out) | exact HB.out)) hb); have n2_ := zm1 (hbox); have n3_ := zm1 ((by rw [hg]; exact (zc5 (by repeat (first | (with_reducible first | exact HB.out | apply zc1 | apply zc2 | apply zc3 | refine zc4 ?_ GE182.out) | exact HB.out))) : w.heap.size ≤ gb184)); have n4_ := zm1 ((by rw [hg]; exact (zc5 (by repeat (first | (with_reducible first | exact HB.out | apply zc1 | apply zc2 | apply zc3 | refine zc4 ?_ GE182.out) | exact HB.out))) : w.heap.size ≤ gb184)); have n5_ := zm1 ((by rw [hg]; exact Nat.ne_of_lt (zd2 (o := .cells #[.int .i64 ((rd_T61 l0 x9_1).f0), .int .i64 ((rd_T61 l0 x9_1).f1)] 61 (0, 0)) (by (with_reducible repeat (first | apply zb1 | apply zb2 | apply zb3)); refine blk_put (cs := #[.int .i64 ((rd_T61 l0 x9_1).f0), .int .i64 0]) ?_ 1 _ rfl; (with_reducible repeat (first | apply zb1 | apply zb2 | apply zb3)); refine blk_put (cs := #[.int .i64 0, .int .i64 0]) ?_ 0 _ rfl; (with_reducible repeat (first | apply zb1 | apply zb2 | apply zb3)); exact BK182.out)) : gb182 ≠ gb184)); have n6_ := zm1 ((by rw [hg]; exact Nat.ne_of_gt (zd2 (o := .cells #[.int .i64 ((rd_T61 l0 x9_1).f0), .int .i64 ((rd_T61 l0 x9_1).f1)] 61 (0, 0)) (by (with_reducible repeat (first | apply zb1 | apply zb2 | apply zb3)); refine blk_put (cs := #[.int .i64 ((rd_T61 l0 x9_1).f0), .int .i64 0]) ?_ 1 _ rfl; (with_reducible repeat (first | apply zb1 | apply zb2 | apply zb3)); refine blk_put (cs := #[.int .i64 0, .int .i64 0]) ?_ 0 _ rfl; (with_reducible repeat (first | apply zb1 | apply zb2 | apply zb3)); exact BK182.out)) : gb184 ≠ gb182)); clear BK182; clear HB; have BK182 := n0_; have HB := n1_; have BK184 := n2_; have GW184 := n3_; have GE184 := n4_; have NB182_184 := n5_; have NB184_182 := n6_; clear n0_ n1_ n2_ n3_ n4_ n5_ n6_; clear hb hbox hg; have hnb12 := NB184_182.out; have hnc12 := NB182_184.out; have hcz13_0 : w11.cell? ⟨gb184, 0, none⟩ = some (.int .i64 0) := (blk_cell BK184.out 0).trans rfl; have hcz13_1 : w11.cell? ⟨gb184, 1, none⟩ = some (.int .i64 0) := (blk_cell BK184.out 1).trans rfl; have hfz13_0 := blk_frozen BK184.out 0; have hfz13_1 := blk_frozen BK184.out 1; have hcz14_0 : w11.cell? ⟨gb182, 0, none⟩ = some (.int .i64 ((rd_T61 l0 x9_1).f0)) := (blk_cell BK182.out 0).trans rfl; have hcz14_1 : w11.cell? ⟨gb182, 1, none⟩ = some (.int .i64 ((rd_T61 l0 x9_1).f1)) := (blk_cell BK182.out 1).trans rfl; have hfz14_0 := blk_frozen BK182.out 0; have hfz14_1 := blk_frozen BK182.out 1))
         go_roundg k1
         case measure => have := HK1.out; omega
         case rel => exact ⟨(wrap64 ((wrap64 (x3_1 + (wrap64 (((rd_T61 l0 x9_1).f0) * ((rd_T61 l0 (ji6)).f1))))) - (wrap64 (((rd_T61 l0 x9_1).f1) * ((rd_T61 l0 (ji6)).f0))))), (wrap64 (x9_1 + 1)), (by first | rfl | (simp; done) | ((simp only [← hji6] <;> (first | rfl | simp)); done) | (simp [*]; done)), (by first | rfl | (simp; done) | (simp [*]; done)), H', ⟨by have := HK1.out; omega⟩, ⟨by repeat (first | (with_reducible first | exact HB.out | apply zc1 | apply zc2 | apply zc3 | refine zc4 ?_ GE182.out | refine zc4 ?_ GE184.out) | exact HB.out)⟩⟩
        ·rw [if_neg c8] at H
         exact absurd H (by simp)
       ·rw [if_neg c7] at H
        exact absurd H (by simp)
     ·rw [if_neg c4] at H
      exact absurd H (by simp)
    ·rw [if_neg c3] at H
     exact absurd H (by simp)
   ·rw [if_neg c2] at H
    have c2b0 : decide (x9_1 < (l0.length : Int)) = false := decide_eq_false c2
    clear c2
    obtain rfl := Option.some.inj H
    go_wp2
    go_ret
    exact ⟨by first | rfl | (simp [errW_none, errW_some] <;> rfl) | (simp [*, errW_none, errW_some] <;> rfl), by repeat (first | (with_reducible first | exact HB.out | apply zc1 | apply zc2 | apply zc3) | exact HB.out)⟩

/-! ### spec_l27Part: function 88 -/
def spec_l27Part.l0 : Nat → List (S61) → Int → Int → List (S61) → Option ((List (S61)))
 | 0, _, _, _, _ => none
 | k + 1, x0, x1, x2, x7 => if x1 = x2 then (some x7) else (if (x0.length : Int) = 0 then (none) else (if 0 ≤ (Int.tmod (wrap64 (x1 + 1)) (x0.length : Int)) then (if (Int.tmod (wrap64 (x1 + 1)) (x0.length : Int)) < (x0.length : Int) then (if x7.length < 8796093022208 then (spec_l27Part.l0 k x0 (Int.tmod (wrap64 (x1 + 1)) (x0.length : Int)) x2 (x7 ++ [(⟨(rd_T61 x0 (Int.tmod (wrap64 (x1 + 1)) (x0.length : Int))).f0, (rd_T61 x0 (Int.tmod (wrap64 (x1 + 1)) (x0.length : Int))).f1⟩ : S61)])) else (none)) else (none)) else (none)))
def spec_l27Part.f (k : Nat) (l0 : List (S61)) (a1 : Int) (a2 : Int) : Option ((List (S61))) := if 0 ≤ a1 then (if a1 < (l0.length : Int) then (spec_l27Part.l0 k l0 a1 a2 (([(⟨(rd_T61 l0 a1).f0, (rd_T61 l0 a1).f1⟩ : S61)] : List (S61)))) else (none)) else (none)
theorem spec_l27Part.mono_l : ∀ k, (∀ y0 y1 y2 y3, LeO (spec_l27Part.l0 k y0 y1 y2 y3) (spec_l27Part.l0 (k + 1) y0 y1 y2 y3))
 | 0 => fun _ _ _ _ r h => by simp [spec_l27Part.l0] at h
 | k + 1 => by
  have ih0 := spec_l27Part.mono_l k
  ·intro y0 y1 y2 y3
   unfold spec_l27Part.l0
   repeat' first
   | (with_reducible exact ih0 _ _ _ _)
   | (with_reducible exact LeO.refl _)
   | (with_reducible exact LeO.none _)
   | (with_reducible refine LeO.ite ?_ ?_)
   | (with_reducible refine LeO.bind ?_ (fun _ => ?_))
   | exact ih0 _ _ _ _
   | exact LeO.none _
   | refine LeO.ite ?_ ?_
   | refine LeO.bind ?_ (fun _ => ?_)
theorem spec_l27Part.mono : ∀ a0 a1 a2 k, LeO (spec_l27Part.f k a0 a1 a2) (spec_l27Part.f (k + 1) a0 a1 a2) := by
 intro a0 a1 a2 k
 have ih0 := spec_l27Part.mono_l k
 unfold spec_l27Part.f
 repeat' first
   | (with_reducible exact ih0 _ _ _ _)
   | (with_reducible exact LeO.refl _)
   | (with_reducible exact LeO.none _)
   | (with_reducible refine LeO.ite ?_ ?_)
   | (with_reducible refine LeO.bind ?_ (fun _ => ?_))
   | exact ih0 _ _ _ _
   | exact LeO.none _
   | refine LeO.ite ?_ ?_
   | refine LeO.bind ?_ (fun _ => ?_)
set_option maxHeartbeats 8000000 in
set_option maxRecDepth 100000 in
theorem spec_l27Part.calls (k : Nat) (A0 : Option Addr) (c0 : Nat) (l0 : List (S61)) (a1 : Int) (a2 : Int) (r : List (S61)) (w : World) (hr0 : Kd.C k61 w A0 l0.length l0) (hc0 : l0.length ≤ c0) (h : spec_l27Part.f k l0 a1 a2 = some r) :
  Calls Try.prog 88 #[.slice A0 l0.length c0, .int .i64 a1, .int .i64 a2] w fun e w' => ∃ v0_ : Value, e = .returned (v0_) ∧ Kd.R k61 61 w' w.heap.size (fun _ => True) v0_ r ∧ Below w.heap.size w w' := by
 have hu61 := Try.underlying61
 have HR0 := zm1 hr0
 have HC0 := zm1 hc0
 clear hr0 hc0
 have HB := zm1 (Below.refl w.heap.size w)
 have H : (if 0 ≤ a1 then (if a1 < (l0.length : Int) then (spec_l27Part.l0 k l0 a1 a2 (([(⟨(rd_T61 l0 a1).f0, (rd_T61 l0 a1).f1⟩ : S61)] : List (S61)))) else (none)) else (none)) = some r := h
 clear h
 by_cases c4 : 0 ≤ a1
 ·rw [if_pos c4] at H
  have c4b0 : decide (0 ≤ a1) = true := decide_eq_true c4
  clear c4
  by_cases c5 : a1 < (l0.length : Int)
  ·rw [if_pos c5] at H
   have c5b0 : decide (a1 < (l0.length : Int)) = true := decide_eq_true c5
   clear c5
   obtain ⟨y186, hy186⟩ : ∃ y_ : List (S61), y_ = (([(⟨(rd_T61 l0 a1).f0, (rd_T61 l0 a1).f1⟩ : S61)] : List (S61))) := ⟨_, rfl⟩
   replace H : (spec_l27Part.l0 k l0 a1 a2 y186) = some r := by first | (rw [hy186]; with_reducible exact H) | (have H2_ := (Option.bind_some _ _).symm.trans H; rw [hy186]; with_reducible exact H2_) | (have H2_ := (Option.bind_some _ _).symm.trans H; with_reducible exact H2_) | with_reducible exact H | (rw [hy186]; exact H) | exact H
   have Ny186 := zm1 hy186
   clear hy186
   have H' := zm1 H
   clear H
   have p185 : 0 ≤ (a1 : Int) := of_decide_eq_true (by assumption)
   have q185 : a1 < (l0.length : Int) := of_decide_eq_true (by assumption)
   obtain ⟨ad185, e185, hx185_0, hx185_1⟩ := at_T61 HR0.out a1 p185 q185
   cases e185
   replace p185 := eq_true p185
   replace q185 := eq_true q185
   go_enter Try.func88, Try.ntmps88
   go_wp2_with (first | ((with_reducible refine gate_dst (N := 12) rfl ?_); refine Kd.R_lit k61 _ 61 ?hg (N := 12) ?hd (xs := ([(⟨(rd_T61 l0 a1).f0, (rd_T61 l0 a1).f1⟩ : S61)] : List (S61))) (inner := [.int .i64 ((rd_T61 l0 a1).f0), .int .i64 ((rd_T61 l0 a1).f1)]) (ok := fun _ => True) (okp := fun _ => True) ?hr ?hp (fun _ hk => hk) trivial (Below.refl _ _) (Nat.le_refl _) (by simp) ?_; (case hd => rfl); (case hg => rfl); (case hr => first | (go_simp; done) | (go_simp; rfl)); (case hp => exact (Reps.c2 (show Kd.M k61 _ _ _ (⟨(rd_T61 l0 a1).f0, (rd_T61 l0 a1).f1⟩ : S61) [.int .i64 ((rd_T61 l0 a1).f0), .int .i64 ((rd_T61 l0 a1).f1)] from (k61_mkM _ _ _ (⟨(rd_T61 l0 a1).f0, (rd_T61 l0 a1).f1⟩ : S61) )) (Reps.none _ _))); intro v187 w6 ho7 hb hg_ hnew_; clear hg_ hnew_; (first | rw [← Ny186.out] at ho7 | (simp only [Int.reduceToNat] at ho7; rw [← Ny186.out] at ho7)); have n0_ := zm1 (Kd.R_lower ho7 (zc5 (by repeat (first | (with_reducible first | exact HB.out | apply zc1 | apply zc2 | apply zc3) | exact HB.out)))); have n1_ := zm1 (zc6 (by repeat (first | (with_reducible first | exact HB.out | apply zc1 | apply zc2 | apply zc3) | exact HB.out)) hb); clear HB; have HO188 := n0_; have HB := n1_; clear n0_ n1_; clear hb ho7))
   go_loopg [1, 7] k (fun kq v1 v7 w' => ∃ (x1_1 : Int) (x7_1 : List (S61)), v1 = .int .i64 x1_1 ∧ Aside0 (spec_l27Part.l0 kq l0 x1_1 a2 x7_1 = some r) ∧ Aside0 (kq ≤ k) ∧ Aside0 (Kd.R k61 61 w' w.heap.size (fun _ => True) v7 x7_1) ∧ Aside0 (Below w.heap.size w w'))
   case atStart => exact ⟨(a1), (y186), (by first | rfl | (simp; done) | (simp [*]; done)), H', ⟨Nat.le_refl _⟩, ⟨by (with_reducible repeat (first | apply zr1 | apply zr2 | apply zr3)); exact HO188.out⟩, ⟨by repeat (first | (with_reducible first | exact HB.out | apply zc1 | apply zc2 | apply zc3) | exact HB.out)⟩⟩
   case round =>
    clear H'
    try clear p1
    try clear q1
    try clear hx1
    try clear c2
    try clear p2
    try clear c4
    try clear c4b0
    try clear c5
    try clear c5b0
    try clear hx185_0
    try clear hx185_1
    try clear p185
    try clear q185
    obtain ⟨x1_1, x7_1, rfl, HA, HK1, HO_7, HB⟩ := hrel
    cases gk with
    | zero => exact absurd HA.out (by simp [spec_l27Part.l0])
    | succ k1 =>
     have H := HA.out
     clear HA
     simp only [spec_l27Part.l0] at H
     by_cases c8 : x1_1 = a2
     ·rw [if_pos c8] at H
      have c8b0 : (x1_1 == a2) = true := beq_iff_eq.mpr c8
      have c8b1 : (x1_1 != a2) = false := bne_eq_false_iff_eq.mpr c8
      clear c8
      obtain rfl := Option.some.inj H
      go_wp2
      go_ret
      exact ⟨_, by first | rfl | (simp [errW_none, errW_some] <;> rfl) | (simp [*, errW_none, errW_some] <;> rfl), by (with_reducible repeat (first | apply zr1 | apply zr2 | apply zr3)); exact HO_7.out, by repeat (first | (with_reducible first | exact HB.out | apply zc1 | apply zc2 | apply zc3) | exact HB.out)⟩
     ·rw [if_neg c8] at H
      have c8b0 : (x1_1 == a2) = false := beq_eq_false_iff_ne.mpr c8
      have c8b1 : (x1_1 != a2) = true := bne_iff_ne.mpr c8
      by_cases c9 : (l0.length : Int) = 0
      ·rw [if_pos c9] at H
       exact absurd H (by simp)
      ·rw [if_neg c9] at H
       have c9b0 : ((l0.length : Int) == 0) = false := beq_eq_false_iff_ne.mpr c9
       have c9b1 : ((l0.length : Int) != 0) = true := bne_iff_ne.mpr c9
       have c9b2 : ¬ (l0 = []) := fun h_ => c9 (by rw [h_]; rfl)
       obtain ⟨ji10, hji10⟩ : ∃ j_ : Int, (Int.tmod (wrap64 (x1_1 + 1)) (l0.length : Int)) = j_ := ⟨_, rfl⟩
       replace H : (if 0 ≤ (ji10) then (if (ji10) < (l0.length : Int) then (if x7_1.length < 8796093022208 then (spec_l27Part.l0 k1 l0 ji10 a2 (x7_1 ++ [(⟨(rd_T61 l0 (ji10)).f0, (rd_T61 l0 (ji10)).f1⟩ : S61)])) else (none)) else (none)) else (none)) = some r := by first | (rw [hji10] at H; exact H) | (simp only [hji10] at H ⊢; exact H)
       by_cases c11 : 0 ≤ (ji10)
       ·rw [if_pos c11] at H
        have c11b0 : decide (0 ≤ (ji10)) = true := decide_eq_true c11
        clear c11
        by_cases c12 : (ji10) < (l0.length : Int)
        ·rw [if_pos c12] at H
         have c12b0 : decide ((ji10) < (l0.length : Int)) = true := decide_eq_true c12
         clear c12
         by_cases c13 : x7_1.length < 8796093022208
         ·rw [if_pos c13] at H
          have LMc13 := zm1 c13
          clear c13
          obtain ⟨y190, hy190⟩ : ∃ y_ : List (S61), y_ = (x7_1 ++ [(⟨(rd_T61 l0 (ji10)).f0, (rd_T61 l0 (ji10)).f1⟩ : S61)]) := ⟨_, rfl⟩
          replace H : (spec_l27Part.l0 k1 l0 ji10 a2 y190) = some r := by first | (rw [hy190]; with_reducible exact H) | (have H2_ := (Option.bind_some _ _).symm.trans H; rw [hy190]; with_reducible exact H2_) | (have H2_ := (Option.bind_some _ _).symm.trans H; with_reducible exact H2_) | with_reducible exact H | (rw [hy190]; exact H) | exact H
          have Ny190 := zm1 hy190
          clear hy190
          have H' := zm1 H
          clear H
          have p189 : 0 ≤ ((ji10) : Int) := of_decide_eq_true (by assumption)
          have q189 : (ji10) < (l0.length : Int) := of_decide_eq_true (by assumption)
          obtain ⟨ad189, e189, hx189_0, hx189_1⟩ := at_T61 HR0.out (ji10) p189 q189
          obtain rfl : ad185 = ad189 := (by injection e189)
          (try replace hx189_0 := (HB.out.cell (zl hx189_0)).trans hx189_0)
          (try replace hx189_1 := (HB.out.cell (zl hx189_1)).trans hx189_1)
          replace p189 := eq_true p189
          replace q189 := eq_true q189
          go_wp2_with (first | ((with_reducible refine gate_builtin (b := .append) (xs := #[.tmp 21, .tmp 26]) rfl ?_); at_builtin; refine Kd.R_append k61 (w0 := w) w.heap.size rfl (.tmp 21) (.tmp 26) 25 61 (.agg #[(.int .i64 0), (.int .i64 0)]) 16 rfl Try.underlying25 info61 rfl (by decide) (by omega) u7 x7_1 (⟨(rd_T61 l0 (ji10)).f0, (rd_T61 l0 (ji10)).f1⟩ : S61) [.int .i64 ((rd_T61 l0 (ji10)).f0), .int .i64 ((rd_T61 l0 (ji10)).f1)] (fun _ => True) (fun _ => False) rfl rfl ?aP (fun _ hk => hk.elim) ?aF ?aO ?aB ?aS ?aL ?_; (case aP => exact k61_mkM _ _ _ (⟨(rd_T61 l0 (ji10)).f0, (rd_T61 l0 (ji10)).f1⟩ : S61)); (case aB => exact (by repeat (first | (with_reducible first | exact HB.out | apply zc1 | apply zc2 | apply zc3) | exact HB.out))); (case aF => exact (fun _ _ => trivial)); (case aO => exact (by (with_reducible repeat (first | apply zr1 | apply zr2 | apply zr3)); exact HO_7.out)); (case aS => exact (zc5 (by repeat (first | (with_reducible first | exact HB.out | apply zc1 | apply zc2 | apply zc3) | exact HB.out)))); (case aL => have := LMc13.out; omega); intro v191 w14 ho hb hg hat; rw [← Ny190.out] at ho; have n0_ := zm1 (hb); have n1_ := zm1 (ho); clear HB; clear HO_7; have HB := n0_; have HO192 := n1_; clear n0_ n1_; clear ho hb hg hat))
          go_roundg k1
          case measure => have := HK1.out; omega
          case rel => exact ⟨(ji10), (y190), (by first | rfl | (simp; done) | ((simp only [← hji10] <;> (first | rfl | simp)); done) | (simp [*]; done)), H', ⟨by have := HK1.out; omega⟩, ⟨by (with_reducible repeat (first | apply zr1 | apply zr2 | apply zr3)); exact HO192.out⟩, ⟨by repeat (first | (with_reducible first | exact HB.out | apply zc1 | apply zc2 | apply zc3) | exact HB.out)⟩⟩
         ·rw [if_neg c13] at H
          exact absurd H (by simp)
        ·rw [if_neg c12] at H
         exact absurd H (by simp)
       ·rw [if_neg c11] at H
        exact absurd H (by simp)
  ·rw [if_neg c5] at H
   exact absurd H (by simp)
 ·rw [if_neg c4] at H
  exact absurd H (by simp)

/-! ### spec_BestCut: function 40 -/
--import Derived.WalkSpells
--import Derived.Deep.RegionHeld3
def spec_BestCut.row (xs : List (List Int)) (i : Int) : List Int := xs.getD i.toNat ([] : List Int)
theorem spec_BestCut.atr {w : World} {A : Option Addr} {n : Nat} {xs : List (List Int)} (h : Kd.C (Kd.slice 3 (Kd.int .i64)) w A n xs) (i : Int) (h0 : 0 ≤ i) (h1 : i < n) (h2 : (spec_BestCut.row xs i).length = 2) : ∃ ad a1 c1, A = some ad ∧ w.cell? (ad.add i.toNat) = some (.slice (some a1) 2 c1) ∧ w.cell? a1 = some (.int .i64 (rd (spec_BestCut.row xs i) 0)) ∧ w.cell? ⟨a1.block, a1.off + 1, none⟩ = some (.int .i64 (rd (spec_BestCut.row xs i) 1)) := by
 obtain ⟨ad, c, e, _, hK, hc0⟩ := Kd.C_get h ([] : List Int) i h0 h1
 obtain ⟨A0, c0, rfl, l0, g0⟩ := hK
 have g0 : (Kd.int .i64).C w A0 (spec_BestCut.row xs i).length (spec_BestCut.row xs i) := g0
 obtain ⟨a1, d0, rfl, _, hK0, hx0⟩ := Kd.C_get g0 0 0 (by omega) (by omega)
 obtain ⟨a2, d1, ea, _, hK1, hx1⟩ := Kd.C_get g0 0 1 (by omega) (by omega)
 injection ea with ea
 subst ea
 refine ⟨ad, a1, c0, e, ?_, ?_, hx1 0 (.int .i64 (rd (spec_BestCut.row xs i) 1)) (by rw [show d1 = [.int .i64 (rd (spec_BestCut.row xs i) 1)] from hK1]; rfl)⟩
 ·have hq : w.cell? (ad.add (i.toNat * 1 + 0)) = some (.slice (some a1) (spec_BestCut.row xs i).length c0) := hc0 0 (.slice (some a1) (spec_BestCut.row xs i).length c0) rfl
  rwa [Nat.mul_one, Nat.add_zero, h2] at hq
 ·have := hx0 0 (.int .i64 (rd (spec_BestCut.row xs i) 0)) (by rw [show d0 = [.int .i64 (rd (spec_BestCut.row xs i) 0)] from hK0]; rfl)
  simpa [Addr.add] using this
theorem spec_BestCut.keep2 {W w' : World} {p0 p1 : Addr} {v0 v1 : Value} (h0 : W.cell? p0 = some v0) (h1 : W.cell? p1 = some v1) (hb : Below W.heap.size W w') : w'.cell? p0 = some v0 ∧ w'.cell? p1 = some v1 :=
 ⟨(hb.cell (zl h0)).trans h0, (hb.cell (zl h1)).trans h1⟩
def spec_BestCut.by (K : Nat) (l0 : List (S61)) (u v : Int) : Option Int := (spec_l27Part.f K l0 u v).bind fun y1 => (spec_l03Twice.f K y1).bind fun t1 => (spec_l04Mag.f t1).bind fun s1 => (spec_l27Part.f K l0 v u).bind fun y2 => (spec_l03Twice.f K y2).bind fun t2 => (spec_l04Mag.f t2).bind fun s2 => some (wrap64 (s1 - s2))
def spec_BestCut.l0 (K : Nat) (l0 : List (S61)) (ds : List (List Int)) : Nat → Int → Int → Int → Int → Option (Int × Int × Bool)
 | 0, _, _, _, _ => none
 | k + 1, i, a, b, m => if 0 ≤ i ∧ i < (ds.length : Int) then (if (spec_BestCut.row ds i).length = 2 then (spec_BestCut.by K l0 (rd (spec_BestCut.row ds i) 0) (rd (spec_BestCut.row ds i) 1)).bind fun x => (spec_l04Mag.f x).bind fun z => if a < 0 ∨ z < m then spec_BestCut.l0 K l0 ds k (i + 1) (rd (spec_BestCut.row ds i) 0) (rd (spec_BestCut.row ds i) 1) z else spec_BestCut.l0 K l0 ds k (i + 1) a b m else none) else if 0 ≤ i then some (a, b, decide (0 ≤ a)) else none
def spec_BestCut.f (k : Nat) (l0 : List (S61)) : Option (Int × Int × Bool) := (spec_DiagonalsOf.f k l0).bind fun ds => spec_BestCut.l0 k l0 ds k 0 (-1) (-1) 0
theorem spec_BestCut.by_mono (K : Nat) (l0 : List (S61)) (u v : Int) : LeO (spec_BestCut.by K l0 u v) (spec_BestCut.by (K + 1) l0 u v) :=
 LeO.bind (spec_l27Part.mono _ _ _ _) (fun _ => LeO.bind (spec_l03Twice.mono _ _) (fun _ => LeO.bind (LeO.refl _) (fun _ => LeO.bind (spec_l27Part.mono _ _ _ _) (fun _ => LeO.bind (spec_l03Twice.mono _ _) (fun _ => LeO.refl _)))))
theorem spec_BestCut.l0_mono (K : Nat) (l0 : List (S61)) (ds : List (List Int)) : ∀ (k : Nat) (i a b m : Int), LeO (spec_BestCut.l0 K l0 ds k i a b m) (spec_BestCut.l0 (K + 1) l0 ds (k + 1) i a b m)
 | 0, _, _, _, _ => fun r h => by simp [spec_BestCut.l0] at h
 | k + 1, i, a, b, m => by
  rw [spec_BestCut.l0, spec_BestCut.l0]
  exact LeO.ite (LeO.ite (LeO.bind (spec_BestCut.by_mono _ _ _ _) (fun _ => LeO.bind (LeO.refl _) (fun _ => LeO.ite (spec_BestCut.l0_mono _ _ _ _ _ _ _ _) (spec_BestCut.l0_mono _ _ _ _ _ _ _ _)))) (LeO.refl _)) (LeO.refl _)
theorem spec_BestCut.mono : ∀ a0 k, LeO (spec_BestCut.f k a0) (spec_BestCut.f (k + 1) a0) := fun a0 k => LeO.bind (spec_DiagonalsOf.mono _ _) (fun _ => spec_BestCut.l0_mono _ _ _ _ _ _ _ _)
set_option maxHeartbeats 16000000 in
set_option maxRecDepth 100000 in
theorem spec_BestCut.calls (k : Nat) (A0 : Option Addr) (c0 : Nat) (l0 : List (S61)) (r1 : Int) (r2 : Int) (r3 : Bool) (w : World) (hr0 : Kd.C k61 w A0 l0.length l0) (hc0 : l0.length ≤ c0) (h : spec_BestCut.f k l0 = some (r1, r2, r3)) :
  Calls Try.prog 40 #[.slice A0 l0.length c0] w fun e w' => e = .returned (.tuple #[.int .i64 r1, .int .i64 r2, .bool r3]) ∧ Below w.heap.size w w' := by
 have HR0 := zm1 hr0
 have HC0 := zm1 hc0
 have HB := zm1 (Below.refl w.heap.size w)
 unfold spec_BestCut.f at h
 rw [Option.bind_eq_some_iff] at h
 obtain ⟨ds, hd, h⟩ := h
 have HD := zm1 hd
 have HL := zm1 h
 clear hr0 hc0 hd h
 go_enter Try.func40, Try.ntmps40
 go_wp2_with (first | (go_at_call 85; (with_reducible refine (spec_DiagonalsOf.calls k A0 c0 l0 ds _ HR0.out HC0.out HD.out).mono ?_); rintro e w2 ⟨v, rfl, ho, hb⟩; obtain ⟨AD, cD, eD⟩ := Kd.S_slice ho; subst eD; have HS := zm1 (Kd.S_lower ho (zc5 (by repeat (first | (with_reducible first | exact HB.out | apply zc1 | apply zc2 | apply zc3) | exact HB.out)))); have nHB := zm1 (zc6 (by repeat (first | (with_reducible first | exact HB.out | apply zc1 | apply zc2 | apply zc3) | exact HB.out)) hb); clear ho hb HB; have HB := nHB; clear nHB))
 go_loopg [5, 6, 7, 14] k (fun kq v5 v6 v7 v14 w' => ∃ (a b m i : Int), v5 = .int .i64 a ∧ v6 = .int .i64 b ∧ v7 = .int .i64 m ∧ v14 = .int .i64 i ∧ Aside0 (spec_BestCut.l0 k l0 ds kq i a b m = some (r1, r2, r3)) ∧ Aside0 (kq ≤ k) ∧ Aside0 (Kd.S (Kd.slice 3 (Kd.int .i64)) 30 w' w.heap.size (fun _ => True) (.slice AD ds.length cD) ds) ∧ Aside0 (Below w.heap.size w w'))
 case atStart => exact ⟨-1, -1, 0, 0, rfl, rfl, rfl, rfl, HL, ⟨Nat.le_refl _⟩, ⟨by (with_reducible repeat (first | apply Kd.S_alloc | apply Kd.S_drewN | apply Kd.S_drew)); exact HS.out⟩, ⟨(by repeat (first | (with_reducible first | exact HB.out | apply zc1 | apply zc2 | apply zc3) | exact HB.out))⟩⟩
 case round =>
  clear HL HS HB
  obtain ⟨a, b, m, i, rfl, rfl, rfl, rfl, HA, HK, HS, HB⟩ := hrel
  cases gk with
  | zero => exact absurd HA.out (by simp [spec_BestCut.l0])
  | succ k1 =>
   have H := HA.out
   clear HA
   rw [spec_BestCut.l0] at H
   by_cases c1 : 0 ≤ i ∧ i < (ds.length : Int)
   ·rw [if_pos c1] at H
    by_cases c2 : (spec_BestCut.row ds i).length = 2
    case neg => rw [if_neg c2] at H; cases H
    rw [if_pos c2, Option.bind_eq_some_iff] at H
    obtain ⟨x, hby, H⟩ := H
    have HM := zm1 (show ds.length ≤ 9223372036854775807 from (Kd.S_reads' HS.out).2.2.2.1)
    have HI := zm1 c1
    have c5b : decide (i < (ds.length : Int)) = true := decide_eq_true c1.2
    have p_ := c1.1
    have q_ := c1.2
    obtain ⟨ad, a1, cc, ead, hx, hx0, hx1⟩ := spec_BestCut.atr (Kd.S_reads' HS.out).2.2 i p_ q_ c2
    cases ead
    obtain ⟨u, hu⟩ : ∃ u, u = rd (spec_BestCut.row ds i) 0 := ⟨_, rfl⟩
    obtain ⟨v, hv⟩ : ∃ v, v = rd (spec_BestCut.row ds i) 1 := ⟨_, rfl⟩
    rw [← hu, ← hv] at hby
    rw [← hu] at hx0
    rw [← hv] at hx1
    rw [← hu, ← hv] at H
    clear hu hv c1 c2
    unfold spec_BestCut.by at hby
    rw [Option.bind_eq_some_iff] at hby
    obtain ⟨y1, hy1, hby⟩ := hby
    rw [Option.bind_eq_some_iff] at hby
    obtain ⟨t1, ht1, hby⟩ := hby
    rw [Option.bind_eq_some_iff] at hby
    obtain ⟨s1, hs1, hby⟩ := hby
    rw [Option.bind_eq_some_iff] at hby
    obtain ⟨y2, hy2, hby⟩ := hby
    rw [Option.bind_eq_some_iff] at hby
    obtain ⟨t2, ht2, hby⟩ := hby
    rw [Option.bind_eq_some_iff] at hby
    obtain ⟨s2, hs2, hby⟩ := hby
    have Y1 := zm1 hy1
    have T1 := zm1 ht1
    have S1 := zm1 hs1
    have Y2 := zm1 hy2
    have T2 := zm1 ht2
    have S2 := zm1 hs2
    clear hy1 ht1 hs1 hy2 ht2 hs2
    obtain rfl := (Option.some.inj hby).symm
    obtain ⟨x, hx_⟩ : ∃ x, x = wrap64 (s1 - s2) := ⟨_, rfl⟩
    rw [← hx_] at H
    have X := zm1 hx_
    have hxw : IntKind.i64.wrap (s1 - s2) = x := by rw [i64_w]; exact hx_.symm
    have hxw2 : wrap64 (s1 - s2) = x := hx_.symm
    clear hby hx_
    have HA := zm1 H
    clear H
    replace p_ := eq_true p_
    replace q_ := eq_true q_
    go_upto_region 7 with (fail)
    go_cut [10] (fun v10 wc => v10 = .int .i64 x ∧ Aside0 (Below wr.heap.size wr wc))
    case first =>
     clear HA
     have HX := zm1 (Below.refl wr.heap.size wr)
     go_region_held3 (fun w' => w'.cell? a1 = some (.int .i64 u) ∧ w'.cell? ⟨a1.block, a1.off + 1, none⟩ = some (.int .i64 v)) ((refine spec_BestCut.keep2 hx0 hx1 ?_; repeat (first | exact HX.out | assumption | apply pw_below_drewN | apply below_drew1 | apply below_alloc))) (first | (go_at_call 88; (with_reducible refine (spec_l27Part.calls k A0 c0 l0 u v y1 _ ?sW HC0.out Y1.out).mono ?_); (case sW => exact (Kd.C_below HR0.out (below_step HB.out (by repeat (first | (with_reducible first | exact HX.out | apply zc1 | apply zc2 | apply zc3) | exact HX.out))))); rintro e w8 ⟨vw, rfl, ho, hb⟩; obtain ⟨Ap, cp, ep⟩ := Kd.R_slice ho; subst ep; have Hp := zm1 ho; have nHX := zm1 (zc6 (by repeat (first | (with_reducible first | exact HX.out | apply zc1 | apply zc2 | apply zc3) | exact HX.out)) hb); clear HX ho hb; have HX := nHX; clear nHX) | (go_at_call 87; (with_reducible refine (spec_l03Twice.calls k Ap cp y1 t1 _ ?sT (Kd.R_reads' Hp.out).2.1 T1.out).mono ?_); (case sT => repeat (first | exact (Kd.R_reads' Hp.out).2.2 | (with_reducible refine Kd.C_alloc ?_ _) | (with_reducible refine Kd.C_drewN ?_ _) | (with_reducible refine Kd.C_drew ?_))); rintro e w8 ⟨rfl, hb⟩; have nHX := zm1 (zc6 (by repeat (first | (with_reducible first | exact HX.out | apply zc1 | apply zc2 | apply zc3) | exact HX.out)) hb); clear HX hb Hp; have HX := nHX; clear nHX) | (go_at_call 86; (with_reducible refine (spec_l04Mag.calls t1 s1 _ S1.out).mono ?_); rintro e w8 ⟨rfl, hb⟩; have nHX := zm1 (zc6 (by repeat (first | (with_reducible first | exact HX.out | apply zc1 | apply zc2 | apply zc3) | exact HX.out)) hb); clear HX hb; have HX := nHX; clear nHX) | (go_at_call 88; (with_reducible refine (spec_l27Part.calls k A0 c0 l0 v u y2 _ ?sW HC0.out Y2.out).mono ?_); (case sW => exact (Kd.C_below HR0.out (below_step HB.out (by repeat (first | (with_reducible first | exact HX.out | apply zc1 | apply zc2 | apply zc3) | exact HX.out))))); rintro e w8 ⟨vw, rfl, ho, hb⟩; obtain ⟨Aq, cq, eq⟩ := Kd.R_slice ho; subst eq; have Hq := zm1 ho; have nHX := zm1 (zc6 (by repeat (first | (with_reducible first | exact HX.out | apply zc1 | apply zc2 | apply zc3) | exact HX.out)) hb); clear HX ho hb; have HX := nHX; clear nHX) | (go_at_call 87; (with_reducible refine (spec_l03Twice.calls k Aq cq y2 t2 _ ?sT (Kd.R_reads' Hq.out).2.1 T2.out).mono ?_); (case sT => repeat (first | exact (Kd.R_reads' Hq.out).2.2 | (with_reducible refine Kd.C_alloc ?_ _) | (with_reducible refine Kd.C_drewN ?_ _) | (with_reducible refine Kd.C_drew ?_))); rintro e w8 ⟨rfl, hb⟩; have nHX := zm1 (zc6 (by repeat (first | (with_reducible first | exact HX.out | apply zc1 | apply zc2 | apply zc3) | exact HX.out)) hb); clear HX hb Hq; have HX := nHX; clear nHX) | (go_at_call 86; (with_reducible refine (spec_l04Mag.calls t2 s2 _ S2.out).mono ?_); rintro e w8 ⟨rfl, hb⟩; have nHX := zm1 (zc6 (by repeat (first | (with_reducible first | exact HX.out | apply zc1 | apply zc2 | apply zc3) | exact HX.out)) hb); clear HX hb; have HX := nHX; clear nHX))
     all_goals
      go_wp2
      go_meet
      case rel => exact ⟨rfl, ⟨(by repeat (first | (with_reducible first | exact HX.out | apply zc1 | apply zc2 | apply zc3) | exact HX.out))⟩⟩
    case rest =>
     obtain ⟨rfl, HX⟩ := hcut
     have hq := spec_BestCut.keep2 hx0 hx1 HX.out
     have nHS := zm1 (Kd.S_below HS.out HX.out)
     have nHB := zm1 (below_step HB.out HX.out)
     clear HS HB hx hx0 hx1 HX p_ q_ c5b
     have HS := nHS
     have HB := nHB
     clear nHS nHB
     obtain ⟨hx0, hx1⟩ := hq
     have H := HA.out
     clear HA
     rw [Option.bind_eq_some_iff] at H
     obtain ⟨z, hz, H⟩ := H
     have Z := zm1 hz
     clear hz
     by_cases ca : a < 0
     ·rw [if_pos (.inl ca)] at H
      have HA := zm1 H
      have cab : decide (a < 0) = true := decide_eq_true ca
      clear H ca
      go_wp2_with (first | (go_at_call 86; (with_reducible refine (spec_l04Mag.calls x z _ Z.out).mono ?_); rintro e w8 ⟨rfl, hb⟩; have nHB := zm1 (zc6 (by repeat (first | (with_reducible first | exact HB.out | apply zc1 | apply zc2 | apply zc3) | exact HB.out)) hb); have nHS := zm1 (Kd.S_below (by (with_reducible repeat (first | apply Kd.S_alloc | apply Kd.S_drewN | apply Kd.S_drew)); exact HS.out) hb); clear HB hb HS; have HB := nHB; have HS := nHS; clear nHB nHS))
      go_roundg k1
      case measure => have := HK.out; omega
      case rel => exact ⟨u, v, z, i + 1, rfl, rfl, rfl, (by have := HI.out; have := HM.out; rw [show wrap64 (i + 1) = i + 1 by unfold wrap64; omega]), HA, ⟨by have := HK.out; omega⟩, ⟨by (with_reducible repeat (first | apply Kd.S_alloc | apply Kd.S_drewN | apply Kd.S_drew)); exact HS.out⟩, ⟨(by repeat (first | (with_reducible first | exact HB.out | apply zc1 | apply zc2 | apply zc3) | exact HB.out))⟩⟩
     ·have cab : decide (a < 0) = false := decide_eq_false ca
      by_cases cm : z < m
      ·rw [if_pos (.inr cm)] at H
       have HA := zm1 H
       have cmb : decide (z < m) = true := decide_eq_true cm
       clear H ca cm
       go_wp2_with (first | (go_at_call 86; (with_reducible refine (spec_l04Mag.calls x z _ Z.out).mono ?_); rintro e w8 ⟨rfl, hb⟩; have nHB := zm1 (zc6 (by repeat (first | (with_reducible first | exact HB.out | apply zc1 | apply zc2 | apply zc3) | exact HB.out)) hb); have nHS := zm1 (Kd.S_below (by (with_reducible repeat (first | apply Kd.S_alloc | apply Kd.S_drewN | apply Kd.S_drew)); exact HS.out) hb); have hq_ := spec_BestCut.keep2 hx0 hx1 hb; clear HB hb HS hx0 hx1; have HB := nHB; have HS := nHS; clear nHB nHS; obtain ⟨hx0, hx1⟩ := hq_))
       go_roundg k1
       case measure => have := HK.out; omega
       case rel => exact ⟨u, v, z, i + 1, rfl, rfl, rfl, (by have := HI.out; have := HM.out; rw [show wrap64 (i + 1) = i + 1 by unfold wrap64; omega]), HA, ⟨by have := HK.out; omega⟩, ⟨by (with_reducible repeat (first | apply Kd.S_alloc | apply Kd.S_drewN | apply Kd.S_drew)); exact HS.out⟩, ⟨(by repeat (first | (with_reducible first | exact HB.out | apply zc1 | apply zc2 | apply zc3) | exact HB.out))⟩⟩
      ·rw [if_neg (by omega)] at H
       have HA := zm1 H
       have cmb : decide (z < m) = false := decide_eq_false cm
       clear H ca cm
       go_wp2_with (first | (go_at_call 86; (with_reducible refine (spec_l04Mag.calls x z _ Z.out).mono ?_); rintro e w8 ⟨rfl, hb⟩; have nHB := zm1 (zc6 (by repeat (first | (with_reducible first | exact HB.out | apply zc1 | apply zc2 | apply zc3) | exact HB.out)) hb); have nHS := zm1 (Kd.S_below (by (with_reducible repeat (first | apply Kd.S_alloc | apply Kd.S_drewN | apply Kd.S_drew)); exact HS.out) hb); clear HB hb HS; have HB := nHB; have HS := nHS; clear nHB nHS))
       go_roundg k1
       case measure => have := HK.out; omega
       case rel => exact ⟨a, b, m, i + 1, rfl, rfl, rfl, (by have := HI.out; have := HM.out; rw [show wrap64 (i + 1) = i + 1 by unfold wrap64; omega]), HA, ⟨by have := HK.out; omega⟩, ⟨by (with_reducible repeat (first | apply Kd.S_alloc | apply Kd.S_drewN | apply Kd.S_drew)); exact HS.out⟩, ⟨(by repeat (first | (with_reducible first | exact HB.out | apply zc1 | apply zc2 | apply zc3) | exact HB.out))⟩⟩
   ·rw [if_neg c1] at H
    by_cases c0 : 0 ≤ i
    case neg => rw [if_neg c0] at H; cases H
    rw [if_pos c0] at H
    have c5b : decide (i < (ds.length : Int)) = false := decide_eq_false (fun h => c1 ⟨c0, h⟩)
    simp only [Option.some.injEq, Prod.mk.injEq] at H
    obtain ⟨rfl, rfl, rfl⟩ := H
    clear c1 c0
    go_wp2
    go_ret3
    exact ⟨by first | rfl | (simp [*]; done), by repeat (first | (with_reducible first | exact HB.out | apply zc1 | apply zc2 | apply zc3) | exact HB.out)⟩

/-! ### impl_within: function 76 -/
def impl_within.f (a0 : Int) (a1 : Int) (a2 : Int) : Option (Bool) := if a0 ≥ a1 then (some (decide (a0 ≤ a2))) else (some false)
set_option maxHeartbeats 8000000 in
set_option maxRecDepth 100000 in
theorem impl_within.calls (a0 : Int) (a1 : Int) (a2 : Int) (r : Bool) (w : World) (h : impl_within.f a0 a1 a2 = some r) :
  Calls Try.prog 76 #[.int .i64 a0, .int .i64 a1, .int .i64 a2] w fun e w' => e = .returned (.bool r) ∧ Drawn0 w w' := by
 have H : (if a0 ≥ a1 then (some (decide (a0 ≤ a2))) else (some false)) = some r := h
 clear h
 by_cases c4 : a0 ≥ a1
 ·rw [if_pos c4] at H
  have c4b0 : decide (a1 ≤ a0) = true := decide_eq_true c4
  clear c4
  obtain rfl := Option.some.inj H
  go_enter Try.func76, Try.ntmps76
  go_wp2
  go_ret
  exact ⟨by first | rfl | (simp; done) | (simp [*]; done), by repeat (first | exact Drawn0.refl _ | apply Drawn0.step)⟩
 ·rw [if_neg c4] at H
  have c4b0 : decide (a1 ≤ a0) = false := decide_eq_false c4
  clear c4
  obtain rfl := Option.some.inj H
  go_enter Try.func76, Try.ntmps76
  go_wp2
  go_ret
  exact ⟨by first | rfl | (simp; done) | (simp [*]; done), by repeat (first | exact Drawn0.refl _ | apply Drawn0.step)⟩

/-! ### impl_PointOk: function 103 -/
def impl_PointOk.f (a0_0 : Int) (a0_1 : Int) : Option (Bool) := (impl_within.f a0_0 0 40).bind fun t194 => (if t194 = true then ((impl_within.f a0_1 0 40).bind fun t195 => (some t195)) else (some false))
set_option maxHeartbeats 8000000 in
set_option maxRecDepth 100000 in
theorem impl_PointOk.calls (a0_0 : Int) (a0_1 : Int) (r : Bool) (w : World) (h : impl_PointOk.f a0_0 a0_1 = some r) :
  Calls Try.prog 103 #[.agg #[.int .i64 a0_0, .int .i64 a0_1]] w fun e w' => e = .returned (.bool r) ∧ Below w.heap.size w w' := by
 have hu61 := Try.underlying61
 have HB := zm1 (Below.refl w.heap.size w)
 have H : ((impl_within.f a0_0 0 40).bind fun t194 => (if t194 = true then ((impl_within.f a0_1 0 40).bind fun t195 => (some t195)) else (some false))) = some r := h
 clear h
 replace H := Option.bind_eq_some_iff.mp H
 obtain ⟨t194, A20, H⟩ := H
 replace H : (if t194 = true then ((impl_within.f a0_1 0 40).bind fun t195 => (some t195)) else (some false)) = some r := H
 have A2 := zm1 A20
 clear A20
 by_cases c3 : t194 = true
 ·subst c3
  have H1 : ((impl_within.f a0_1 0 40).bind fun t195 => (some t195)) = some r := by rw [if_pos rfl] at H; exact H
  clear H
  have H := H1
  clear H1
  replace H := Option.bind_eq_some_iff.mp H
  obtain ⟨t195, A40, H⟩ := H
  replace H : (some t195) = some r := H
  have A4 := zm1 A40
  clear A40
  obtain rfl := Option.some.inj H
  go_enter Try.func103, Try.ntmps103
  go_wp2_with (first | ((with_reducible refine gate_dst (N := 1) rfl ?_); refine box_event ?hg (N := 1) ?hd (cs := #[.int .i64 a0_0, .int .i64 a0_1]) (t := 61) ?hr ?_; (case hd => rfl); (case hg => rfl); (case hr => first | (go_simp; done) | (go_simp; rfl)); intro gb193 hg w5 hbox hb; have n0_ := zm1 (zc6 (by repeat (first | (with_reducible first | exact HB.out | apply zc1 | apply zc2 | apply zc3) | exact HB.out)) hb); have n1_ := zm1 (hbox); have n2_ := zm1 ((by rw [hg]; exact (zc5 (by repeat (first | (with_reducible first | exact HB.out | apply zc1 | apply zc2 | apply zc3) | exact HB.out))) : w.heap.size ≤ gb193)); have n3_ := zm1 ((by rw [hg]; exact (zc5 (by repeat (first | (with_reducible first | exact HB.out | apply zc1 | apply zc2 | apply zc3) | exact HB.out))) : w.heap.size ≤ gb193)); clear HB; have HB := n0_; have BK193 := n1_; have GW193 := n2_; have GE193 := n3_; clear n0_ n1_ n2_ n3_; clear hb hbox hg; have hcz6_0 : w5.cell? ⟨gb193, 0, none⟩ = some (.int .i64 a0_0) := (blk_cell BK193.out 0).trans rfl; have hcz6_1 : w5.cell? ⟨gb193, 1, none⟩ = some (.int .i64 a0_1) := (blk_cell BK193.out 1).trans rfl; have hfz6_0 := blk_frozen BK193.out 0; have hfz6_1 := blk_frozen BK193.out 1) | ((with_reducible refine gate_callee (f := 76) rfl ?_); refine goesL_ (some 5) rfl rfl Try.func76 (by kernel_rfl) rfl #[.int .i64 a0_0, .int .i64 0, .int .i64 40] rfl (by (try simp only [List.map_toArray, List.map_cons, List.map_nil]); first | done | rfl | (simp only [List.length_drop, List.length_take]; rfl)) ?_; (with_reducible refine (impl_within.calls a0_0 0 40 true _ A2.out).mono ?_); rintro e w' ⟨rfl, ⟨nd, rfl⟩⟩; refine ⟨_, rfl, ?_⟩) | (go_at_call 76; (with_reducible refine (impl_within.calls a0_1 0 40 t195 _ A4.out).mono ?_); rintro e w' ⟨rfl, ⟨nd, rfl⟩⟩))
  go_ret
  exact ⟨by first | rfl | (simp [errW_none, errW_some] <;> rfl) | (simp [*, errW_none, errW_some] <;> rfl), by repeat (first | (with_reducible first | exact HB.out | apply zc1 | apply zc2 | apply zc3 | refine zc4 ?_ GE193.out) | exact HB.out)⟩
 ·replace c3 := Bool.eq_false_iff.mpr c3
  subst c3
  have H1 : (some false) = some r := by rw [if_neg (show ¬ (false = true) by decide)] at H; exact H
  clear H
  have H := H1
  clear H1
  obtain rfl := Option.some.inj H
  go_enter Try.func103, Try.ntmps103
  go_wp2_with (first | ((with_reducible refine gate_dst (N := 1) rfl ?_); refine box_event ?hg (N := 1) ?hd (cs := #[.int .i64 a0_0, .int .i64 a0_1]) (t := 61) ?hr ?_; (case hd => rfl); (case hg => rfl); (case hr => first | (go_simp; done) | (go_simp; rfl)); intro gb193 hg w7 hbox hb; have n0_ := zm1 (zc6 (by repeat (first | (with_reducible first | exact HB.out | apply zc1 | apply zc2 | apply zc3) | exact HB.out)) hb); have n1_ := zm1 (hbox); have n2_ := zm1 ((by rw [hg]; exact (zc5 (by repeat (first | (with_reducible first | exact HB.out | apply zc1 | apply zc2 | apply zc3) | exact HB.out))) : w.heap.size ≤ gb193)); have n3_ := zm1 ((by rw [hg]; exact (zc5 (by repeat (first | (with_reducible first | exact HB.out | apply zc1 | apply zc2 | apply zc3) | exact HB.out))) : w.heap.size ≤ gb193)); clear HB; have HB := n0_; have BK193 := n1_; have GW193 := n2_; have GE193 := n3_; clear n0_ n1_ n2_ n3_; clear hb hbox hg; have hcz8_0 : w7.cell? ⟨gb193, 0, none⟩ = some (.int .i64 a0_0) := (blk_cell BK193.out 0).trans rfl; have hcz8_1 : w7.cell? ⟨gb193, 1, none⟩ = some (.int .i64 a0_1) := (blk_cell BK193.out 1).trans rfl; have hfz8_0 := blk_frozen BK193.out 0; have hfz8_1 := blk_frozen BK193.out 1) | ((with_reducible refine gate_callee (f := 76) rfl ?_); refine goesL_ (some 5) rfl rfl Try.func76 (by kernel_rfl) rfl #[.int .i64 a0_0, .int .i64 0, .int .i64 40] rfl (by (try simp only [List.map_toArray, List.map_cons, List.map_nil]); first | done | rfl | (simp only [List.length_drop, List.length_take]; rfl)) ?_; (with_reducible refine (impl_within.calls a0_0 0 40 false _ A2.out).mono ?_); rintro e w' ⟨rfl, ⟨nd, rfl⟩⟩; refine ⟨_, rfl, ?_⟩))
  go_ret
  exact ⟨by first | rfl | (simp [errW_none, errW_some] <;> rfl) | (simp [*, errW_none, errW_some] <;> rfl), by repeat (first | (with_reducible first | exact HB.out | apply zc1 | apply zc2 | apply zc3 | refine zc4 ?_ GE193.out) | exact HB.out)⟩

/-! ### impl_arePoints: function 67 -/
def impl_arePoints.l0 : Nat → List (S61) → Int → Int → Option (Bool)
 | 0, _, _, _ => none
 | k + 1, x5, x6, x7 => if x7 < x6 then (if 0 ≤ x7 then (if x7 < (x5.length : Int) then ((impl_PointOk.f ((rd_T61 x5 x7).f0) ((rd_T61 x5 x7).f1)).bind fun t198 => (if t198 = true then (impl_arePoints.l0 k x5 x6 (wrap64 (x7 + 1))) else (some false))) else (none)) else (none)) else (some true)
def impl_arePoints.f (k : Nat) (l0 : List (S61)) : Option (Bool) := impl_arePoints.l0 k l0 (l0.length : Int) 0
theorem impl_arePoints.mono_l : ∀ k, (∀ y0 y1 y2, LeO (impl_arePoints.l0 k y0 y1 y2) (impl_arePoints.l0 (k + 1) y0 y1 y2))
 | 0 => fun _ _ _ r h => by simp [impl_arePoints.l0] at h
 | k + 1 => by
  have ih0 := impl_arePoints.mono_l k
  ·intro y0 y1 y2
   unfold impl_arePoints.l0
   repeat' first
   | (with_reducible exact ih0 _ _ _)
   | (with_reducible exact LeO.refl _)
   | (with_reducible exact LeO.none _)
   | (with_reducible refine LeO.ite ?_ ?_)
   | (with_reducible refine LeO.bind ?_ (fun _ => ?_))
   | exact ih0 _ _ _
   | exact LeO.none _
   | refine LeO.ite ?_ ?_
   | refine LeO.bind ?_ (fun _ => ?_)
theorem impl_arePoints.mono : ∀ a0 k, LeO (impl_arePoints.f k a0) (impl_arePoints.f (k + 1) a0) := by
 intro a0 k
 have ih0 := impl_arePoints.mono_l k
 unfold impl_arePoints.f
 repeat' first
   | (with_reducible exact ih0 _ _ _)
   | (with_reducible exact LeO.refl _)
   | (with_reducible exact LeO.none _)
   | (with_reducible refine LeO.ite ?_ ?_)
   | (with_reducible refine LeO.bind ?_ (fun _ => ?_))
   | exact ih0 _ _ _
   | exact LeO.none _
   | refine LeO.ite ?_ ?_
   | refine LeO.bind ?_ (fun _ => ?_)
set_option maxHeartbeats 8000000 in
set_option maxRecDepth 100000 in
theorem impl_arePoints.calls (k : Nat) (A0 : Option Addr) (c0 : Nat) (l0 : List (S61)) (r : Bool) (w : World) (hr0 : Kd.C k61 w A0 l0.length l0) (hc0 : l0.length ≤ c0) (h : impl_arePoints.f k l0 = some r) :
  Calls Try.prog 67 #[.slice A0 l0.length c0] w fun e w' => e = .returned (.bool r) ∧ Below w.heap.size w w' := by
 have hu61 := Try.underlying61
 have HR0 := zm1 hr0
 have HC0 := zm1 hc0
 clear hr0 hc0
 have HB := zm1 (Below.refl w.heap.size w)
 have H : (impl_arePoints.l0 k l0 (l0.length : Int) 0) = some r := h
 clear h
 have H' := zm1 H
 clear H
 go_enter Try.func67, Try.ntmps67
 go_wp2
 go_loopg [7] k (fun kq v7 w' => ∃ (x7_1 : Int), v7 = .int .i64 x7_1 ∧ Aside0 (impl_arePoints.l0 kq l0 (l0.length : Int) x7_1 = some r) ∧ Aside0 (kq ≤ k) ∧ Aside0 (Below w.heap.size w w'))
 case atStart => exact ⟨(0), (by first | rfl | (simp; done) | (simp [*]; done)), H', ⟨Nat.le_refl _⟩, ⟨by repeat (first | (with_reducible first | exact HB.out | apply zc1 | apply zc2 | apply zc3) | exact HB.out)⟩⟩
 case round =>
  clear H'
  obtain ⟨x7_1, rfl, HA, HK1, HB⟩ := hrel
  cases gk with
  | zero => exact absurd HA.out (by simp [impl_arePoints.l0])
  | succ k1 =>
   have H := HA.out
   clear HA
   simp only [impl_arePoints.l0] at H
   by_cases c2 : x7_1 < (l0.length : Int)
   ·rw [if_pos c2] at H
    have c2b0 : decide (x7_1 < (l0.length : Int)) = true := decide_eq_true c2
    clear c2
    by_cases c3 : 0 ≤ x7_1
    ·rw [if_pos c3] at H
     have c3b0 : decide (0 ≤ x7_1) = true := decide_eq_true c3
     clear c3
     by_cases c4 : x7_1 < (l0.length : Int)
     ·rw [if_pos c4] at H
      have c4b0 : decide (x7_1 < (l0.length : Int)) = true := decide_eq_true c4
      clear c4
      replace H := Option.bind_eq_some_iff.mp H
      obtain ⟨t198, A50, H⟩ := H
      replace H : (if t198 = true then (impl_arePoints.l0 k1 l0 (l0.length : Int) (wrap64 (x7_1 + 1))) else (some false)) = some r := H
      have A5 := zm1 A50
      clear A50
      by_cases c6 : t198 = true
      ·subst c6
       have H1 : (impl_arePoints.l0 k1 l0 (l0.length : Int) (wrap64 (x7_1 + 1))) = some r := by rw [if_pos rfl] at H; exact H
       clear H
       have H := H1
       clear H1
       have H' := zm1 H
       clear H
       have p196 : 0 ≤ (x7_1 : Int) := of_decide_eq_true (by assumption)
       have q196 : x7_1 < (l0.length : Int) := of_decide_eq_true (by assumption)
       obtain ⟨ad196, e196, hx196_0, hx196_1⟩ := at_T61 HR0.out x7_1 p196 q196
       cases e196
       (try replace hx196_0 := (HB.out.cell (zl hx196_0)).trans hx196_0)
       (try replace hx196_1 := (HB.out.cell (zl hx196_1)).trans hx196_1)
       replace p196 := eq_true p196
       replace q196 := eq_true q196
       go_wp2_with (first | ((with_reducible refine gate_dst (N := 4) rfl ?_); refine box_event ?hg (N := 4) ?hd (cs := #[.int .i64 0, .int .i64 0]) (t := 61) ?hr ?_; (case hd => rfl); (case hg => rfl); (case hr => first | (go_simp; done) | (go_simp; rfl)); intro gb197 hg w7 hbox hb; have n0_ := zm1 (zc6 (by repeat (first | (with_reducible first | exact HB.out | apply zc1 | apply zc2 | apply zc3) | exact HB.out)) hb); have n1_ := zm1 (hbox); have n2_ := zm1 ((by rw [hg]; exact (zc5 (by repeat (first | (with_reducible first | exact HB.out | apply zc1 | apply zc2 | apply zc3) | exact HB.out))) : w.heap.size ≤ gb197)); have n3_ := zm1 ((by rw [hg]; exact (zc5 (by repeat (first | (with_reducible first | exact HB.out | apply zc1 | apply zc2 | apply zc3) | exact HB.out))) : w.heap.size ≤ gb197)); clear HB; have HB := n0_; have BK197 := n1_; have GW197 := n2_; have GE197 := n3_; clear n0_ n1_ n2_ n3_; clear hb hbox hg; have hcz8_0 : w7.cell? ⟨gb197, 0, none⟩ = some (.int .i64 0) := (blk_cell BK197.out 0).trans rfl; have hcz8_1 : w7.cell? ⟨gb197, 1, none⟩ = some (.int .i64 0) := (blk_cell BK197.out 1).trans rfl; have hfz8_0 := blk_frozen BK197.out 0; have hfz8_1 := blk_frozen BK197.out 1) | ((with_reducible refine gate_callee (f := 103) rfl ?_); refine goesL_ (some 12) rfl rfl Try.func103 (by kernel_rfl) rfl #[.agg #[.int .i64 ((rd_T61 l0 x7_1).f0), .int .i64 ((rd_T61 l0 x7_1).f1)]] rfl (by (try simp only [List.map_toArray, List.map_cons, List.map_nil]); first | done | rfl | (simp only [List.length_drop, List.length_take]; rfl)) ?_; (with_reducible refine (impl_PointOk.calls ((rd_T61 l0 x7_1).f0) ((rd_T61 l0 x7_1).f1) true _ A5.out).mono ?_); rintro e w9 ⟨rfl, hb⟩; refine ⟨_, rfl, ?_⟩; have n0_ := zm1 (zd1 (o := .cells #[.int .i64 ((rd_T61 l0 x7_1).f0), .int .i64 ((rd_T61 l0 x7_1).f1)] 61 (0, 0)) (by (with_reducible repeat (first | apply zb1 | apply zb2 | apply zb3)); refine blk_put (cs := #[.int .i64 ((rd_T61 l0 x7_1).f0), .int .i64 0]) ?_ 1 _ rfl; (with_reducible repeat (first | apply zb1 | apply zb2 | apply zb3)); refine blk_put (cs := #[.int .i64 0, .int .i64 0]) ?_ 0 _ rfl; (with_reducible repeat (first | apply zb1 | apply zb2 | apply zb3)); exact BK197.out) hb); have n1_ := zm1 (zc6 (by repeat (first | (with_reducible first | exact HB.out | apply zc1 | apply zc2 | apply zc3 | refine zc4 ?_ GE197.out) | exact HB.out)) hb); clear BK197; clear HB; have BK197 := n0_; have HB := n1_; clear n0_ n1_; (try clear hb); (try clear hb2); (try clear hk); (try clear hi)))
       go_roundg k1
       case measure => have := HK1.out; omega
       case rel => exact ⟨(wrap64 (x7_1 + 1)), (by first | rfl | (simp; done) | (simp [*]; done)), H', ⟨by have := HK1.out; omega⟩, ⟨by repeat (first | (with_reducible first | exact HB.out | apply zc1 | apply zc2 | apply zc3 | refine zc4 ?_ GE197.out) | exact HB.out)⟩⟩
      ·replace c6 := Bool.eq_false_iff.mpr c6
       subst c6
       have H1 : (some false) = some r := by rw [if_neg (show ¬ (false = true) by decide)] at H; exact H
       clear H
       have H := H1
       clear H1
       obtain rfl := Option.some.inj H
       have p196 : 0 ≤ (x7_1 : Int) := of_decide_eq_true (by assumption)
       have q196 : x7_1 < (l0.length : Int) := of_decide_eq_true (by assumption)
       obtain ⟨ad196, e196, hx196_0, hx196_1⟩ := at_T61 HR0.out x7_1 p196 q196
       cases e196
       (try replace hx196_0 := (HB.out.cell (zl hx196_0)).trans hx196_0)
       (try replace hx196_1 := (HB.out.cell (zl hx196_1)).trans hx196_1)
       replace p196 := eq_true p196
       replace q196 := eq_true q196
       go_wp2_with (first | ((with_reducible refine gate_dst (N := 4) rfl ?_); refine box_event ?hg (N := 4) ?hd (cs := #[.int .i64 0, .int .i64 0]) (t := 61) ?hr ?_; (case hd => rfl); (case hg => rfl); (case hr => first | (go_simp; done) | (go_simp; rfl)); intro gb197 hg w10 hbox hb; have n0_ := zm1 (zc6 (by repeat (first | (with_reducible first | exact HB.out | apply zc1 | apply zc2 | apply zc3) | exact HB.out)) hb); have n1_ := zm1 (hbox); have n2_ := zm1 ((by rw [hg]; exact (zc5 (by repeat (first | (with_reducible first | exact HB.out | apply zc1 | apply zc2 | apply zc3) | exact HB.out))) : w.heap.size ≤ gb197)); have n3_ := zm1 ((by rw [hg]; exact (zc5 (by repeat (first | (with_reducible first | exact HB.out | apply zc1 | apply zc2 | apply zc3) | exact HB.out))) : w.heap.size ≤ gb197)); clear HB; have HB := n0_; have BK197 := n1_; have GW197 := n2_; have GE197 := n3_; clear n0_ n1_ n2_ n3_; clear hb hbox hg; have hcz11_0 : w10.cell? ⟨gb197, 0, none⟩ = some (.int .i64 0) := (blk_cell BK197.out 0).trans rfl; have hcz11_1 : w10.cell? ⟨gb197, 1, none⟩ = some (.int .i64 0) := (blk_cell BK197.out 1).trans rfl; have hfz11_0 := blk_frozen BK197.out 0; have hfz11_1 := blk_frozen BK197.out 1) | ((with_reducible refine gate_callee (f := 103) rfl ?_); refine goesL_ (some 12) rfl rfl Try.func103 (by kernel_rfl) rfl #[.agg #[.int .i64 ((rd_T61 l0 x7_1).f0), .int .i64 ((rd_T61 l0 x7_1).f1)]] rfl (by (try simp only [List.map_toArray, List.map_cons, List.map_nil]); first | done | rfl | (simp only [List.length_drop, List.length_take]; rfl)) ?_; (with_reducible refine (impl_PointOk.calls ((rd_T61 l0 x7_1).f0) ((rd_T61 l0 x7_1).f1) false _ A5.out).mono ?_); rintro e w12 ⟨rfl, hb⟩; refine ⟨_, rfl, ?_⟩; have n0_ := zm1 (zd1 (o := .cells #[.int .i64 ((rd_T61 l0 x7_1).f0), .int .i64 ((rd_T61 l0 x7_1).f1)] 61 (0, 0)) (by (with_reducible repeat (first | apply zb1 | apply zb2 | apply zb3)); refine blk_put (cs := #[.int .i64 ((rd_T61 l0 x7_1).f0), .int .i64 0]) ?_ 1 _ rfl; (with_reducible repeat (first | apply zb1 | apply zb2 | apply zb3)); refine blk_put (cs := #[.int .i64 0, .int .i64 0]) ?_ 0 _ rfl; (with_reducible repeat (first | apply zb1 | apply zb2 | apply zb3)); exact BK197.out) hb); have n1_ := zm1 (zc6 (by repeat (first | (with_reducible first | exact HB.out | apply zc1 | apply zc2 | apply zc3 | refine zc4 ?_ GE197.out) | exact HB.out)) hb); clear BK197; clear HB; have BK197 := n0_; have HB := n1_; clear n0_ n1_; (try clear hb); (try clear hb2); (try clear hk); (try clear hi)))
       go_ret
       exact ⟨by first | rfl | (simp [errW_none, errW_some] <;> rfl) | (simp [*, errW_none, errW_some] <;> rfl), by repeat (first | (with_reducible first | exact HB.out | apply zc1 | apply zc2 | apply zc3 | refine zc4 ?_ GE197.out) | exact HB.out)⟩
     ·rw [if_neg c4] at H
      exact absurd H (by simp)
    ·rw [if_neg c3] at H
     exact absurd H (by simp)
   ·rw [if_neg c2] at H
    have c2b0 : decide (x7_1 < (l0.length : Int)) = false := decide_eq_false c2
    clear c2
    obtain rfl := Option.some.inj H
    go_wp2
    go_ret
    exact ⟨by first | rfl | (simp [errW_none, errW_some] <;> rfl) | (simp [*, errW_none, errW_some] <;> rfl), by repeat (first | (with_reducible first | exact HB.out | apply zc1 | apply zc2 | apply zc3) | exact HB.out)⟩

/-! ### impl_cross: function 68 -/
def impl_cross.f (a0_0 : Int) (a0_1 : Int) (a1_0 : Int) (a1_1 : Int) (a2_0 : Int) (a2_1 : Int) : Option (Int) := some (wrap64 ((wrap64 ((wrap64 (a1_0 - a0_0)) * (wrap64 (a2_1 - a0_1)))) - (wrap64 ((wrap64 (a1_1 - a0_1)) * (wrap64 (a2_0 - a0_0))))))
set_option maxHeartbeats 8000000 in
set_option maxRecDepth 100000 in
theorem impl_cross.calls (a0_0 : Int) (a0_1 : Int) (a1_0 : Int) (a1_1 : Int) (a2_0 : Int) (a2_1 : Int) (r : Int) (w : World) (h : impl_cross.f a0_0 a0_1 a1_0 a1_1 a2_0 a2_1 = some r) :
  Calls Try.prog 68 #[.agg #[.int .i64 a0_0, .int .i64 a0_1], .agg #[.int .i64 a1_0, .int .i64 a1_1], .agg #[.int .i64 a2_0, .int .i64 a2_1]] w fun e w' => e = .returned (.int .i64 r) ∧ Below w.heap.size w w' := by
 have hu61 := Try.underlying61
 have HB := zm1 (Below.refl w.heap.size w)
 have H : (some (wrap64 ((wrap64 ((wrap64 (a1_0 - a0_0)) * (wrap64 (a2_1 - a0_1)))) - (wrap64 ((wrap64 (a1_1 - a0_1)) * (wrap64 (a2_0 - a0_0))))))) = some r := h
 clear h
 obtain rfl := Option.some.inj H
 go_enter Try.func68, Try.ntmps68
 go_wp2_with (first | ((with_reducible refine gate_dst (N := 3) rfl ?_); refine box_event ?hg (N := 3) ?hd (cs := #[.int .i64 a0_0, .int .i64 a0_1]) (t := 61) ?hr ?_; (case hd => rfl); (case hg => rfl); (case hr => first | (go_simp; done) | (go_simp; rfl)); intro gb199 hg w4 hbox hb; have n0_ := zm1 (zc6 (by repeat (first | (with_reducible first | exact HB.out | apply zc1 | apply zc2 | apply zc3) | exact HB.out)) hb); have n1_ := zm1 (hbox); have n2_ := zm1 ((by rw [hg]; exact (zc5 (by repeat (first | (with_reducible first | exact HB.out | apply zc1 | apply zc2 | apply zc3) | exact HB.out))) : w.heap.size ≤ gb199)); have n3_ := zm1 ((by rw [hg]; exact (zc5 (by repeat (first | (with_reducible first | exact HB.out | apply zc1 | apply zc2 | apply zc3) | exact HB.out))) : w.heap.size ≤ gb199)); clear HB; have HB := n0_; have BK199 := n1_; have GW199 := n2_; have GE199 := n3_; clear n0_ n1_ n2_ n3_; clear hb hbox hg) | ((with_reducible refine gate_dst (N := 4) rfl ?_); refine box_event ?hg (N := 4) ?hd (cs := #[.int .i64 a1_0, .int .i64 a1_1]) (t := 61) ?hr ?_; (case hd => rfl); (case hg => rfl); (case hr => first | (go_simp; done) | (go_simp; rfl)); intro gb200 hg w5 hbox hb; have n0_ := zm1 (zd1 (zb4 BK199.out) hb); have n1_ := zm1 (zc6 (by repeat (first | (with_reducible first | exact HB.out | apply zc1 | apply zc2 | apply zc3 | refine zc4 ?_ GE199.out) | exact HB.out)) hb); have n2_ := zm1 (hbox); have n3_ := zm1 ((by rw [hg]; exact (zc5 (by repeat (first | (with_reducible first | exact HB.out | apply zc1 | apply zc2 | apply zc3 | refine zc4 ?_ GE199.out) | exact HB.out))) : w.heap.size ≤ gb200)); have n4_ := zm1 ((by rw [hg]; exact (zc5 (by repeat (first | (with_reducible first | exact HB.out | apply zc1 | apply zc2 | apply zc3 | refine zc4 ?_ GE199.out) | exact HB.out))) : w.heap.size ≤ gb200)); have n5_ := zm1 ((by rw [hg]; exact Nat.ne_of_lt (zd2 (zb4 BK199.out)) : gb199 ≠ gb200)); have n6_ := zm1 ((by rw [hg]; exact Nat.ne_of_gt (zd2 (zb4 BK199.out)) : gb200 ≠ gb199)); clear BK199; clear HB; have BK199 := n0_; have HB := n1_; have BK200 := n2_; have GW200 := n3_; have GE200 := n4_; have NB199_200 := n5_; have NB200_199 := n6_; clear n0_ n1_ n2_ n3_ n4_ n5_ n6_; clear hb hbox hg) | ((with_reducible refine gate_dst (N := 5) rfl ?_); refine box_event ?hg (N := 5) ?hd (cs := #[.int .i64 a2_0, .int .i64 a2_1]) (t := 61) ?hr ?_; (case hd => rfl); (case hg => rfl); (case hr => first | (go_simp; done) | (go_simp; rfl)); intro gb201 hg w6 hbox hb; have n0_ := zm1 (zd1 (zb4 BK199.out) hb); have n1_ := zm1 (zd1 (zb4 BK200.out) hb); have n2_ := zm1 (zc6 (by repeat (first | (with_reducible first | exact HB.out | apply zc1 | apply zc2 | apply zc3 | refine zc4 ?_ GE199.out | refine zc4 ?_ GE200.out) | exact HB.out)) hb); have n3_ := zm1 (hbox); have n4_ := zm1 ((by rw [hg]; exact (zc5 (by repeat (first | (with_reducible first | exact HB.out | apply zc1 | apply zc2 | apply zc3 | refine zc4 ?_ GE199.out | refine zc4 ?_ GE200.out) | exact HB.out))) : w.heap.size ≤ gb201)); have n5_ := zm1 ((by rw [hg]; exact (zc5 (by repeat (first | (with_reducible first | exact HB.out | apply zc1 | apply zc2 | apply zc3 | refine zc4 ?_ GE199.out | refine zc4 ?_ GE200.out) | exact HB.out))) : w.heap.size ≤ gb201)); have n6_ := zm1 ((by rw [hg]; exact Nat.ne_of_lt (zd2 (zb4 BK199.out)) : gb199 ≠ gb201)); have n7_ := zm1 ((by rw [hg]; exact Nat.ne_of_gt (zd2 (zb4 BK199.out)) : gb201 ≠ gb199)); have n8_ := zm1 ((by rw [hg]; exact Nat.ne_of_lt (zd2 (zb4 BK200.out)) : gb200 ≠ gb201)); have n9_ := zm1 ((by rw [hg]; exact Nat.ne_of_gt (zd2 (zb4 BK200.out)) : gb201 ≠ gb200)); clear BK199; clear BK200; clear HB; have BK199 := n0_; have BK200 := n1_; have HB := n2_; have BK201 := n3_; have GW201 := n4_; have GE201 := n5_; have NB199_201 := n6_; have NB201_199 := n7_; have NB200_201 := n8_; have NB201_200 := n9_; clear n0_ n1_ n2_ n3_ n4_ n5_ n6_ n7_ n8_ n9_; clear hb hbox hg; have hnb7 := NB200_199.out; have hnc7 := NB199_200.out; have hnb8 := NB200_201.out; have hnc8 := NB201_200.out; have hcz9_0 : w6.cell? ⟨gb200, 0, none⟩ = some (.int .i64 a1_0) := (blk_cell BK200.out 0).trans rfl; have hcz9_1 : w6.cell? ⟨gb200, 1, none⟩ = some (.int .i64 a1_1) := (blk_cell BK200.out 1).trans rfl; have hfz9_0 := blk_frozen BK200.out 0; have hfz9_1 := blk_frozen BK200.out 1; have hnb10 := NB199_201.out; have hnc10 := NB201_199.out; have hcz11_0 : w6.cell? ⟨gb199, 0, none⟩ = some (.int .i64 a0_0) := (blk_cell BK199.out 0).trans rfl; have hcz11_1 : w6.cell? ⟨gb199, 1, none⟩ = some (.int .i64 a0_1) := (blk_cell BK199.out 1).trans rfl; have hfz11_0 := blk_frozen BK199.out 0; have hfz11_1 := blk_frozen BK199.out 1; have hcz12_0 : w6.cell? ⟨gb201, 0, none⟩ = some (.int .i64 a2_0) := (blk_cell BK201.out 0).trans rfl; have hcz12_1 : w6.cell? ⟨gb201, 1, none⟩ = some (.int .i64 a2_1) := (blk_cell BK201.out 1).trans rfl; have hfz12_0 := blk_frozen BK201.out 0; have hfz12_1 := blk_frozen BK201.out 1))
 go_ret
 exact ⟨by first | rfl | (simp [errW_none, errW_some] <;> rfl) | (simp [*, errW_none, errW_some] <;> rfl), by repeat (first | (with_reducible first | exact HB.out | apply zc1 | apply zc2 | apply zc3 | refine zc4 ?_ GE199.out | refine zc4 ?_ GE200.out | refine zc4 ?_ GE201.out) | exact HB.out)⟩

end Go.Proofs.Ytdiphnkkomfmdaa.QFnExactBestCut
