-- Printed for this claim by a changed copy of the kit's print (the session's own; own contracts in place of some functions).
import Derived.Test.YtdiphnkkomfmdaaQFnExactBestCutx0
import Derived.Test.YtdiphnkkomfmdaaQFnExactBestCutx10
import Derived.Test.YtdiphnkkomfmdaaQFnExactBestCutx11
namespace Go.Proofs.Ytdiphnkkomfmdaa.QFnExactBestCut
open Go.RowKit Go.Proofs.YtdiphnkkomfmdaaW.PrintWords Go.Proofs.YtdiphnkkomfmdaaW.PrintLast Go.Proofs.YtdiphnkkomfmdaaW.PrintMore
attribute [local go_sem] max2_int min2_int max_two min_two max_three min_three max_four min_four   -- for this text's walks alone
set_option linter.unusedVariables false
set_option linter.unusedSimpArgs false

/-! ### impl_diagonals: function 96 -/
mutual
def impl_diagonals.l0 : Nat → List (S61) → List (List Int) → Int → Int → Option ((List (List Int)))
 | 0, _, _, _, _ => none
 | k + 1, x0, x3, x8, x9 => if x9 < x8 then (impl_diagonals.l1 k x0 x3 x9 (wrap64 (x9 + 1)) x8 x9) else (some x3)
def impl_diagonals.l1 : Nat → List (S61) → List (List Int) → Int → Int → Int → Int → Option ((List (List Int)))
 | 0, _, _, _, _, _, _ => none
 | k + 1, x0, x3, x4, x5, x8, x9 => if x5 < (x0.length : Int) then ((impl_isDiagonal.f k x0 x4 x5).bind fun t244 => (if t244 = true then (if x3.length < 5864062014805 then (impl_diagonals.l1 k x0 (x3 ++ [(([x4, x5] : List Int))]) x4 (wrap64 (x5 + 1)) x8 x9) else (none)) else (impl_diagonals.l1 k x0 x3 x4 (wrap64 (x5 + 1)) x8 x9))) else (impl_diagonals.l0 k x0 x3 x8 (wrap64 (x9 + 1)))
end
def impl_diagonals.f (k : Nat) (l0 : List (S61)) : Option ((List (List Int))) := impl_diagonals.l0 k l0 (([] : List (List Int))) (l0.length : Int) 0
theorem impl_diagonals.mono_l : ∀ k, (∀ y0 y1 y2 y3, LeO (impl_diagonals.l0 k y0 y1 y2 y3) (impl_diagonals.l0 (k + 1) y0 y1 y2 y3)) ∧ (∀ y0 y1 y2 y3 y4 y5, LeO (impl_diagonals.l1 k y0 y1 y2 y3 y4 y5) (impl_diagonals.l1 (k + 1) y0 y1 y2 y3 y4 y5))
 | 0 => ⟨fun _ _ _ _ r h => by simp [impl_diagonals.l0] at h, fun _ _ _ _ _ _ r h => by simp [impl_diagonals.l1] at h⟩
 | k + 1 => by
  obtain ⟨ih0, ih1⟩ := impl_diagonals.mono_l k
  refine ⟨?_, ?_⟩
  ·intro y0 y1 y2 y3
   unfold impl_diagonals.l0
   repeat' first
   | (with_reducible exact ih0 _ _ _ _)
   | (with_reducible exact ih1 _ _ _ _ _ _)
   | (with_reducible exact impl_isDiagonal.mono _ _ _ _)
   | (with_reducible exact LeO.refl _)
   | (with_reducible exact LeO.none _)
   | (with_reducible refine LeO.ite ?_ ?_)
   | (with_reducible refine LeO.bind ?_ (fun _ => ?_))
   | exact ih0 _ _ _ _
   | exact ih1 _ _ _ _ _ _
   | exact impl_isDiagonal.mono _ _ _ _
   | exact LeO.none _
   | refine LeO.ite ?_ ?_
   | refine LeO.bind ?_ (fun _ => ?_)
  ·intro y0 y1 y2 y3 y4 y5
   unfold impl_diagonals.l1
   repeat' first
   | (with_reducible exact ih0 _ _ _ _)
   | (with_reducible exact ih1 _ _ _ _ _ _)
   | (with_reducible exact impl_isDiagonal.mono _ _ _ _)
   | (with_reducible exact LeO.refl _)
   | (with_reducible exact LeO.none _)
   | (with_reducible refine LeO.ite ?_ ?_)
   | (with_reducible refine LeO.bind ?_ (fun _ => ?_))
   | exact ih0 _ _ _ _
   | exact ih1 _ _ _ _ _ _
   | exact impl_isDiagonal.mono _ _ _ _
   | exact LeO.none _
   | refine LeO.ite ?_ ?_
   | refine LeO.bind ?_ (fun _ => ?_)
theorem impl_diagonals.mono : ∀ a0 k, LeO (impl_diagonals.f k a0) (impl_diagonals.f (k + 1) a0) := by
 intro a0 k
 obtain ⟨ih0, ih1⟩ := impl_diagonals.mono_l k
 unfold impl_diagonals.f
 repeat' first
   | (with_reducible exact ih0 _ _ _ _)
   | (with_reducible exact ih1 _ _ _ _ _ _)
   | (with_reducible exact impl_isDiagonal.mono _ _ _ _)
   | (with_reducible exact LeO.refl _)
   | (with_reducible exact LeO.none _)
   | (with_reducible refine LeO.ite ?_ ?_)
   | (with_reducible refine LeO.bind ?_ (fun _ => ?_))
   | exact ih0 _ _ _ _
   | exact ih1 _ _ _ _ _ _
   | exact impl_isDiagonal.mono _ _ _ _
   | exact LeO.none _
   | refine LeO.ite ?_ ?_
   | refine LeO.bind ?_ (fun _ => ?_)
set_option maxHeartbeats 8000000 in
set_option maxRecDepth 100000 in
theorem impl_diagonals.calls (k : Nat) (A0 : Option Addr) (c0 : Nat) (l0 : List (S61)) (r : List (List Int)) (w : World) (hr0 : Kd.C k61 w A0 l0.length l0) (hc0 : l0.length ≤ c0) (h : impl_diagonals.f k l0 = some r) :
  Calls Try.prog 96 #[.slice A0 l0.length c0] w fun e w' => ∃ v0_ : Value, e = .returned (v0_) ∧ Kd.S (Kd.slice 3 (Kd.int .i64)) 30 w' w.heap.size (fun _ => True) v0_ r ∧ Below w.heap.size w w' := by
 have HR0 := zm1 hr0
 have HC0 := zm1 hc0
 clear hr0 hc0
 have HB := zm1 (Below.refl w.heap.size w)
 have H : (impl_diagonals.l0 k l0 (([] : List (List Int))) (l0.length : Int) 0) = some r := h
 clear h
 obtain ⟨y241, hy241⟩ : ∃ y_ : List (List Int), y_ = (([] : List (List Int))) := ⟨_, rfl⟩
 replace H : (impl_diagonals.l0 k l0 y241 (l0.length : Int) 0) = some r := by first | (rw [hy241]; with_reducible exact H) | (have H2_ := (Option.bind_some _ _).symm.trans H; rw [hy241]; with_reducible exact H2_) | (have H2_ := (Option.bind_some _ _).symm.trans H; with_reducible exact H2_) | with_reducible exact H | (rw [hy241]; exact H) | exact H
 have Ny241 := zm1 hy241
 clear hy241
 have H' := zm1 H
 clear H
 go_enter Try.func96, Try.ntmps96
 go_wp2_with (first | ((with_reducible refine gate_dst (N := 6) rfl ?_); refine Kd.S_lit (Kd.slice 3 (Kd.int .i64)) _ 30 ?hg (N := 6) ?hd (xs := ([] : List (List Int))) (inner := []) (ok := fun _ => True) (okp := fun _ => True) ?hr ?hp (fun _ hk => hk) trivial (Below.refl _ _) (Nat.le_refl _) (by simp) ?_; (case hd => rfl); (case hg => rfl); (case hr => first | (go_simp; done) | (go_simp; rfl)); (case hp => exact (Reps.none _ _)); intro v242 w2 ho3 hb hg_ hnew_; clear hg_ hnew_; (first | rw [← Ny241.out] at ho3 | (simp only [Int.reduceToNat] at ho3; rw [← Ny241.out] at ho3)); have n0_ := zm1 (Kd.S_lower ho3 (zc5 (by repeat (first | (with_reducible first | exact HB.out | apply zc1 | apply zc2 | apply zc3) | exact HB.out)))); have n1_ := zm1 (zc6 (by repeat (first | (with_reducible first | exact HB.out | apply zc1 | apply zc2 | apply zc3) | exact HB.out)) hb); clear HB; have HO243 := n0_; have HB := n1_; clear n0_ n1_; clear hb ho3))
 go_loopg [3, 9] k (fun kq v3 v9 w' => ∃ (x3_1 : List (List Int)) (x9_1 : Int), v9 = .int .i64 x9_1 ∧ Aside0 (impl_diagonals.l0 kq l0 x3_1 (l0.length : Int) x9_1 = some r) ∧ Aside0 (kq ≤ k) ∧ Aside0 (Kd.S (Kd.slice 3 (Kd.int .i64)) 30 w' w.heap.size (fun _ => True) v3 x3_1) ∧ Aside0 (Below w.heap.size w w'))
 case atStart => exact ⟨(y241), (0), (by first | rfl | (simp; done) | (simp [*]; done)), H', ⟨Nat.le_refl _⟩, ⟨by (with_reducible repeat (first | apply Kd.S_alloc | apply Kd.S_drewN | apply Kd.S_drew)); exact HO243.out⟩, ⟨by repeat (first | (with_reducible first | exact HB.out | apply zc1 | apply zc2 | apply zc3) | exact HB.out)⟩⟩
 case round =>
  clear H'
  try clear p2
  obtain ⟨x3_1, x9_1, rfl, HA, HK1, HO_3, HB⟩ := hrel
  cases gk with
  | zero => exact absurd HA.out (by simp [impl_diagonals.l0])
  | succ k1 =>
   have H := HA.out
   clear HA
   simp only [impl_diagonals.l0] at H
   by_cases c4 : x9_1 < (l0.length : Int)
   ·rw [if_pos c4] at H
    have c4b0 : decide (x9_1 < (l0.length : Int)) = true := decide_eq_true c4
    clear c4
    have H' := zm1 H
    clear H
    go_wp2
    go_loopg [3, 5] k1 (fun kq v3 v5 w' => ∃ (x3_2 : List (List Int)) (x5_2 : Int), v5 = .int .i64 x5_2 ∧ Aside0 (impl_diagonals.l1 kq l0 x3_2 x9_1 x5_2 (l0.length : Int) x9_1 = some r) ∧ Aside0 (kq ≤ k1) ∧ Aside0 (Kd.S (Kd.slice 3 (Kd.int .i64)) 30 w' w.heap.size (fun _ => True) v3 x3_2) ∧ Aside0 (Below w.heap.size w w'))
    case atStart => exact ⟨(x3_1), (wrap64 (x9_1 + 1)), (by first | rfl | (simp; done) | (simp [*]; done)), H', ⟨Nat.le_refl _⟩, ⟨by (with_reducible repeat (first | apply Kd.S_alloc | apply Kd.S_drewN | apply Kd.S_drew)); exact HO_3.out⟩, ⟨by repeat (first | (with_reducible first | exact HB.out | apply zc1 | apply zc2 | apply zc3) | exact HB.out)⟩⟩
    case round =>
     clear H'
     try clear p2
     try clear c4
     try clear c4b0
     try clear p2
     obtain ⟨x3_2, x5_2, rfl, HA, HK2, HO_3, HB⟩ := hrel
     cases gk with
     | zero => exact absurd HA.out (by simp [impl_diagonals.l1])
     | succ k2 =>
      have H := HA.out
      clear HA
      simp only [impl_diagonals.l1] at H
      by_cases c5 : x5_2 < (l0.length : Int)
      ·rw [if_pos c5] at H
       have c5b0 : decide (x5_2 < (l0.length : Int)) = true := decide_eq_true c5
       clear c5
       replace H := Option.bind_eq_some_iff.mp H
       obtain ⟨t244, A60, H⟩ := H
       replace H : (if t244 = true then (if x3_2.length < 5864062014805 then (impl_diagonals.l1 k2 l0 (x3_2 ++ [(([x9_1, x5_2] : List Int))]) x9_1 (wrap64 (x5_2 + 1)) (l0.length : Int) x9_1) else (none)) else (impl_diagonals.l1 k2 l0 x3_2 x9_1 (wrap64 (x5_2 + 1)) (l0.length : Int) x9_1)) = some r := H
       have A6 := zm1 A60
       clear A60
       by_cases c7 : t244 = true
       ·subst c7
        have H1 : (if x3_2.length < 5864062014805 then (impl_diagonals.l1 k2 l0 (x3_2 ++ [(([x9_1, x5_2] : List Int))]) x9_1 (wrap64 (x5_2 + 1)) (l0.length : Int) x9_1) else (none)) = some r := by rw [if_pos rfl] at H; exact H
        clear H
        have H := H1
        clear H1
        obtain ⟨y245, hy245⟩ : ∃ y_ : List Int, y_ = (([x9_1, x5_2] : List Int)) := ⟨_, rfl⟩
        replace H : (if x3_2.length < 5864062014805 then (impl_diagonals.l1 k2 l0 (x3_2 ++ [y245]) x9_1 (wrap64 (x5_2 + 1)) (l0.length : Int) x9_1) else (none)) = some r := by first | (rw [hy245]; with_reducible exact H) | (have H2_ := (Option.bind_some _ _).symm.trans H; rw [hy245]; with_reducible exact H2_) | (have H2_ := (Option.bind_some _ _).symm.trans H; with_reducible exact H2_) | with_reducible exact H | (rw [hy245]; exact H) | exact H
        have Ny245 := zm1 hy245
        clear hy245
        by_cases c8 : x3_2.length < 5864062014805
        ·rw [if_pos c8] at H
         have LMc8 := zm1 c8
         clear c8
         obtain ⟨y248, hy248⟩ : ∃ y_ : List (List Int), y_ = (x3_2 ++ [y245]) := ⟨_, rfl⟩
         replace H : (impl_diagonals.l1 k2 l0 y248 x9_1 (wrap64 (x5_2 + 1)) (l0.length : Int) x9_1) = some r := by first | (rw [hy248]; with_reducible exact H) | (have H2_ := (Option.bind_some _ _).symm.trans H; rw [hy248]; with_reducible exact H2_) | (have H2_ := (Option.bind_some _ _).symm.trans H; with_reducible exact H2_) | with_reducible exact H | (rw [hy248]; exact H) | exact H
         have Ny248 := zm1 hy248
         clear hy248
         have H' := zm1 H
         clear H
         go_wp2_with (first | ((with_reducible refine gate_callee (f := 115) rfl ?_); refine goesL_ (some 23) rfl rfl Try.func115 (by kernel_rfl) rfl #[.slice A0 l0.length c0, .int .i64 x9_1, .int .i64 x5_2] rfl (by (try simp only [List.map_toArray, List.map_cons, List.map_nil]); first | done | rfl | (simp only [List.length_drop, List.length_take]; rfl)) ?_; (with_reducible refine (impl_isDiagonal.calls k2 _ _ l0 x9_1 x5_2 true _ ?side1 ?side2 A6.out).mono ?_); (case side1 => repeat (first | exact (Kd.C_below HR0.out HB.out) | (with_reducible refine Kd.C_alloc ?_ _) | (with_reducible refine Kd.C_drewN ?_ _) | (with_reducible refine Kd.C_drew ?_))); (case side2 => exact HC0.out); rintro e w9 ⟨rfl, hb⟩; refine ⟨_, rfl, ?_⟩; have n0_ := zm1 (Kd.S_below (by (with_reducible repeat (first | apply Kd.S_alloc | apply Kd.S_drewN | apply Kd.S_drew)); exact HO_3.out) hb); have n1_ := zm1 (zc6 (by repeat (first | (with_reducible first | exact HB.out | apply zc1 | apply zc2 | apply zc3) | exact HB.out)) hb); clear HO_3; clear HB; have HO_3 := n0_; have HB := n1_; clear n0_ n1_; (try clear hb); (try clear hb2); (try clear hk); (try clear hi)) | ((with_reducible refine gate_dst (N := 27) rfl ?_); refine Kd.R_lit (Kd.int .i64) _ 3 ?hg (N := 27) ?hd (xs := ([x9_1, x5_2] : List Int)) (inner := [.int .i64 x9_1, .int .i64 x5_2]) (ok := fun _ => True) (okp := fun _ => True) ?hr ?hp (fun _ hk => hk) trivial (Below.refl _ _) (Nat.le_refl _) (by simp) ?_; (case hd => rfl); (case hg => rfl); (case hr => first | (go_simp; done) | (go_simp; rfl)); (case hp => exact (Reps.one (show Kd.M (Kd.int .i64) _ _ _ x9_1 [.int .i64 x9_1] from rfl) (Reps.one (show Kd.M (Kd.int .i64) _ _ _ x5_2 [.int .i64 x5_2] from rfl) (Reps.none _ _)))); intro v246 w10 ho11 hb hg_ hnew_; clear hg_ hnew_; (first | rw [← Ny245.out] at ho11 | (simp only [Int.reduceToNat] at ho11; rw [← Ny245.out] at ho11)); have n0_ := zm1 (Kd.S_elder' (by (with_reducible repeat (first | apply Kd.S_alloc | apply Kd.S_drewN | apply Kd.S_drew)); exact HO_3.out) (Kd.R_base ho11) hb); have n1_ := zm1 (Kd.R_lower ho11 (zc5 (by repeat (first | (with_reducible first | exact HB.out | apply zc1 | apply zc2 | apply zc3) | exact HB.out)))); have n2_ := zm1 (zc6 (by repeat (first | (with_reducible first | exact HB.out | apply zc1 | apply zc2 | apply zc3) | exact HB.out)) hb); clear HO_3; clear HB; have HO_3 := n0_; have HO247 := n1_; have HB := n2_; clear n0_ n1_ n2_; clear hb ho11; obtain ⟨Ao13, co13, eo13⟩ := Kd.R_slice HO247.out; subst eo13) | ((with_reducible refine gate_builtin (b := .append) (xs := #[.tmp 24, .tmp 28]) rfl ?_); at_builtin; refine Kd.S_append (Kd.slice 3 (Kd.int .i64)) (w0 := w) w.heap.size rfl (.tmp 24) (.tmp 28) 28 30 (.slice none 0 0) 24 rfl Try.underlying28 info30 rfl (by decide) (by omega) u3 x3_2 y245 [.slice Ao13 y245.length co13] (fun _ => True) (fun k_ => some k_ = (.slice Ao13 y245.length co13 : Value).ownBlock) rfl rfl ?aP (fun k_ hk_ => ((Kd.R_mono (ok' := fun k_ => ((fun _ => True)) k_ ∧ some k_ ≠ (u3 : Value).ownBlock) (Kd.R_apart' (HO247.out) (Kd.S_typed HO_3.out) (by decide)) (fun k_ hk => ⟨trivial, hk.2⟩))).1 k_ hk_.symm) ?aF ?aO ?aB ?aS ?aL ?_; (case aP => exact Kd.M_row (Kd.R_mono (Kd.R_tight rfl (Kd.R_mono (ok' := fun k_ => ((fun _ => True)) k_ ∧ some k_ ≠ (u3 : Value).ownBlock) (Kd.R_apart' (HO247.out) (Kd.S_typed HO_3.out) (by decide)) (fun k_ hk => ⟨trivial, hk.2⟩))) (fun _ h_ => h_))); (case aB => exact (by repeat (first | (with_reducible first | exact HB.out | apply zc1 | apply zc2 | apply zc3) | exact HB.out))); (case aF => exact (fun _ _ => trivial)); (case aO => exact (by (with_reducible repeat (first | apply Kd.S_alloc | apply Kd.S_drewN | apply Kd.S_drew)); exact Kd.S_mono HO_3.out (fun k_ hk => ⟨trivial, fun e_ => hk.2 e_⟩))); (case aS => exact (zc5 (by repeat (first | (with_reducible first | exact HB.out | apply zc1 | apply zc2 | apply zc3) | exact HB.out)))); (case aL => have := LMc8.out; omega); intro v249 w12 ho hb hg hat; rw [← Ny248.out] at ho; have n0_ := zm1 (hb); have n1_ := zm1 (ho); clear HB; clear HO_3; clear HO247; have HB := n0_; have HO250 := n1_; clear n0_ n1_; clear ho hb hg hat))
         go_roundg k2
         case measure => have := HK1.out; have := HK2.out; omega
         case rel => exact ⟨(y248), (wrap64 (x5_2 + 1)), (by first | rfl | (simp; done) | (simp [*]; done)), H', ⟨by have := HK1.out; have := HK2.out; omega⟩, ⟨by (with_reducible repeat (first | apply Kd.S_alloc | apply Kd.S_drewN | apply Kd.S_drew)); exact HO250.out⟩, ⟨by repeat (first | (with_reducible first | exact HB.out | apply zc1 | apply zc2 | apply zc3) | exact HB.out)⟩⟩
        ·rw [if_neg c8] at H
         exact absurd H (by simp)
       ·replace c7 := Bool.eq_false_iff.mpr c7
        subst c7
        have H1 : (impl_diagonals.l1 k2 l0 x3_2 x9_1 (wrap64 (x5_2 + 1)) (l0.length : Int) x9_1) = some r := by rw [if_neg (show ¬ (false = true) by decide)] at H; exact H
        clear H
        have H := H1
        clear H1
        have H' := zm1 H
        clear H
        go_wp2_with (first | ((with_reducible refine gate_callee (f := 115) rfl ?_); refine goesL_ (some 23) rfl rfl Try.func115 (by kernel_rfl) rfl #[.slice A0 l0.length c0, .int .i64 x9_1, .int .i64 x5_2] rfl (by (try simp only [List.map_toArray, List.map_cons, List.map_nil]); first | done | rfl | (simp only [List.length_drop, List.length_take]; rfl)) ?_; (with_reducible refine (impl_isDiagonal.calls k2 _ _ l0 x9_1 x5_2 false _ ?side1 ?side2 A6.out).mono ?_); (case side1 => repeat (first | exact (Kd.C_below HR0.out HB.out) | (with_reducible refine Kd.C_alloc ?_ _) | (with_reducible refine Kd.C_drewN ?_ _) | (with_reducible refine Kd.C_drew ?_))); (case side2 => exact HC0.out); rintro e w14 ⟨rfl, hb⟩; refine ⟨_, rfl, ?_⟩; have n0_ := zm1 (Kd.S_below (by (with_reducible repeat (first | apply Kd.S_alloc | apply Kd.S_drewN | apply Kd.S_drew)); exact HO_3.out) hb); have n1_ := zm1 (zc6 (by repeat (first | (with_reducible first | exact HB.out | apply zc1 | apply zc2 | apply zc3) | exact HB.out)) hb); clear HO_3; clear HB; have HO_3 := n0_; have HB := n1_; clear n0_ n1_; (try clear hb); (try clear hb2); (try clear hk); (try clear hi)))
        go_roundg k2
        case measure => have := HK1.out; have := HK2.out; omega
        case rel => exact ⟨(x3_2), (wrap64 (x5_2 + 1)), (by first | rfl | (simp; done) | (simp [*]; done)), H', ⟨by have := HK1.out; have := HK2.out; omega⟩, ⟨by (with_reducible repeat (first | apply Kd.S_alloc | apply Kd.S_drewN | apply Kd.S_drew)); exact HO_3.out⟩, ⟨by repeat (first | (with_reducible first | exact HB.out | apply zc1 | apply zc2 | apply zc3) | exact HB.out)⟩⟩
      ·rw [if_neg c5] at H
       have c5b0 : decide (x5_2 < (l0.length : Int)) = false := decide_eq_false c5
       clear c5
       have H' := zm1 H
       clear H
       go_wp2
       go_roundg k2
       case measure => have := HK1.out; have := HK2.out; omega
       case rel => exact ⟨(x3_2), (wrap64 (x9_1 + 1)), (by first | rfl | (simp; done) | (simp [*]; done)), H', ⟨by have := HK1.out; have := HK2.out; omega⟩, ⟨by (with_reducible repeat (first | apply Kd.S_alloc | apply Kd.S_drewN | apply Kd.S_drew)); exact HO_3.out⟩, ⟨by repeat (first | (with_reducible first | exact HB.out | apply zc1 | apply zc2 | apply zc3) | exact HB.out)⟩⟩
   ·rw [if_neg c4] at H
    have c4b0 : decide (x9_1 < (l0.length : Int)) = false := decide_eq_false c4
    clear c4
    obtain rfl := Option.some.inj H
    go_wp2
    go_ret
    exact ⟨_, by first | rfl | (simp [errW_none, errW_some] <;> rfl) | (simp [*, errW_none, errW_some] <;> rfl), by (with_reducible repeat (first | apply Kd.S_alloc | apply Kd.S_drewN | apply Kd.S_drew)); exact HO_3.out, by repeat (first | (with_reducible first | exact HB.out | apply zc1 | apply zc2 | apply zc3) | exact HB.out)⟩

/-! ### impl_DiagonalsOf: function 49 -/
def impl_DiagonalsOf.f (k : Nat) (l0 : List (S61)) : Option ((List (List Int))) := (impl_PolygonOk.f k l0).bind fun t251 => (if t251 = true then ((impl_diagonals.f k l0).bind fun t252 => (some t252)) else (some ([] : List (List Int))))
theorem impl_DiagonalsOf.mono : ∀ a0 k, LeO (impl_DiagonalsOf.f k a0) (impl_DiagonalsOf.f (k + 1) a0) := by
 intro a0 k
 unfold impl_DiagonalsOf.f
 repeat' first
   | (with_reducible exact impl_PolygonOk.mono _ _)
   | (with_reducible exact impl_diagonals.mono _ _)
   | (with_reducible exact LeO.refl _)
   | (with_reducible exact LeO.none _)
   | (with_reducible refine LeO.ite ?_ ?_)
   | (with_reducible refine LeO.bind ?_ (fun _ => ?_))
   | exact impl_PolygonOk.mono _ _
   | exact impl_diagonals.mono _ _
   | exact LeO.none _
   | refine LeO.ite ?_ ?_
   | refine LeO.bind ?_ (fun _ => ?_)
set_option maxHeartbeats 8000000 in
set_option maxRecDepth 100000 in
theorem impl_DiagonalsOf.calls (k : Nat) (A0 : Option Addr) (c0 : Nat) (l0 : List (S61)) (r : List (List Int)) (w : World) (hr0 : Kd.C k61 w A0 l0.length l0) (hc0 : l0.length ≤ c0) (h : impl_DiagonalsOf.f k l0 = some r) :
  Calls Try.prog 49 #[.slice A0 l0.length c0] w fun e w' => ∃ v0_ : Value, e = .returned (v0_) ∧ Kd.S (Kd.slice 3 (Kd.int .i64)) 30 w' w.heap.size (fun _ => True) v0_ r ∧ Below w.heap.size w w' := by
 have HR0 := zm1 hr0
 have HC0 := zm1 hc0
 clear hr0 hc0
 have HB := zm1 (Below.refl w.heap.size w)
 have H : ((impl_PolygonOk.f k l0).bind fun t251 => (if t251 = true then ((impl_diagonals.f k l0).bind fun t252 => (some t252)) else (some ([] : List (List Int))))) = some r := h
 clear h
 replace H := Option.bind_eq_some_iff.mp H
 obtain ⟨t251, A20, H⟩ := H
 replace H : (if t251 = true then ((impl_diagonals.f k l0).bind fun t252 => (some t252)) else (some ([] : List (List Int)))) = some r := H
 have A2 := zm1 A20
 clear A20
 by_cases c3 : t251 = true
 ·subst c3
  have H1 : ((impl_diagonals.f k l0).bind fun t252 => (some t252)) = some r := by rw [if_pos rfl] at H; exact H
  clear H
  have H := H1
  clear H1
  replace H := Option.bind_eq_some_iff.mp H
  obtain ⟨t252, A40, H⟩ := H
  replace H : (some t252) = some r := H
  have A4 := zm1 A40
  clear A40
  obtain rfl := Option.some.inj H
  go_enter Try.func49, Try.ntmps49
  go_wp2_with (first | ((with_reducible refine gate_callee (f := 95) rfl ?_); refine goesL_ (some 4) rfl rfl Try.func95 (by kernel_rfl) rfl #[.slice A0 l0.length c0] rfl (by (try simp only [List.map_toArray, List.map_cons, List.map_nil]); first | done | rfl | (simp only [List.length_drop, List.length_take]; rfl)) ?_; (with_reducible refine (impl_PolygonOk.calls k _ _ l0 true _ ?side1 ?side2 A2.out).mono ?_); (case side1 => repeat (first | exact HR0.out | (with_reducible refine Kd.C_alloc ?_ _) | (with_reducible refine Kd.C_drewN ?_ _) | (with_reducible refine Kd.C_drew ?_))); (case side2 => exact HC0.out); rintro e w5 ⟨rfl, hb⟩; refine ⟨_, rfl, ?_⟩; have n0_ := zm1 (zc6 (by repeat (first | (with_reducible first | exact HB.out | apply zc1 | apply zc2 | apply zc3) | exact HB.out)) hb); clear HB; have HB := n0_; clear n0_; (try clear hb); (try clear hb2); (try clear hk); (try clear hi)) | ((with_reducible refine gate_callee (f := 96) rfl ?_); refine goesL_ (some 7) rfl rfl Try.func96 (by kernel_rfl) rfl #[.slice A0 l0.length c0] rfl (by (try simp only [List.map_toArray, List.map_cons, List.map_nil]); first | done | rfl | (simp only [List.length_drop, List.length_take]; rfl)) ?_; (with_reducible refine (impl_diagonals.calls k _ _ l0 t252 _ ?side1 ?side2 A4.out).mono ?_); (case side1 => repeat (first | exact (Kd.C_below HR0.out HB.out) | (with_reducible refine Kd.C_alloc ?_ _) | (with_reducible refine Kd.C_drewN ?_ _) | (with_reducible refine Kd.C_drew ?_))); (case side2 => exact HC0.out); rintro e w6 ⟨v253, rfl, ho0, hb⟩; refine ⟨_, rfl, ?_⟩; have n0_ := zm1 (Kd.S_lower ho0 (zc5 (by repeat (first | (with_reducible first | exact HB.out | apply zc1 | apply zc2 | apply zc3) | exact HB.out)))); have n1_ := zm1 (zc6 (by repeat (first | (with_reducible first | exact HB.out | apply zc1 | apply zc2 | apply zc3) | exact HB.out)) hb); clear HB; have HO254 := n0_; have HB := n1_; clear n0_ n1_; (try clear hb); (try clear hb2); (try clear hk); (try clear hi); (try clear ho0)))
  go_ret
  exact ⟨_, by first | rfl | (simp [errW_none, errW_some] <;> rfl) | (simp [*, errW_none, errW_some] <;> rfl), by (with_reducible repeat (first | apply Kd.S_alloc | apply Kd.S_drewN | apply Kd.S_drew)); exact HO254.out, by repeat (first | (with_reducible first | exact HB.out | apply zc1 | apply zc2 | apply zc3) | exact HB.out)⟩
 ·replace c3 := Bool.eq_false_iff.mpr c3
  subst c3
  have H1 : (some ([] : List (List Int))) = some r := by rw [if_neg (show ¬ (false = true) by decide)] at H; exact H
  clear H
  have H := H1
  clear H1
  obtain rfl := Option.some.inj H
  go_enter Try.func49, Try.ntmps49
  go_wp2_with (first | ((with_reducible refine gate_callee (f := 95) rfl ?_); refine goesL_ (some 4) rfl rfl Try.func95 (by kernel_rfl) rfl #[.slice A0 l0.length c0] rfl (by (try simp only [List.map_toArray, List.map_cons, List.map_nil]); first | done | rfl | (simp only [List.length_drop, List.length_take]; rfl)) ?_; (with_reducible refine (impl_PolygonOk.calls k _ _ l0 false _ ?side1 ?side2 A2.out).mono ?_); (case side1 => repeat (first | exact HR0.out | (with_reducible refine Kd.C_alloc ?_ _) | (with_reducible refine Kd.C_drewN ?_ _) | (with_reducible refine Kd.C_drew ?_))); (case side2 => exact HC0.out); rintro e w7 ⟨rfl, hb⟩; refine ⟨_, rfl, ?_⟩; have n0_ := zm1 (zc6 (by repeat (first | (with_reducible first | exact HB.out | apply zc1 | apply zc2 | apply zc3) | exact HB.out)) hb); clear HB; have HB := n0_; clear n0_; (try clear hb); (try clear hb2); (try clear hk); (try clear hi)))
  go_ret
  exact ⟨_, by first | rfl | (simp [errW_none, errW_some] <;> rfl) | (simp [*, errW_none, errW_some] <;> rfl), by first | exact Kd.S_nil _ _ _ _ _ | exact Kd.N_nil _ _ _ _ _ | exact Kd.V_nil _ _ _ _ _ | exact Kd.Q_nil _ _ _ _ _ | exact Kd.R_nil _ _ _ _ _, by repeat (first | (with_reducible first | exact HB.out | apply zc1 | apply zc2 | apply zc3) | exact HB.out)⟩

/-! ### impl_size: function 89 -/
def impl_size.f (a0 : Int) : Option (Int) := some (mx a0 (wrap64 (-a0)))
set_option maxHeartbeats 8000000 in
set_option maxRecDepth 100000 in
theorem impl_size.calls (a0 : Int) (r : Int) (w : World) (h : impl_size.f a0 = some r) :
  Calls Try.prog 89 #[.int .i64 a0] w fun e w' => e = .returned (.int .i64 r) ∧ Below w.heap.size w w' := by
 have HB := zm1 (Below.refl w.heap.size w)
 have H : (some (mx a0 (wrap64 (-a0)))) = some r := h
 clear h
 obtain ⟨ji2, hji2⟩ : ∃ j_ : Int, (mx a0 (wrap64 (-a0))) = j_ := ⟨_, rfl⟩
 replace H : (some ji2) = some r := by first | (rw [hji2] at H; exact H) | (simp only [hji2] at H ⊢; exact H)
 have hji2_ : (if a0 < (wrap64 (-a0)) then (wrap64 (-a0)) else a0) = ji2 := hji2
 obtain rfl := Option.some.inj H
 go_enter Try.func89, Try.ntmps89
 go_wp2
 go_ret
 exact ⟨by first | rfl | (simp [errW_none, errW_some] <;> rfl) | (simp only [← hji2]; first | rfl | (simp [errW_none, errW_some] <;> rfl)) | (simp [*, errW_none, errW_some] <;> rfl), by repeat (first | (with_reducible first | exact HB.out | apply zc1 | apply zc2 | apply zc3) | exact HB.out)⟩

/-! ### impl_twice: function 90 -/
def impl_twice.l0 : Nat → List (S61) → Int → List (S61) → Int → Int → Option (Int)
 | 0, _, _, _, _, _ => none
 | k + 1, x0, x3, x7, x8, x9 => if x9 < x8 then (if 0 ≤ x9 then (if x9 < (x7.length : Int) then (if (x0.length : Int) = 0 then (none) else (if 0 ≤ (Int.tmod (wrap64 (x9 + 1)) (x0.length : Int)) then (if (Int.tmod (wrap64 (x9 + 1)) (x0.length : Int)) < (x0.length : Int) then (impl_twice.l0 k x0 (wrap64 (x3 + (wrap64 ((wrap64 (((rd_T61 x7 x9).f0) * ((rd_T61 x0 (Int.tmod (wrap64 (x9 + 1)) (x0.length : Int))).f1))) - (wrap64 (((rd_T61 x7 x9).f1) * ((rd_T61 x0 (Int.tmod (wrap64 (x9 + 1)) (x0.length : Int))).f0))))))) x7 x8 (wrap64 (x9 + 1))) else (none)) else (none))) else (none)) else (none)) else (some x3)
def impl_twice.f (k : Nat) (l0 : List (S61)) : Option (Int) := impl_twice.l0 k l0 0 l0 (l0.length : Int) 0
theorem impl_twice.mono_l : ∀ k, (∀ y0 y1 y2 y3 y4, LeO (impl_twice.l0 k y0 y1 y2 y3 y4) (impl_twice.l0 (k + 1) y0 y1 y2 y3 y4))
 | 0 => fun _ _ _ _ _ r h => by simp [impl_twice.l0] at h
 | k + 1 => by
  have ih0 := impl_twice.mono_l k
  ·intro y0 y1 y2 y3 y4
   unfold impl_twice.l0
   repeat' first
   | (with_reducible exact ih0 _ _ _ _ _)
   | (with_reducible exact LeO.refl _)
   | (with_reducible exact LeO.none _)
   | (with_reducible refine LeO.ite ?_ ?_)
   | (with_reducible refine LeO.bind ?_ (fun _ => ?_))
   | exact ih0 _ _ _ _ _
   | exact LeO.none _
   | refine LeO.ite ?_ ?_
   | refine LeO.bind ?_ (fun _ => ?_)
theorem impl_twice.mono : ∀ a0 k, LeO (impl_twice.f k a0) (impl_twice.f (k + 1) a0) := by
 intro a0 k
 have ih0 := impl_twice.mono_l k
 unfold impl_twice.f
 repeat' first
   | (with_reducible exact ih0 _ _ _ _ _)
   | (with_reducible exact LeO.refl _)
   | (with_reducible exact LeO.none _)
   | (with_reducible refine LeO.ite ?_ ?_)
   | (with_reducible refine LeO.bind ?_ (fun _ => ?_))
   | exact ih0 _ _ _ _ _
   | exact LeO.none _
   | refine LeO.ite ?_ ?_
   | refine LeO.bind ?_ (fun _ => ?_)
set_option maxHeartbeats 8000000 in
set_option maxRecDepth 100000 in
theorem impl_twice.calls (k : Nat) (A0 : Option Addr) (c0 : Nat) (l0 : List (S61)) (r : Int) (w : World) (hr0 : Kd.C k61 w A0 l0.length l0) (hc0 : l0.length ≤ c0) (h : impl_twice.f k l0 = some r) :
  Calls Try.prog 90 #[.slice A0 l0.length c0] w fun e w' => e = .returned (.int .i64 r) ∧ Below w.heap.size w w' := by
 have hu61 := Try.underlying61
 have HR0 := zm1 hr0
 have HC0 := zm1 hc0
 clear hr0 hc0
 have HB := zm1 (Below.refl w.heap.size w)
 have H : (impl_twice.l0 k l0 0 l0 (l0.length : Int) 0) = some r := h
 clear h
 have H' := zm1 H
 clear H
 go_enter Try.func90, Try.ntmps90
 go_wp2
 go_loopg [3, 9] k (fun kq v3 v9 w' => ∃ (x3_1 : Int) (x9_1 : Int), v3 = .int .i64 x3_1 ∧ v9 = .int .i64 x9_1 ∧ Aside0 (impl_twice.l0 kq l0 x3_1 l0 (l0.length : Int) x9_1 = some r) ∧ Aside0 (kq ≤ k) ∧ Aside0 (Below w.heap.size w w'))
 case atStart => exact ⟨(0), (0), (by first | rfl | (simp; done) | (simp [*]; done)), (by first | rfl | (simp; done) | (simp [*]; done)), H', ⟨Nat.le_refl _⟩, ⟨by repeat (first | (with_reducible first | exact HB.out | apply zc1 | apply zc2 | apply zc3) | exact HB.out)⟩⟩
 case round =>
  clear H'
  obtain ⟨x3_1, x9_1, rfl, rfl, HA, HK1, HB⟩ := hrel
  cases gk with
  | zero => exact absurd HA.out (by simp [impl_twice.l0])
  | succ k1 =>
   have H := HA.out
   clear HA
   simp only [impl_twice.l0] at H
   by_cases c2 : x9_1 < (l0.length : Int)
   ·rw [if_pos c2] at H
    have c2b0 : decide (x9_1 < (l0.length : Int)) = true := decide_eq_true c2
    clear c2
    by_cases c3 : 0 ≤ x9_1
    ·rw [if_pos c3] at H
     have c3b0 : decide (0 ≤ x9_1) = true := decide_eq_true c3
     clear c3
     by_cases c4 : x9_1 < (l0.length : Int)
     ·rw [if_pos c4] at H
      have c4b0 : decide (x9_1 < (l0.length : Int)) = true := decide_eq_true c4
      clear c4
      by_cases c5 : (l0.length : Int) = 0
      ·rw [if_pos c5] at H
       exact absurd H (by simp)
      ·rw [if_neg c5] at H
       have c5b0 : ((l0.length : Int) == 0) = false := beq_eq_false_iff_ne.mpr c5
       have c5b1 : ((l0.length : Int) != 0) = true := bne_iff_ne.mpr c5
       have c5b2 : ¬ (l0 = []) := fun h_ => c5 (by rw [h_]; rfl)
       obtain ⟨ji6, hji6⟩ : ∃ j_ : Int, (Int.tmod (wrap64 (x9_1 + 1)) (l0.length : Int)) = j_ := ⟨_, rfl⟩
       replace H : (if 0 ≤ (ji6) then (if (ji6) < (l0.length : Int) then (impl_twice.l0 k1 l0 (wrap64 (x3_1 + (wrap64 ((wrap64 (((rd_T61 l0 x9_1).f0) * ((rd_T61 l0 (ji6)).f1))) - (wrap64 (((rd_T61 l0 x9_1).f1) * ((rd_T61 l0 (ji6)).f0))))))) l0 (l0.length : Int) (wrap64 (x9_1 + 1))) else (none)) else (none)) = some r := by first | (rw [hji6] at H; exact H) | (simp only [hji6] at H ⊢; exact H)
       by_cases c7 : 0 ≤ (ji6)
       ·rw [if_pos c7] at H
        have c7b0 : decide (0 ≤ (ji6)) = true := decide_eq_true c7
        clear c7
        by_cases c8 : (ji6) < (l0.length : Int)
        ·rw [if_pos c8] at H
         have c8b0 : decide ((ji6) < (l0.length : Int)) = true := decide_eq_true c8
         clear c8
         have H' := zm1 H
         clear H
         have p255 : 0 ≤ (x9_1 : Int) := of_decide_eq_true (by assumption)
         have q255 : x9_1 < (l0.length : Int) := of_decide_eq_true (by assumption)
         obtain ⟨ad255, e255, hx255_0, hx255_1⟩ := at_T61 HR0.out x9_1 p255 q255
         cases e255
         (try replace hx255_0 := (HB.out.cell (zl hx255_0)).trans hx255_0)
         (try replace hx255_1 := (HB.out.cell (zl hx255_1)).trans hx255_1)
         replace p255 := eq_true p255
         replace q255 := eq_true q255
         go_wp2_with (first | ((with_reducible refine gate_dst (N := 5) rfl ?_); refine box_event ?hg (N := 5) ?hd (cs := #[.int .i64 0, .int .i64 0]) (t := 61) ?hr ?_; (case hd => rfl); (case hg => rfl); (case hr => first | (go_simp; done) | (go_simp; rfl)); intro gb256 hg w9 hbox hb; have n0_ := zm1 (zc6 (by repeat (first | (with_reducible first | exact HB.out | apply zc1 | apply zc2 | apply zc3) | exact HB.out)) hb); have n1_ := zm1 (hbox); have n2_ := zm1 ((by rw [hg]; exact (zc5 (by repeat (first | (with_reducible first | exact HB.out | apply zc1 | apply zc2 | apply zc3) | exact HB.out))) : w.heap.size ≤ gb256)); have n3_ := zm1 ((by rw [hg]; exact (zc5 (by repeat (first | (with_reducible first | exact HB.out | apply zc1 | apply zc2 | apply zc3) | exact HB.out))) : w.heap.size ≤ gb256)); clear HB; have HB := n0_; have BK256 := n1_; have GW256 := n2_; have GE256 := n3_; clear n0_ n1_ n2_ n3_; clear hb hbox hg; have hcz10_0 : w9.cell? ⟨gb256, 0, none⟩ = some (.int .i64 0) := (blk_cell BK256.out 0).trans rfl; have hcz10_1 : w9.cell? ⟨gb256, 1, none⟩ = some (.int .i64 0) := (blk_cell BK256.out 1).trans rfl; have hfz10_0 := blk_frozen BK256.out 0; have hfz10_1 := blk_frozen BK256.out 1; have p257 : 0 ≤ ((ji6) : Int) := of_decide_eq_true (by assumption); have q257 : (ji6) < (l0.length : Int) := of_decide_eq_true (by assumption); obtain ⟨ad257, e257, hx257_0, hx257_1⟩ := at_T61 HR0.out (ji6) p257 q257; obtain rfl : ad255 = ad257 := (by injection e257); have hn257_0 : ad255.block ≠ gb256 := Nat.ne_of_lt (Nat.lt_of_lt_of_le (by have := zl hx257_0; first | rwa [add_block] at this | exact this) GW256.out); have hn257_1 : ad255.block ≠ gb256 := Nat.ne_of_lt (Nat.lt_of_lt_of_le (by have := zl hx257_0; first | rwa [add_block] at this | exact this) GW256.out); (try replace hx257_0 := (HB.out.cell (zl hx257_0)).trans hx257_0); (try replace hx257_1 := (HB.out.cell (zl hx257_1)).trans hx257_1); replace hx257_0 := (cell_far (p := ⟨gb256, 0, none⟩) (by first | (rw [add_block]; exact hn257_0) | (show (Addr.add _ _).block ≠ _; rw [add_block]; exact hn257_0) | exact hn257_0) (.int .i64 ((rd_T61 l0 x9_1).f0))).trans hx257_0; replace hx257_1 := (cell_far (p := ⟨gb256, 0, none⟩) (by first | (rw [add_block]; exact hn257_0) | (show (Addr.add _ _).block ≠ _; rw [add_block]; exact hn257_0) | exact hn257_0) (.int .i64 ((rd_T61 l0 x9_1).f0))).trans hx257_1; replace hx257_0 := (cell_far (p := ⟨gb256, 1, none⟩) (by first | (rw [add_block]; exact hn257_1) | (show (Addr.add _ _).block ≠ _; rw [add_block]; exact hn257_1) | exact hn257_1) (.int .i64 ((rd_T61 l0 x9_1).f1))).trans hx257_0; replace hx257_1 := (cell_far (p := ⟨gb256, 1, none⟩) (by first | (rw [add_block]; exact hn257_1) | (show (Addr.add _ _).block ≠ _; rw [add_block]; exact hn257_1) | exact hn257_1) (.int .i64 ((rd_T61 l0 x9_1).f1))).trans hx257_1; clear hn257_0; clear hn257_1; replace p257 := eq_true p257; replace q257 := eq_true q257) | ((with_reducible refine gate_dst (N := 6) rfl ?_); refine box_event ?hg (N := 6) ?hd (cs := #[.int .i64 0, .int .i64 0]) (t := 61) ?hr ?_; (case hd => rfl); (case hg => rfl); (case hr => first | (go_simp; done) | (go_simp; rfl)); intro gb258 hg w11 hbox hb; have n0_ := zm1 (zd1 (o := .cells #[.int .i64 ((rd_T61 l0 x9_1).f0), .int .i64 ((rd_T61 l0 x9_1).f1)] 61 (0, 0)) (by (with_reducible repeat (first | apply zb1 | apply zb2 | apply zb3)); refine blk_put (cs := #[.int .i64 ((rd_T61 l0 x9_1).f0), .int .i64 0]) ?_ 1 _ rfl; (with_reducible repeat (first | apply zb1 | apply zb2 | apply zb3)); refine blk_put (cs := #[.int .i64 0, .int .i64 0]) ?_ 0 _ rfl; (with_reducible repeat (first | apply zb1 | apply zb2 | apply zb3)); exact BK256.out) hb); have n1_ := zm1 (zc6 (by repeat (first | (with_reducible first | exact HB.out | apply zc1 | apply zc2 | apply zc3 | refine zc4 ?_ GE256.out) | exact HB.out)) hb); have n2_ := zm1 (hbox); have n3_ := zm1 ((by rw [hg]; exact (zc5 (by repeat (first | (with_reducible first | exact HB.out | apply zc1 | apply zc2 | apply zc3 | refine zc4 ?_ GE256.out) | exact HB.out))) : w.heap.size ≤ gb258)); have n4_ := zm1 ((by rw [hg]; exact (zc5 (by repeat (first | (with_reducible first | exact HB.out | apply zc1 | apply zc2 | apply zc3 | refine zc4 ?_ GE256.out) | exact HB.out))) : w.heap.size ≤ gb258)); have n5_ := zm1 ((by rw [hg]; exact Nat.ne_of_lt (zd2 (o := .cells #[.int .i64 ((rd_T61 l0 x9_1).f0), .int .i64 ((rd_T61 l0 x9_1).f1)] 61 (0, 0)) (by (with_reducible repeat (first | apply zb1 | apply zb2 | apply zb3)); refine blk_put (cs := #[.int .i64 ((rd_T61 l0 x9_1).f0), .int .i64 0]) ?_ 1 _ rfl; (with_reducible repeat (first | apply zb1 | apply zb2 | apply zb3)); refine blk_put (cs := #[.int .i64 0, .int .i64 0]) ?_ 0 _ rfl; (with_reducible repeat (first | apply zb1 | apply zb2 | apply zb3)); exact BK256.out)) : gb256 ≠ gb258)); have n6_ := zm1 ((by rw [hg]; exact Nat.ne_of_gt (zd2 (o := .cells #[.int .i64 ((rd_T61 l0 x9_1).f0), .int .i64 ((rd_T61 l0 x9_1).f1)] 61 (0, 0)) (by (with_reducible repeat (first | apply zb1 | apply zb2 | apply zb3)); refine blk_put (cs := #[.int .i64 ((rd_T61 l0 x9_1).f0), .int .i64 0]) ?_ 1 _ rfl; (with_reducible repeat (first | apply zb1 | apply zb2 | apply zb3)); refine blk_put (cs := #[.int .i64 0, .int .i64 0]) ?_ 0 _ rfl; (with_reducible repeat (first | apply zb1 | apply zb2 | apply zb3)); exact BK256.out)) : gb258 ≠ gb256)); clear BK256; clear HB; have BK256 := n0_; have HB := n1_; have BK258 := n2_; have GW258 := n3_; have GE258 := n4_; have NB256_258 := n5_; have NB258_256 := n6_; clear n0_ n1_ n2_ n3_ n4_ n5_ n6_; clear hb hbox hg; have hnb12 := NB258_256.out; have hnc12 := NB256_258.out; have hcz13_0 : w11.cell? ⟨gb258, 0, none⟩ = some (.int .i64 0) := (blk_cell BK258.out 0).trans rfl; have hcz13_1 : w11.cell? ⟨gb258, 1, none⟩ = some (.int .i64 0) := (blk_cell BK258.out 1).trans rfl; have hfz13_0 := blk_frozen BK258.out 0; have hfz13_1 := blk_frozen BK258.out 1; have hcz14_0 : w11.cell? ⟨gb256, 0, none⟩ = some (.int .i64 ((rd_T61 l0 x9_1).f0)) := (blk_cell BK256.out 0).trans rfl; have hcz14_1 : w11.cell? ⟨gb256, 1, none⟩ = some (.int .i64 ((rd_T61 l0 x9_1).f1)) := (blk_cell BK256.out 1).trans rfl; have hfz14_0 := blk_frozen BK256.out 0; have hfz14_1 := blk_frozen BK256.out 1))
         go_roundg k1
         case measure => have := HK1.out; omega
         case rel => exact ⟨(wrap64 (x3_1 + (wrap64 ((wrap64 (((rd_T61 l0 x9_1).f0) * ((rd_T61 l0 (ji6)).f1))) - (wrap64 (((rd_T61 l0 x9_1).f1) * ((rd_T61 l0 (ji6)).f0))))))), (wrap64 (x9_1 + 1)), (by first | rfl | (simp; done) | ((simp only [← hji6] <;> (first | rfl | simp)); done) | (simp [*]; done)), (by first | rfl | (simp; done) | (simp [*]; done)), H', ⟨by have := HK1.out; omega⟩, ⟨by repeat (first | (with_reducible first | exact HB.out | apply zc1 | apply zc2 | apply zc3 | refine zc4 ?_ GE256.out | refine zc4 ?_ GE258.out) | exact HB.out)⟩⟩
        ·rw [if_neg c8] at H
         exact absurd H (by simp)
       ·rw [if_neg c7] at H
        exact absurd H (by simp)
     ·rw [if_neg c4] at H
      exact absurd H (by simp)
    ·rw [if_neg c3] at H
     exact absurd H (by simp)
   ·rw [if_neg c2] at H
    have c2b0 : decide (x9_1 < (l0.length : Int)) = false := decide_eq_false c2
    clear c2
    obtain rfl := Option.some.inj H
    go_wp2
    go_ret
    exact ⟨by first | rfl | (simp [errW_none, errW_some] <;> rfl) | (simp [*, errW_none, errW_some] <;> rfl), by repeat (first | (with_reducible first | exact HB.out | apply zc1 | apply zc2 | apply zc3) | exact HB.out)⟩

/-! ### impl_way: function 91 -/
def impl_way.l0 : Nat → List (S61) → Int → Int → List (S61) → Option ((List (S61)))
 | 0, _, _, _, _ => none
 | k + 1, x0, x1, x2, x7 => if x1 = x2 then (some x7) else (if (x0.length : Int) = 0 then (none) else (if 0 ≤ (Int.tmod (wrap64 (x1 + 1)) (x0.length : Int)) then (if (Int.tmod (wrap64 (x1 + 1)) (x0.length : Int)) < (x0.length : Int) then (if x7.length < 8796093022208 then (impl_way.l0 k x0 (Int.tmod (wrap64 (x1 + 1)) (x0.length : Int)) x2 (x7 ++ [(⟨(rd_T61 x0 (Int.tmod (wrap64 (x1 + 1)) (x0.length : Int))).f0, (rd_T61 x0 (Int.tmod (wrap64 (x1 + 1)) (x0.length : Int))).f1⟩ : S61)])) else (none)) else (none)) else (none)))
def impl_way.f (k : Nat) (l0 : List (S61)) (a1 : Int) (a2 : Int) : Option ((List (S61))) := if 0 ≤ a1 then (if a1 < (l0.length : Int) then (impl_way.l0 k l0 a1 a2 (([(⟨(rd_T61 l0 a1).f0, (rd_T61 l0 a1).f1⟩ : S61)] : List (S61)))) else (none)) else (none)
theorem impl_way.mono_l : ∀ k, (∀ y0 y1 y2 y3, LeO (impl_way.l0 k y0 y1 y2 y3) (impl_way.l0 (k + 1) y0 y1 y2 y3))
 | 0 => fun _ _ _ _ r h => by simp [impl_way.l0] at h
 | k + 1 => by
  have ih0 := impl_way.mono_l k
  ·intro y0 y1 y2 y3
   unfold impl_way.l0
   repeat' first
   | (with_reducible exact ih0 _ _ _ _)
   | (with_reducible exact LeO.refl _)
   | (with_reducible exact LeO.none _)
   | (with_reducible refine LeO.ite ?_ ?_)
   | (with_reducible refine LeO.bind ?_ (fun _ => ?_))
   | exact ih0 _ _ _ _
   | exact LeO.none _
   | refine LeO.ite ?_ ?_
   | refine LeO.bind ?_ (fun _ => ?_)
theorem impl_way.mono : ∀ a0 a1 a2 k, LeO (impl_way.f k a0 a1 a2) (impl_way.f (k + 1) a0 a1 a2) := by
 intro a0 a1 a2 k
 have ih0 := impl_way.mono_l k
 unfold impl_way.f
 repeat' first
   | (with_reducible exact ih0 _ _ _ _)
   | (with_reducible exact LeO.refl _)
   | (with_reducible exact LeO.none _)
   | (with_reducible refine LeO.ite ?_ ?_)
   | (with_reducible refine LeO.bind ?_ (fun _ => ?_))
   | exact ih0 _ _ _ _
   | exact LeO.none _
   | refine LeO.ite ?_ ?_
   | refine LeO.bind ?_ (fun _ => ?_)
set_option maxHeartbeats 8000000 in
set_option maxRecDepth 100000 in
theorem impl_way.calls (k : Nat) (A0 : Option Addr) (c0 : Nat) (l0 : List (S61)) (a1 : Int) (a2 : Int) (r : List (S61)) (w : World) (hr0 : Kd.C k61 w A0 l0.length l0) (hc0 : l0.length ≤ c0) (h : impl_way.f k l0 a1 a2 = some r) :
  Calls Try.prog 91 #[.slice A0 l0.length c0, .int .i64 a1, .int .i64 a2] w fun e w' => ∃ v0_ : Value, e = .returned (v0_) ∧ Kd.R k61 61 w' w.heap.size (fun _ => True) v0_ r ∧ Below w.heap.size w w' := by
 have hu61 := Try.underlying61
 have HR0 := zm1 hr0
 have HC0 := zm1 hc0
 clear hr0 hc0
 have HB := zm1 (Below.refl w.heap.size w)
 have H : (if 0 ≤ a1 then (if a1 < (l0.length : Int) then (impl_way.l0 k l0 a1 a2 (([(⟨(rd_T61 l0 a1).f0, (rd_T61 l0 a1).f1⟩ : S61)] : List (S61)))) else (none)) else (none)) = some r := h
 clear h
 by_cases c4 : 0 ≤ a1
 ·rw [if_pos c4] at H
  have c4b0 : decide (0 ≤ a1) = true := decide_eq_true c4
  clear c4
  by_cases c5 : a1 < (l0.length : Int)
  ·rw [if_pos c5] at H
   have c5b0 : decide (a1 < (l0.length : Int)) = true := decide_eq_true c5
   clear c5
   obtain ⟨y260, hy260⟩ : ∃ y_ : List (S61), y_ = (([(⟨(rd_T61 l0 a1).f0, (rd_T61 l0 a1).f1⟩ : S61)] : List (S61))) := ⟨_, rfl⟩
   replace H : (impl_way.l0 k l0 a1 a2 y260) = some r := by first | (rw [hy260]; with_reducible exact H) | (have H2_ := (Option.bind_some _ _).symm.trans H; rw [hy260]; with_reducible exact H2_) | (have H2_ := (Option.bind_some _ _).symm.trans H; with_reducible exact H2_) | with_reducible exact H | (rw [hy260]; exact H) | exact H
   have Ny260 := zm1 hy260
   clear hy260
   have H' := zm1 H
   clear H
   have p259 : 0 ≤ (a1 : Int) := of_decide_eq_true (by assumption)
   have q259 : a1 < (l0.length : Int) := of_decide_eq_true (by assumption)
   obtain ⟨ad259, e259, hx259_0, hx259_1⟩ := at_T61 HR0.out a1 p259 q259
   cases e259
   replace p259 := eq_true p259
   replace q259 := eq_true q259
   go_enter Try.func91, Try.ntmps91
   go_wp2_with (first | ((with_reducible refine gate_dst (N := 12) rfl ?_); refine Kd.R_lit k61 _ 61 ?hg (N := 12) ?hd (xs := ([(⟨(rd_T61 l0 a1).f0, (rd_T61 l0 a1).f1⟩ : S61)] : List (S61))) (inner := [.int .i64 ((rd_T61 l0 a1).f0), .int .i64 ((rd_T61 l0 a1).f1)]) (ok := fun _ => True) (okp := fun _ => True) ?hr ?hp (fun _ hk => hk) trivial (Below.refl _ _) (Nat.le_refl _) (by simp) ?_; (case hd => rfl); (case hg => rfl); (case hr => first | (go_simp; done) | (go_simp; rfl)); (case hp => exact (Reps.c2 (show Kd.M k61 _ _ _ (⟨(rd_T61 l0 a1).f0, (rd_T61 l0 a1).f1⟩ : S61) [.int .i64 ((rd_T61 l0 a1).f0), .int .i64 ((rd_T61 l0 a1).f1)] from (k61_mkM _ _ _ (⟨(rd_T61 l0 a1).f0, (rd_T61 l0 a1).f1⟩ : S61) )) (Reps.none _ _))); intro v261 w6 ho7 hb hg_ hnew_; clear hg_ hnew_; (first | rw [← Ny260.out] at ho7 | (simp only [Int.reduceToNat] at ho7; rw [← Ny260.out] at ho7)); have n0_ := zm1 (Kd.R_lower ho7 (zc5 (by repeat (first | (with_reducible first | exact HB.out | apply zc1 | apply zc2 | apply zc3) | exact HB.out)))); have n1_ := zm1 (zc6 (by repeat (first | (with_reducible first | exact HB.out | apply zc1 | apply zc2 | apply zc3) | exact HB.out)) hb); clear HB; have HO262 := n0_; have HB := n1_; clear n0_ n1_; clear hb ho7))
   go_loopg [1, 7] k (fun kq v1 v7 w' => ∃ (x1_1 : Int) (x7_1 : List (S61)), v1 = .int .i64 x1_1 ∧ Aside0 (impl_way.l0 kq l0 x1_1 a2 x7_1 = some r) ∧ Aside0 (kq ≤ k) ∧ Aside0 (Kd.R k61 61 w' w.heap.size (fun _ => True) v7 x7_1) ∧ Aside0 (Below w.heap.size w w'))
   case atStart => exact ⟨(a1), (y260), (by first | rfl | (simp; done) | (simp [*]; done)), H', ⟨Nat.le_refl _⟩, ⟨by (with_reducible repeat (first | apply zr1 | apply zr2 | apply zr3)); exact HO262.out⟩, ⟨by repeat (first | (with_reducible first | exact HB.out | apply zc1 | apply zc2 | apply zc3) | exact HB.out)⟩⟩
   case round =>
    clear H'
    try clear c2
    try clear p2
    try clear q2
    try clear hx2
    try clear c4
    try clear c4b0
    try clear c5
    try clear c5b0
    try clear hx259_0
    try clear hx259_1
    try clear p259
    try clear q259
    obtain ⟨x1_1, x7_1, rfl, HA, HK1, HO_7, HB⟩ := hrel
    cases gk with
    | zero => exact absurd HA.out (by simp [impl_way.l0])
    | succ k1 =>
     have H := HA.out
     clear HA
     simp only [impl_way.l0] at H
     by_cases c8 : x1_1 = a2
     ·rw [if_pos c8] at H
      have c8b0 : (x1_1 == a2) = true := beq_iff_eq.mpr c8
      have c8b1 : (x1_1 != a2) = false := bne_eq_false_iff_eq.mpr c8
      clear c8
      obtain rfl := Option.some.inj H
      go_wp2
      go_ret
      exact ⟨_, by first | rfl | (simp [errW_none, errW_some] <;> rfl) | (simp [*, errW_none, errW_some] <;> rfl), by (with_reducible repeat (first | apply zr1 | apply zr2 | apply zr3)); exact HO_7.out, by repeat (first | (with_reducible first | exact HB.out | apply zc1 | apply zc2 | apply zc3) | exact HB.out)⟩
     ·rw [if_neg c8] at H
      have c8b0 : (x1_1 == a2) = false := beq_eq_false_iff_ne.mpr c8
      have c8b1 : (x1_1 != a2) = true := bne_iff_ne.mpr c8
      by_cases c9 : (l0.length : Int) = 0
      ·rw [if_pos c9] at H
       exact absurd H (by simp)
      ·rw [if_neg c9] at H
       have c9b0 : ((l0.length : Int) == 0) = false := beq_eq_false_iff_ne.mpr c9
       have c9b1 : ((l0.length : Int) != 0) = true := bne_iff_ne.mpr c9
       have c9b2 : ¬ (l0 = []) := fun h_ => c9 (by rw [h_]; rfl)
       obtain ⟨ji10, hji10⟩ : ∃ j_ : Int, (Int.tmod (wrap64 (x1_1 + 1)) (l0.length : Int)) = j_ := ⟨_, rfl⟩
       replace H : (if 0 ≤ (ji10) then (if (ji10) < (l0.length : Int) then (if x7_1.length < 8796093022208 then (impl_way.l0 k1 l0 ji10 a2 (x7_1 ++ [(⟨(rd_T61 l0 (ji10)).f0, (rd_T61 l0 (ji10)).f1⟩ : S61)])) else (none)) else (none)) else (none)) = some r := by first | (rw [hji10] at H; exact H) | (simp only [hji10] at H ⊢; exact H)
       by_cases c11 : 0 ≤ (ji10)
       ·rw [if_pos c11] at H
        have c11b0 : decide (0 ≤ (ji10)) = true := decide_eq_true c11
        clear c11
        by_cases c12 : (ji10) < (l0.length : Int)
        ·rw [if_pos c12] at H
         have c12b0 : decide ((ji10) < (l0.length : Int)) = true := decide_eq_true c12
         clear c12
         by_cases c13 : x7_1.length < 8796093022208
         ·rw [if_pos c13] at H
          have LMc13 := zm1 c13
          clear c13
          obtain ⟨y264, hy264⟩ : ∃ y_ : List (S61), y_ = (x7_1 ++ [(⟨(rd_T61 l0 (ji10)).f0, (rd_T61 l0 (ji10)).f1⟩ : S61)]) := ⟨_, rfl⟩
          replace H : (impl_way.l0 k1 l0 ji10 a2 y264) = some r := by first | (rw [hy264]; with_reducible exact H) | (have H2_ := (Option.bind_some _ _).symm.trans H; rw [hy264]; with_reducible exact H2_) | (have H2_ := (Option.bind_some _ _).symm.trans H; with_reducible exact H2_) | with_reducible exact H | (rw [hy264]; exact H) | exact H
          have Ny264 := zm1 hy264
          clear hy264
          have H' := zm1 H
          clear H
          have p263 : 0 ≤ ((ji10) : Int) := of_decide_eq_true (by assumption)
          have q263 : (ji10) < (l0.length : Int) := of_decide_eq_true (by assumption)
          obtain ⟨ad263, e263, hx263_0, hx263_1⟩ := at_T61 HR0.out (ji10) p263 q263
          obtain rfl : ad259 = ad263 := (by injection e263)
          (try replace hx263_0 := (HB.out.cell (zl hx263_0)).trans hx263_0)
          (try replace hx263_1 := (HB.out.cell (zl hx263_1)).trans hx263_1)
          replace p263 := eq_true p263
          replace q263 := eq_true q263
          go_wp2_with (first | ((with_reducible refine gate_builtin (b := .append) (xs := #[.tmp 21, .tmp 26]) rfl ?_); at_builtin; refine Kd.R_append k61 (w0 := w) w.heap.size rfl (.tmp 21) (.tmp 26) 25 61 (.agg #[(.int .i64 0), (.int .i64 0)]) 16 rfl Try.underlying25 info61 rfl (by decide) (by omega) u7 x7_1 (⟨(rd_T61 l0 (ji10)).f0, (rd_T61 l0 (ji10)).f1⟩ : S61) [.int .i64 ((rd_T61 l0 (ji10)).f0), .int .i64 ((rd_T61 l0 (ji10)).f1)] (fun _ => True) (fun _ => False) rfl rfl ?aP (fun _ hk => hk.elim) ?aF ?aO ?aB ?aS ?aL ?_; (case aP => exact k61_mkM _ _ _ (⟨(rd_T61 l0 (ji10)).f0, (rd_T61 l0 (ji10)).f1⟩ : S61)); (case aB => exact (by repeat (first | (with_reducible first | exact HB.out | apply zc1 | apply zc2 | apply zc3) | exact HB.out))); (case aF => exact (fun _ _ => trivial)); (case aO => exact (by (with_reducible repeat (first | apply zr1 | apply zr2 | apply zr3)); exact HO_7.out)); (case aS => exact (zc5 (by repeat (first | (with_reducible first | exact HB.out | apply zc1 | apply zc2 | apply zc3) | exact HB.out)))); (case aL => have := LMc13.out; omega); intro v265 w14 ho hb hg hat; rw [← Ny264.out] at ho; have n0_ := zm1 (hb); have n1_ := zm1 (ho); clear HB; clear HO_7; have HB := n0_; have HO266 := n1_; clear n0_ n1_; clear ho hb hg hat))
          go_roundg k1
          case measure => have := HK1.out; omega
          case rel => exact ⟨(ji10), (y264), (by first | rfl | (simp; done) | ((simp only [← hji10] <;> (first | rfl | simp)); done) | (simp [*]; done)), H', ⟨by have := HK1.out; omega⟩, ⟨by (with_reducible repeat (first | apply zr1 | apply zr2 | apply zr3)); exact HO266.out⟩, ⟨by repeat (first | (with_reducible first | exact HB.out | apply zc1 | apply zc2 | apply zc3) | exact HB.out)⟩⟩
         ·rw [if_neg c13] at H
          exact absurd H (by simp)
        ·rw [if_neg c12] at H
         exact absurd H (by simp)
       ·rw [if_neg c11] at H
        exact absurd H (by simp)
  ·rw [if_neg c5] at H
   exact absurd H (by simp)
 ·rw [if_neg c4] at H
  exact absurd H (by simp)

/-! ### impl_BestCut: function 41 -/
--import Derived.WalkSpells
--import Derived.Deep.RegionHeld3
def impl_BestCut.row (xs : List (List Int)) (i : Int) : List Int := xs.getD i.toNat ([] : List Int)
theorem impl_BestCut.atr {w : World} {A : Option Addr} {n : Nat} {xs : List (List Int)} (h : Kd.C (Kd.slice 3 (Kd.int .i64)) w A n xs) (i : Int) (h0 : 0 ≤ i) (h1 : i < n) (h2 : (impl_BestCut.row xs i).length = 2) : ∃ ad a1 c1, A = some ad ∧ w.cell? (ad.add i.toNat) = some (.slice (some a1) 2 c1) ∧ w.cell? a1 = some (.int .i64 (rd (impl_BestCut.row xs i) 0)) ∧ w.cell? ⟨a1.block, a1.off + 1, none⟩ = some (.int .i64 (rd (impl_BestCut.row xs i) 1)) := by
 obtain ⟨ad, c, e, _, hK, hc0⟩ := Kd.C_get h ([] : List Int) i h0 h1
 obtain ⟨A0, c0, rfl, l0, g0⟩ := hK
 have g0 : (Kd.int .i64).C w A0 (impl_BestCut.row xs i).length (impl_BestCut.row xs i) := g0
 obtain ⟨a1, d0, rfl, _, hK0, hx0⟩ := Kd.C_get g0 0 0 (by omega) (by omega)
 obtain ⟨a2, d1, ea, _, hK1, hx1⟩ := Kd.C_get g0 0 1 (by omega) (by omega)
 injection ea with ea
 subst ea
 refine ⟨ad, a1, c0, e, ?_, ?_, hx1 0 (.int .i64 (rd (impl_BestCut.row xs i) 1)) (by rw [show d1 = [.int .i64 (rd (impl_BestCut.row xs i) 1)] from hK1]; rfl)⟩
 ·have hq : w.cell? (ad.add (i.toNat * 1 + 0)) = some (.slice (some a1) (impl_BestCut.row xs i).length c0) := hc0 0 (.slice (some a1) (impl_BestCut.row xs i).length c0) rfl
  rwa [Nat.mul_one, Nat.add_zero, h2] at hq
 ·have := hx0 0 (.int .i64 (rd (impl_BestCut.row xs i) 0)) (by rw [show d0 = [.int .i64 (rd (impl_BestCut.row xs i) 0)] from hK0]; rfl)
  simpa [Addr.add] using this
theorem impl_BestCut.keep2 {W w' : World} {p0 p1 : Addr} {v0 v1 : Value} (h0 : W.cell? p0 = some v0) (h1 : W.cell? p1 = some v1) (hb : Below W.heap.size W w') : w'.cell? p0 = some v0 ∧ w'.cell? p1 = some v1 :=
 ⟨(hb.cell (zl h0)).trans h0, (hb.cell (zl h1)).trans h1⟩
def impl_BestCut.by (K : Nat) (l0 : List (S61)) (u v : Int) : Option Int := (impl_way.f K l0 u v).bind fun y1 => (impl_twice.f K y1).bind fun t1 => (impl_size.f t1).bind fun s1 => (impl_way.f K l0 v u).bind fun y2 => (impl_twice.f K y2).bind fun t2 => (impl_size.f t2).bind fun s2 => impl_size.f (wrap64 (s1 - s2))
def impl_BestCut.l0 (K : Nat) (l0 : List (S61)) (ds : List (List Int)) : Nat → Int → Int → Int → Int → Option (Int × Int × Bool)
 | 0, _, _, _, _ => none
 | k + 1, i, a, b, m => if 0 ≤ i ∧ i < (ds.length : Int) then (if (impl_BestCut.row ds i).length = 2 then (impl_BestCut.by K l0 (rd (impl_BestCut.row ds i) 0) (rd (impl_BestCut.row ds i) 1)).bind fun x => if a < 0 ∨ x < m then impl_BestCut.l0 K l0 ds k (i + 1) (rd (impl_BestCut.row ds i) 0) (rd (impl_BestCut.row ds i) 1) x else impl_BestCut.l0 K l0 ds k (i + 1) a b m else none) else if 0 ≤ i then some (a, b, decide (0 ≤ a)) else none
def impl_BestCut.f (k : Nat) (l0 : List (S61)) : Option (Int × Int × Bool) := (impl_DiagonalsOf.f k l0).bind fun ds => impl_BestCut.l0 k l0 ds k 0 (-1) (-1) 0
theorem impl_BestCut.by_mono (K : Nat) (l0 : List (S61)) (u v : Int) : LeO (impl_BestCut.by K l0 u v) (impl_BestCut.by (K + 1) l0 u v) :=
 LeO.bind (impl_way.mono _ _ _ _) (fun _ => LeO.bind (impl_twice.mono _ _) (fun _ => LeO.bind (LeO.refl _) (fun _ => LeO.bind (impl_way.mono _ _ _ _) (fun _ => LeO.bind (impl_twice.mono _ _) (fun _ => LeO.refl _)))))
theorem impl_BestCut.l0_mono (K : Nat) (l0 : List (S61)) (ds : List (List Int)) : ∀ (k : Nat) (i a b m : Int), LeO (impl_BestCut.l0 K l0 ds k i a b m) (impl_BestCut.l0 (K + 1) l0 ds (k + 1) i a b m)
 | 0, _, _, _, _ => fun r h => by simp [impl_BestCut.l0] at h
 | k + 1, i, a, b, m => by
  rw [impl_BestCut.l0, impl_BestCut.l0]
  exact LeO.ite (LeO.ite (LeO.bind (impl_BestCut.by_mono _ _ _ _) (fun _ => LeO.ite (impl_BestCut.l0_mono _ _ _ _ _ _ _ _) (impl_BestCut.l0_mono _ _ _ _ _ _ _ _))) (LeO.refl _)) (LeO.refl _)
theorem impl_BestCut.mono : ∀ a0 k, LeO (impl_BestCut.f k a0) (impl_BestCut.f (k + 1) a0) := fun a0 k => LeO.bind (impl_DiagonalsOf.mono _ _) (fun _ => impl_BestCut.l0_mono _ _ _ _ _ _ _ _)
set_option maxHeartbeats 16000000 in
set_option maxRecDepth 100000 in
theorem impl_BestCut.calls (k : Nat) (A0 : Option Addr) (c0 : Nat) (l0 : List (S61)) (r1 : Int) (r2 : Int) (r3 : Bool) (w : World) (hr0 : Kd.C k61 w A0 l0.length l0) (hc0 : l0.length ≤ c0) (h : impl_BestCut.f k l0 = some (r1, r2, r3)) :
  Calls Try.prog 41 #[.slice A0 l0.length c0] w fun e w' => e = .returned (.tuple #[.int .i64 r1, .int .i64 r2, .bool r3]) ∧ Below w.heap.size w w' := by
 have HR0 := zm1 hr0
 have HC0 := zm1 hc0
 have HB := zm1 (Below.refl w.heap.size w)
 unfold impl_BestCut.f at h
 rw [Option.bind_eq_some_iff] at h
 obtain ⟨ds, hd, h⟩ := h
 have HD := zm1 hd
 have HL := zm1 h
 clear hr0 hc0 hd h
 go_enter Try.func41, Try.ntmps41
 go_wp2_with (first | (go_at_call 49; (with_reducible refine (impl_DiagonalsOf.calls k A0 c0 l0 ds _ HR0.out HC0.out HD.out).mono ?_); rintro e w2 ⟨v, rfl, ho, hb⟩; obtain ⟨AD, cD, eD⟩ := Kd.S_slice ho; subst eD; have HS := zm1 (Kd.S_lower ho (zc5 (by repeat (first | (with_reducible first | exact HB.out | apply zc1 | apply zc2 | apply zc3) | exact HB.out)))); have nHB := zm1 (zc6 (by repeat (first | (with_reducible first | exact HB.out | apply zc1 | apply zc2 | apply zc3) | exact HB.out)) hb); clear ho hb HB; have HB := nHB; clear nHB))
 go_loopg [5, 6, 7, 14] k (fun kq v5 v6 v7 v14 w' => ∃ (a b m i : Int), v5 = .int .i64 a ∧ v6 = .int .i64 b ∧ v7 = .int .i64 m ∧ v14 = .int .i64 i ∧ Aside0 (impl_BestCut.l0 k l0 ds kq i a b m = some (r1, r2, r3)) ∧ Aside0 (kq ≤ k) ∧ Aside0 (Kd.S (Kd.slice 3 (Kd.int .i64)) 30 w' w.heap.size (fun _ => True) (.slice AD ds.length cD) ds) ∧ Aside0 (Below w.heap.size w w'))
 case atStart => exact ⟨-1, -1, 0, 0, rfl, rfl, rfl, rfl, HL, ⟨Nat.le_refl _⟩, ⟨by (with_reducible repeat (first | apply Kd.S_alloc | apply Kd.S_drewN | apply Kd.S_drew)); exact HS.out⟩, ⟨(by repeat (first | (with_reducible first | exact HB.out | apply zc1 | apply zc2 | apply zc3) | exact HB.out))⟩⟩
 case round =>
  clear HL HS HB
  obtain ⟨a, b, m, i, rfl, rfl, rfl, rfl, HA, HK, HS, HB⟩ := hrel
  cases gk with
  | zero => exact absurd HA.out (by simp [impl_BestCut.l0])
  | succ k1 =>
   have H := HA.out
   clear HA
   rw [impl_BestCut.l0] at H
   by_cases c1 : 0 ≤ i ∧ i < (ds.length : Int)
   ·rw [if_pos c1] at H
    by_cases c2 : (impl_BestCut.row ds i).length = 2
    case neg => rw [if_neg c2] at H; cases H
    rw [if_pos c2, Option.bind_eq_some_iff] at H
    obtain ⟨x, hby, H⟩ := H
    have HM := zm1 (show ds.length ≤ 9223372036854775807 from (Kd.S_reads' HS.out).2.2.2.1)
    have HI := zm1 c1
    have c5b : decide (i < (ds.length : Int)) = true := decide_eq_true c1.2
    have p_ := c1.1
    have q_ := c1.2
    obtain ⟨ad, a1, cc, ead, hx, hx0, hx1⟩ := impl_BestCut.atr (Kd.S_reads' HS.out).2.2 i p_ q_ c2
    cases ead
    obtain ⟨u, hu⟩ : ∃ u, u = rd (impl_BestCut.row ds i) 0 := ⟨_, rfl⟩
    obtain ⟨v, hv⟩ : ∃ v, v = rd (impl_BestCut.row ds i) 1 := ⟨_, rfl⟩
    rw [← hu, ← hv] at hby
    rw [← hu] at hx0
    rw [← hv] at hx1
    rw [← hu, ← hv] at H
    clear hu hv c1 c2
    unfold impl_BestCut.by at hby
    rw [Option.bind_eq_some_iff] at hby
    obtain ⟨y1, hy1, hby⟩ := hby
    rw [Option.bind_eq_some_iff] at hby
    obtain ⟨t1, ht1, hby⟩ := hby
    rw [Option.bind_eq_some_iff] at hby
    obtain ⟨s1, hs1, hby⟩ := hby
    rw [Option.bind_eq_some_iff] at hby
    obtain ⟨y2, hy2, hby⟩ := hby
    rw [Option.bind_eq_some_iff] at hby
    obtain ⟨t2, ht2, hby⟩ := hby
    rw [Option.bind_eq_some_iff] at hby
    obtain ⟨s2, hs2, hby⟩ := hby
    have Y1 := zm1 hy1
    have T1 := zm1 ht1
    have S1 := zm1 hs1
    have Y2 := zm1 hy2
    have T2 := zm1 ht2
    have S2 := zm1 hs2
    clear hy1 ht1 hs1 hy2 ht2 hs2
    obtain ⟨y, hy_⟩ : ∃ y, y = wrap64 (s1 - s2) := ⟨_, rfl⟩
    rw [← hy_] at hby
    have X := zm1 hby
    have hxw : IntKind.i64.wrap (s1 - s2) = y := by rw [i64_w]; exact hy_.symm
    have hxw2 : wrap64 (s1 - s2) = y := hy_.symm
    clear hby hy_
    have HA := zm1 H
    clear H
    replace p_ := eq_true p_
    replace q_ := eq_true q_
    go_upto_region 5 with (fail)
    go_cut [10] (fun v10 wc => v10 = .int .i64 x ∧ Aside0 (Below wr.heap.size wr wc))
    case first =>
     clear HA
     have HX := zm1 (Below.refl wr.heap.size wr)
     go_region_held3 (fun w' => w'.cell? a1 = some (.int .i64 u) ∧ w'.cell? ⟨a1.block, a1.off + 1, none⟩ = some (.int .i64 v)) ((refine impl_BestCut.keep2 hx0 hx1 ?_; repeat (first | exact HX.out | assumption | apply pw_below_drewN | apply below_drew1 | apply below_alloc))) (first | (go_at_call 91; (with_reducible refine (impl_way.calls k A0 c0 l0 u v y1 _ ?sW HC0.out Y1.out).mono ?_); (case sW => exact (Kd.C_below HR0.out (below_step HB.out (by repeat (first | (with_reducible first | exact HX.out | apply zc1 | apply zc2 | apply zc3) | exact HX.out))))); rintro e w8 ⟨vw, rfl, ho, hb⟩; obtain ⟨Ap, cp, ep⟩ := Kd.R_slice ho; subst ep; have Hp := zm1 ho; have nHX := zm1 (zc6 (by repeat (first | (with_reducible first | exact HX.out | apply zc1 | apply zc2 | apply zc3) | exact HX.out)) hb); clear HX ho hb; have HX := nHX; clear nHX) | (go_at_call 90; (with_reducible refine (impl_twice.calls k Ap cp y1 t1 _ ?sT (Kd.R_reads' Hp.out).2.1 T1.out).mono ?_); (case sT => repeat (first | exact (Kd.R_reads' Hp.out).2.2 | (with_reducible refine Kd.C_alloc ?_ _) | (with_reducible refine Kd.C_drewN ?_ _) | (with_reducible refine Kd.C_drew ?_))); rintro e w8 ⟨rfl, hb⟩; have nHX := zm1 (zc6 (by repeat (first | (with_reducible first | exact HX.out | apply zc1 | apply zc2 | apply zc3) | exact HX.out)) hb); clear HX hb Hp; have HX := nHX; clear nHX) | (go_at_call 89; (with_reducible refine (impl_size.calls t1 s1 _ S1.out).mono ?_); rintro e w8 ⟨rfl, hb⟩; have nHX := zm1 (zc6 (by repeat (first | (with_reducible first | exact HX.out | apply zc1 | apply zc2 | apply zc3) | exact HX.out)) hb); clear HX hb; have HX := nHX; clear nHX) | (go_at_call 91; (with_reducible refine (impl_way.calls k A0 c0 l0 v u y2 _ ?sW HC0.out Y2.out).mono ?_); (case sW => exact (Kd.C_below HR0.out (below_step HB.out (by repeat (first | (with_reducible first | exact HX.out | apply zc1 | apply zc2 | apply zc3) | exact HX.out))))); rintro e w8 ⟨vw, rfl, ho, hb⟩; obtain ⟨Aq, cq, eq⟩ := Kd.R_slice ho; subst eq; have Hq := zm1 ho; have nHX := zm1 (zc6 (by repeat (first | (with_reducible first | exact HX.out | apply zc1 | apply zc2 | apply zc3) | exact HX.out)) hb); clear HX ho hb; have HX := nHX; clear nHX) | (go_at_call 90; (with_reducible refine (impl_twice.calls k Aq cq y2 t2 _ ?sT (Kd.R_reads' Hq.out).2.1 T2.out).mono ?_); (case sT => repeat (first | exact (Kd.R_reads' Hq.out).2.2 | (with_reducible refine Kd.C_alloc ?_ _) | (with_reducible refine Kd.C_drewN ?_ _) | (with_reducible refine Kd.C_drew ?_))); rintro e w8 ⟨rfl, hb⟩; have nHX := zm1 (zc6 (by repeat (first | (with_reducible first | exact HX.out | apply zc1 | apply zc2 | apply zc3) | exact HX.out)) hb); clear HX hb Hq; have HX := nHX; clear nHX) | (go_at_call 89; (with_reducible refine (impl_size.calls t2 s2 _ S2.out).mono ?_); rintro e w8 ⟨rfl, hb⟩; have nHX := zm1 (zc6 (by repeat (first | (with_reducible first | exact HX.out | apply zc1 | apply zc2 | apply zc3) | exact HX.out)) hb); clear HX hb; have HX := nHX; clear nHX) | (go_at_call 89; (with_reducible refine (impl_size.calls y x _ X.out).mono ?_); rintro e w8 ⟨rfl, hb⟩; have nHX := zm1 (zc6 (by repeat (first | (with_reducible first | exact HX.out | apply zc1 | apply zc2 | apply zc3) | exact HX.out)) hb); clear HX hb; have HX := nHX; clear nHX))
     all_goals
      go_wp2
      go_meet
      case rel => exact ⟨rfl, ⟨(by repeat (first | (with_reducible first | exact HX.out | apply zc1 | apply zc2 | apply zc3) | exact HX.out))⟩⟩
    case rest =>
     obtain ⟨rfl, HX⟩ := hcut
     have hq := impl_BestCut.keep2 hx0 hx1 HX.out
     have nHS := zm1 (Kd.S_below HS.out HX.out)
     have nHB := zm1 (below_step HB.out HX.out)
     clear HS HB hx hx0 hx1 HX p_ q_ c5b
     have HS := nHS
     have HB := nHB
     clear nHS nHB
     obtain ⟨hx0, hx1⟩ := hq
     have H := HA.out
     clear HA
     by_cases ca : a < 0
     ·rw [if_pos (.inl ca)] at H
      have HA := zm1 H
      have cab : decide (a < 0) = true := decide_eq_true ca
      clear H ca
      go_wp2_with fail
      go_region_held3 (fun w' => w'.cell? a1 = some (.int .i64 u) ∧ w'.cell? ⟨a1.block, a1.off + 1, none⟩ = some (.int .i64 v)) (go_keep) (fail)
      go_wp2
      go_roundg k1
      case measure => have := HK.out; omega
      case rel => exact ⟨u, v, x, i + 1, rfl, rfl, rfl, (by have := HI.out; have := HM.out; rw [show wrap64 (i + 1) = i + 1 by unfold wrap64; omega]), HA, ⟨by have := HK.out; omega⟩, ⟨by (with_reducible repeat (first | apply Kd.S_alloc | apply Kd.S_drewN | apply Kd.S_drew)); exact HS.out⟩, ⟨(by repeat (first | (with_reducible first | exact HB.out | apply zc1 | apply zc2 | apply zc3) | exact HB.out))⟩⟩
     ·have cab : decide (a < 0) = false := decide_eq_false ca
      by_cases cm : x < m
      ·rw [if_pos (.inr cm)] at H
       have HA := zm1 H
       have cmb : decide (x < m) = true := decide_eq_true cm
       clear H ca cm
       go_wp2_with fail
       go_region_held3 (fun w' => w'.cell? a1 = some (.int .i64 u) ∧ w'.cell? ⟨a1.block, a1.off + 1, none⟩ = some (.int .i64 v)) (go_keep) (fail)
       go_wp2
       go_roundg k1
       case measure => have := HK.out; omega
       case rel => exact ⟨u, v, x, i + 1, rfl, rfl, rfl, (by have := HI.out; have := HM.out; rw [show wrap64 (i + 1) = i + 1 by unfold wrap64; omega]), HA, ⟨by have := HK.out; omega⟩, ⟨by (with_reducible repeat (first | apply Kd.S_alloc | apply Kd.S_drewN | apply Kd.S_drew)); exact HS.out⟩, ⟨(by repeat (first | (with_reducible first | exact HB.out | apply zc1 | apply zc2 | apply zc3) | exact HB.out))⟩⟩
      ·rw [if_neg (by omega)] at H
       have HA := zm1 H
       have cmb : decide (x < m) = false := decide_eq_false cm
       clear H ca cm
       go_wp2
       go_roundg k1
       case measure => have := HK.out; omega
       case rel => exact ⟨a, b, m, i + 1, rfl, rfl, rfl, (by have := HI.out; have := HM.out; rw [show wrap64 (i + 1) = i + 1 by unfold wrap64; omega]), HA, ⟨by have := HK.out; omega⟩, ⟨by (with_reducible repeat (first | apply Kd.S_alloc | apply Kd.S_drewN | apply Kd.S_drew)); exact HS.out⟩, ⟨(by repeat (first | (with_reducible first | exact HB.out | apply zc1 | apply zc2 | apply zc3) | exact HB.out))⟩⟩
   ·rw [if_neg c1] at H
    by_cases c0 : 0 ≤ i
    case neg => rw [if_neg c0] at H; cases H
    rw [if_pos c0] at H
    have c5b : decide (i < (ds.length : Int)) = false := decide_eq_false (fun h => c1 ⟨c0, h⟩)
    simp only [Option.some.injEq, Prod.mk.injEq] at H
    obtain ⟨rfl, rfl, rfl⟩ := H
    clear c1 c0
    go_wp2
    go_ret3
    exact ⟨by first | rfl | (simp [*]; done), by repeat (first | (with_reducible first | exact HB.out | apply zc1 | apply zc2 | apply zc3) | exact HB.out)⟩

end Go.Proofs.Ytdiphnkkomfmdaa.QFnExactBestCut
