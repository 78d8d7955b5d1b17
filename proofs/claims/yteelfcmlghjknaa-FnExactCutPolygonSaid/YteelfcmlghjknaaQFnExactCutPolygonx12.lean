-- Printed for this claim by a changed copy of the kit's print (the session's own; own contracts in place of some functions).
import Derived.Test.YteelfcmlghjknaaQFnExactCutPolygonx0
import Derived.Test.YteelfcmlghjknaaQFnExactCutPolygonx10
import Derived.Test.YteelfcmlghjknaaQFnExactCutPolygonx11
namespace Go.Proofs.Yteelfcmlghjknaa.QFnExactCutPolygon
open Go.RowKit Go.Proofs.YteelfcmlghjknaaW.PrintWords Go.Proofs.YteelfcmlghjknaaW.PrintLast Go.Proofs.YteelfcmlghjknaaW.PrintMore
attribute [local go_sem] max2_int min2_int max_two min_two max_three min_three max_four min_four   -- for this text's walks alone
set_option linter.unusedVariables false
set_option linter.unusedSimpArgs false

/-! ### impl_IsDiagonal: function 72 -/
def impl_IsDiagonal.f (k : Nat) (l0 : List (S65)) (a1 : Int) (a2 : Int) : Option (Bool) := (impl_PolygonOk.f k l0).bind fun t239 => (if t239 = true then ((impl_isDiagonal.f k l0 a1 a2).bind fun t240 => (some t240)) else (some false))
theorem impl_IsDiagonal.mono : ∀ a0 a1 a2 k, LeO (impl_IsDiagonal.f k a0 a1 a2) (impl_IsDiagonal.f (k + 1) a0 a1 a2) := by
 intro a0 a1 a2 k
 unfold impl_IsDiagonal.f
 repeat' first
   | (with_reducible exact impl_PolygonOk.mono _ _)
   | (with_reducible exact impl_isDiagonal.mono _ _ _ _)
   | (with_reducible exact LeO.refl _)
   | (with_reducible exact LeO.none _)
   | (with_reducible refine LeO.ite ?_ ?_)
   | (with_reducible refine LeO.bind ?_ (fun _ => ?_))
   | exact impl_PolygonOk.mono _ _
   | exact impl_isDiagonal.mono _ _ _ _
   | exact LeO.none _
   | refine LeO.ite ?_ ?_
   | refine LeO.bind ?_ (fun _ => ?_)
set_option maxHeartbeats 8000000 in
set_option maxRecDepth 100000 in
theorem impl_IsDiagonal.calls (k : Nat) (A0 : Option Addr) (c0 : Nat) (l0 : List (S65)) (a1 : Int) (a2 : Int) (r : Bool) (w : World) (hr0 : Kd.C k65 w A0 l0.length l0) (hc0 : l0.length ≤ c0) (h : impl_IsDiagonal.f k l0 a1 a2 = some r) :
  Calls Try.prog 72 #[.slice A0 l0.length c0, .int .i64 a1, .int .i64 a2] w fun e w' => e = .returned (.bool r) ∧ Below w.heap.size w w' := by
 have HR0 := zm1 hr0
 have HC0 := zm1 hc0
 clear hr0 hc0
 have HB := zm1 (Below.refl w.heap.size w)
 have H : ((impl_PolygonOk.f k l0).bind fun t239 => (if t239 = true then ((impl_isDiagonal.f k l0 a1 a2).bind fun t240 => (some t240)) else (some false))) = some r := h
 clear h
 replace H := Option.bind_eq_some_iff.mp H
 obtain ⟨t239, A40, H⟩ := H
 replace H : (if t239 = true then ((impl_isDiagonal.f k l0 a1 a2).bind fun t240 => (some t240)) else (some false)) = some r := H
 have A4 := zm1 A40
 clear A40
 by_cases c5 : t239 = true
 ·subst c5
  have H1 : ((impl_isDiagonal.f k l0 a1 a2).bind fun t240 => (some t240)) = some r := by rw [if_pos rfl] at H; exact H
  clear H
  have H := H1
  clear H1
  replace H := Option.bind_eq_some_iff.mp H
  obtain ⟨t240, A60, H⟩ := H
  replace H : (some t240) = some r := H
  have A6 := zm1 A60
  clear A60
  obtain rfl := Option.some.inj H
  go_enter Try.func72, Try.ntmps72
  go_wp2_with (first | ((with_reducible refine gate_callee (f := 68) rfl ?_); refine goesL_ (some 8) rfl rfl Try.func68 (by kernel_rfl) rfl #[.slice A0 l0.length c0] rfl (by (try simp only [List.map_toArray, List.map_cons, List.map_nil]); first | done | rfl | (simp only [List.length_drop, List.length_take]; rfl)) ?_; (with_reducible refine (impl_PolygonOk.calls k _ _ l0 true _ ?side1 ?side2 A4.out).mono ?_); (case side1 => repeat (first | exact HR0.out | (with_reducible refine Kd.C_alloc ?_ _) | (with_reducible refine Kd.C_drewN ?_ _) | (with_reducible refine Kd.C_drew ?_))); (case side2 => exact HC0.out); rintro e w7 ⟨rfl, hb⟩; refine ⟨_, rfl, ?_⟩; have n0_ := zm1 (zc6 (by repeat (first | (with_reducible first | exact HB.out | apply zc1 | apply zc2 | apply zc3) | exact HB.out)) hb); clear HB; have HB := n0_; clear n0_; (try clear hb); (try clear hb2); (try clear hk); (try clear hi)) | (go_at_call 100; (with_reducible refine (impl_isDiagonal.calls k _ _ l0 a1 a2 t240 _ ?side1 ?side2 A6.out).mono ?_); (case side1 => repeat (first | exact (Kd.C_below HR0.out HB.out) | (with_reducible refine Kd.C_alloc ?_ _) | (with_reducible refine Kd.C_drewN ?_ _) | (with_reducible refine Kd.C_drew ?_))); (case side2 => exact HC0.out); rintro e w8 ⟨rfl, hb⟩; have n0_ := zm1 (zc6 (by repeat (first | (with_reducible first | exact HB.out | apply zc1 | apply zc2 | apply zc3) | exact HB.out)) hb); clear HB; have HB := n0_; clear n0_; (try clear hb); (try clear hb2); (try clear hk); (try clear hi)))
  go_ret
  exact ⟨by first | rfl | (simp [errW_none, errW_some] <;> rfl) | (simp [*, errW_none, errW_some] <;> rfl), by repeat (first | (with_reducible first | exact HB.out | apply zc1 | apply zc2 | apply zc3) | exact HB.out)⟩
 ·replace c5 := Bool.eq_false_iff.mpr c5
  subst c5
  have H1 : (some false) = some r := by rw [if_neg (show ¬ (false = true) by decide)] at H; exact H
  clear H
  have H := H1
  clear H1
  obtain rfl := Option.some.inj H
  go_enter Try.func72, Try.ntmps72
  go_wp2_with (first | ((with_reducible refine gate_callee (f := 68) rfl ?_); refine goesL_ (some 8) rfl rfl Try.func68 (by kernel_rfl) rfl #[.slice A0 l0.length c0] rfl (by (try simp only [List.map_toArray, List.map_cons, List.map_nil]); first | done | rfl | (simp only [List.length_drop, List.length_take]; rfl)) ?_; (with_reducible refine (impl_PolygonOk.calls k _ _ l0 false _ ?side1 ?side2 A4.out).mono ?_); (case side1 => repeat (first | exact HR0.out | (with_reducible refine Kd.C_alloc ?_ _) | (with_reducible refine Kd.C_drewN ?_ _) | (with_reducible refine Kd.C_drew ?_))); (case side2 => exact HC0.out); rintro e w9 ⟨rfl, hb⟩; refine ⟨_, rfl, ?_⟩; have n0_ := zm1 (zc6 (by repeat (first | (with_reducible first | exact HB.out | apply zc1 | apply zc2 | apply zc3) | exact HB.out)) hb); clear HB; have HB := n0_; clear n0_; (try clear hb); (try clear hb2); (try clear hk); (try clear hi)))
  go_ret
  exact ⟨by first | rfl | (simp [errW_none, errW_some] <;> rfl) | (simp [*, errW_none, errW_some] <;> rfl), by repeat (first | (with_reducible first | exact HB.out | apply zc1 | apply zc2 | apply zc3) | exact HB.out)⟩

/-! ### impl_way: function 73 -/
def impl_way.l0 : Nat → List (S65) → Int → Int → List (S65) → Option ((List (S65)))
 | 0, _, _, _, _ => none
 | k + 1, x0, x1, x2, x7 => if x1 = x2 then (some x7) else (if (x0.length : Int) = 0 then (none) else (if 0 ≤ (Int.tmod (wrap64 (x1 + 1)) (x0.length : Int)) then (if (Int.tmod (wrap64 (x1 + 1)) (x0.length : Int)) < (x0.length : Int) then (if x7.length < 8796093022208 then (impl_way.l0 k x0 (Int.tmod (wrap64 (x1 + 1)) (x0.length : Int)) x2 (x7 ++ [(⟨(rd_T65 x0 (Int.tmod (wrap64 (x1 + 1)) (x0.length : Int))).f0, (rd_T65 x0 (Int.tmod (wrap64 (x1 + 1)) (x0.length : Int))).f1⟩ : S65)])) else (none)) else (none)) else (none)))
def impl_way.f (k : Nat) (l0 : List (S65)) (a1 : Int) (a2 : Int) : Option ((List (S65))) := if 0 ≤ a1 then (if a1 < (l0.length : Int) then (impl_way.l0 k l0 a1 a2 (([(⟨(rd_T65 l0 a1).f0, (rd_T65 l0 a1).f1⟩ : S65)] : List (S65)))) else (none)) else (none)
theorem impl_way.mono_l : ∀ k, (∀ y0 y1 y2 y3, LeO (impl_way.l0 k y0 y1 y2 y3) (impl_way.l0 (k + 1) y0 y1 y2 y3))
 | 0 => fun _ _ _ _ r h => by simp [impl_way.l0] at h
 | k + 1 => by
  have ih0 := impl_way.mono_l k
  ·intro y0 y1 y2 y3
   unfold impl_way.l0
   repeat' first
   | (with_reducible exact ih0 _ _ _ _)
   | (with_reducible exact LeO.refl _)
   | (with_reducible exact LeO.none _)
   | (with_reducible refine LeO.ite ?_ ?_)
   | (with_reducible refine LeO.bind ?_ (fun _ => ?_))
   | exact ih0 _ _ _ _
   | exact LeO.none _
   | refine LeO.ite ?_ ?_
   | refine LeO.bind ?_ (fun _ => ?_)
theorem impl_way.mono : ∀ a0 a1 a2 k, LeO (impl_way.f k a0 a1 a2) (impl_way.f (k + 1) a0 a1 a2) := by
 intro a0 a1 a2 k
 have ih0 := impl_way.mono_l k
 unfold impl_way.f
 repeat' first
   | (with_reducible exact ih0 _ _ _ _)
   | (with_reducible exact LeO.refl _)
   | (with_reducible exact LeO.none _)
   | (with_reducible refine LeO.ite ?_ ?_)
   | (with_reducible refine LeO.bind ?_ (fun _ => ?_))
   | exact ih0 _ _ _ _
   | exact LeO.none _
   | refine LeO.ite ?_ ?_
   | refine LeO.bind ?_ (fun _ => ?_)
set_option maxHeartbeats 8000000 in
set_option maxRecDepth 100000 in
theorem impl_way.calls (k : Nat) (A0 : Option Addr) (c0 : Nat) (l0 : List (S65)) (a1 : Int) (a2 : Int) (r : List (S65)) (w : World) (hr0 : Kd.C k65 w A0 l0.length l0) (hc0 : l0.length ≤ c0) (h : impl_way.f k l0 a1 a2 = some r) :
  Calls Try.prog 73 #[.slice A0 l0.length c0, .int .i64 a1, .int .i64 a2] w fun e w' => ∃ v0_ : Value, e = .returned (v0_) ∧ Kd.R k65 65 w' w.heap.size (fun _ => True) v0_ r ∧ Below w.heap.size w w' := by
 have hu65 := Try.underlying65
 have HR0 := zm1 hr0
 have HC0 := zm1 hc0
 clear hr0 hc0
 have HB := zm1 (Below.refl w.heap.size w)
 have H : (if 0 ≤ a1 then (if a1 < (l0.length : Int) then (impl_way.l0 k l0 a1 a2 (([(⟨(rd_T65 l0 a1).f0, (rd_T65 l0 a1).f1⟩ : S65)] : List (S65)))) else (none)) else (none)) = some r := h
 clear h
 by_cases c4 : 0 ≤ a1
 ·rw [if_pos c4] at H
  have c4b0 : decide (0 ≤ a1) = true := decide_eq_true c4
  clear c4
  by_cases c5 : a1 < (l0.length : Int)
  ·rw [if_pos c5] at H
   have c5b0 : decide (a1 < (l0.length : Int)) = true := decide_eq_true c5
   clear c5
   obtain ⟨y242, hy242⟩ : ∃ y_ : List (S65), y_ = (([(⟨(rd_T65 l0 a1).f0, (rd_T65 l0 a1).f1⟩ : S65)] : List (S65))) := ⟨_, rfl⟩
   replace H : (impl_way.l0 k l0 a1 a2 y242) = some r := by first | (rw [hy242]; with_reducible exact H) | (have H2_ := (Option.bind_some _ _).symm.trans H; rw [hy242]; with_reducible exact H2_) | (have H2_ := (Option.bind_some _ _).symm.trans H; with_reducible exact H2_) | with_reducible exact H | (rw [hy242]; exact H) | exact H
   have Ny242 := zm1 hy242
   clear hy242
   have H' := zm1 H
   clear H
   have p241 : 0 ≤ (a1 : Int) := of_decide_eq_true (by assumption)
   have q241 : a1 < (l0.length : Int) := of_decide_eq_true (by assumption)
   obtain ⟨ad241, e241, hx241_0, hx241_1⟩ := at_T65 HR0.out a1 p241 q241
   cases e241
   replace p241 := eq_true p241
   replace q241 := eq_true q241
   go_enter Try.func73, Try.ntmps73
   go_wp2_with (first | ((with_reducible refine gate_dst (N := 12) rfl ?_); refine Kd.R_lit k65 _ 65 ?hg (N := 12) ?hd (xs := ([(⟨(rd_T65 l0 a1).f0, (rd_T65 l0 a1).f1⟩ : S65)] : List (S65))) (inner := [.int .i64 ((rd_T65 l0 a1).f0), .int .i64 ((rd_T65 l0 a1).f1)]) (ok := fun _ => True) (okp := fun _ => True) ?hr ?hp (fun _ hk => hk) trivial (Below.refl _ _) (Nat.le_refl _) (by simp) ?_; (case hd => rfl); (case hg => rfl); (case hr => first | (go_simp; done) | (go_simp; rfl)); (case hp => exact (Reps.c2 (show Kd.M k65 _ _ _ (⟨(rd_T65 l0 a1).f0, (rd_T65 l0 a1).f1⟩ : S65) [.int .i64 ((rd_T65 l0 a1).f0), .int .i64 ((rd_T65 l0 a1).f1)] from (k65_mkM _ _ _ (⟨(rd_T65 l0 a1).f0, (rd_T65 l0 a1).f1⟩ : S65) )) (Reps.none _ _))); intro v243 w6 ho7 hb hg_ hnew_; clear hg_ hnew_; (first | rw [← Ny242.out] at ho7 | (simp only [Int.reduceToNat] at ho7; rw [← Ny242.out] at ho7)); have n0_ := zm1 (Kd.R_lower ho7 (zc5 (by repeat (first | (with_reducible first | exact HB.out | apply zc1 | apply zc2 | apply zc3) | exact HB.out)))); have n1_ := zm1 (zc6 (by repeat (first | (with_reducible first | exact HB.out | apply zc1 | apply zc2 | apply zc3) | exact HB.out)) hb); clear HB; have HO244 := n0_; have HB := n1_; clear n0_ n1_; clear hb ho7))
   go_loopg [1, 7] k (fun kq v1 v7 w' => ∃ (x1_1 : Int) (x7_1 : List (S65)), v1 = .int .i64 x1_1 ∧ Aside0 (impl_way.l0 kq l0 x1_1 a2 x7_1 = some r) ∧ Aside0 (kq ≤ k) ∧ Aside0 (Kd.R k65 65 w' w.heap.size (fun _ => True) v7 x7_1) ∧ Aside0 (Below w.heap.size w w'))
   case atStart => exact ⟨(a1), (y242), (by first | rfl | (simp; done) | (simp [*]; done)), H', ⟨Nat.le_refl _⟩, ⟨by (with_reducible repeat (first | apply zr1 | apply zr2 | apply zr3)); exact HO244.out⟩, ⟨by repeat (first | (with_reducible first | exact HB.out | apply zc1 | apply zc2 | apply zc3) | exact HB.out)⟩⟩
   case round =>
    clear H'
    try clear c2
    try clear p2
    try clear q2
    try clear hx2
    try clear c4
    try clear c4b0
    try clear c5
    try clear c5b0
    try clear c7
    try clear hx241_0
    try clear hx241_1
    try clear p241
    try clear q241
    obtain ⟨x1_1, x7_1, rfl, HA, HK1, HO_7, HB⟩ := hrel
    cases gk with
    | zero => exact absurd HA.out (by simp [impl_way.l0])
    | succ k1 =>
     have H := HA.out
     clear HA
     simp only [impl_way.l0] at H
     by_cases c8 : x1_1 = a2
     ·rw [if_pos c8] at H
      have c8b0 : (x1_1 == a2) = true := beq_iff_eq.mpr c8
      have c8b1 : (x1_1 != a2) = false := bne_eq_false_iff_eq.mpr c8
      clear c8
      obtain rfl := Option.some.inj H
      go_wp2
      go_ret
      exact ⟨_, by first | rfl | (simp [errW_none, errW_some] <;> rfl) | (simp [*, errW_none, errW_some] <;> rfl), by (with_reducible repeat (first | apply zr1 | apply zr2 | apply zr3)); exact HO_7.out, by repeat (first | (with_reducible first | exact HB.out | apply zc1 | apply zc2 | apply zc3) | exact HB.out)⟩
     ·rw [if_neg c8] at H
      have c8b0 : (x1_1 == a2) = false := beq_eq_false_iff_ne.mpr c8
      have c8b1 : (x1_1 != a2) = true := bne_iff_ne.mpr c8
      by_cases c9 : (l0.length : Int) = 0
      ·rw [if_pos c9] at H
       exact absurd H (by simp)
      ·rw [if_neg c9] at H
       have c9b0 : ((l0.length : Int) == 0) = false := beq_eq_false_iff_ne.mpr c9
       have c9b1 : ((l0.length : Int) != 0) = true := bne_iff_ne.mpr c9
       have c9b2 : ¬ (l0 = []) := fun h_ => c9 (by rw [h_]; rfl)
       obtain ⟨ji10, hji10⟩ : ∃ j_ : Int, (Int.tmod (wrap64 (x1_1 + 1)) (l0.length : Int)) = j_ := ⟨_, rfl⟩
       replace H : (if 0 ≤ (ji10) then (if (ji10) < (l0.length : Int) then (if x7_1.length < 8796093022208 then (impl_way.l0 k1 l0 ji10 a2 (x7_1 ++ [(⟨(rd_T65 l0 (ji10)).f0, (rd_T65 l0 (ji10)).f1⟩ : S65)])) else (none)) else (none)) else (none)) = some r := by first | (rw [hji10] at H; exact H) | (simp only [hji10] at H ⊢; exact H)
       by_cases c11 : 0 ≤ (ji10)
       ·rw [if_pos c11] at H
        have c11b0 : decide (0 ≤ (ji10)) = true := decide_eq_true c11
        clear c11
        by_cases c12 : (ji10) < (l0.length : Int)
        ·rw [if_pos c12] at H
         have c12b0 : decide ((ji10) < (l0.length : Int)) = true := decide_eq_true c12
         clear c12
         by_cases c13 : x7_1.length < 8796093022208
         ·rw [if_pos c13] at H
          have LMc13 := zm1 c13
          clear c13
          obtain ⟨y246, hy246⟩ : ∃ y_ : List (S65), y_ = (x7_1 ++ [(⟨(rd_T65 l0 (ji10)).f0, (rd_T65 l0 (ji10)).f1⟩ : S65)]) := ⟨_, rfl⟩
          replace H : (impl_way.l0 k1 l0 ji10 a2 y246) = some r := by first | (rw [hy246]; with_reducible exact H) | (have H2_ := (Option.bind_some _ _).symm.trans H; rw [hy246]; with_reducible exact H2_) | (have H2_ := (Option.bind_some _ _).symm.trans H; with_reducible exact H2_) | with_reducible exact H | (rw [hy246]; exact H) | exact H
          have Ny246 := zm1 hy246
          clear hy246
          have H' := zm1 H
          clear H
          have p245 : 0 ≤ ((ji10) : Int) := of_decide_eq_true (by assumption)
          have q245 : (ji10) < (l0.length : Int) := of_decide_eq_true (by assumption)
          obtain ⟨ad245, e245, hx245_0, hx245_1⟩ := at_T65 HR0.out (ji10) p245 q245
          obtain rfl : ad241 = ad245 := (by injection e245)
          (try replace hx245_0 := (HB.out.cell (zl hx245_0)).trans hx245_0)
          (try replace hx245_1 := (HB.out.cell (zl hx245_1)).trans hx245_1)
          replace p245 := eq_true p245
          replace q245 := eq_true q245
          go_wp2_with (first | ((with_reducible refine gate_builtin (b := .append) (xs := #[.tmp 21, .tmp 26]) rfl ?_); at_builtin; refine Kd.R_append k65 (w0 := w) w.heap.size rfl (.tmp 21) (.tmp 26) 22 65 (.agg #[(.int .i64 0), (.int .i64 0)]) 16 rfl Try.underlying22 info65 rfl (by decide) (by omega) u7 x7_1 (⟨(rd_T65 l0 (ji10)).f0, (rd_T65 l0 (ji10)).f1⟩ : S65) [.int .i64 ((rd_T65 l0 (ji10)).f0), .int .i64 ((rd_T65 l0 (ji10)).f1)] (fun _ => True) (fun _ => False) rfl rfl ?aP (fun _ hk => hk.elim) ?aF ?aO ?aB ?aS ?aL ?_; (case aP => exact k65_mkM _ _ _ (⟨(rd_T65 l0 (ji10)).f0, (rd_T65 l0 (ji10)).f1⟩ : S65)); (case aB => exact (by repeat (first | (with_reducible first | exact HB.out | apply zc1 | apply zc2 | apply zc3) | exact HB.out))); (case aF => exact (fun _ _ => trivial)); (case aO => exact (by (with_reducible repeat (first | apply zr1 | apply zr2 | apply zr3)); exact HO_7.out)); (case aS => exact (zc5 (by repeat (first | (with_reducible first | exact HB.out | apply zc1 | apply zc2 | apply zc3) | exact HB.out)))); (case aL => have := LMc13.out; omega); intro v247 w14 ho hb hg hat; rw [← Ny246.out] at ho; have n0_ := zm1 (hb); have n1_ := zm1 (ho); clear HB; clear HO_7; have HB := n0_; have HO248 := n1_; clear n0_ n1_; clear ho hb hg hat))
          go_roundg k1
          case measure => have := HK1.out; omega
          case rel => exact ⟨(ji10), (y246), (by first | rfl | (simp; done) | ((simp only [← hji10] <;> (first | rfl | simp)); done) | (simp [*]; done)), H', ⟨by have := HK1.out; omega⟩, ⟨by (with_reducible repeat (first | apply zr1 | apply zr2 | apply zr3)); exact HO248.out⟩, ⟨by repeat (first | (with_reducible first | exact HB.out | apply zc1 | apply zc2 | apply zc3) | exact HB.out)⟩⟩
         ·rw [if_neg c13] at H
          exact absurd H (by simp)
        ·rw [if_neg c12] at H
         exact absurd H (by simp)
       ·rw [if_neg c11] at H
        exact absurd H (by simp)
  ·rw [if_neg c5] at H
   exact absurd H (by simp)
 ·rw [if_neg c4] at H
  exact absurd H (by simp)

/-! ### impl_CutPolygon: function 41 -/
def impl_CutPolygon.f (k : Nat) (l0 : List (S65)) (a1 : Int) (a2 : Int) : Option ((List (S65)) × (List (S65)) × Bool) := (impl_IsDiagonal.f k l0 a1 a2).bind fun t249 => (if t249 = true then ((impl_way.f k l0 a1 a2).bind fun t250 => ((impl_way.f k l0 a2 a1).bind fun t253 => (some (t250, t253, true)))) else (some (([] : List (S65)), ([] : List (S65)), false)))
theorem impl_CutPolygon.mono : ∀ a0 a1 a2 k, LeO (impl_CutPolygon.f k a0 a1 a2) (impl_CutPolygon.f (k + 1) a0 a1 a2) := by
 intro a0 a1 a2 k
 unfold impl_CutPolygon.f
 repeat' first
   | (with_reducible exact impl_IsDiagonal.mono _ _ _ _)
   | (with_reducible exact impl_way.mono _ _ _ _)
   | (with_reducible exact LeO.refl _)
   | (with_reducible exact LeO.none _)
   | (with_reducible refine LeO.ite ?_ ?_)
   | (with_reducible refine LeO.bind ?_ (fun _ => ?_))
   | exact impl_IsDiagonal.mono _ _ _ _
   | exact impl_way.mono _ _ _ _
   | exact LeO.none _
   | refine LeO.ite ?_ ?_
   | refine LeO.bind ?_ (fun _ => ?_)
set_option maxHeartbeats 8000000 in
set_option maxRecDepth 100000 in
theorem impl_CutPolygon.calls (k : Nat) (A0 : Option Addr) (c0 : Nat) (l0 : List (S65)) (a1 : Int) (a2 : Int) (r1 : List (S65)) (r2 : List (S65)) (r3 : Bool) (w : World) (hr0 : Kd.C k65 w A0 l0.length l0) (hc0 : l0.length ≤ c0) (h : impl_CutPolygon.f k l0 a1 a2 = some (r1, r2, r3)) :
  Calls Try.prog 41 #[.slice A0 l0.length c0, .int .i64 a1, .int .i64 a2] w fun e w' => ∃ v0_ v1_ : Value, e = .returned (.tuple #[v0_, v1_, .bool r3]) ∧ Kd.R k65 65 w' w.heap.size (fun k_ => some k_ ≠ (v1_ : Value).ownBlock) v0_ r1 ∧ Kd.R k65 65 w' w.heap.size (fun k_ => some k_ ≠ (v0_ : Value).ownBlock) v1_ r2 ∧ Below w.heap.size w w' := by
 have HR0 := zm1 hr0
 have HC0 := zm1 hc0
 clear hr0 hc0
 have HB := zm1 (Below.refl w.heap.size w)
 have H : ((impl_IsDiagonal.f k l0 a1 a2).bind fun t249 => (if t249 = true then ((impl_way.f k l0 a1 a2).bind fun t250 => ((impl_way.f k l0 a2 a1).bind fun t253 => (some (t250, t253, true)))) else (some (([] : List (S65)), ([] : List (S65)), false)))) = some (r1, r2, r3) := h
 clear h
 replace H := Option.bind_eq_some_iff.mp H
 obtain ⟨t249, A40, H⟩ := H
 replace H : (if t249 = true then ((impl_way.f k l0 a1 a2).bind fun t250 => ((impl_way.f k l0 a2 a1).bind fun t253 => (some (t250, t253, true)))) else (some (([] : List (S65)), ([] : List (S65)), false))) = some (r1, r2, r3) := H
 have A4 := zm1 A40
 clear A40
 by_cases c5 : t249 = true
 ·subst c5
  have H1 : ((impl_way.f k l0 a1 a2).bind fun t250 => ((impl_way.f k l0 a2 a1).bind fun t253 => (some (t250, t253, true)))) = some (r1, r2, r3) := by rw [if_pos rfl] at H; exact H
  clear H
  have H := H1
  clear H1
  replace H := Option.bind_eq_some_iff.mp H
  obtain ⟨t250, A60, H⟩ := H
  replace H : ((impl_way.f k l0 a2 a1).bind fun t253 => (some (t250, t253, true))) = some (r1, r2, r3) := H
  have A6 := zm1 A60
  clear A60
  replace H := Option.bind_eq_some_iff.mp H
  obtain ⟨t253, A70, H⟩ := H
  replace H : (some (t250, t253, true)) = some (r1, r2, r3) := H
  have A7 := zm1 A70
  clear A70
  simp only [Option.some.injEq, Prod.mk.injEq] at H
  obtain ⟨rfl, rfl, rfl⟩ := H
  go_enter Try.func41, Try.ntmps41
  go_wp2_with (first | ((with_reducible refine gate_callee (f := 72) rfl ?_); refine goesL_ (some 12) rfl rfl Try.func72 (by kernel_rfl) rfl #[.slice A0 l0.length c0, .int .i64 a1, .int .i64 a2] rfl (by (try simp only [List.map_toArray, List.map_cons, List.map_nil]); first | done | rfl | (simp only [List.length_drop, List.length_take]; rfl)) ?_; (with_reducible refine (impl_IsDiagonal.calls k _ _ l0 a1 a2 true _ ?side1 ?side2 A4.out).mono ?_); (case side1 => repeat (first | exact HR0.out | (with_reducible refine Kd.C_alloc ?_ _) | (with_reducible refine Kd.C_drewN ?_ _) | (with_reducible refine Kd.C_drew ?_))); (case side2 => exact HC0.out); rintro e w8 ⟨rfl, hb⟩; refine ⟨_, rfl, ?_⟩; have n0_ := zm1 (zc6 (by repeat (first | (with_reducible first | exact HB.out | apply zc1 | apply zc2 | apply zc3) | exact HB.out)) hb); clear HB; have HB := n0_; clear n0_; (try clear hb); (try clear hb2); (try clear hk); (try clear hi)) | ((with_reducible refine gate_callee (f := 73) rfl ?_); refine goesL_ (some 17) rfl rfl Try.func73 (by kernel_rfl) rfl #[.slice A0 l0.length c0, .int .i64 a1, .int .i64 a2] rfl (by (try simp only [List.map_toArray, List.map_cons, List.map_nil]); first | done | rfl | (simp only [List.length_drop, List.length_take]; rfl)) ?_; (with_reducible refine (impl_way.calls k _ _ l0 a1 a2 t250 _ ?side1 ?side2 A6.out).mono ?_); (case side1 => repeat (first | exact (Kd.C_below HR0.out HB.out) | (with_reducible refine Kd.C_alloc ?_ _) | (with_reducible refine Kd.C_drewN ?_ _) | (with_reducible refine Kd.C_drew ?_))); (case side2 => exact HC0.out); rintro e w9 ⟨v251, rfl, ho0, hb⟩; refine ⟨_, rfl, ?_⟩; have n0_ := zm1 (Kd.R_lower ho0 (zc5 (by repeat (first | (with_reducible first | exact HB.out | apply zc1 | apply zc2 | apply zc3) | exact HB.out)))); have n1_ := zm1 (zc6 (by repeat (first | (with_reducible first | exact HB.out | apply zc1 | apply zc2 | apply zc3) | exact HB.out)) hb); clear HB; have HO252 := n0_; have HB := n1_; clear n0_ n1_; (try clear hb); (try clear hb2); (try clear hk); (try clear hi); (try clear ho0)) | ((with_reducible refine gate_callee (f := 73) rfl ?_); refine goesL_ (some 21) rfl rfl Try.func73 (by kernel_rfl) rfl #[.slice A0 l0.length c0, .int .i64 a2, .int .i64 a1] rfl (by (try simp only [List.map_toArray, List.map_cons, List.map_nil]); first | done | rfl | (simp only [List.length_drop, List.length_take]; rfl)) ?_; (with_reducible refine (impl_way.calls k _ _ l0 a2 a1 t253 _ ?side1 ?side2 A7.out).mono ?_); (case side1 => repeat (first | exact (Kd.C_below HR0.out HB.out) | (with_reducible refine Kd.C_alloc ?_ _) | (with_reducible refine Kd.C_drewN ?_ _) | (with_reducible refine Kd.C_drew ?_))); (case side2 => exact HC0.out); rintro e w10 ⟨v254, rfl, ho0, hb⟩; refine ⟨_, rfl, ?_⟩; have n0_ := zm1 (Kd.R_elder' (by (with_reducible repeat (first | apply zr1 | apply zr2 | apply zr3)); exact HO252.out) (Kd.R_base ho0) hb); have n1_ := zm1 (Kd.R_lower (Kd.R_new' ho0 (Kd.R_lt (by (with_reducible repeat (first | apply zr1 | apply zr2 | apply zr3)); exact HO252.out))) (zc5 (by repeat (first | (with_reducible first | exact HB.out | apply zc1 | apply zc2 | apply zc3) | exact HB.out)))); have n2_ := zm1 (zc6 (by repeat (first | (with_reducible first | exact HB.out | apply zc1 | apply zc2 | apply zc3) | exact HB.out)) hb); clear HO252; clear HB; have HO252 := n0_; have HO255 := n1_; have HB := n2_; clear n0_ n1_ n2_; (try clear hb); (try clear hb2); (try clear hk); (try clear hi); (try clear ho0)))
  go_ret3
  exact ⟨_, _, by first | rfl | (simp [errW_none, errW_some] <;> rfl) | (simp [*, errW_none, errW_some] <;> rfl), by (with_reducible repeat (first | apply zr1 | apply zr2 | apply zr3)); exact Kd.R_mono HO252.out (fun _ hk => hk.2), by (with_reducible repeat (first | apply zr1 | apply zr2 | apply zr3)); exact Kd.R_mono HO255.out (fun _ hk => hk.2), by repeat (first | (with_reducible first | exact HB.out | apply zc1 | apply zc2 | apply zc3) | exact HB.out)⟩
 ·replace c5 := Bool.eq_false_iff.mpr c5
  subst c5
  have H1 : (some (([] : List (S65)), ([] : List (S65)), false)) = some (r1, r2, r3) := by rw [if_neg (show ¬ (false = true) by decide)] at H; exact H
  clear H
  have H := H1
  clear H1
  simp only [Option.some.injEq, Prod.mk.injEq] at H
  obtain ⟨rfl, rfl, rfl⟩ := H
  go_enter Try.func41, Try.ntmps41
  go_wp2_with (first | ((with_reducible refine gate_callee (f := 72) rfl ?_); refine goesL_ (some 12) rfl rfl Try.func72 (by kernel_rfl) rfl #[.slice A0 l0.length c0, .int .i64 a1, .int .i64 a2] rfl (by (try simp only [List.map_toArray, List.map_cons, List.map_nil]); first | done | rfl | (simp only [List.length_drop, List.length_take]; rfl)) ?_; (with_reducible refine (impl_IsDiagonal.calls k _ _ l0 a1 a2 false _ ?side1 ?side2 A4.out).mono ?_); (case side1 => repeat (first | exact HR0.out | (with_reducible refine Kd.C_alloc ?_ _) | (with_reducible refine Kd.C_drewN ?_ _) | (with_reducible refine Kd.C_drew ?_))); (case side2 => exact HC0.out); rintro e w11 ⟨rfl, hb⟩; refine ⟨_, rfl, ?_⟩; have n0_ := zm1 (zc6 (by repeat (first | (with_reducible first | exact HB.out | apply zc1 | apply zc2 | apply zc3) | exact HB.out)) hb); clear HB; have HB := n0_; clear n0_; (try clear hb); (try clear hb2); (try clear hk); (try clear hi)))
  go_ret3
  exact ⟨_, _, by first | rfl | (simp [errW_none, errW_some] <;> rfl) | (simp [*, errW_none, errW_some] <;> rfl), by first | exact Kd.R_nil _ _ _ _ _ | exact Kd.N_nil _ _ _ _ _ | exact Kd.V_nil _ _ _ _ _ | exact Kd.Q_nil _ _ _ _ _ | exact Kd.S_nil _ _ _ _ _, by first | exact Kd.R_nil _ _ _ _ _ | exact Kd.N_nil _ _ _ _ _ | exact Kd.V_nil _ _ _ _ _ | exact Kd.Q_nil _ _ _ _ _ | exact Kd.S_nil _ _ _ _ _, by repeat (first | (with_reducible first | exact HB.out | apply zc1 | apply zc2 | apply zc3) | exact HB.out)⟩

/-! ### laws_heldPointS: function 42 -/
def laws_heldPointS.l0 : Nat → List (S65) → Int → Int → Option (Int)
 | 0, _, _, _ => none
 | k + 1, x0, x1, x5 => if x5 < (x0.length : Int) then (if 0 ≤ x5 then (if ((rd_T65 x0 x5).f0) = x1 then (if ((rd_T65 x0 x5).f1) = (wrap64 (x1 + 1)) then (laws_heldPointS.l0 k x0 (wrap64 ((wrap64 (x1 + 1)) + 1)) (wrap64 (x5 + 1))) else (some (-1))) else (some (-1))) else (none)) else (some x1)
def laws_heldPointS.f (k : Nat) (l0 : List (S65)) (a1 : Int) : Option (Int) := laws_heldPointS.l0 k l0 a1 0
theorem laws_heldPointS.mono_l : ∀ k, (∀ y0 y1 y2, LeO (laws_heldPointS.l0 k y0 y1 y2) (laws_heldPointS.l0 (k + 1) y0 y1 y2))
 | 0 => fun _ _ _ r h => by simp [laws_heldPointS.l0] at h
 | k + 1 => by
  have ih0 := laws_heldPointS.mono_l k
  ·intro y0 y1 y2
   unfold laws_heldPointS.l0
   repeat' first
   | (with_reducible exact ih0 _ _ _)
   | (with_reducible exact LeO.refl _)
   | (with_reducible exact LeO.none _)
   | (with_reducible refine LeO.ite ?_ ?_)
   | (with_reducible refine LeO.bind ?_ (fun _ => ?_))
   | exact ih0 _ _ _
   | exact LeO.none _
   | refine LeO.ite ?_ ?_
   | refine LeO.bind ?_ (fun _ => ?_)
theorem laws_heldPointS.mono : ∀ a0 a1 k, LeO (laws_heldPointS.f k a0 a1) (laws_heldPointS.f (k + 1) a0 a1) := by
 intro a0 a1 k
 have ih0 := laws_heldPointS.mono_l k
 unfold laws_heldPointS.f
 repeat' first
   | (with_reducible exact ih0 _ _ _)
   | (with_reducible exact LeO.refl _)
   | (with_reducible exact LeO.none _)
   | (with_reducible refine LeO.ite ?_ ?_)
   | (with_reducible refine LeO.bind ?_ (fun _ => ?_))
   | exact ih0 _ _ _
   | exact LeO.none _
   | refine LeO.ite ?_ ?_
   | refine LeO.bind ?_ (fun _ => ?_)
set_option maxHeartbeats 8000000 in
set_option maxRecDepth 100000 in
theorem laws_heldPointS.calls (k : Nat) (A0 : Option Addr) (c0 : Nat) (l0 : List (S65)) (a1 : Int) (r : Int) (w : World) (hr0 : Kd.C k65 w A0 l0.length l0) (hc0 : l0.length ≤ c0) (h : laws_heldPointS.f k l0 a1 = some r) :
  Calls Try.prog 42 #[.slice A0 l0.length c0, .int .i64 a1] w fun e w' => e = .returned (.int .i64 r) ∧ Drawn0 w w' := by
 have HR0 := zm1 hr0
 have HC0 := zm1 hc0
 clear hr0 hc0
 have H : (laws_heldPointS.l0 k l0 a1 0) = some r := h
 clear h
 have H' := zm1 H
 clear H
 go_enter Try.func42, Try.ntmps42
 go_wp2
 go_loopg [1, 5] k (fun kq v1 v5 w' => ∃ (x1_1 : Int) (x5_1 : Int), v1 = .int .i64 x1_1 ∧ v5 = .int .i64 x5_1 ∧ Aside0 (laws_heldPointS.l0 kq l0 x1_1 x5_1 = some r) ∧ Aside0 (kq ≤ k) ∧ Drawn0 w w')
 case atStart => exact ⟨(a1), (0), (by first | rfl | (simp; done) | (simp [*]; done)), (by first | rfl | (simp; done) | (simp [*]; done)), H', ⟨Nat.le_refl _⟩, by repeat (first | exact Drawn0.refl _ | apply Drawn0.step)⟩
 case round =>
  clear H'
  try clear p2
  obtain ⟨x1_1, x5_1, rfl, rfl, HA, HK1, ⟨m1, rfl⟩⟩ := hrel
  cases gk with
  | zero => exact absurd HA.out (by simp [laws_heldPointS.l0])
  | succ k1 =>
   have H := HA.out
   clear HA
   simp only [laws_heldPointS.l0] at H
   by_cases c3 : x5_1 < (l0.length : Int)
   ·rw [if_pos c3] at H
    have c3b0 : decide (x5_1 < (l0.length : Int)) = true := decide_eq_true c3
    clear c3
    by_cases c4 : 0 ≤ x5_1
    ·rw [if_pos c4] at H
     have c4b0 : decide (0 ≤ x5_1) = true := decide_eq_true c4
     clear c4
     by_cases c5 : ((rd_T65 l0 x5_1).f0) = x1_1
     ·rw [if_pos c5] at H
      have c5b0 : (((rd_T65 l0 x5_1).f0) == x1_1) = true := beq_iff_eq.mpr c5
      have c5b1 : (((rd_T65 l0 x5_1).f0) != x1_1) = false := bne_eq_false_iff_eq.mpr c5
      clear c5
      by_cases c6 : ((rd_T65 l0 x5_1).f1) = (wrap64 (x1_1 + 1))
      ·rw [if_pos c6] at H
       have c6b0 : (((rd_T65 l0 x5_1).f1) == (wrap64 (x1_1 + 1))) = true := beq_iff_eq.mpr c6
       have c6b1 : (((rd_T65 l0 x5_1).f1) != (wrap64 (x1_1 + 1))) = false := bne_eq_false_iff_eq.mpr c6
       clear c6
       have H' := zm1 H
       clear H
       have p256 : 0 ≤ (x5_1 : Int) := of_decide_eq_true (by assumption)
       have q256 : x5_1 < (l0.length : Int) := of_decide_eq_true (by assumption)
       obtain ⟨ad256, e256, hx256_0, hx256_1⟩ := at_T65 HR0.out x5_1 p256 q256
       cases e256
       replace p256 := eq_true p256
       replace q256 := eq_true q256
       have p257 : 0 ≤ (x5_1 : Int) := of_decide_eq_true (by assumption)
       have q257 : x5_1 < (l0.length : Int) := of_decide_eq_true (by assumption)
       obtain ⟨ad257, e257, hx257_0, hx257_1⟩ := at_T65 HR0.out x5_1 p257 q257
       obtain rfl : ad256 = ad257 := (by injection e257)
       replace p257 := eq_true p257
       replace q257 := eq_true q257
       go_wp2
       go_roundg k1
       case measure => have := HK1.out; omega
       case rel => exact ⟨(wrap64 ((wrap64 (x1_1 + 1)) + 1)), (wrap64 (x5_1 + 1)), (by first | rfl | (simp; done) | (simp [*]; done)), (by first | rfl | (simp; done) | (simp [*]; done)), H', ⟨by have := HK1.out; omega⟩, by repeat (first | exact Drawn0.refl _ | apply Drawn0.step)⟩
      ·rw [if_neg c6] at H
       have c6b0 : (((rd_T65 l0 x5_1).f1) == (wrap64 (x1_1 + 1))) = false := beq_eq_false_iff_ne.mpr c6
       have c6b1 : (((rd_T65 l0 x5_1).f1) != (wrap64 (x1_1 + 1))) = true := bne_iff_ne.mpr c6
       obtain rfl := Option.some.inj H
       have p256 : 0 ≤ (x5_1 : Int) := of_decide_eq_true (by assumption)
       have q256 : x5_1 < (l0.length : Int) := of_decide_eq_true (by assumption)
       obtain ⟨ad256, e256, hx256_0, hx256_1⟩ := at_T65 HR0.out x5_1 p256 q256
       cases e256
       replace p256 := eq_true p256
       replace q256 := eq_true q256
       have p257 : 0 ≤ (x5_1 : Int) := of_decide_eq_true (by assumption)
       have q257 : x5_1 < (l0.length : Int) := of_decide_eq_true (by assumption)
       obtain ⟨ad257, e257, hx257_0, hx257_1⟩ := at_T65 HR0.out x5_1 p257 q257
       obtain rfl : ad256 = ad257 := (by injection e257)
       replace p257 := eq_true p257
       replace q257 := eq_true q257
       go_wp2
       go_ret
       exact ⟨by first | rfl | (simp; done) | (simp [*]; done), by repeat (first | exact Drawn0.refl _ | apply Drawn0.step)⟩
     ·rw [if_neg c5] at H
      have c5b0 : (((rd_T65 l0 x5_1).f0) == x1_1) = false := beq_eq_false_iff_ne.mpr c5
      have c5b1 : (((rd_T65 l0 x5_1).f0) != x1_1) = true := bne_iff_ne.mpr c5
      obtain rfl := Option.some.inj H
      have p256 : 0 ≤ (x5_1 : Int) := of_decide_eq_true (by assumption)
      have q256 : x5_1 < (l0.length : Int) := of_decide_eq_true (by assumption)
      obtain ⟨ad256, e256, hx256_0, hx256_1⟩ := at_T65 HR0.out x5_1 p256 q256
      cases e256
      replace p256 := eq_true p256
      replace q256 := eq_true q256
      go_wp2
      go_ret
      exact ⟨by first | rfl | (simp; done) | (simp [*]; done), by repeat (first | exact Drawn0.refl _ | apply Drawn0.step)⟩
    ·rw [if_neg c4] at H
     exact absurd H (by simp)
   ·rw [if_neg c3] at H
    have c3b0 : decide (x5_1 < (l0.length : Int)) = false := decide_eq_false c3
    clear c3
    obtain rfl := Option.some.inj H
    go_wp2
    go_ret
    exact ⟨by first | rfl | (simp; done) | (simp [*]; done), by repeat (first | exact Drawn0.refl _ | apply Drawn0.step)⟩

end Go.Proofs.Yteelfcmlghjknaa.QFnExactCutPolygon
