-- Printed for this claim by a changed copy of the kit's print (the session's own; own contracts in place of some functions).
import Derived.Test.YtdiphnkkomfmdaaQFnExactBestCutx0
import Derived.Test.YtdiphnkkomfmdaaQFnExactBestCutx2
namespace Go.Proofs.Ytdiphnkkomfmdaa.QFnExactBestCut
open Go.RowKit Go.Proofs.YtdiphnkkomfmdaaW.PrintWords Go.Proofs.YtdiphnkkomfmdaaW.PrintLast Go.Proofs.YtdiphnkkomfmdaaW.PrintMore
attribute [local go_sem] max2_int min2_int max_two min_two max_three min_three max_four min_four   -- for this text's walks alone
set_option linter.unusedVariables false
set_option linter.unusedSimpArgs false

/-! ### spec_l03OnRim: function 137 -/
def spec_l03OnRim.l0 : Nat → List (S61) → List (S61) → Int → Int → Int → Int → Option (Bool)
 | 0, _, _, _, _, _, _ => none
 | k + 1, x0, x7, x8, x9, x138000, x138001 => if x9 < x8 then (if 0 ≤ x9 then (if x9 < (x7.length : Int) then (if (x0.length : Int) = 0 then (none) else (if 0 ≤ (Int.tmod (wrap64 (x9 + 1)) (x0.length : Int)) then (if (Int.tmod (wrap64 (x9 + 1)) (x0.length : Int)) < (x0.length : Int) then ((spec_l02On.f ((rd_T61 x7 x9).f0) ((rd_T61 x7 x9).f1) ((rd_T61 x0 (Int.tmod (wrap64 (x9 + 1)) (x0.length : Int))).f0) ((rd_T61 x0 (Int.tmod (wrap64 (x9 + 1)) (x0.length : Int))).f1) x138000 x138001).bind fun t141 => (if t141 = true then (some true) else (spec_l03OnRim.l0 k x0 x7 x8 (wrap64 (x9 + 1)) x138000 x138001))) else (none)) else (none))) else (none)) else (none)) else (some false)
def spec_l03OnRim.f (k : Nat) (l0 : List (S61)) (a1_0 : Int) (a1_1 : Int) : Option (Bool) := spec_l03OnRim.l0 k l0 l0 (l0.length : Int) 0 a1_0 a1_1
theorem spec_l03OnRim.mono_l : ∀ k, (∀ y0 y1 y2 y3 y4 y5, LeO (spec_l03OnRim.l0 k y0 y1 y2 y3 y4 y5) (spec_l03OnRim.l0 (k + 1) y0 y1 y2 y3 y4 y5))
 | 0 => fun _ _ _ _ _ _ r h => by simp [spec_l03OnRim.l0] at h
 | k + 1 => by
  have ih0 := spec_l03OnRim.mono_l k
  ·intro y0 y1 y2 y3 y4 y5
   unfold spec_l03OnRim.l0
   repeat' first
   | (with_reducible exact ih0 _ _ _ _ _ _)
   | (with_reducible exact LeO.refl _)
   | (with_reducible exact LeO.none _)
   | (with_reducible refine LeO.ite ?_ ?_)
   | (with_reducible refine LeO.bind ?_ (fun _ => ?_))
   | exact ih0 _ _ _ _ _ _
   | exact LeO.none _
   | refine LeO.ite ?_ ?_
   | refine LeO.bind ?_ (fun _ => ?_)
theorem spec_l03OnRim.mono : ∀ a0 a1 a2 k, LeO (spec_l03OnRim.f k a0 a1 a2) (spec_l03OnRim.f (k + 1) a0 a1 a2) := by
 intro a0 a1 a2 k
 have ih0 := spec_l03OnRim.mono_l k
 unfold spec_l03OnRim.f
 repeat' first
   | (with_reducible exact ih0 _ _ _ _ _ _)
   | (with_reducible exact LeO.refl _)
   | (with_reducible exact LeO.none _)
   | (with_reducible refine LeO.ite ?_ ?_)
   | (with_reducible refine LeO.bind ?_ (fun _ => ?_))
   | exact ih0 _ _ _ _ _ _
   | exact LeO.none _
   | refine LeO.ite ?_ ?_
   | refine LeO.bind ?_ (fun _ => ?_)
def spec_l03OnRim.T4 : Bool × List (List Nat × List Nat) := (true, [([], []), ([], []), ([], []), ([2], [2]), ([], []), ([4], [4]), ([3, 5], [3, 5]), ([1, 6], [1, 6]), ([7], [7]), ([], []), ([0, 8, 9], [0, 8, 9])])
def spec_l03OnRim.B4 : List Nat := [0, 0, 0, 4, 0, 16, 60, 126, 254, 0, 1023]
theorem spec_l03OnRim.tab4 : rtab .any (opsOf Try.f137 4) = spec_l03OnRim.T4 := by kernel_rfl
theorem spec_l03OnRim.bits4 : waitsOk spec_l03OnRim.T4.2 spec_l03OnRim.B4 = true := by kernel_rfl
set_option maxHeartbeats 8000000 in
set_option maxRecDepth 100000 in
theorem spec_l03OnRim.calls (k : Nat) (A0 : Option Addr) (c0 : Nat) (l0 : List (S61)) (a1_0 : Int) (a1_1 : Int) (r : Bool) (w : World) (hr0 : Kd.C k61 w A0 l0.length l0) (hc0 : l0.length ≤ c0) (h : spec_l03OnRim.f k l0 a1_0 a1_1 = some r) :
  Calls Try.prog 137 #[.slice A0 l0.length c0, .agg #[.int .i64 a1_0, .int .i64 a1_1]] w fun e w' => e = .returned (.bool r) ∧ Below w.heap.size w w' := by
 have hu61 := Try.underlying61
 have HR0 := zm1 hr0
 have HC0 := zm1 hc0
 clear hr0 hc0
 have HB := zm1 (Below.refl w.heap.size w)
 have H : (spec_l03OnRim.l0 k l0 l0 (l0.length : Int) 0 a1_0 a1_1) = some r := h
 clear h
 have H' := zm1 H
 clear H
 go_enter Try.func137, Try.ntmps137
 go_wp2_with (first | ((with_reducible refine gate_dst (N := 3) rfl ?_); refine box_event ?hg (N := 3) ?hd (cs := #[.int .i64 a1_0, .int .i64 a1_1]) (t := 61) ?hr ?_; (case hd => rfl); (case hg => rfl); (case hr => first | (go_simp; done) | (go_simp; rfl)); intro gb137 hg w3 hbox hb; have n0_ := zm1 (zc6 (by repeat (first | (with_reducible first | exact HB.out | apply zc1 | apply zc2 | apply zc3) | exact HB.out)) hb); have n1_ := zm1 (hbox); have n2_ := zm1 ((by rw [hg]; exact (zc5 (by repeat (first | (with_reducible first | exact HB.out | apply zc1 | apply zc2 | apply zc3) | exact HB.out))) : w.heap.size ≤ gb137)); have n3_ := zm1 ((by rw [hg]; exact (zc5 (by repeat (first | (with_reducible first | exact HB.out | apply zc1 | apply zc2 | apply zc3) | exact HB.out))) : w.heap.size ≤ gb137)); clear HB; have HB := n0_; have BK137 := n1_; have GW137 := n2_; have GE137 := n3_; clear n0_ n1_ n2_ n3_; clear hb hbox hg))
 go_loopg [9] k (fun kq v9 w' => ∃ (x9_1 : Int), v9 = .int .i64 x9_1 ∧ Aside0 (spec_l03OnRim.l0 kq l0 l0 (l0.length : Int) x9_1 a1_0 a1_1 = some r) ∧ Aside0 (kq ≤ k) ∧ Aside0 (w'.heap[gb137]? = some (.cells #[.int .i64 a1_0, .int .i64 a1_1] 61 (0, 0))) ∧ Aside0 (Below w.heap.size w w'))
 case atStart => exact ⟨(0), (by first | rfl | (simp; done) | (simp [*]; done)), H', ⟨Nat.le_refl _⟩, ⟨by (with_reducible repeat (first | apply zb1 | apply zb2 | apply zb3)); exact BK137.out⟩, ⟨by repeat (first | (with_reducible first | exact HB.out | apply zc1 | apply zc2 | apply zc3 | refine zc4 ?_ GE137.out) | exact HB.out)⟩⟩
 case round =>
  clear H'
  try clear c1
  try clear p2
  obtain ⟨x9_1, rfl, HA, HK1, BK137, HB⟩ := hrel
  cases gk with
  | zero => exact absurd HA.out (by simp [spec_l03OnRim.l0])
  | succ k1 =>
   have H := HA.out
   clear HA
   simp only [spec_l03OnRim.l0] at H
   by_cases c4 : x9_1 < (l0.length : Int)
   ·rw [if_pos c4] at H
    have c4b0 : decide (x9_1 < (l0.length : Int)) = true := decide_eq_true c4
    clear c4
    by_cases c5 : 0 ≤ x9_1
    ·rw [if_pos c5] at H
     have c5b0 : decide (0 ≤ x9_1) = true := decide_eq_true c5
     clear c5
     by_cases c6 : x9_1 < (l0.length : Int)
     ·rw [if_pos c6] at H
      have c6b0 : decide (x9_1 < (l0.length : Int)) = true := decide_eq_true c6
      clear c6
      by_cases c7 : (l0.length : Int) = 0
      ·rw [if_pos c7] at H
       exact absurd H (by simp)
      ·rw [if_neg c7] at H
       have c7b0 : ((l0.length : Int) == 0) = false := beq_eq_false_iff_ne.mpr c7
       have c7b1 : ((l0.length : Int) != 0) = true := bne_iff_ne.mpr c7
       have c7b2 : ¬ (l0 = []) := fun h_ => c7 (by rw [h_]; rfl)
       obtain ⟨ji8, hji8⟩ : ∃ j_ : Int, (Int.tmod (wrap64 (x9_1 + 1)) (l0.length : Int)) = j_ := ⟨_, rfl⟩
       replace H : (if 0 ≤ (ji8) then (if (ji8) < (l0.length : Int) then ((spec_l02On.f ((rd_T61 l0 x9_1).f0) ((rd_T61 l0 x9_1).f1) ((rd_T61 l0 (ji8)).f0) ((rd_T61 l0 (ji8)).f1) a1_0 a1_1).bind fun t141 => (if t141 = true then (some true) else (spec_l03OnRim.l0 k1 l0 l0 (l0.length : Int) (wrap64 (x9_1 + 1)) a1_0 a1_1))) else (none)) else (none)) = some r := by first | (rw [hji8] at H; exact H) | (simp only [hji8] at H ⊢; exact H)
       by_cases c9 : 0 ≤ (ji8)
       ·rw [if_pos c9] at H
        have c9b0 : decide (0 ≤ (ji8)) = true := decide_eq_true c9
        clear c9
        by_cases c10 : (ji8) < (l0.length : Int)
        ·rw [if_pos c10] at H
         have c10b0 : decide ((ji8) < (l0.length : Int)) = true := decide_eq_true c10
         clear c10
         replace H := Option.bind_eq_some_iff.mp H
         obtain ⟨t141, A110, H⟩ := H
         replace H : (if t141 = true then (some true) else (spec_l03OnRim.l0 k1 l0 l0 (l0.length : Int) (wrap64 (x9_1 + 1)) a1_0 a1_1)) = some r := H
         have A11 := zm1 A110
         clear A110
         by_cases c12 : t141 = true
         ·subst c12
          have H1 : (some true) = some r := by rw [if_pos rfl] at H; exact H
          clear H
          have H := H1
          clear H1
          obtain rfl := Option.some.inj H
          have p138 : 0 ≤ (x9_1 : Int) := of_decide_eq_true (by assumption)
          have q138 : x9_1 < (l0.length : Int) := of_decide_eq_true (by assumption)
          obtain ⟨ad138, e138, hx138_0, hx138_1⟩ := at_T61 HR0.out x9_1 p138 q138
          cases e138
          (try replace hx138_0 := (HB.out.cell (zl hx138_0)).trans hx138_0)
          (try replace hx138_1 := (HB.out.cell (zl hx138_1)).trans hx138_1)
          replace p138 := eq_true p138
          replace q138 := eq_true q138
          try go_wp2_with (first | ((with_reducible refine gate_dst (N := 6) rfl ?_); refine box_event ?hg (N := 6) ?hd (cs := #[.int .i64 0, .int .i64 0]) (t := 61) ?hr ?_; (case hd => rfl); (case hg => rfl); (case hr => first | (go_simp; done) | (go_simp; rfl)); intro gb139 hg w13 hbox hb; have n0_ := zm1 (zd1 (zb4 BK137.out) hb); have n1_ := zm1 (zc6 (by repeat (first | (with_reducible first | exact HB.out | apply zc1 | apply zc2 | apply zc3 | refine zc4 ?_ GE137.out) | exact HB.out)) hb); have n2_ := zm1 (hbox); have n3_ := zm1 ((by rw [hg]; exact (zc5 (by repeat (first | (with_reducible first | exact HB.out | apply zc1 | apply zc2 | apply zc3 | refine zc4 ?_ GE137.out) | exact HB.out))) : w.heap.size ≤ gb139)); have n4_ := zm1 ((by rw [hg]; exact (zc5 (by repeat (first | (with_reducible first | exact HB.out | apply zc1 | apply zc2 | apply zc3 | refine zc4 ?_ GE137.out) | exact HB.out))) : w.heap.size ≤ gb139)); have n5_ := zm1 ((by rw [hg]; exact Nat.ne_of_lt (zd2 (zb4 BK137.out)) : gb137 ≠ gb139)); have n6_ := zm1 ((by rw [hg]; exact Nat.ne_of_gt (zd2 (zb4 BK137.out)) : gb139 ≠ gb137)); clear BK137; clear HB; have BK137 := n0_; have HB := n1_; have BK139 := n2_; have GW139 := n3_; have GE139 := n4_; have NB137_139 := n5_; have NB139_137 := n6_; clear n0_ n1_ n2_ n3_ n4_ n5_ n6_; clear hb hbox hg; have hnb14 := NB139_137.out; have hnc14 := NB137_139.out; have hcz15_0 : w13.cell? ⟨gb139, 0, none⟩ = some (.int .i64 0) := (blk_cell BK139.out 0).trans rfl; have hcz15_1 : w13.cell? ⟨gb139, 1, none⟩ = some (.int .i64 0) := (blk_cell BK139.out 1).trans rfl; have hfz15_0 := blk_frozen BK139.out 0; have hfz15_1 := blk_frozen BK139.out 1))
          have n0_ : Aside0 (((w13.setCell ⟨gb139, 0, none⟩ (.int .i64 ((rd_T61 l0 x9_1).f0))).setCell ⟨gb139, 1, none⟩ (.int .i64 ((rd_T61 l0 x9_1).f1))).heap[gb137]? = some (.cells #[.int .i64 a1_0, .int .i64 a1_1] 61 (0, 0))) := ⟨by (with_reducible repeat (first | apply zb1 | apply zb2 | apply zb3)); refine blk_far ?_ NB137_139.out _; (with_reducible repeat (first | apply zb1 | apply zb2 | apply zb3)); refine blk_far ?_ NB137_139.out _; (with_reducible repeat (first | apply zb1 | apply zb2 | apply zb3)); exact BK137.out⟩
          have n1_ : Aside0 (((w13.setCell ⟨gb139, 0, none⟩ (.int .i64 ((rd_T61 l0 x9_1).f0))).setCell ⟨gb139, 1, none⟩ (.int .i64 ((rd_T61 l0 x9_1).f1))).heap[gb139]? = some (.cells #[.int .i64 ((rd_T61 l0 x9_1).f0), .int .i64 ((rd_T61 l0 x9_1).f1)] 61 (0, 0))) := ⟨by (with_reducible repeat (first | apply zb1 | apply zb2 | apply zb3)); refine blk_put (cs := #[.int .i64 ((rd_T61 l0 x9_1).f0), .int .i64 0]) ?_ 1 _ rfl; (with_reducible repeat (first | apply zb1 | apply zb2 | apply zb3)); refine blk_put (cs := #[.int .i64 0, .int .i64 0]) ?_ 0 _ rfl; (with_reducible repeat (first | apply zb1 | apply zb2 | apply zb3)); exact BK139.out⟩
          have n2_ : Aside0 (Below w.heap.size w ((w13.setCell ⟨gb139, 0, none⟩ (.int .i64 ((rd_T61 l0 x9_1).f0))).setCell ⟨gb139, 1, none⟩ (.int .i64 ((rd_T61 l0 x9_1).f1)))) := ⟨by repeat (first | (with_reducible first | exact HB.out | apply zc1 | apply zc2 | apply zc3 | refine zc4 ?_ GE137.out | refine zc4 ?_ GE139.out) | exact HB.out)⟩
          (try clear BK137)
          (try clear BK139)
          (try clear HB)
          generalize ((w13.setCell ⟨gb139, 0, none⟩ (.int .i64 ((rd_T61 l0 x9_1).f0))).setCell ⟨gb139, 1, none⟩ (.int .i64 ((rd_T61 l0 x9_1).f1))) = w16 at n0_ n1_ n2_ ⊢
          have BK137 := n0_
          have BK139 := n1_
          have HB := n2_
          clear n0_ n1_ n2_
          have n0_ := zm1 (blk_drew BK137.out)
          have n1_ := zm1 (blk_drew BK139.out)
          have n2_ := zm1 (below_drew1 HB.out)
          clear BK137
          clear BK139
          clear HB
          have BK137 := n0_
          have BK139 := n1_
          have HB := n2_
          clear n0_ n1_ n2_
          have p140 : 0 ≤ ((ji8) : Int) := of_decide_eq_true (by assumption)
          have q140 : (ji8) < (l0.length : Int) := of_decide_eq_true (by assumption)
          obtain ⟨ad140, e140, hx140_0, hx140_1⟩ := at_T61 HR0.out (ji8) p140 q140
          have hw140_1 := hx140_1
          have hw140_0 := hx140_0
          obtain rfl : ad138 = ad140 := (by injection e140)
          (try replace hx140_0 := (HB.out.cell (zl hx140_0)).trans hx140_0)
          (try replace hx140_1 := (HB.out.cell (zl hx140_1)).trans hx140_1)
          replace p140 := eq_true p140
          replace q140 := eq_true q140
          refine start_ (n := 11) (S := fun w' => w'.cell? ⟨gb139, 0, none⟩ = some (.int .i64 ((rd_T61 l0 x9_1).f0)) ∧ w'.cell? ⟨gb139, 1, none⟩ = some (.int .i64 ((rd_T61 l0 x9_1).f1)) ∧ w'.cell? ⟨gb137, 0, none⟩ = some (.int .i64 a1_0) ∧ w'.cell? ⟨gb137, 1, none⟩ = some (.int .i64 a1_1) ∧ w'.cell? (ad138.add (((ji8)).toNat * 2)) = some (.int .i64 ((rd_T61 l0 (ji8)).f0)) ∧ w'.cell? ⟨(ad138.add (((ji8)).toNat * 2)).block, (ad138.add (((ji8)).toNat * 2)).off + 1, none⟩ = some (.int .i64 ((rd_T61 l0 (ji8)).f1))) (ds := []) #[false, false, false, false, false, false, false, false, false, false, false] (by kernel_rfl) rfl rfl ⟨(blk_cell BK139.out 0).trans rfl, (blk_cell BK139.out 1).trans rfl, (blk_cell BK137.out 0).trans rfl, (blk_cell BK137.out 1).trans rfl, ((HB.out.cell (zl hw140_0)).trans hw140_0), ((HB.out.cell (zl hw140_1)).trans hw140_1)⟩ (fun hHeld => ?_); refine with_tabW spec_l03OnRim.tab4 spec_l03OnRim.bits4 (fun HT_ HW_ => ?_)
          generalize w16.drew = w17 at BK137 BK139 HB hx140_0 hx140_1 hHeld ⊢
          refine pure_ (i := 1) (N := some 15) (v := ?_) (a' := ?_) #[false, true, false, false, false, false, false, false, false, false, false] rfl rfl (any_of HT_.out (by kernel_rfl)) (fun _ _ _ h => h) (Or.inl ⟨by rfl, ?_⟩) ?_ ?_
          rotate_left
          ·intro w'
           go_simp
           with_reducible rfl
          rotate_left
          ·simp only [Act.put, zs1, zs2, zs3, i64_w, i32_w]
           rfl
          refine pure_ (i := 2) (N := some 16) (v := ?_) (a' := ?_) #[false, true, true, false, false, false, false, false, false, false, false] rfl rfl (any_of HT_.out (by kernel_rfl)) (fun _ _ _ h => h) (Or.inl ⟨by rfl, ?_⟩) ?_ ?_
          rotate_left
          ·intro w'
           go_simp
           with_reducible rfl
          rotate_left
          ·simp only [Act.put, zs1, zs2, zs3, i64_w, i32_w]
           rfl
          refine pure_ (i := 3) (N := some 17) (v := ?_) (a' := ?_) #[false, true, true, true, false, false, false, false, false, false, false] rfl rfl (any_of HT_.out (by kernel_rfl)) (fun _ _ _ h => h) (Or.inl ⟨by rfl, ?_⟩) ?_ ?_
          rotate_left
          ·intro w'
           go_simp
           with_reducible rfl
          rotate_left
          ·simp only [Act.put, zs1, zs2, zs3, i64_w, i32_w]
           rfl
          refine pure_ (i := 4) (N := some 18) (v := ?_) (a' := ?_) #[false, true, true, true, true, false, false, false, false, false, false] rfl rfl (any_of HT_.out (by kernel_rfl)) (fun _ _ _ h => h) (Or.inl ⟨by rfl, ?_⟩) ?_ ?_
          rotate_left
          ·intro w'
           go_simp
           with_reducible rfl
          rotate_left
          ·simp only [Act.put, zs1, zs2, zs3, i64_w, i32_w]
           rfl
          refine pure_ (i := 5) (N := some 19) (v := ?_) (a' := ?_) #[false, true, true, true, true, true, false, false, false, false, false] rfl rfl (any_of HT_.out (by kernel_rfl)) (fun _ _ _ h => h) (Or.inl ⟨by rfl, ?_⟩) ?_ ?_
          rotate_left
          ·intro w'
           go_simp
           with_reducible rfl
          rotate_left
          ·simp only [Act.put, zs1, zs2, zs3, i64_w, i32_w]
           rfl
          refine pure_ (i := 6) (N := some 20) (v := ?_) (a' := ?_) #[false, true, true, true, true, true, true, false, false, false, false] rfl rfl (any_of HT_.out (by kernel_rfl)) (fun _ _ _ h => h) (Or.inl ⟨by rfl, ?_⟩) ?_ ?_
          rotate_left
          ·intro w'
           go_simp
           with_reducible rfl
          rotate_left
          ·simp only [Act.put, zs1, zs2, zs3, i64_w, i32_w]
           rfl
          refine pure_ (i := 7) (N := some 21) (v := ?_) (a' := ?_) #[false, true, true, true, true, true, true, true, false, false, false] rfl rfl (any_of HT_.out (by kernel_rfl)) (fun _ _ _ h => h) (Or.inl ⟨by rfl, ?_⟩) ?_ ?_
          rotate_left
          ·intro w'
           go_simp
           with_reducible rfl
          rotate_left
          ·simp only [Act.put, zs1, zs2, zs3, i64_w, i32_w]
           rfl
          refine take_ (i := 0) (N := some 14) (v := ?_) (a' := ?_) #[true, true, true, true, true, true, true, true, false, false, false] rfl rfl (take_ofW HT_.out HW_.out (by kernel_rfl)) (fun _ _ _ h => h) (Or.inl ⟨by rfl, ?_⟩) hHeld ?_ ?_
          rotate_left
          ·rintro w' ⟨s0, s1, s2, s3, s4, s5⟩
           go_simp
           with_reducible rfl
          rotate_left
          ·simp only [Act.put, zs1, zs2, zs3, i64_w, i32_w]
           rfl
          refine take_ (i := 8) (N := some 22) (v := ?_) (a' := ?_) #[true, true, true, true, true, true, true, true, true, false, false] rfl rfl (take_ofW HT_.out HW_.out (by kernel_rfl)) (fun _ _ _ h => h) (Or.inl ⟨by rfl, ?_⟩) hHeld ?_ ?_
          rotate_left
          ·rintro w' ⟨s0, s1, s2, s3, s4, s5⟩
           go_simp
           with_reducible rfl
          rotate_left
          ·simp only [Act.put, zs1, zs2, zs3, i64_w, i32_w]
           rfl
          refine take_ (i := 9) (N := some 23) (v := ?_) (a' := ?_) #[true, true, true, true, true, true, true, true, true, true, false] rfl rfl (take_ofW HT_.out HW_.out (by kernel_rfl)) (fun _ _ _ h => h) (Or.inl ⟨by rfl, ?_⟩) hHeld ?_ ?_
          rotate_left
          ·rintro w' ⟨s0, s1, s2, s3, s4, s5⟩
           go_simp
           with_reducible rfl
          rotate_left
          ·simp only [Act.put, zs1, zs2, zs3, i64_w, i32_w]
           rfl
          refine one_ (i := 10) (N := some 24) #[true, true, true, true, true, true, true, true, true, true, true] rfl rfl (one_of HT_.out (by kernel_rfl)) (by decide) (fun K hK => ?_)
          refine goes_ Try.func136 (by kernel_rfl) rfl #[.agg #[.int .i64 ((rd_T61 l0 x9_1).f0), .int .i64 ((rd_T61 l0 x9_1).f1)], .agg #[.int .i64 ((rd_T61 l0 (ji8)).f0), .int .i64 ((rd_T61 l0 (ji8)).f1)], .agg #[.int .i64 a1_0, .int .i64 a1_1]] (by rfl) rfl rfl (by (try simp only [List.map_toArray, List.map_cons, List.map_nil]); first | done | (simp only [hji8]; rfl) | rfl | (simp only [List.length_drop, List.length_take]; rfl)) ?_
          with_reducible refine (spec_l02On.calls ((rd_T61 l0 x9_1).f0) ((rd_T61 l0 x9_1).f1) ((rd_T61 l0 (ji8)).f0) ((rd_T61 l0 (ji8)).f1) a1_0 a1_1 true _ A11.out).mono ?_
          rintro e w18 ⟨rfl, hb⟩
          refine ⟨_, rfl, ?_⟩
          have n0_ := zm1 (zd1 (zb4 BK137.out) hb)
          have n1_ := zm1 (zd1 (zb4 BK139.out) hb)
          have n2_ := zm1 (zc6 (by repeat (first | (with_reducible first | exact HB.out | apply zc1 | apply zc2 | apply zc3 | refine zc4 ?_ GE137.out | refine zc4 ?_ GE139.out) | exact HB.out)) hb)
          clear BK137
          clear BK139
          clear HB
          have BK137 := n0_
          have BK139 := n1_
          have HB := n2_
          clear n0_ n1_ n2_
          (try clear hb)
          (try clear hb2)
          (try clear hk)
          (try clear hi)
          refine hK.out _ _ ⟨(blk_cell BK139.out 0).trans rfl, (blk_cell BK139.out 1).trans rfl, (blk_cell BK137.out 0).trans rfl, (blk_cell BK137.out 1).trans rfl, ((HB.out.cell (zl hw140_0)).trans hw140_0), ((HB.out.cell (zl hw140_1)).trans hw140_1)⟩ (fun hHeld => ?_)
          clear hK K
          refine norm_ (a' := ?_) ?_ ?_
          rotate_left
          ·show Act.put _ (some 24) _ = _
           simp only [Act.put, zs1, zs2, zs3, i64_w, i32_w]
           rfl
          refine done_ (done_of HT_.out (by kernel_rfl)) ?_
          try go_wp2
          go_ret
          exact ⟨by first | rfl | (simp [errW_none, errW_some] <;> rfl) | (simp only [← hji8]; first | rfl | (simp [errW_none, errW_some] <;> rfl)) | (simp [*, errW_none, errW_some] <;> rfl), by repeat (first | (with_reducible first | exact HB.out | apply zc1 | apply zc2 | apply zc3 | refine zc4 ?_ GE137.out | refine zc4 ?_ GE139.out) | exact HB.out)⟩
         ·replace c12 := Bool.eq_false_iff.mpr c12
          subst c12
          have H1 : (spec_l03OnRim.l0 k1 l0 l0 (l0.length : Int) (wrap64 (x9_1 + 1)) a1_0 a1_1) = some r := by rw [if_neg (show ¬ (false = true) by decide)] at H; exact H
          clear H
          have H := H1
          clear H1
          have H' := zm1 H
          clear H
          have p138 : 0 ≤ (x9_1 : Int) := of_decide_eq_true (by assumption)
          have q138 : x9_1 < (l0.length : Int) := of_decide_eq_true (by assumption)
          obtain ⟨ad138, e138, hx138_0, hx138_1⟩ := at_T61 HR0.out x9_1 p138 q138
          cases e138
          (try replace hx138_0 := (HB.out.cell (zl hx138_0)).trans hx138_0)
          (try replace hx138_1 := (HB.out.cell (zl hx138_1)).trans hx138_1)
          replace p138 := eq_true p138
          replace q138 := eq_true q138
          try go_wp2_with (first | ((with_reducible refine gate_dst (N := 6) rfl ?_); refine box_event ?hg (N := 6) ?hd (cs := #[.int .i64 0, .int .i64 0]) (t := 61) ?hr ?_; (case hd => rfl); (case hg => rfl); (case hr => first | (go_simp; done) | (go_simp; rfl)); intro gb139 hg w19 hbox hb; have n0_ := zm1 (zd1 (zb4 BK137.out) hb); have n1_ := zm1 (zc6 (by repeat (first | (with_reducible first | exact HB.out | apply zc1 | apply zc2 | apply zc3 | refine zc4 ?_ GE137.out) | exact HB.out)) hb); have n2_ := zm1 (hbox); have n3_ := zm1 ((by rw [hg]; exact (zc5 (by repeat (first | (with_reducible first | exact HB.out | apply zc1 | apply zc2 | apply zc3 | refine zc4 ?_ GE137.out) | exact HB.out))) : w.heap.size ≤ gb139)); have n4_ := zm1 ((by rw [hg]; exact (zc5 (by repeat (first | (with_reducible first | exact HB.out | apply zc1 | apply zc2 | apply zc3 | refine zc4 ?_ GE137.out) | exact HB.out))) : w.heap.size ≤ gb139)); have n5_ := zm1 ((by rw [hg]; exact Nat.ne_of_lt (zd2 (zb4 BK137.out)) : gb137 ≠ gb139)); have n6_ := zm1 ((by rw [hg]; exact Nat.ne_of_gt (zd2 (zb4 BK137.out)) : gb139 ≠ gb137)); clear BK137; clear HB; have BK137 := n0_; have HB := n1_; have BK139 := n2_; have GW139 := n3_; have GE139 := n4_; have NB137_139 := n5_; have NB139_137 := n6_; clear n0_ n1_ n2_ n3_ n4_ n5_ n6_; clear hb hbox hg; have hnb20 := NB139_137.out; have hnc20 := NB137_139.out; have hcz21_0 : w19.cell? ⟨gb139, 0, none⟩ = some (.int .i64 0) := (blk_cell BK139.out 0).trans rfl; have hcz21_1 : w19.cell? ⟨gb139, 1, none⟩ = some (.int .i64 0) := (blk_cell BK139.out 1).trans rfl; have hfz21_0 := blk_frozen BK139.out 0; have hfz21_1 := blk_frozen BK139.out 1))
          have n0_ : Aside0 (((w19.setCell ⟨gb139, 0, none⟩ (.int .i64 ((rd_T61 l0 x9_1).f0))).setCell ⟨gb139, 1, none⟩ (.int .i64 ((rd_T61 l0 x9_1).f1))).heap[gb137]? = some (.cells #[.int .i64 a1_0, .int .i64 a1_1] 61 (0, 0))) := ⟨by (with_reducible repeat (first | apply zb1 | apply zb2 | apply zb3)); refine blk_far ?_ NB137_139.out _; (with_reducible repeat (first | apply zb1 | apply zb2 | apply zb3)); refine blk_far ?_ NB137_139.out _; (with_reducible repeat (first | apply zb1 | apply zb2 | apply zb3)); exact BK137.out⟩
          have n1_ : Aside0 (((w19.setCell ⟨gb139, 0, none⟩ (.int .i64 ((rd_T61 l0 x9_1).f0))).setCell ⟨gb139, 1, none⟩ (.int .i64 ((rd_T61 l0 x9_1).f1))).heap[gb139]? = some (.cells #[.int .i64 ((rd_T61 l0 x9_1).f0), .int .i64 ((rd_T61 l0 x9_1).f1)] 61 (0, 0))) := ⟨by (with_reducible repeat (first | apply zb1 | apply zb2 | apply zb3)); refine blk_put (cs := #[.int .i64 ((rd_T61 l0 x9_1).f0), .int .i64 0]) ?_ 1 _ rfl; (with_reducible repeat (first | apply zb1 | apply zb2 | apply zb3)); refine blk_put (cs := #[.int .i64 0, .int .i64 0]) ?_ 0 _ rfl; (with_reducible repeat (first | apply zb1 | apply zb2 | apply zb3)); exact BK139.out⟩
          have n2_ : Aside0 (Below w.heap.size w ((w19.setCell ⟨gb139, 0, none⟩ (.int .i64 ((rd_T61 l0 x9_1).f0))).setCell ⟨gb139, 1, none⟩ (.int .i64 ((rd_T61 l0 x9_1).f1)))) := ⟨by repeat (first | (with_reducible first | exact HB.out | apply zc1 | apply zc2 | apply zc3 | refine zc4 ?_ GE137.out | refine zc4 ?_ GE139.out) | exact HB.out)⟩
          (try clear BK137)
          (try clear BK139)
          (try clear HB)
          generalize ((w19.setCell ⟨gb139, 0, none⟩ (.int .i64 ((rd_T61 l0 x9_1).f0))).setCell ⟨gb139, 1, none⟩ (.int .i64 ((rd_T61 l0 x9_1).f1))) = w22 at n0_ n1_ n2_ ⊢
          have BK137 := n0_
          have BK139 := n1_
          have HB := n2_
          clear n0_ n1_ n2_
          have n0_ := zm1 (blk_drew BK137.out)
          have n1_ := zm1 (blk_drew BK139.out)
          have n2_ := zm1 (below_drew1 HB.out)
          clear BK137
          clear BK139
          clear HB
          have BK137 := n0_
          have BK139 := n1_
          have HB := n2_
          clear n0_ n1_ n2_
          have p140 : 0 ≤ ((ji8) : Int) := of_decide_eq_true (by assumption)
          have q140 : (ji8) < (l0.length : Int) := of_decide_eq_true (by assumption)
          obtain ⟨ad140, e140, hx140_0, hx140_1⟩ := at_T61 HR0.out (ji8) p140 q140
          have hw140_1 := hx140_1
          have hw140_0 := hx140_0
          obtain rfl : ad138 = ad140 := (by injection e140)
          (try replace hx140_0 := (HB.out.cell (zl hx140_0)).trans hx140_0)
          (try replace hx140_1 := (HB.out.cell (zl hx140_1)).trans hx140_1)
          replace p140 := eq_true p140
          replace q140 := eq_true q140
          refine start_ (n := 11) (S := fun w' => w'.cell? ⟨gb139, 0, none⟩ = some (.int .i64 ((rd_T61 l0 x9_1).f0)) ∧ w'.cell? ⟨gb139, 1, none⟩ = some (.int .i64 ((rd_T61 l0 x9_1).f1)) ∧ w'.cell? ⟨gb137, 0, none⟩ = some (.int .i64 a1_0) ∧ w'.cell? ⟨gb137, 1, none⟩ = some (.int .i64 a1_1) ∧ w'.cell? (ad138.add (((ji8)).toNat * 2)) = some (.int .i64 ((rd_T61 l0 (ji8)).f0)) ∧ w'.cell? ⟨(ad138.add (((ji8)).toNat * 2)).block, (ad138.add (((ji8)).toNat * 2)).off + 1, none⟩ = some (.int .i64 ((rd_T61 l0 (ji8)).f1))) (ds := []) #[false, false, false, false, false, false, false, false, false, false, false] (by kernel_rfl) rfl rfl ⟨(blk_cell BK139.out 0).trans rfl, (blk_cell BK139.out 1).trans rfl, (blk_cell BK137.out 0).trans rfl, (blk_cell BK137.out 1).trans rfl, ((HB.out.cell (zl hw140_0)).trans hw140_0), ((HB.out.cell (zl hw140_1)).trans hw140_1)⟩ (fun hHeld => ?_); refine with_tabW spec_l03OnRim.tab4 spec_l03OnRim.bits4 (fun HT_ HW_ => ?_)
          generalize w22.drew = w23 at BK137 BK139 HB hx140_0 hx140_1 hHeld ⊢
          refine pure_ (i := 1) (N := some 15) (v := ?_) (a' := ?_) #[false, true, false, false, false, false, false, false, false, false, false] rfl rfl (any_of HT_.out (by kernel_rfl)) (fun _ _ _ h => h) (Or.inl ⟨by rfl, ?_⟩) ?_ ?_
          rotate_left
          ·intro w'
           go_simp
           with_reducible rfl
          rotate_left
          ·simp only [Act.put, zs1, zs2, zs3, i64_w, i32_w]
           rfl
          refine pure_ (i := 2) (N := some 16) (v := ?_) (a' := ?_) #[false, true, true, false, false, false, false, false, false, false, false] rfl rfl (any_of HT_.out (by kernel_rfl)) (fun _ _ _ h => h) (Or.inl ⟨by rfl, ?_⟩) ?_ ?_
          rotate_left
          ·intro w'
           go_simp
           with_reducible rfl
          rotate_left
          ·simp only [Act.put, zs1, zs2, zs3, i64_w, i32_w]
           rfl
          refine pure_ (i := 3) (N := some 17) (v := ?_) (a' := ?_) #[false, true, true, true, false, false, false, false, false, false, false] rfl rfl (any_of HT_.out (by kernel_rfl)) (fun _ _ _ h => h) (Or.inl ⟨by rfl, ?_⟩) ?_ ?_
          rotate_left
          ·intro w'
           go_simp
           with_reducible rfl
          rotate_left
          ·simp only [Act.put, zs1, zs2, zs3, i64_w, i32_w]
           rfl
          refine pure_ (i := 4) (N := some 18) (v := ?_) (a' := ?_) #[false, true, true, true, true, false, false, false, false, false, false] rfl rfl (any_of HT_.out (by kernel_rfl)) (fun _ _ _ h => h) (Or.inl ⟨by rfl, ?_⟩) ?_ ?_
          rotate_left
          ·intro w'
           go_simp
           with_reducible rfl
          rotate_left
          ·simp only [Act.put, zs1, zs2, zs3, i64_w, i32_w]
           rfl
          refine pure_ (i := 5) (N := some 19) (v := ?_) (a' := ?_) #[false, true, true, true, true, true, false, false, false, false, false] rfl rfl (any_of HT_.out (by kernel_rfl)) (fun _ _ _ h => h) (Or.inl ⟨by rfl, ?_⟩) ?_ ?_
          rotate_left
          ·intro w'
           go_simp
           with_reducible rfl
          rotate_left
          ·simp only [Act.put, zs1, zs2, zs3, i64_w, i32_w]
           rfl
          refine pure_ (i := 6) (N := some 20) (v := ?_) (a' := ?_) #[false, true, true, true, true, true, true, false, false, false, false] rfl rfl (any_of HT_.out (by kernel_rfl)) (fun _ _ _ h => h) (Or.inl ⟨by rfl, ?_⟩) ?_ ?_
          rotate_left
          ·intro w'
           go_simp
           with_reducible rfl
          rotate_left
          ·simp only [Act.put, zs1, zs2, zs3, i64_w, i32_w]
           rfl
          refine pure_ (i := 7) (N := some 21) (v := ?_) (a' := ?_) #[false, true, true, true, true, true, true, true, false, false, false] rfl rfl (any_of HT_.out (by kernel_rfl)) (fun _ _ _ h => h) (Or.inl ⟨by rfl, ?_⟩) ?_ ?_
          rotate_left
          ·intro w'
           go_simp
           with_reducible rfl
          rotate_left
          ·simp only [Act.put, zs1, zs2, zs3, i64_w, i32_w]
           rfl
          refine take_ (i := 0) (N := some 14) (v := ?_) (a' := ?_) #[true, true, true, true, true, true, true, true, false, false, false] rfl rfl (take_ofW HT_.out HW_.out (by kernel_rfl)) (fun _ _ _ h => h) (Or.inl ⟨by rfl, ?_⟩) hHeld ?_ ?_
          rotate_left
          ·rintro w' ⟨s0, s1, s2, s3, s4, s5⟩
           go_simp
           with_reducible rfl
          rotate_left
          ·simp only [Act.put, zs1, zs2, zs3, i64_w, i32_w]
           rfl
          refine take_ (i := 8) (N := some 22) (v := ?_) (a' := ?_) #[true, true, true, true, true, true, true, true, true, false, false] rfl rfl (take_ofW HT_.out HW_.out (by kernel_rfl)) (fun _ _ _ h => h) (Or.inl ⟨by rfl, ?_⟩) hHeld ?_ ?_
          rotate_left
          ·rintro w' ⟨s0, s1, s2, s3, s4, s5⟩
           go_simp
           with_reducible rfl
          rotate_left
          ·simp only [Act.put, zs1, zs2, zs3, i64_w, i32_w]
           rfl
          refine take_ (i := 9) (N := some 23) (v := ?_) (a' := ?_) #[true, true, true, true, true, true, true, true, true, true, false] rfl rfl (take_ofW HT_.out HW_.out (by kernel_rfl)) (fun _ _ _ h => h) (Or.inl ⟨by rfl, ?_⟩) hHeld ?_ ?_
          rotate_left
          ·rintro w' ⟨s0, s1, s2, s3, s4, s5⟩
           go_simp
           with_reducible rfl
          rotate_left
          ·simp only [Act.put, zs1, zs2, zs3, i64_w, i32_w]
           rfl
          refine one_ (i := 10) (N := some 24) #[true, true, true, true, true, true, true, true, true, true, true] rfl rfl (one_of HT_.out (by kernel_rfl)) (by decide) (fun K hK => ?_)
          refine goes_ Try.func136 (by kernel_rfl) rfl #[.agg #[.int .i64 ((rd_T61 l0 x9_1).f0), .int .i64 ((rd_T61 l0 x9_1).f1)], .agg #[.int .i64 ((rd_T61 l0 (ji8)).f0), .int .i64 ((rd_T61 l0 (ji8)).f1)], .agg #[.int .i64 a1_0, .int .i64 a1_1]] (by rfl) rfl rfl (by (try simp only [List.map_toArray, List.map_cons, List.map_nil]); first | done | (simp only [hji8]; rfl) | rfl | (simp only [List.length_drop, List.length_take]; rfl)) ?_
          with_reducible refine (spec_l02On.calls ((rd_T61 l0 x9_1).f0) ((rd_T61 l0 x9_1).f1) ((rd_T61 l0 (ji8)).f0) ((rd_T61 l0 (ji8)).f1) a1_0 a1_1 false _ A11.out).mono ?_
          rintro e w24 ⟨rfl, hb⟩
          refine ⟨_, rfl, ?_⟩
          have n0_ := zm1 (zd1 (zb4 BK137.out) hb)
          have n1_ := zm1 (zd1 (zb4 BK139.out) hb)
          have n2_ := zm1 (zc6 (by repeat (first | (with_reducible first | exact HB.out | apply zc1 | apply zc2 | apply zc3 | refine zc4 ?_ GE137.out | refine zc4 ?_ GE139.out) | exact HB.out)) hb)
          clear BK137
          clear BK139
          clear HB
          have BK137 := n0_
          have BK139 := n1_
          have HB := n2_
          clear n0_ n1_ n2_
          (try clear hb)
          (try clear hb2)
          (try clear hk)
          (try clear hi)
          refine hK.out _ _ ⟨(blk_cell BK139.out 0).trans rfl, (blk_cell BK139.out 1).trans rfl, (blk_cell BK137.out 0).trans rfl, (blk_cell BK137.out 1).trans rfl, ((HB.out.cell (zl hw140_0)).trans hw140_0), ((HB.out.cell (zl hw140_1)).trans hw140_1)⟩ (fun hHeld => ?_)
          clear hK K
          refine norm_ (a' := ?_) ?_ ?_
          rotate_left
          ·show Act.put _ (some 24) _ = _
           simp only [Act.put, zs1, zs2, zs3, i64_w, i32_w]
           rfl
          refine done_ (done_of HT_.out (by kernel_rfl)) ?_
          try go_wp2
          go_roundg k1
          case measure => have := HK1.out; omega
          case rel => exact ⟨(wrap64 (x9_1 + 1)), (by first | rfl | (simp; done) | (simp [*]; done)), H', ⟨by have := HK1.out; omega⟩, ⟨by (with_reducible repeat (first | apply zb1 | apply zb2 | apply zb3)); exact BK137.out⟩, ⟨by repeat (first | (with_reducible first | exact HB.out | apply zc1 | apply zc2 | apply zc3 | refine zc4 ?_ GE137.out | refine zc4 ?_ GE139.out) | exact HB.out)⟩⟩
        ·rw [if_neg c10] at H
         exact absurd H (by simp)
       ·rw [if_neg c9] at H
        exact absurd H (by simp)
     ·rw [if_neg c6] at H
      exact absurd H (by simp)
    ·rw [if_neg c5] at H
     exact absurd H (by simp)
   ·rw [if_neg c4] at H
    have c4b0 : decide (x9_1 < (l0.length : Int)) = false := decide_eq_false c4
    clear c4
    obtain rfl := Option.some.inj H
    go_wp2
    go_ret
    exact ⟨by first | rfl | (simp [errW_none, errW_some] <;> rfl) | (simp [*, errW_none, errW_some] <;> rfl), by repeat (first | (with_reducible first | exact HB.out | apply zc1 | apply zc2 | apply zc3 | refine zc4 ?_ GE137.out) | exact HB.out)⟩

/-! ### spec_l03Inside: function 126 -/
def spec_l03Inside.l0 : Nat → List (S61) → Bool → List (S61) → Int → Int → Int → Int → Option (Bool)
 | 0, _, _, _, _, _, _, _ => none
 | k + 1, x0, x5, x13, x14, x15, x143000, x143001 => if x15 < x14 then (if 0 ≤ x15 then (if x15 < (x13.length : Int) then (if (x0.length : Int) = 0 then (none) else (if 0 ≤ (Int.tmod (wrap64 (x15 + 1)) (x0.length : Int)) then (if (Int.tmod (wrap64 (x15 + 1)) (x0.length : Int)) < (x0.length : Int) then (if ((decide (((rd_T61 x13 x15).f1) > x143001)) != (decide (((rd_T61 x0 (Int.tmod (wrap64 (x15 + 1)) (x0.length : Int))).f1) > x143001))) = true then ((spec_l02Cross.f ((rd_T61 x13 x15).f0) ((rd_T61 x13 x15).f1) ((rd_T61 x0 (Int.tmod (wrap64 (x15 + 1)) (x0.length : Int))).f0) ((rd_T61 x0 (Int.tmod (wrap64 (x15 + 1)) (x0.length : Int))).f1) x143000 x143001).bind fun t148 => (if ((rd_T61 x0 (Int.tmod (wrap64 (x15 + 1)) (x0.length : Int))).f1) > ((rd_T61 x13 x15).f1) then (if t148 > 0 then (spec_l03Inside.l0 k x0 (!x5) x13 x14 (wrap64 (x15 + 1)) x143000 x143001) else (if ((rd_T61 x0 (Int.tmod (wrap64 (x15 + 1)) (x0.length : Int))).f1) < ((rd_T61 x13 x15).f1) then (if t148 < 0 then (spec_l03Inside.l0 k x0 (!x5) x13 x14 (wrap64 (x15 + 1)) x143000 x143001) else (spec_l03Inside.l0 k x0 x5 x13 x14 (wrap64 (x15 + 1)) x143000 x143001)) else (spec_l03Inside.l0 k x0 x5 x13 x14 (wrap64 (x15 + 1)) x143000 x143001))) else (if ((rd_T61 x0 (Int.tmod (wrap64 (x15 + 1)) (x0.length : Int))).f1) < ((rd_T61 x13 x15).f1) then (if t148 < 0 then (spec_l03Inside.l0 k x0 (!x5) x13 x14 (wrap64 (x15 + 1)) x143000 x143001) else (spec_l03Inside.l0 k x0 x5 x13 x14 (wrap64 (x15 + 1)) x143000 x143001)) else (spec_l03Inside.l0 k x0 x5 x13 x14 (wrap64 (x15 + 1)) x143000 x143001)))) else (spec_l03Inside.l0 k x0 x5 x13 x14 (wrap64 (x15 + 1)) x143000 x143001)) else (none)) else (none))) else (none)) else (none)) else (some x5)
def spec_l03Inside.f (k : Nat) (l0 : List (S61)) (a1_0 : Int) (a1_1 : Int) : Option (Bool) := (spec_l03OnRim.f k l0 a1_0 a1_1).bind fun t143 => (if t143 = true then (some true) else (spec_l03Inside.l0 k l0 false l0 (l0.length : Int) 0 a1_0 a1_1))
theorem spec_l03Inside.mono_l : ∀ k, (∀ y0 y1 y2 y3 y4 y5 y6, LeO (spec_l03Inside.l0 k y0 y1 y2 y3 y4 y5 y6) (spec_l03Inside.l0 (k + 1) y0 y1 y2 y3 y4 y5 y6))
 | 0 => fun _ _ _ _ _ _ _ r h => by simp [spec_l03Inside.l0] at h
 | k + 1 => by
  have ih0 := spec_l03Inside.mono_l k
  ·intro y0 y1 y2 y3 y4 y5 y6
   unfold spec_l03Inside.l0
   repeat' first
   | (with_reducible exact ih0 _ _ _ _ _ _ _)
   | (with_reducible exact spec_l03OnRim.mono _ _ _ _)
   | (with_reducible exact LeO.refl _)
   | (with_reducible exact LeO.none _)
   | (with_reducible refine LeO.ite ?_ ?_)
   | (with_reducible refine LeO.bind ?_ (fun _ => ?_))
   | exact ih0 _ _ _ _ _ _ _
   | exact spec_l03OnRim.mono _ _ _ _
   | exact LeO.none _
   | refine LeO.ite ?_ ?_
   | refine LeO.bind ?_ (fun _ => ?_)
theorem spec_l03Inside.mono : ∀ a0 a1 a2 k, LeO (spec_l03Inside.f k a0 a1 a2) (spec_l03Inside.f (k + 1) a0 a1 a2) := by
 intro a0 a1 a2 k
 have ih0 := spec_l03Inside.mono_l k
 unfold spec_l03Inside.f
 repeat' first
   | (with_reducible exact ih0 _ _ _ _ _ _ _)
   | (with_reducible exact spec_l03OnRim.mono _ _ _ _)
   | (with_reducible exact LeO.refl _)
   | (with_reducible exact LeO.none _)
   | (with_reducible refine LeO.ite ?_ ?_)
   | (with_reducible refine LeO.bind ?_ (fun _ => ?_))
   | exact ih0 _ _ _ _ _ _ _
   | exact spec_l03OnRim.mono _ _ _ _
   | exact LeO.none _
   | refine LeO.ite ?_ ?_
   | refine LeO.bind ?_ (fun _ => ?_)
set_option maxHeartbeats 8000000 in
set_option maxRecDepth 100000 in
theorem spec_l03Inside.calls (k : Nat) (A0 : Option Addr) (c0 : Nat) (l0 : List (S61)) (a1_0 : Int) (a1_1 : Int) (r : Bool) (w : World) (hr0 : Kd.C k61 w A0 l0.length l0) (hc0 : l0.length ≤ c0) (h : spec_l03Inside.f k l0 a1_0 a1_1 = some r) :
  Calls Try.prog 126 #[.slice A0 l0.length c0, .agg #[.int .i64 a1_0, .int .i64 a1_1]] w fun e w' => e = .returned (.bool r) ∧ Below w.heap.size w w' := by
 have hu61 := Try.underlying61
 have HR0 := zm1 hr0
 have HC0 := zm1 hc0
 clear hr0 hc0
 have HB := zm1 (Below.refl w.heap.size w)
 have H : ((spec_l03OnRim.f k l0 a1_0 a1_1).bind fun t143 => (if t143 = true then (some true) else (spec_l03Inside.l0 k l0 false l0 (l0.length : Int) 0 a1_0 a1_1))) = some r := h
 clear h
 replace H := Option.bind_eq_some_iff.mp H
 obtain ⟨t143, A30, H⟩ := H
 replace H : (if t143 = true then (some true) else (spec_l03Inside.l0 k l0 false l0 (l0.length : Int) 0 a1_0 a1_1)) = some r := H
 have A3 := zm1 A30
 clear A30
 by_cases c4 : t143 = true
 ·subst c4
  have H1 : (some true) = some r := by rw [if_pos rfl] at H; exact H
  clear H
  have H := H1
  clear H1
  obtain rfl := Option.some.inj H
  go_enter Try.func126, Try.ntmps126
  go_wp2_with (first | ((with_reducible refine gate_dst (N := 3) rfl ?_); refine box_event ?hg (N := 3) ?hd (cs := #[.int .i64 a1_0, .int .i64 a1_1]) (t := 61) ?hr ?_; (case hd => rfl); (case hg => rfl); (case hr => first | (go_simp; done) | (go_simp; rfl)); intro gb142 hg w5 hbox hb; have n0_ := zm1 (zc6 (by repeat (first | (with_reducible first | exact HB.out | apply zc1 | apply zc2 | apply zc3) | exact HB.out)) hb); have n1_ := zm1 (hbox); have n2_ := zm1 ((by rw [hg]; exact (zc5 (by repeat (first | (with_reducible first | exact HB.out | apply zc1 | apply zc2 | apply zc3) | exact HB.out))) : w.heap.size ≤ gb142)); have n3_ := zm1 ((by rw [hg]; exact (zc5 (by repeat (first | (with_reducible first | exact HB.out | apply zc1 | apply zc2 | apply zc3) | exact HB.out))) : w.heap.size ≤ gb142)); clear HB; have HB := n0_; have BK142 := n1_; have GW142 := n2_; have GE142 := n3_; clear n0_ n1_ n2_ n3_; clear hb hbox hg; have hcz6_0 : w5.cell? ⟨gb142, 0, none⟩ = some (.int .i64 a1_0) := (blk_cell BK142.out 0).trans rfl; have hcz6_1 : w5.cell? ⟨gb142, 1, none⟩ = some (.int .i64 a1_1) := (blk_cell BK142.out 1).trans rfl; have hfz6_0 := blk_frozen BK142.out 0; have hfz6_1 := blk_frozen BK142.out 1) | ((with_reducible refine gate_callee (f := 137) rfl ?_); refine goesL_ (some 12) rfl rfl Try.func137 (by kernel_rfl) rfl #[.slice A0 l0.length c0, .agg #[.int .i64 a1_0, .int .i64 a1_1]] rfl (by (try simp only [List.map_toArray, List.map_cons, List.map_nil]); first | done | rfl | (simp only [List.length_drop, List.length_take]; rfl)) ?_; (with_reducible refine (spec_l03OnRim.calls k _ _ l0 a1_0 a1_1 true _ ?side1 ?side2 A3.out).mono ?_); (case side1 => repeat (first | exact (Kd.C_below HR0.out HB.out) | (with_reducible refine Kd.C_alloc ?_ _) | (with_reducible refine Kd.C_drewN ?_ _) | (with_reducible refine Kd.C_drew ?_))); (case side2 => exact HC0.out); rintro e w7 ⟨rfl, hb⟩; refine ⟨_, rfl, ?_⟩; have n0_ := zm1 (zd1 (zb4 BK142.out) hb); have n1_ := zm1 (zc6 (by repeat (first | (with_reducible first | exact HB.out | apply zc1 | apply zc2 | apply zc3 | refine zc4 ?_ GE142.out) | exact HB.out)) hb); clear BK142; clear HB; have BK142 := n0_; have HB := n1_; clear n0_ n1_; (try clear hb); (try clear hb2); (try clear hk); (try clear hi)))
  go_ret
  exact ⟨by first | rfl | (simp [errW_none, errW_some] <;> rfl) | (simp [*, errW_none, errW_some] <;> rfl), by repeat (first | (with_reducible first | exact HB.out | apply zc1 | apply zc2 | apply zc3 | refine zc4 ?_ GE142.out) | exact HB.out)⟩
 ·replace c4 := Bool.eq_false_iff.mpr c4
  subst c4
  have H1 : (spec_l03Inside.l0 k l0 false l0 (l0.length : Int) 0 a1_0 a1_1) = some r := by rw [if_neg (show ¬ (false = true) by decide)] at H; exact H
  clear H
  have H := H1
  clear H1
  have H' := zm1 H
  clear H
  go_enter Try.func126, Try.ntmps126
  go_wp2_with (first | ((with_reducible refine gate_dst (N := 3) rfl ?_); refine box_event ?hg (N := 3) ?hd (cs := #[.int .i64 a1_0, .int .i64 a1_1]) (t := 61) ?hr ?_; (case hd => rfl); (case hg => rfl); (case hr => first | (go_simp; done) | (go_simp; rfl)); intro gb142 hg w8 hbox hb; have n0_ := zm1 (zc6 (by repeat (first | (with_reducible first | exact HB.out | apply zc1 | apply zc2 | apply zc3) | exact HB.out)) hb); have n1_ := zm1 (hbox); have n2_ := zm1 ((by rw [hg]; exact (zc5 (by repeat (first | (with_reducible first | exact HB.out | apply zc1 | apply zc2 | apply zc3) | exact HB.out))) : w.heap.size ≤ gb142)); have n3_ := zm1 ((by rw [hg]; exact (zc5 (by repeat (first | (with_reducible first | exact HB.out | apply zc1 | apply zc2 | apply zc3) | exact HB.out))) : w.heap.size ≤ gb142)); clear HB; have HB := n0_; have BK142 := n1_; have GW142 := n2_; have GE142 := n3_; clear n0_ n1_ n2_ n3_; clear hb hbox hg; have hcz9_0 : w8.cell? ⟨gb142, 0, none⟩ = some (.int .i64 a1_0) := (blk_cell BK142.out 0).trans rfl; have hcz9_1 : w8.cell? ⟨gb142, 1, none⟩ = some (.int .i64 a1_1) := (blk_cell BK142.out 1).trans rfl; have hfz9_0 := blk_frozen BK142.out 0; have hfz9_1 := blk_frozen BK142.out 1) | ((with_reducible refine gate_callee (f := 137) rfl ?_); refine goesL_ (some 12) rfl rfl Try.func137 (by kernel_rfl) rfl #[.slice A0 l0.length c0, .agg #[.int .i64 a1_0, .int .i64 a1_1]] rfl (by (try simp only [List.map_toArray, List.map_cons, List.map_nil]); first | done | rfl | (simp only [List.length_drop, List.length_take]; rfl)) ?_; (with_reducible refine (spec_l03OnRim.calls k _ _ l0 a1_0 a1_1 false _ ?side1 ?side2 A3.out).mono ?_); (case side1 => repeat (first | exact (Kd.C_below HR0.out HB.out) | (with_reducible refine Kd.C_alloc ?_ _) | (with_reducible refine Kd.C_drewN ?_ _) | (with_reducible refine Kd.C_drew ?_))); (case side2 => exact HC0.out); rintro e w10 ⟨rfl, hb⟩; refine ⟨_, rfl, ?_⟩; have n0_ := zm1 (zd1 (zb4 BK142.out) hb); have n1_ := zm1 (zc6 (by repeat (first | (with_reducible first | exact HB.out | apply zc1 | apply zc2 | apply zc3 | refine zc4 ?_ GE142.out) | exact HB.out)) hb); clear BK142; clear HB; have BK142 := n0_; have HB := n1_; clear n0_ n1_; (try clear hb); (try clear hb2); (try clear hk); (try clear hi)))
  go_loopg [5, 15] k (fun kq v5 v15 w' => ∃ (x5_1 : Bool) (x15_1 : Int), v5 = .bool x5_1 ∧ v15 = .int .i64 x15_1 ∧ Aside0 (spec_l03Inside.l0 kq l0 x5_1 l0 (l0.length : Int) x15_1 a1_0 a1_1 = some r) ∧ Aside0 (kq ≤ k) ∧ Aside0 (w'.heap[gb142]? = some (.cells #[.int .i64 a1_0, .int .i64 a1_1] 61 (0, 0))) ∧ Aside0 (Below w.heap.size w w'))
  case atStart => exact ⟨(false), (0), (by first | rfl | (simp; done) | (simp [*]; done)), (by first | rfl | (simp; done) | (simp [*]; done)), H', ⟨Nat.le_refl _⟩, ⟨by (with_reducible repeat (first | apply zb1 | apply zb2 | apply zb3)); exact BK142.out⟩, ⟨by repeat (first | (with_reducible first | exact HB.out | apply zc1 | apply zc2 | apply zc3 | refine zc4 ?_ GE142.out) | exact HB.out)⟩⟩
  case round =>
   clear H'
   try clear c1
   try clear p2
   try clear c4
   try clear hcz6_0
   try clear hcz6_1
   try clear hcz9_0
   try clear hcz9_1
   try clear hfz6_0
   try clear hfz6_1
   try clear hfz9_0
   try clear hfz9_1
   obtain ⟨x5_1, x15_1, rfl, rfl, HA, HK1, BK142, HB⟩ := hrel
   cases gk with
   | zero => exact absurd HA.out (by simp [spec_l03Inside.l0])
   | succ k1 =>
    have H := HA.out
    clear HA
    simp only [spec_l03Inside.l0] at H
    by_cases c11 : x15_1 < (l0.length : Int)
    ·rw [if_pos c11] at H
     have c11b0 : decide (x15_1 < (l0.length : Int)) = true := decide_eq_true c11
     clear c11
     by_cases c12 : 0 ≤ x15_1
     ·rw [if_pos c12] at H
      have c12b0 : decide (0 ≤ x15_1) = true := decide_eq_true c12
      clear c12
      by_cases c13 : x15_1 < (l0.length : Int)
      ·rw [if_pos c13] at H
       have c13b0 : decide (x15_1 < (l0.length : Int)) = true := decide_eq_true c13
       clear c13
       by_cases c14 : (l0.length : Int) = 0
       ·rw [if_pos c14] at H
        exact absurd H (by simp)
       ·rw [if_neg c14] at H
        have c14b0 : ((l0.length : Int) == 0) = false := beq_eq_false_iff_ne.mpr c14
        have c14b1 : ((l0.length : Int) != 0) = true := bne_iff_ne.mpr c14
        have c14b2 : ¬ (l0 = []) := fun h_ => c14 (by rw [h_]; rfl)
        obtain ⟨ji15, hji15⟩ : ∃ j_ : Int, (Int.tmod (wrap64 (x15_1 + 1)) (l0.length : Int)) = j_ := ⟨_, rfl⟩
        replace H : (if 0 ≤ (ji15) then (if (ji15) < (l0.length : Int) then (if ((decide (((rd_T61 l0 x15_1).f1) > a1_1)) != (decide (((rd_T61 l0 (ji15)).f1) > a1_1))) = true then ((spec_l02Cross.f ((rd_T61 l0 x15_1).f0) ((rd_T61 l0 x15_1).f1) ((rd_T61 l0 (ji15)).f0) ((rd_T61 l0 (ji15)).f1) a1_0 a1_1).bind fun t148 => (if ((rd_T61 l0 (ji15)).f1) > ((rd_T61 l0 x15_1).f1) then (if t148 > 0 then (spec_l03Inside.l0 k1 l0 (!x5_1) l0 (l0.length : Int) (wrap64 (x15_1 + 1)) a1_0 a1_1) else (if ((rd_T61 l0 (ji15)).f1) < ((rd_T61 l0 x15_1).f1) then (if t148 < 0 then (spec_l03Inside.l0 k1 l0 (!x5_1) l0 (l0.length : Int) (wrap64 (x15_1 + 1)) a1_0 a1_1) else (spec_l03Inside.l0 k1 l0 x5_1 l0 (l0.length : Int) (wrap64 (x15_1 + 1)) a1_0 a1_1)) else (spec_l03Inside.l0 k1 l0 x5_1 l0 (l0.length : Int) (wrap64 (x15_1 + 1)) a1_0 a1_1))) else (if ((rd_T61 l0 (ji15)).f1) < ((rd_T61 l0 x15_1).f1) then (if t148 < 0 then (spec_l03Inside.l0 k1 l0 (!x5_1) l0 (l0.length : Int) (wrap64 (x15_1 + 1)) a1_0 a1_1) else (spec_l03Inside.l0 k1 l0 x5_1 l0 (l0.length : Int) (wrap64 (x15_1 + 1)) a1_0 a1_1)) else (spec_l03Inside.l0 k1 l0 x5_1 l0 (l0.length : Int) (wrap64 (x15_1 + 1)) a1_0 a1_1)))) else (spec_l03Inside.l0 k1 l0 x5_1 l0 (l0.length : Int) (wrap64 (x15_1 + 1)) a1_0 a1_1)) else (none)) else (none)) = some r := by first | (rw [hji15] at H; exact H) | (simp only [hji15] at H ⊢; exact H)
        by_cases c16 : 0 ≤ (ji15)
        ·rw [if_pos c16] at H
         have c16b0 : decide (0 ≤ (ji15)) = true := decide_eq_true c16
         clear c16
         by_cases c17 : (ji15) < (l0.length : Int)
         ·rw [if_pos c17] at H
          have c17b0 : decide ((ji15) < (l0.length : Int)) = true := decide_eq_true c17
          clear c17
          by_cases c18 : ((decide (((rd_T61 l0 x15_1).f1) > a1_1)) != (decide (((rd_T61 l0 (ji15)).f1) > a1_1))) = true
          ·rw [if_pos c18] at H
           have c18b0 : ((decide (((rd_T61 l0 x15_1).f1) > a1_1)) != (decide (((rd_T61 l0 (ji15)).f1) > a1_1))) = true := c18
           (try (have c18b1 : decide ((decide (((rd_T61 l0 x15_1).f1) > a1_1)) = (decide (((rd_T61 l0 (ji15)).f1) > a1_1))) = false := by simpa using c18))
           (try (have c18b2 : ((decide (((rd_T61 l0 x15_1).f1) > a1_1)) == (decide (((rd_T61 l0 (ji15)).f1) > a1_1))) = false := by simpa using c18))
           (try (have c18b3 : ¬ ((decide (((rd_T61 l0 x15_1).f1) > a1_1)) = (decide (((rd_T61 l0 (ji15)).f1) > a1_1))) := by simpa using c18))
           clear c18
           replace H := Option.bind_eq_some_iff.mp H
           obtain ⟨t148, A190, H⟩ := H
           replace H : (if ((rd_T61 l0 (ji15)).f1) > ((rd_T61 l0 x15_1).f1) then (if t148 > 0 then (spec_l03Inside.l0 k1 l0 (!x5_1) l0 (l0.length : Int) (wrap64 (x15_1 + 1)) a1_0 a1_1) else (if ((rd_T61 l0 (ji15)).f1) < ((rd_T61 l0 x15_1).f1) then (if t148 < 0 then (spec_l03Inside.l0 k1 l0 (!x5_1) l0 (l0.length : Int) (wrap64 (x15_1 + 1)) a1_0 a1_1) else (spec_l03Inside.l0 k1 l0 x5_1 l0 (l0.length : Int) (wrap64 (x15_1 + 1)) a1_0 a1_1)) else (spec_l03Inside.l0 k1 l0 x5_1 l0 (l0.length : Int) (wrap64 (x15_1 + 1)) a1_0 a1_1))) else (if ((rd_T61 l0 (ji15)).f1) < ((rd_T61 l0 x15_1).f1) then (if t148 < 0 then (spec_l03Inside.l0 k1 l0 (!x5_1) l0 (l0.length : Int) (wrap64 (x15_1 + 1)) a1_0 a1_1) else (spec_l03Inside.l0 k1 l0 x5_1 l0 (l0.length : Int) (wrap64 (x15_1 + 1)) a1_0 a1_1)) else (spec_l03Inside.l0 k1 l0 x5_1 l0 (l0.length : Int) (wrap64 (x15_1 + 1)) a1_0 a1_1))) = some r := H
           have A19 := zm1 A190
           clear A190
           by_cases c20 : ((rd_T61 l0 (ji15)).f1) > ((rd_T61 l0 x15_1).f1)
           ·rw [if_pos c20] at H
            have c20b0 : decide (((rd_T61 l0 x15_1).f1) < ((rd_T61 l0 (ji15)).f1)) = true := decide_eq_true c20
            clear c20
            by_cases c21 : t148 > 0
            ·rw [if_pos c21] at H
             have c21b0 : decide (0 < t148) = true := decide_eq_true c21
             clear c21
             have H' := zm1 H
             clear H
             have p144 : 0 ≤ (x15_1 : Int) := of_decide_eq_true (by assumption)
             have q144 : x15_1 < (l0.length : Int) := of_decide_eq_true (by assumption)
             obtain ⟨ad144, e144, hx144_0, hx144_1⟩ := at_T61 HR0.out x15_1 p144 q144
             cases e144
             (try replace hx144_0 := (HB.out.cell (zl hx144_0)).trans hx144_0)
             (try replace hx144_1 := (HB.out.cell (zl hx144_1)).trans hx144_1)
             replace p144 := eq_true p144
             replace q144 := eq_true q144
             go_wp2_with (first | ((with_reducible refine gate_dst (N := 7) rfl ?_); refine box_event ?hg (N := 7) ?hd (cs := #[.int .i64 0, .int .i64 0]) (t := 61) ?hr ?_; (case hd => rfl); (case hg => rfl); (case hr => first | (go_simp; done) | (go_simp; rfl)); intro gb145 hg w22 hbox hb; have n0_ := zm1 (zd1 (zb4 BK142.out) hb); have n1_ := zm1 (zc6 (by repeat (first | (with_reducible first | exact HB.out | apply zc1 | apply zc2 | apply zc3 | refine zc4 ?_ GE142.out) | exact HB.out)) hb); have n2_ := zm1 (hbox); have n3_ := zm1 ((by rw [hg]; exact (zc5 (by repeat (first | (with_reducible first | exact HB.out | apply zc1 | apply zc2 | apply zc3 | refine zc4 ?_ GE142.out) | exact HB.out))) : w.heap.size ≤ gb145)); have n4_ := zm1 ((by rw [hg]; exact (zc5 (by repeat (first | (with_reducible first | exact HB.out | apply zc1 | apply zc2 | apply zc3 | refine zc4 ?_ GE142.out) | exact HB.out))) : w.heap.size ≤ gb145)); have n5_ := zm1 ((by rw [hg]; exact Nat.ne_of_lt (zd2 (zb4 BK142.out)) : gb142 ≠ gb145)); have n6_ := zm1 ((by rw [hg]; exact Nat.ne_of_gt (zd2 (zb4 BK142.out)) : gb145 ≠ gb142)); clear BK142; clear HB; have BK142 := n0_; have HB := n1_; have BK145 := n2_; have GW145 := n3_; have GE145 := n4_; have NB142_145 := n5_; have NB145_142 := n6_; clear n0_ n1_ n2_ n3_ n4_ n5_ n6_; clear hb hbox hg; have hnb23 := NB145_142.out; have hnc23 := NB142_145.out; have hcz24_0 : w22.cell? ⟨gb145, 0, none⟩ = some (.int .i64 0) := (blk_cell BK145.out 0).trans rfl; have hcz24_1 : w22.cell? ⟨gb145, 1, none⟩ = some (.int .i64 0) := (blk_cell BK145.out 1).trans rfl; have hfz24_0 := blk_frozen BK145.out 0; have hfz24_1 := blk_frozen BK145.out 1; have p146 : 0 ≤ ((ji15) : Int) := of_decide_eq_true (by assumption); have q146 : (ji15) < (l0.length : Int) := of_decide_eq_true (by assumption); obtain ⟨ad146, e146, hx146_0, hx146_1⟩ := at_T61 HR0.out (ji15) p146 q146; obtain rfl : ad144 = ad146 := (by injection e146); have hn146_0 : ad144.block ≠ gb145 := Nat.ne_of_lt (Nat.lt_of_lt_of_le (by have := zl hx146_0; first | rwa [add_block] at this | exact this) GW145.out); have hn146_1 : ad144.block ≠ gb145 := Nat.ne_of_lt (Nat.lt_of_lt_of_le (by have := zl hx146_0; first | rwa [add_block] at this | exact this) GW145.out); (try replace hx146_0 := (HB.out.cell (zl hx146_0)).trans hx146_0); (try replace hx146_1 := (HB.out.cell (zl hx146_1)).trans hx146_1); replace hx146_0 := (cell_far (p := ⟨gb145, 0, none⟩) (by first | (rw [add_block]; exact hn146_0) | (show (Addr.add _ _).block ≠ _; rw [add_block]; exact hn146_0) | exact hn146_0) (.int .i64 ((rd_T61 l0 x15_1).f0))).trans hx146_0; replace hx146_1 := (cell_far (p := ⟨gb145, 0, none⟩) (by first | (rw [add_block]; exact hn146_0) | (show (Addr.add _ _).block ≠ _; rw [add_block]; exact hn146_0) | exact hn146_0) (.int .i64 ((rd_T61 l0 x15_1).f0))).trans hx146_1; replace hx146_0 := (cell_far (p := ⟨gb145, 1, none⟩) (by first | (rw [add_block]; exact hn146_1) | (show (Addr.add _ _).block ≠ _; rw [add_block]; exact hn146_1) | exact hn146_1) (.int .i64 ((rd_T61 l0 x15_1).f1))).trans hx146_0; replace hx146_1 := (cell_far (p := ⟨gb145, 1, none⟩) (by first | (rw [add_block]; exact hn146_1) | (show (Addr.add _ _).block ≠ _; rw [add_block]; exact hn146_1) | exact hn146_1) (.int .i64 ((rd_T61 l0 x15_1).f1))).trans hx146_1; clear hn146_0; clear hn146_1; replace p146 := eq_true p146; replace q146 := eq_true q146) | ((with_reducible refine gate_dst (N := 8) rfl ?_); refine box_event ?hg (N := 8) ?hd (cs := #[.int .i64 0, .int .i64 0]) (t := 61) ?hr ?_; (case hd => rfl); (case hg => rfl); (case hr => first | (go_simp; done) | (go_simp; rfl)); intro gb147 hg w25 hbox hb; have n0_ := zm1 (zd1 (o := .cells #[.int .i64 a1_0, .int .i64 a1_1] 61 (0, 0)) (by (with_reducible repeat (first | apply zb1 | apply zb2 | apply zb3)); refine blk_far ?_ NB142_145.out _; (with_reducible repeat (first | apply zb1 | apply zb2 | apply zb3)); refine blk_far ?_ NB142_145.out _; (with_reducible repeat (first | apply zb1 | apply zb2 | apply zb3)); exact BK142.out) hb); have n1_ := zm1 (zd1 (o := .cells #[.int .i64 ((rd_T61 l0 x15_1).f0), .int .i64 ((rd_T61 l0 x15_1).f1)] 61 (0, 0)) (by (with_reducible repeat (first | apply zb1 | apply zb2 | apply zb3)); refine blk_put (cs := #[.int .i64 ((rd_T61 l0 x15_1).f0), .int .i64 0]) ?_ 1 _ rfl; (with_reducible repeat (first | apply zb1 | apply zb2 | apply zb3)); refine blk_put (cs := #[.int .i64 0, .int .i64 0]) ?_ 0 _ rfl; (with_reducible repeat (first | apply zb1 | apply zb2 | apply zb3)); exact BK145.out) hb); have n2_ := zm1 (zc6 (by repeat (first | (with_reducible first | exact HB.out | apply zc1 | apply zc2 | apply zc3 | refine zc4 ?_ GE142.out | refine zc4 ?_ GE145.out) | exact HB.out)) hb); have n3_ := zm1 (hbox); have n4_ := zm1 ((by rw [hg]; exact (zc5 (by repeat (first | (with_reducible first | exact HB.out | apply zc1 | apply zc2 | apply zc3 | refine zc4 ?_ GE142.out | refine zc4 ?_ GE145.out) | exact HB.out))) : w.heap.size ≤ gb147)); have n5_ := zm1 ((by rw [hg]; exact (zc5 (by repeat (first | (with_reducible first | exact HB.out | apply zc1 | apply zc2 | apply zc3 | refine zc4 ?_ GE142.out | refine zc4 ?_ GE145.out) | exact HB.out))) : w.heap.size ≤ gb147)); have n6_ := zm1 ((by rw [hg]; exact Nat.ne_of_lt (zd2 (o := .cells #[.int .i64 a1_0, .int .i64 a1_1] 61 (0, 0)) (by (with_reducible repeat (first | apply zb1 | apply zb2 | apply zb3)); refine blk_far ?_ NB142_145.out _; (with_reducible repeat (first | apply zb1 | apply zb2 | apply zb3)); refine blk_far ?_ NB142_145.out _; (with_reducible repeat (first | apply zb1 | apply zb2 | apply zb3)); exact BK142.out)) : gb142 ≠ gb147)); have n7_ := zm1 ((by rw [hg]; exact Nat.ne_of_gt (zd2 (o := .cells #[.int .i64 a1_0, .int .i64 a1_1] 61 (0, 0)) (by (with_reducible repeat (first | apply zb1 | apply zb2 | apply zb3)); refine blk_far ?_ NB142_145.out _; (with_reducible repeat (first | apply zb1 | apply zb2 | apply zb3)); refine blk_far ?_ NB142_145.out _; (with_reducible repeat (first | apply zb1 | apply zb2 | apply zb3)); exact BK142.out)) : gb147 ≠ gb142)); have n8_ := zm1 ((by rw [hg]; exact Nat.ne_of_lt (zd2 (o := .cells #[.int .i64 ((rd_T61 l0 x15_1).f0), .int .i64 ((rd_T61 l0 x15_1).f1)] 61 (0, 0)) (by (with_reducible repeat (first | apply zb1 | apply zb2 | apply zb3)); refine blk_put (cs := #[.int .i64 ((rd_T61 l0 x15_1).f0), .int .i64 0]) ?_ 1 _ rfl; (with_reducible repeat (first | apply zb1 | apply zb2 | apply zb3)); refine blk_put (cs := #[.int .i64 0, .int .i64 0]) ?_ 0 _ rfl; (with_reducible repeat (first | apply zb1 | apply zb2 | apply zb3)); exact BK145.out)) : gb145 ≠ gb147)); have n9_ := zm1 ((by rw [hg]; exact Nat.ne_of_gt (zd2 (o := .cells #[.int .i64 ((rd_T61 l0 x15_1).f0), .int .i64 ((rd_T61 l0 x15_1).f1)] 61 (0, 0)) (by (with_reducible repeat (first | apply zb1 | apply zb2 | apply zb3)); refine blk_put (cs := #[.int .i64 ((rd_T61 l0 x15_1).f0), .int .i64 0]) ?_ 1 _ rfl; (with_reducible repeat (first | apply zb1 | apply zb2 | apply zb3)); refine blk_put (cs := #[.int .i64 0, .int .i64 0]) ?_ 0 _ rfl; (with_reducible repeat (first | apply zb1 | apply zb2 | apply zb3)); exact BK145.out)) : gb147 ≠ gb145)); clear BK142; clear BK145; clear HB; have BK142 := n0_; have BK145 := n1_; have HB := n2_; have BK147 := n3_; have GW147 := n4_; have GE147 := n5_; have NB142_147 := n6_; have NB147_142 := n7_; have NB145_147 := n8_; have NB147_145 := n9_; clear n0_ n1_ n2_ n3_ n4_ n5_ n6_ n7_ n8_ n9_; clear hb hbox hg; have hnb26 := NB147_142.out; have hnc26 := NB142_147.out; have hnb27 := NB147_145.out; have hnc27 := NB145_147.out; have hcz28_0 : w25.cell? ⟨gb147, 0, none⟩ = some (.int .i64 0) := (blk_cell BK147.out 0).trans rfl; have hcz28_1 : w25.cell? ⟨gb147, 1, none⟩ = some (.int .i64 0) := (blk_cell BK147.out 1).trans rfl; have hfz28_0 := blk_frozen BK147.out 0; have hfz28_1 := blk_frozen BK147.out 1; have hcz29_0 : w25.cell? ⟨gb145, 0, none⟩ = some (.int .i64 ((rd_T61 l0 x15_1).f0)) := (blk_cell BK145.out 0).trans rfl; have hcz29_1 : w25.cell? ⟨gb145, 1, none⟩ = some (.int .i64 ((rd_T61 l0 x15_1).f1)) := (blk_cell BK145.out 1).trans rfl; have hfz29_0 := blk_frozen BK145.out 0; have hfz29_1 := blk_frozen BK145.out 1; have hcz30_0 : w25.cell? ⟨gb142, 0, none⟩ = some (.int .i64 a1_0) := (blk_cell BK142.out 0).trans rfl; have hcz30_1 : w25.cell? ⟨gb142, 1, none⟩ = some (.int .i64 a1_1) := (blk_cell BK142.out 1).trans rfl; have hfz30_0 := blk_frozen BK142.out 0; have hfz30_1 := blk_frozen BK142.out 1) | ((with_reducible refine gate_callee (f := 64) rfl ?_); refine goesL_ (some 42) rfl rfl Try.func64 (by kernel_rfl) rfl #[.agg #[.int .i64 ((rd_T61 l0 x15_1).f0), .int .i64 ((rd_T61 l0 x15_1).f1)], .agg #[.int .i64 ((rd_T61 l0 (ji15)).f0), .int .i64 ((rd_T61 l0 (ji15)).f1)], .agg #[.int .i64 a1_0, .int .i64 a1_1]] rfl (by (try simp only [List.map_toArray, List.map_cons, List.map_nil]); first | done | (simp only [hji15]; rfl) | rfl | (simp only [List.length_drop, List.length_take]; rfl)) ?_; (with_reducible refine (spec_l02Cross.calls ((rd_T61 l0 x15_1).f0) ((rd_T61 l0 x15_1).f1) ((rd_T61 l0 (ji15)).f0) ((rd_T61 l0 (ji15)).f1) a1_0 a1_1 t148 _ A19.out).mono ?_); rintro e w31 ⟨rfl, hb⟩; refine ⟨_, rfl, ?_⟩; have n0_ := zm1 (zd1 (o := .cells #[.int .i64 a1_0, .int .i64 a1_1] 61 (0, 0)) (by (with_reducible repeat (first | apply zb1 | apply zb2 | apply zb3)); refine blk_far ?_ NB142_147.out _; (with_reducible repeat (first | apply zb1 | apply zb2 | apply zb3)); refine blk_far ?_ NB142_147.out _; (with_reducible repeat (first | apply zb1 | apply zb2 | apply zb3)); exact BK142.out) hb); have n1_ := zm1 (zd1 (o := .cells #[.int .i64 ((rd_T61 l0 x15_1).f0), .int .i64 ((rd_T61 l0 x15_1).f1)] 61 (0, 0)) (by (with_reducible repeat (first | apply zb1 | apply zb2 | apply zb3)); refine blk_far ?_ NB145_147.out _; (with_reducible repeat (first | apply zb1 | apply zb2 | apply zb3)); refine blk_far ?_ NB145_147.out _; (with_reducible repeat (first | apply zb1 | apply zb2 | apply zb3)); exact BK145.out) hb); have n2_ := zm1 (zd1 (o := .cells #[.int .i64 ((rd_T61 l0 (ji15)).f0), .int .i64 ((rd_T61 l0 (ji15)).f1)] 61 (0, 0)) (by (with_reducible repeat (first | apply zb1 | apply zb2 | apply zb3)); refine blk_put (cs := #[.int .i64 ((rd_T61 l0 (ji15)).f0), .int .i64 0]) ?_ 1 _ rfl; (with_reducible repeat (first | apply zb1 | apply zb2 | apply zb3)); refine blk_put (cs := #[.int .i64 0, .int .i64 0]) ?_ 0 _ rfl; (with_reducible repeat (first | apply zb1 | apply zb2 | apply zb3)); exact BK147.out) hb); have n3_ := zm1 (zc6 (by repeat (first | (with_reducible first | exact HB.out | apply zc1 | apply zc2 | apply zc3 | refine zc4 ?_ GE142.out | refine zc4 ?_ GE145.out | refine zc4 ?_ GE147.out) | exact HB.out)) hb); clear BK142; clear BK145; clear BK147; clear HB; have BK142 := n0_; have BK145 := n1_; have BK147 := n2_; have HB := n3_; clear n0_ n1_ n2_ n3_; (try clear hb); (try clear hb2); (try clear hk); (try clear hi); have hcz32_0 : w31.cell? ⟨gb147, 0, none⟩ = some (.int .i64 ((rd_T61 l0 (ji15)).f0)) := (blk_cell BK147.out 0).trans rfl; have hcz32_1 : w31.cell? ⟨gb147, 1, none⟩ = some (.int .i64 ((rd_T61 l0 (ji15)).f1)) := (blk_cell BK147.out 1).trans rfl; have hfz32_0 := blk_frozen BK147.out 0; have hfz32_1 := blk_frozen BK147.out 1; have hcz33_0 : w31.cell? ⟨gb145, 0, none⟩ = some (.int .i64 ((rd_T61 l0 x15_1).f0)) := (blk_cell BK145.out 0).trans rfl; have hcz33_1 : w31.cell? ⟨gb145, 1, none⟩ = some (.int .i64 ((rd_T61 l0 x15_1).f1)) := (blk_cell BK145.out 1).trans rfl; have hfz33_0 := blk_frozen BK145.out 0; have hfz33_1 := blk_frozen BK145.out 1))
             go_roundg k1
             case measure => have := HK1.out; omega
             case rel => exact ⟨(!x5_1), (wrap64 (x15_1 + 1)), (by first | rfl | (simp; done) | (simp [*]; done)), (by first | rfl | (simp; done) | (simp [*]; done)), H', ⟨by have := HK1.out; omega⟩, ⟨by (with_reducible repeat (first | apply zb1 | apply zb2 | apply zb3)); exact BK142.out⟩, ⟨by repeat (first | (with_reducible first | exact HB.out | apply zc1 | apply zc2 | apply zc3 | refine zc4 ?_ GE142.out | refine zc4 ?_ GE145.out | refine zc4 ?_ GE147.out) | exact HB.out)⟩⟩
            ·rw [if_neg c21] at H
             have c21b0 : decide (0 < t148) = false := decide_eq_false c21
             clear c21
             by_cases c34 : ((rd_T61 l0 (ji15)).f1) < ((rd_T61 l0 x15_1).f1)
             ·rw [if_pos c34] at H
              have c34b0 : decide (((rd_T61 l0 (ji15)).f1) < ((rd_T61 l0 x15_1).f1)) = true := decide_eq_true c34
              clear c34
              by_cases c35 : t148 < 0
              ·rw [if_pos c35] at H
               have c35b0 : decide (t148 < 0) = true := decide_eq_true c35
               clear c35
               have H' := zm1 H
               clear H
               have p144 : 0 ≤ (x15_1 : Int) := of_decide_eq_true (by assumption)
               have q144 : x15_1 < (l0.length : Int) := of_decide_eq_true (by assumption)
               obtain ⟨ad144, e144, hx144_0, hx144_1⟩ := at_T61 HR0.out x15_1 p144 q144
               cases e144
               (try replace hx144_0 := (HB.out.cell (zl hx144_0)).trans hx144_0)
               (try replace hx144_1 := (HB.out.cell (zl hx144_1)).trans hx144_1)
               replace p144 := eq_true p144
               replace q144 := eq_true q144
               go_wp2_with (first | ((with_reducible refine gate_dst (N := 7) rfl ?_); refine box_event ?hg (N := 7) ?hd (cs := #[.int .i64 0, .int .i64 0]) (t := 61) ?hr ?_; (case hd => rfl); (case hg => rfl); (case hr => first | (go_simp; done) | (go_simp; rfl)); intro gb145 hg w36 hbox hb; have n0_ := zm1 (zd1 (zb4 BK142.out) hb); have n1_ := zm1 (zc6 (by repeat (first | (with_reducible first | exact HB.out | apply zc1 | apply zc2 | apply zc3 | refine zc4 ?_ GE142.out) | exact HB.out)) hb); have n2_ := zm1 (hbox); have n3_ := zm1 ((by rw [hg]; exact (zc5 (by repeat (first | (with_reducible first | exact HB.out | apply zc1 | apply zc2 | apply zc3 | refine zc4 ?_ GE142.out) | exact HB.out))) : w.heap.size ≤ gb145)); have n4_ := zm1 ((by rw [hg]; exact (zc5 (by repeat (first | (with_reducible first | exact HB.out | apply zc1 | apply zc2 | apply zc3 | refine zc4 ?_ GE142.out) | exact HB.out))) : w.heap.size ≤ gb145)); have n5_ := zm1 ((by rw [hg]; exact Nat.ne_of_lt (zd2 (zb4 BK142.out)) : gb142 ≠ gb145)); have n6_ := zm1 ((by rw [hg]; exact Nat.ne_of_gt (zd2 (zb4 BK142.out)) : gb145 ≠ gb142)); clear BK142; clear HB; have BK142 := n0_; have HB := n1_; have BK145 := n2_; have GW145 := n3_; have GE145 := n4_; have NB142_145 := n5_; have NB145_142 := n6_; clear n0_ n1_ n2_ n3_ n4_ n5_ n6_; clear hb hbox hg; have hnb37 := NB145_142.out; have hnc37 := NB142_145.out; have hcz38_0 : w36.cell? ⟨gb145, 0, none⟩ = some (.int .i64 0) := (blk_cell BK145.out 0).trans rfl; have hcz38_1 : w36.cell? ⟨gb145, 1, none⟩ = some (.int .i64 0) := (blk_cell BK145.out 1).trans rfl; have hfz38_0 := blk_frozen BK145.out 0; have hfz38_1 := blk_frozen BK145.out 1; have p146 : 0 ≤ ((ji15) : Int) := of_decide_eq_true (by assumption); have q146 : (ji15) < (l0.length : Int) := of_decide_eq_true (by assumption); obtain ⟨ad146, e146, hx146_0, hx146_1⟩ := at_T61 HR0.out (ji15) p146 q146; obtain rfl : ad144 = ad146 := (by injection e146); have hn146_0 : ad144.block ≠ gb145 := Nat.ne_of_lt (Nat.lt_of_lt_of_le (by have := zl hx146_0; first | rwa [add_block] at this | exact this) GW145.out); have hn146_1 : ad144.block ≠ gb145 := Nat.ne_of_lt (Nat.lt_of_lt_of_le (by have := zl hx146_0; first | rwa [add_block] at this | exact this) GW145.out); (try replace hx146_0 := (HB.out.cell (zl hx146_0)).trans hx146_0); (try replace hx146_1 := (HB.out.cell (zl hx146_1)).trans hx146_1); replace hx146_0 := (cell_far (p := ⟨gb145, 0, none⟩) (by first | (rw [add_block]; exact hn146_0) | (show (Addr.add _ _).block ≠ _; rw [add_block]; exact hn146_0) | exact hn146_0) (.int .i64 ((rd_T61 l0 x15_1).f0))).trans hx146_0; replace hx146_1 := (cell_far (p := ⟨gb145, 0, none⟩) (by first | (rw [add_block]; exact hn146_0) | (show (Addr.add _ _).block ≠ _; rw [add_block]; exact hn146_0) | exact hn146_0) (.int .i64 ((rd_T61 l0 x15_1).f0))).trans hx146_1; replace hx146_0 := (cell_far (p := ⟨gb145, 1, none⟩) (by first | (rw [add_block]; exact hn146_1) | (show (Addr.add _ _).block ≠ _; rw [add_block]; exact hn146_1) | exact hn146_1) (.int .i64 ((rd_T61 l0 x15_1).f1))).trans hx146_0; replace hx146_1 := (cell_far (p := ⟨gb145, 1, none⟩) (by first | (rw [add_block]; exact hn146_1) | (show (Addr.add _ _).block ≠ _; rw [add_block]; exact hn146_1) | exact hn146_1) (.int .i64 ((rd_T61 l0 x15_1).f1))).trans hx146_1; clear hn146_0; clear hn146_1; replace p146 := eq_true p146; replace q146 := eq_true q146) | ((with_reducible refine gate_dst (N := 8) rfl ?_); refine box_event ?hg (N := 8) ?hd (cs := #[.int .i64 0, .int .i64 0]) (t := 61) ?hr ?_; (case hd => rfl); (case hg => rfl); (case hr => first | (go_simp; done) | (go_simp; rfl)); intro gb147 hg w39 hbox hb; have n0_ := zm1 (zd1 (o := .cells #[.int .i64 a1_0, .int .i64 a1_1] 61 (0, 0)) (by (with_reducible repeat (first | apply zb1 | apply zb2 | apply zb3)); refine blk_far ?_ NB142_145.out _; (with_reducible repeat (first | apply zb1 | apply zb2 | apply zb3)); refine blk_far ?_ NB142_145.out _; (with_reducible repeat (first | apply zb1 | apply zb2 | apply zb3)); exact BK142.out) hb); have n1_ := zm1 (zd1 (o := .cells #[.int .i64 ((rd_T61 l0 x15_1).f0), .int .i64 ((rd_T61 l0 x15_1).f1)] 61 (0, 0)) (by (with_reducible repeat (first | apply zb1 | apply zb2 | apply zb3)); refine blk_put (cs := #[.int .i64 ((rd_T61 l0 x15_1).f0), .int .i64 0]) ?_ 1 _ rfl; (with_reducible repeat (first | apply zb1 | apply zb2 | apply zb3)); refine blk_put (cs := #[.int .i64 0, .int .i64 0]) ?_ 0 _ rfl; (with_reducible repeat (first | apply zb1 | apply zb2 | apply zb3)); exact BK145.out) hb); have n2_ := zm1 (zc6 (by repeat (first | (with_reducible first | exact HB.out | apply zc1 | apply zc2 | apply zc3 | refine zc4 ?_ GE142.out | refine zc4 ?_ GE145.out) | exact HB.out)) hb); have n3_ := zm1 (hbox); have n4_ := zm1 ((by rw [hg]; exact (zc5 (by repeat (first | (with_reducible first | exact HB.out | apply zc1 | apply zc2 | apply zc3 | refine zc4 ?_ GE142.out | refine zc4 ?_ GE145.out) | exact HB.out))) : w.heap.size ≤ gb147)); have n5_ := zm1 ((by rw [hg]; exact (zc5 (by repeat (first | (with_reducible first | exact HB.out | apply zc1 | apply zc2 | apply zc3 | refine zc4 ?_ GE142.out | refine zc4 ?_ GE145.out) | exact HB.out))) : w.heap.size ≤ gb147)); have n6_ := zm1 ((by rw [hg]; exact Nat.ne_of_lt (zd2 (o := .cells #[.int .i64 a1_0, .int .i64 a1_1] 61 (0, 0)) (by (with_reducible repeat (first | apply zb1 | apply zb2 | apply zb3)); refine blk_far ?_ NB142_145.out _; (with_reducible repeat (first | apply zb1 | apply zb2 | apply zb3)); refine blk_far ?_ NB142_145.out _; (with_reducible repeat (first | apply zb1 | apply zb2 | apply zb3)); exact BK142.out)) : gb142 ≠ gb147)); have n7_ := zm1 ((by rw [hg]; exact Nat.ne_of_gt (zd2 (o := .cells #[.int .i64 a1_0, .int .i64 a1_1] 61 (0, 0)) (by (with_reducible repeat (first | apply zb1 | apply zb2 | apply zb3)); refine blk_far ?_ NB142_145.out _; (with_reducible repeat (first | apply zb1 | apply zb2 | apply zb3)); refine blk_far ?_ NB142_145.out _; (with_reducible repeat (first | apply zb1 | apply zb2 | apply zb3)); exact BK142.out)) : gb147 ≠ gb142)); have n8_ := zm1 ((by rw [hg]; exact Nat.ne_of_lt (zd2 (o := .cells #[.int .i64 ((rd_T61 l0 x15_1).f0), .int .i64 ((rd_T61 l0 x15_1).f1)] 61 (0, 0)) (by (with_reducible repeat (first | apply zb1 | apply zb2 | apply zb3)); refine blk_put (cs := #[.int .i64 ((rd_T61 l0 x15_1).f0), .int .i64 0]) ?_ 1 _ rfl; (with_reducible repeat (first | apply zb1 | apply zb2 | apply zb3)); refine blk_put (cs := #[.int .i64 0, .int .i64 0]) ?_ 0 _ rfl; (with_reducible repeat (first | apply zb1 | apply zb2 | apply zb3)); exact BK145.out)) : gb145 ≠ gb147)); have n9_ := zm1 ((by rw [hg]; exact Nat.ne_of_gt (zd2 (o := .cells #[.int .i64 ((rd_T61 l0 x15_1).f0), .int .i64 ((rd_T61 l0 x15_1).f1)] 61 (0, 0)) (by (with_reducible repeat (first | apply zb1 | apply zb2 | apply zb3)); refine blk_put (cs := #[.int .i64 ((rd_T61 l0 x15_1).f0), .int .i64 0]) ?_ 1 _ rfl; (with_reducible repeat (first | apply zb1 | apply zb2 | apply zb3)); refine blk_put (cs := #[.int .i64 0, .int .i64 0]) ?_ 0 _ rfl; (with_reducible repeat (first | apply zb1 | apply zb2 | apply zb3)); exact BK145.out)) : gb147 ≠ gb145)); clear BK142; clear BK145; clear HB; have BK142 := n0_; have BK145 := n1_; have HB := n2_; have BK147 := n3_; have GW147 := n4_; have GE147 := n5_; have NB142_147 := n6_; have NB147_142 := n7_; have NB145_147 := n8_; have NB147_145 := n9_; clear n0_ n1_ n2_ n3_ n4_ n5_ n6_ n7_ n8_ n9_; clear hb hbox hg; have hnb40 := NB147_142.out; have hnc40 := NB142_147.out; have hnb41 := NB147_145.out; have hnc41 := NB145_147.out; have hcz42_0 : w39.cell? ⟨gb147, 0, none⟩ = some (.int .i64 0) := (blk_cell BK147.out 0).trans rfl; have hcz42_1 : w39.cell? ⟨gb147, 1, none⟩ = some (.int .i64 0) := (blk_cell BK147.out 1).trans rfl; have hfz42_0 := blk_frozen BK147.out 0; have hfz42_1 := blk_frozen BK147.out 1; have hcz43_0 : w39.cell? ⟨gb145, 0, none⟩ = some (.int .i64 ((rd_T61 l0 x15_1).f0)) := (blk_cell BK145.out 0).trans rfl; have hcz43_1 : w39.cell? ⟨gb145, 1, none⟩ = some (.int .i64 ((rd_T61 l0 x15_1).f1)) := (blk_cell BK145.out 1).trans rfl; have hfz43_0 := blk_frozen BK145.out 0; have hfz43_1 := blk_frozen BK145.out 1; have hcz44_0 : w39.cell? ⟨gb142, 0, none⟩ = some (.int .i64 a1_0) := (blk_cell BK142.out 0).trans rfl; have hcz44_1 : w39.cell? ⟨gb142, 1, none⟩ = some (.int .i64 a1_1) := (blk_cell BK142.out 1).trans rfl; have hfz44_0 := blk_frozen BK142.out 0; have hfz44_1 := blk_frozen BK142.out 1) | ((with_reducible refine gate_callee (f := 64) rfl ?_); refine goesL_ (some 42) rfl rfl Try.func64 (by kernel_rfl) rfl #[.agg #[.int .i64 ((rd_T61 l0 x15_1).f0), .int .i64 ((rd_T61 l0 x15_1).f1)], .agg #[.int .i64 ((rd_T61 l0 (ji15)).f0), .int .i64 ((rd_T61 l0 (ji15)).f1)], .agg #[.int .i64 a1_0, .int .i64 a1_1]] rfl (by (try simp only [List.map_toArray, List.map_cons, List.map_nil]); first | done | (simp only [hji15]; rfl) | rfl | (simp only [List.length_drop, List.length_take]; rfl)) ?_; (with_reducible refine (spec_l02Cross.calls ((rd_T61 l0 x15_1).f0) ((rd_T61 l0 x15_1).f1) ((rd_T61 l0 (ji15)).f0) ((rd_T61 l0 (ji15)).f1) a1_0 a1_1 t148 _ A19.out).mono ?_); rintro e w45 ⟨rfl, hb⟩; refine ⟨_, rfl, ?_⟩; have n0_ := zm1 (zd1 (o := .cells #[.int .i64 a1_0, .int .i64 a1_1] 61 (0, 0)) (by (with_reducible repeat (first | apply zb1 | apply zb2 | apply zb3)); refine blk_far ?_ NB142_147.out _; (with_reducible repeat (first | apply zb1 | apply zb2 | apply zb3)); refine blk_far ?_ NB142_147.out _; (with_reducible repeat (first | apply zb1 | apply zb2 | apply zb3)); exact BK142.out) hb); have n1_ := zm1 (zd1 (o := .cells #[.int .i64 ((rd_T61 l0 x15_1).f0), .int .i64 ((rd_T61 l0 x15_1).f1)] 61 (0, 0)) (by (with_reducible repeat (first | apply zb1 | apply zb2 | apply zb3)); refine blk_far ?_ NB145_147.out _; (with_reducible repeat (first | apply zb1 | apply zb2 | apply zb3)); refine blk_far ?_ NB145_147.out _; (with_reducible repeat (first | apply zb1 | apply zb2 | apply zb3)); exact BK145.out) hb); have n2_ := zm1 (zd1 (o := .cells #[.int .i64 ((rd_T61 l0 (ji15)).f0), .int .i64 ((rd_T61 l0 (ji15)).f1)] 61 (0, 0)) (by (with_reducible repeat (first | apply zb1 | apply zb2 | apply zb3)); refine blk_put (cs := #[.int .i64 ((rd_T61 l0 (ji15)).f0), .int .i64 0]) ?_ 1 _ rfl; (with_reducible repeat (first | apply zb1 | apply zb2 | apply zb3)); refine blk_put (cs := #[.int .i64 0, .int .i64 0]) ?_ 0 _ rfl; (with_reducible repeat (first | apply zb1 | apply zb2 | apply zb3)); exact BK147.out) hb); have n3_ := zm1 (zc6 (by repeat (first | (with_reducible first | exact HB.out | apply zc1 | apply zc2 | apply zc3 | refine zc4 ?_ GE142.out | refine zc4 ?_ GE145.out | refine zc4 ?_ GE147.out) | exact HB.out)) hb); clear BK142; clear BK145; clear BK147; clear HB; have BK142 := n0_; have BK145 := n1_; have BK147 := n2_; have HB := n3_; clear n0_ n1_ n2_ n3_; (try clear hb); (try clear hb2); (try clear hk); (try clear hi); have hcz46_0 : w45.cell? ⟨gb147, 0, none⟩ = some (.int .i64 ((rd_T61 l0 (ji15)).f0)) := (blk_cell BK147.out 0).trans rfl; have hcz46_1 : w45.cell? ⟨gb147, 1, none⟩ = some (.int .i64 ((rd_T61 l0 (ji15)).f1)) := (blk_cell BK147.out 1).trans rfl; have hfz46_0 := blk_frozen BK147.out 0; have hfz46_1 := blk_frozen BK147.out 1; have hcz47_0 : w45.cell? ⟨gb145, 0, none⟩ = some (.int .i64 ((rd_T61 l0 x15_1).f0)) := (blk_cell BK145.out 0).trans rfl; have hcz47_1 : w45.cell? ⟨gb145, 1, none⟩ = some (.int .i64 ((rd_T61 l0 x15_1).f1)) := (blk_cell BK145.out 1).trans rfl; have hfz47_0 := blk_frozen BK145.out 0; have hfz47_1 := blk_frozen BK145.out 1))
               go_roundg k1
               case measure => have := HK1.out; omega
               case rel => exact ⟨(!x5_1), (wrap64 (x15_1 + 1)), (by first | rfl | (simp; done) | (simp [*]; done)), (by first | rfl | (simp; done) | (simp [*]; done)), H', ⟨by have := HK1.out; omega⟩, ⟨by (with_reducible repeat (first | apply zb1 | apply zb2 | apply zb3)); exact BK142.out⟩, ⟨by repeat (first | (with_reducible first | exact HB.out | apply zc1 | apply zc2 | apply zc3 | refine zc4 ?_ GE142.out | refine zc4 ?_ GE145.out | refine zc4 ?_ GE147.out) | exact HB.out)⟩⟩
              ·rw [if_neg c35] at H
               have c35b0 : decide (t148 < 0) = false := decide_eq_false c35
               clear c35
               have H' := zm1 H
               clear H
               have p144 : 0 ≤ (x15_1 : Int) := of_decide_eq_true (by assumption)
               have q144 : x15_1 < (l0.length : Int) := of_decide_eq_true (by assumption)
               obtain ⟨ad144, e144, hx144_0, hx144_1⟩ := at_T61 HR0.out x15_1 p144 q144
               cases e144
               (try replace hx144_0 := (HB.out.cell (zl hx144_0)).trans hx144_0)
               (try replace hx144_1 := (HB.out.cell (zl hx144_1)).trans hx144_1)
               replace p144 := eq_true p144
               replace q144 := eq_true q144
               go_wp2_with (first | ((with_reducible refine gate_dst (N := 7) rfl ?_); refine box_event ?hg (N := 7) ?hd (cs := #[.int .i64 0, .int .i64 0]) (t := 61) ?hr ?_; (case hd => rfl); (case hg => rfl); (case hr => first | (go_simp; done) | (go_simp; rfl)); intro gb145 hg w48 hbox hb; have n0_ := zm1 (zd1 (zb4 BK142.out) hb); have n1_ := zm1 (zc6 (by repeat (first | (with_reducible first | exact HB.out | apply zc1 | apply zc2 | apply zc3 | refine zc4 ?_ GE142.out) | exact HB.out)) hb); have n2_ := zm1 (hbox); have n3_ := zm1 ((by rw [hg]; exact (zc5 (by repeat (first | (with_reducible first | exact HB.out | apply zc1 | apply zc2 | apply zc3 | refine zc4 ?_ GE142.out) | exact HB.out))) : w.heap.size ≤ gb145)); have n4_ := zm1 ((by rw [hg]; exact (zc5 (by repeat (first | (with_reducible first | exact HB.out | apply zc1 | apply zc2 | apply zc3 | refine zc4 ?_ GE142.out) | exact HB.out))) : w.heap.size ≤ gb145)); have n5_ := zm1 ((by rw [hg]; exact Nat.ne_of_lt (zd2 (zb4 BK142.out)) : gb142 ≠ gb145)); have n6_ := zm1 ((by rw [hg]; exact Nat.ne_of_gt (zd2 (zb4 BK142.out)) : gb145 ≠ gb142)); clear BK142; clear HB; have BK142 := n0_; have HB := n1_; have BK145 := n2_; have GW145 := n3_; have GE145 := n4_; have NB142_145 := n5_; have NB145_142 := n6_; clear n0_ n1_ n2_ n3_ n4_ n5_ n6_; clear hb hbox hg; have hnb49 := NB145_142.out; have hnc49 := NB142_145.out; have hcz50_0 : w48.cell? ⟨gb145, 0, none⟩ = some (.int .i64 0) := (blk_cell BK145.out 0).trans rfl; have hcz50_1 : w48.cell? ⟨gb145, 1, none⟩ = some (.int .i64 0) := (blk_cell BK145.out 1).trans rfl; have hfz50_0 := blk_frozen BK145.out 0; have hfz50_1 := blk_frozen BK145.out 1; have p146 : 0 ≤ ((ji15) : Int) := of_decide_eq_true (by assumption); have q146 : (ji15) < (l0.length : Int) := of_decide_eq_true (by assumption); obtain ⟨ad146, e146, hx146_0, hx146_1⟩ := at_T61 HR0.out (ji15) p146 q146; obtain rfl : ad144 = ad146 := (by injection e146); have hn146_0 : ad144.block ≠ gb145 := Nat.ne_of_lt (Nat.lt_of_lt_of_le (by have := zl hx146_0; first | rwa [add_block] at this | exact this) GW145.out); have hn146_1 : ad144.block ≠ gb145 := Nat.ne_of_lt (Nat.lt_of_lt_of_le (by have := zl hx146_0; first | rwa [add_block] at this | exact this) GW145.out); (try replace hx146_0 := (HB.out.cell (zl hx146_0)).trans hx146_0); (try replace hx146_1 := (HB.out.cell (zl hx146_1)).trans hx146_1); replace hx146_0 := (cell_far (p := ⟨gb145, 0, none⟩) (by first | (rw [add_block]; exact hn146_0) | (show (Addr.add _ _).block ≠ _; rw [add_block]; exact hn146_0) | exact hn146_0) (.int .i64 ((rd_T61 l0 x15_1).f0))).trans hx146_0; replace hx146_1 := (cell_far (p := ⟨gb145, 0, none⟩) (by first | (rw [add_block]; exact hn146_0) | (show (Addr.add _ _).block ≠ _; rw [add_block]; exact hn146_0) | exact hn146_0) (.int .i64 ((rd_T61 l0 x15_1).f0))).trans hx146_1; replace hx146_0 := (cell_far (p := ⟨gb145, 1, none⟩) (by first | (rw [add_block]; exact hn146_1) | (show (Addr.add _ _).block ≠ _; rw [add_block]; exact hn146_1) | exact hn146_1) (.int .i64 ((rd_T61 l0 x15_1).f1))).trans hx146_0; replace hx146_1 := (cell_far (p := ⟨gb145, 1, none⟩) (by first | (rw [add_block]; exact hn146_1) | (show (Addr.add _ _).block ≠ _; rw [add_block]; exact hn146_1) | exact hn146_1) (.int .i64 ((rd_T61 l0 x15_1).f1))).trans hx146_1; clear hn146_0; clear hn146_1; replace p146 := eq_true p146; replace q146 := eq_true q146) | ((with_reducible refine gate_dst (N := 8) rfl ?_); refine box_event ?hg (N := 8) ?hd (cs := #[.int .i64 0, .int .i64 0]) (t := 61) ?hr ?_; (case hd => rfl); (case hg => rfl); (case hr => first | (go_simp; done) | (go_simp; rfl)); intro gb147 hg w51 hbox hb; have n0_ := zm1 (zd1 (o := .cells #[.int .i64 a1_0, .int .i64 a1_1] 61 (0, 0)) (by (with_reducible repeat (first | apply zb1 | apply zb2 | apply zb3)); refine blk_far ?_ NB142_145.out _; (with_reducible repeat (first | apply zb1 | apply zb2 | apply zb3)); refine blk_far ?_ NB142_145.out _; (with_reducible repeat (first | apply zb1 | apply zb2 | apply zb3)); exact BK142.out) hb); have n1_ := zm1 (zd1 (o := .cells #[.int .i64 ((rd_T61 l0 x15_1).f0), .int .i64 ((rd_T61 l0 x15_1).f1)] 61 (0, 0)) (by (with_reducible repeat (first | apply zb1 | apply zb2 | apply zb3)); refine blk_put (cs := #[.int .i64 ((rd_T61 l0 x15_1).f0), .int .i64 0]) ?_ 1 _ rfl; (with_reducible repeat (first | apply zb1 | apply zb2 | apply zb3)); refine blk_put (cs := #[.int .i64 0, .int .i64 0]) ?_ 0 _ rfl; (with_reducible repeat (first | apply zb1 | apply zb2 | apply zb3)); exact BK145.out) hb); have n2_ := zm1 (zc6 (by repeat (first | (with_reducible first | exact HB.out | apply zc1 | apply zc2 | apply zc3 | refine zc4 ?_ GE142.out | refine zc4 ?_ GE145.out) | exact HB.out)) hb); have n3_ := zm1 (hbox); have n4_ := zm1 ((by rw [hg]; exact (zc5 (by repeat (first | (with_reducible first | exact HB.out | apply zc1 | apply zc2 | apply zc3 | refine zc4 ?_ GE142.out | refine zc4 ?_ GE145.out) | exact HB.out))) : w.heap.size ≤ gb147)); have n5_ := zm1 ((by rw [hg]; exact (zc5 (by repeat (first | (with_reducible first | exact HB.out | apply zc1 | apply zc2 | apply zc3 | refine zc4 ?_ GE142.out | refine zc4 ?_ GE145.out) | exact HB.out))) : w.heap.size ≤ gb147)); have n6_ := zm1 ((by rw [hg]; exact Nat.ne_of_lt (zd2 (o := .cells #[.int .i64 a1_0, .int .i64 a1_1] 61 (0, 0)) (by (with_reducible repeat (first | apply zb1 | apply zb2 | apply zb3)); refine blk_far ?_ NB142_145.out _; (with_reducible repeat (first | apply zb1 | apply zb2 | apply zb3)); refine blk_far ?_ NB142_145.out _; (with_reducible repeat (first | apply zb1 | apply zb2 | apply zb3)); exact BK142.out)) : gb142 ≠ gb147)); have n7_ := zm1 ((by rw [hg]; exact Nat.ne_of_gt (zd2 (o := .cells #[.int .i64 a1_0, .int .i64 a1_1] 61 (0, 0)) (by (with_reducible repeat (first | apply zb1 | apply zb2 | apply zb3)); refine blk_far ?_ NB142_145.out _; (with_reducible repeat (first | apply zb1 | apply zb2 | apply zb3)); refine blk_far ?_ NB142_145.out _; (with_reducible repeat (first | apply zb1 | apply zb2 | apply zb3)); exact BK142.out)) : gb147 ≠ gb142)); have n8_ := zm1 ((by rw [hg]; exact Nat.ne_of_lt (zd2 (o := .cells #[.int .i64 ((rd_T61 l0 x15_1).f0), .int .i64 ((rd_T61 l0 x15_1).f1)] 61 (0, 0)) (by (with_reducible repeat (first | apply zb1 | apply zb2 | apply zb3)); refine blk_put (cs := #[.int .i64 ((rd_T61 l0 x15_1).f0), .int .i64 0]) ?_ 1 _ rfl; (with_reducible repeat (first | apply zb1 | apply zb2 | apply zb3)); refine blk_put (cs := #[.int .i64 0, .int .i64 0]) ?_ 0 _ rfl; (with_reducible repeat (first | apply zb1 | apply zb2 | apply zb3)); exact BK145.out)) : gb145 ≠ gb147)); have n9_ := zm1 ((by rw [hg]; exact Nat.ne_of_gt (zd2 (o := .cells #[.int .i64 ((rd_T61 l0 x15_1).f0), .int .i64 ((rd_T61 l0 x15_1).f1)] 61 (0, 0)) (by (with_reducible repeat (first | apply zb1 | apply zb2 | apply zb3)); refine blk_put (cs := #[.int .i64 ((rd_T61 l0 x15_1).f0), .int .i64 0]) ?_ 1 _ rfl; (with_reducible repeat (first | apply zb1 | apply zb2 | apply zb3)); refine blk_put (cs := #[.int .i64 0, .int .i64 0]) ?_ 0 _ rfl; (with_reducible repeat (first | apply zb1 | apply zb2 | apply zb3)); exact BK145.out)) : gb147 ≠ gb145)); clear BK142; clear BK145; clear HB; have BK142 := n0_; have BK145 := n1_; have HB := n2_; have BK147 := n3_; have GW147 := n4_; have GE147 := n5_; have NB142_147 := n6_; have NB147_142 := n7_; have NB145_147 := n8_; have NB147_145 := n9_; clear n0_ n1_ n2_ n3_ n4_ n5_ n6_ n7_ n8_ n9_; clear hb hbox hg; have hnb52 := NB147_142.out; have hnc52 := NB142_147.out; have hnb53 := NB147_145.out; have hnc53 := NB145_147.out; have hcz54_0 : w51.cell? ⟨gb147, 0, none⟩ = some (.int .i64 0) := (blk_cell BK147.out 0).trans rfl; have hcz54_1 : w51.cell? ⟨gb147, 1, none⟩ = some (.int .i64 0) := (blk_cell BK147.out 1).trans rfl; have hfz54_0 := blk_frozen BK147.out 0; have hfz54_1 := blk_frozen BK147.out 1; have hcz55_0 : w51.cell? ⟨gb145, 0, none⟩ = some (.int .i64 ((rd_T61 l0 x15_1).f0)) := (blk_cell BK145.out 0).trans rfl; have hcz55_1 : w51.cell? ⟨gb145, 1, none⟩ = some (.int .i64 ((rd_T61 l0 x15_1).f1)) := (blk_cell BK145.out 1).trans rfl; have hfz55_0 := blk_frozen BK145.out 0; have hfz55_1 := blk_frozen BK145.out 1; have hcz56_0 : w51.cell? ⟨gb142, 0, none⟩ = some (.int .i64 a1_0) := (blk_cell BK142.out 0).trans rfl; have hcz56_1 : w51.cell? ⟨gb142, 1, none⟩ = some (.int .i64 a1_1) := (blk_cell BK142.out 1).trans rfl; have hfz56_0 := blk_frozen BK142.out 0; have hfz56_1 := blk_frozen BK142.out 1) | ((with_reducible refine gate_callee (f := 64) rfl ?_); refine goesL_ (some 42) rfl rfl Try.func64 (by kernel_rfl) rfl #[.agg #[.int .i64 ((rd_T61 l0 x15_1).f0), .int .i64 ((rd_T61 l0 x15_1).f1)], .agg #[.int .i64 ((rd_T61 l0 (ji15)).f0), .int .i64 ((rd_T61 l0 (ji15)).f1)], .agg #[.int .i64 a1_0, .int .i64 a1_1]] rfl (by (try simp only [List.map_toArray, List.map_cons, List.map_nil]); first | done | (simp only [hji15]; rfl) | rfl | (simp only [List.length_drop, List.length_take]; rfl)) ?_; (with_reducible refine (spec_l02Cross.calls ((rd_T61 l0 x15_1).f0) ((rd_T61 l0 x15_1).f1) ((rd_T61 l0 (ji15)).f0) ((rd_T61 l0 (ji15)).f1) a1_0 a1_1 t148 _ A19.out).mono ?_); rintro e w57 ⟨rfl, hb⟩; refine ⟨_, rfl, ?_⟩; have n0_ := zm1 (zd1 (o := .cells #[.int .i64 a1_0, .int .i64 a1_1] 61 (0, 0)) (by (with_reducible repeat (first | apply zb1 | apply zb2 | apply zb3)); refine blk_far ?_ NB142_147.out _; (with_reducible repeat (first | apply zb1 | apply zb2 | apply zb3)); refine blk_far ?_ NB142_147.out _; (with_reducible repeat (first | apply zb1 | apply zb2 | apply zb3)); exact BK142.out) hb); have n1_ := zm1 (zd1 (o := .cells #[.int .i64 ((rd_T61 l0 x15_1).f0), .int .i64 ((rd_T61 l0 x15_1).f1)] 61 (0, 0)) (by (with_reducible repeat (first | apply zb1 | apply zb2 | apply zb3)); refine blk_far ?_ NB145_147.out _; (with_reducible repeat (first | apply zb1 | apply zb2 | apply zb3)); refine blk_far ?_ NB145_147.out _; (with_reducible repeat (first | apply zb1 | apply zb2 | apply zb3)); exact BK145.out) hb); have n2_ := zm1 (zd1 (o := .cells #[.int .i64 ((rd_T61 l0 (ji15)).f0), .int .i64 ((rd_T61 l0 (ji15)).f1)] 61 (0, 0)) (by (with_reducible repeat (first | apply zb1 | apply zb2 | apply zb3)); refine blk_put (cs := #[.int .i64 ((rd_T61 l0 (ji15)).f0), .int .i64 0]) ?_ 1 _ rfl; (with_reducible repeat (first | apply zb1 | apply zb2 | apply zb3)); refine blk_put (cs := #[.int .i64 0, .int .i64 0]) ?_ 0 _ rfl; (with_reducible repeat (first | apply zb1 | apply zb2 | apply zb3)); exact BK147.out) hb); have n3_ := zm1 (zc6 (by repeat (first | (with_reducible first | exact HB.out | apply zc1 | apply zc2 | apply zc3 | refine zc4 ?_ GE142.out | refine zc4 ?_ GE145.out | refine zc4 ?_ GE147.out) | exact HB.out)) hb); clear BK142; clear BK145; clear BK147; clear HB; have BK142 := n0_; have BK145 := n1_; have BK147 := n2_; have HB := n3_; clear n0_ n1_ n2_ n3_; (try clear hb); (try clear hb2); (try clear hk); (try clear hi); have hcz58_0 : w57.cell? ⟨gb147, 0, none⟩ = some (.int .i64 ((rd_T61 l0 (ji15)).f0)) := (blk_cell BK147.out 0).trans rfl; have hcz58_1 : w57.cell? ⟨gb147, 1, none⟩ = some (.int .i64 ((rd_T61 l0 (ji15)).f1)) := (blk_cell BK147.out 1).trans rfl; have hfz58_0 := blk_frozen BK147.out 0; have hfz58_1 := blk_frozen BK147.out 1; have hcz59_0 : w57.cell? ⟨gb145, 0, none⟩ = some (.int .i64 ((rd_T61 l0 x15_1).f0)) := (blk_cell BK145.out 0).trans rfl; have hcz59_1 : w57.cell? ⟨gb145, 1, none⟩ = some (.int .i64 ((rd_T61 l0 x15_1).f1)) := (blk_cell BK145.out 1).trans rfl; have hfz59_0 := blk_frozen BK145.out 0; have hfz59_1 := blk_frozen BK145.out 1))
               go_roundg k1
               case measure => have := HK1.out; omega
               case rel => exact ⟨(x5_1), (wrap64 (x15_1 + 1)), (by first | rfl | (simp; done) | (simp [*]; done)), (by first | rfl | (simp; done) | (simp [*]; done)), H', ⟨by have := HK1.out; omega⟩, ⟨by (with_reducible repeat (first | apply zb1 | apply zb2 | apply zb3)); exact BK142.out⟩, ⟨by repeat (first | (with_reducible first | exact HB.out | apply zc1 | apply zc2 | apply zc3 | refine zc4 ?_ GE142.out | refine zc4 ?_ GE145.out | refine zc4 ?_ GE147.out) | exact HB.out)⟩⟩
             ·rw [if_neg c34] at H
              have c34b0 : decide (((rd_T61 l0 (ji15)).f1) < ((rd_T61 l0 x15_1).f1)) = false := decide_eq_false c34
              clear c34
              have H' := zm1 H
              clear H
              have p144 : 0 ≤ (x15_1 : Int) := of_decide_eq_true (by assumption)
              have q144 : x15_1 < (l0.length : Int) := of_decide_eq_true (by assumption)
              obtain ⟨ad144, e144, hx144_0, hx144_1⟩ := at_T61 HR0.out x15_1 p144 q144
              cases e144
              (try replace hx144_0 := (HB.out.cell (zl hx144_0)).trans hx144_0)
              (try replace hx144_1 := (HB.out.cell (zl hx144_1)).trans hx144_1)
              replace p144 := eq_true p144
              replace q144 := eq_true q144
              go_wp2_with (first | ((with_reducible refine gate_dst (N := 7) rfl ?_); refine box_event ?hg (N := 7) ?hd (cs := #[.int .i64 0, .int .i64 0]) (t := 61) ?hr ?_; (case hd => rfl); (case hg => rfl); (case hr => first | (go_simp; done) | (go_simp; rfl)); intro gb145 hg w60 hbox hb; have n0_ := zm1 (zd1 (zb4 BK142.out) hb); have n1_ := zm1 (zc6 (by repeat (first | (with_reducible first | exact HB.out | apply zc1 | apply zc2 | apply zc3 | refine zc4 ?_ GE142.out) | exact HB.out)) hb); have n2_ := zm1 (hbox); have n3_ := zm1 ((by rw [hg]; exact (zc5 (by repeat (first | (with_reducible first | exact HB.out | apply zc1 | apply zc2 | apply zc3 | refine zc4 ?_ GE142.out) | exact HB.out))) : w.heap.size ≤ gb145)); have n4_ := zm1 ((by rw [hg]; exact (zc5 (by repeat (first | (with_reducible first | exact HB.out | apply zc1 | apply zc2 | apply zc3 | refine zc4 ?_ GE142.out) | exact HB.out))) : w.heap.size ≤ gb145)); have n5_ := zm1 ((by rw [hg]; exact Nat.ne_of_lt (zd2 (zb4 BK142.out)) : gb142 ≠ gb145)); have n6_ := zm1 ((by rw [hg]; exact Nat.ne_of_gt (zd2 (zb4 BK142.out)) : gb145 ≠ gb142)); clear BK142; clear HB; have BK142 := n0_; have HB := n1_; have BK145 := n2_; have GW145 := n3_; have GE145 := n4_; have NB142_145 := n5_; have NB145_142 := n6_; clear n0_ n1_ n2_ n3_ n4_ n5_ n6_; clear hb hbox hg; have hnb61 := NB145_142.out; have hnc61 := NB142_145.out; have hcz62_0 : w60.cell? ⟨gb145, 0, none⟩ = some (.int .i64 0) := (blk_cell BK145.out 0).trans rfl; have hcz62_1 : w60.cell? ⟨gb145, 1, none⟩ = some (.int .i64 0) := (blk_cell BK145.out 1).trans rfl; have hfz62_0 := blk_frozen BK145.out 0; have hfz62_1 := blk_frozen BK145.out 1; have p146 : 0 ≤ ((ji15) : Int) := of_decide_eq_true (by assumption); have q146 : (ji15) < (l0.length : Int) := of_decide_eq_true (by assumption); obtain ⟨ad146, e146, hx146_0, hx146_1⟩ := at_T61 HR0.out (ji15) p146 q146; obtain rfl : ad144 = ad146 := (by injection e146); have hn146_0 : ad144.block ≠ gb145 := Nat.ne_of_lt (Nat.lt_of_lt_of_le (by have := zl hx146_0; first | rwa [add_block] at this | exact this) GW145.out); have hn146_1 : ad144.block ≠ gb145 := Nat.ne_of_lt (Nat.lt_of_lt_of_le (by have := zl hx146_0; first | rwa [add_block] at this | exact this) GW145.out); (try replace hx146_0 := (HB.out.cell (zl hx146_0)).trans hx146_0); (try replace hx146_1 := (HB.out.cell (zl hx146_1)).trans hx146_1); replace hx146_0 := (cell_far (p := ⟨gb145, 0, none⟩) (by first | (rw [add_block]; exact hn146_0) | (show (Addr.add _ _).block ≠ _; rw [add_block]; exact hn146_0) | exact hn146_0) (.int .i64 ((rd_T61 l0 x15_1).f0))).trans hx146_0; replace hx146_1 := (cell_far (p := ⟨gb145, 0, none⟩) (by first | (rw [add_block]; exact hn146_0) | (show (Addr.add _ _).block ≠ _; rw [add_block]; exact hn146_0) | exact hn146_0) (.int .i64 ((rd_T61 l0 x15_1).f0))).trans hx146_1; replace hx146_0 := (cell_far (p := ⟨gb145, 1, none⟩) (by first | (rw [add_block]; exact hn146_1) | (show (Addr.add _ _).block ≠ _; rw [add_block]; exact hn146_1) | exact hn146_1) (.int .i64 ((rd_T61 l0 x15_1).f1))).trans hx146_0; replace hx146_1 := (cell_far (p := ⟨gb145, 1, none⟩) (by first | (rw [add_block]; exact hn146_1) | (show (Addr.add _ _).block ≠ _; rw [add_block]; exact hn146_1) | exact hn146_1) (.int .i64 ((rd_T61 l0 x15_1).f1))).trans hx146_1; clear hn146_0; clear hn146_1; replace p146 := eq_true p146; replace q146 := eq_true q146) | ((with_reducible refine gate_dst (N := 8) rfl ?_); refine box_event ?hg (N := 8) ?hd (cs := #[.int .i64 0, .int .i64 0]) (t := 61) ?hr ?_; (case hd => rfl); (case hg => rfl); (case hr => first | (go_simp; done) | (go_simp; rfl)); intro gb147 hg w63 hbox hb; have n0_ := zm1 (zd1 (o := .cells #[.int .i64 a1_0, .int .i64 a1_1] 61 (0, 0)) (by (with_reducible repeat (first | apply zb1 | apply zb2 | apply zb3)); refine blk_far ?_ NB142_145.out _; (with_reducible repeat (first | apply zb1 | apply zb2 | apply zb3)); refine blk_far ?_ NB142_145.out _; (with_reducible repeat (first | apply zb1 | apply zb2 | apply zb3)); exact BK142.out) hb); have n1_ := zm1 (zd1 (o := .cells #[.int .i64 ((rd_T61 l0 x15_1).f0), .int .i64 ((rd_T61 l0 x15_1).f1)] 61 (0, 0)) (by (with_reducible repeat (first | apply zb1 | apply zb2 | apply zb3)); refine blk_put (cs := #[.int .i64 ((rd_T61 l0 x15_1).f0), .int .i64 0]) ?_ 1 _ rfl; (with_reducible repeat (first | apply zb1 | apply zb2 | apply zb3)); refine blk_put (cs := #[.int .i64 0, .int .i64 0]) ?_ 0 _ rfl; (with_reducible repeat (first | apply zb1 | apply zb2 | apply zb3)); exact BK145.out) hb); have n2_ := zm1 (zc6 (by repeat (first | (with_reducible first | exact HB.out | apply zc1 | apply zc2 | apply zc3 | refine zc4 ?_ GE142.out | refine zc4 ?_ GE145.out) | exact HB.out)) hb); have n3_ := zm1 (hbox); have n4_ := zm1 ((by rw [hg]; exact (zc5 (by repeat (first | (with_reducible first | exact HB.out | apply zc1 | apply zc2 | apply zc3 | refine zc4 ?_ GE142.out | refine zc4 ?_ GE145.out) | exact HB.out))) : w.heap.size ≤ gb147)); have n5_ := zm1 ((by rw [hg]; exact (zc5 (by repeat (first | (with_reducible first | exact HB.out | apply zc1 | apply zc2 | apply zc3 | refine zc4 ?_ GE142.out | refine zc4 ?_ GE145.out) | exact HB.out))) : w.heap.size ≤ gb147)); have n6_ := zm1 ((by rw [hg]; exact Nat.ne_of_lt (zd2 (o := .cells #[.int .i64 a1_0, .int .i64 a1_1] 61 (0, 0)) (by (with_reducible repeat (first | apply zb1 | apply zb2 | apply zb3)); refine blk_far ?_ NB142_145.out _; (with_reducible repeat (first | apply zb1 | apply zb2 | apply zb3)); refine blk_far ?_ NB142_145.out _; (with_reducible repeat (first | apply zb1 | apply zb2 | apply zb3)); exact BK142.out)) : gb142 ≠ gb147)); have n7_ := zm1 ((by rw [hg]; exact Nat.ne_of_gt (zd2 (o := .cells #[.int .i64 a1_0, .int .i64 a1_1] 61 (0, 0)) (by (with_reducible repeat (first | apply zb1 | apply zb2 | apply zb3)); refine blk_far ?_ NB142_145.out _; (with_reducible repeat (first | apply zb1 | apply zb2 | apply zb3)); refine blk_far ?_ NB142_145.out _; (with_reducible repeat (first | apply zb1 | apply zb2 | apply zb3)); exact BK142.out)) : gb147 ≠ gb142)); have n8_ := zm1 ((by rw [hg]; exact Nat.ne_of_lt (zd2 (o := .cells #[.int .i64 ((rd_T61 l0 x15_1).f0), .int .i64 ((rd_T61 l0 x15_1).f1)] 61 (0, 0)) (by (with_reducible repeat (first | apply zb1 | apply zb2 | apply zb3)); refine blk_put (cs := #[.int .i64 ((rd_T61 l0 x15_1).f0), .int .i64 0]) ?_ 1 _ rfl; (with_reducible repeat (first | apply zb1 | apply zb2 | apply zb3)); refine blk_put (cs := #[.int .i64 0, .int .i64 0]) ?_ 0 _ rfl; (with_reducible repeat (first | apply zb1 | apply zb2 | apply zb3)); exact BK145.out)) : gb145 ≠ gb147)); have n9_ := zm1 ((by rw [hg]; exact Nat.ne_of_gt (zd2 (o := .cells #[.int .i64 ((rd_T61 l0 x15_1).f0), .int .i64 ((rd_T61 l0 x15_1).f1)] 61 (0, 0)) (by (with_reducible repeat (first | apply zb1 | apply zb2 | apply zb3)); refine blk_put (cs := #[.int .i64 ((rd_T61 l0 x15_1).f0), .int .i64 0]) ?_ 1 _ rfl; (with_reducible repeat (first | apply zb1 | apply zb2 | apply zb3)); refine blk_put (cs := #[.int .i64 0, .int .i64 0]) ?_ 0 _ rfl; (with_reducible repeat (first | apply zb1 | apply zb2 | apply zb3)); exact BK145.out)) : gb147 ≠ gb145)); clear BK142; clear BK145; clear HB; have BK142 := n0_; have BK145 := n1_; have HB := n2_; have BK147 := n3_; have GW147 := n4_; have GE147 := n5_; have NB142_147 := n6_; have NB147_142 := n7_; have NB145_147 := n8_; have NB147_145 := n9_; clear n0_ n1_ n2_ n3_ n4_ n5_ n6_ n7_ n8_ n9_; clear hb hbox hg; have hnb64 := NB147_142.out; have hnc64 := NB142_147.out; have hnb65 := NB147_145.out; have hnc65 := NB145_147.out; have hcz66_0 : w63.cell? ⟨gb147, 0, none⟩ = some (.int .i64 0) := (blk_cell BK147.out 0).trans rfl; have hcz66_1 : w63.cell? ⟨gb147, 1, none⟩ = some (.int .i64 0) := (blk_cell BK147.out 1).trans rfl; have hfz66_0 := blk_frozen BK147.out 0; have hfz66_1 := blk_frozen BK147.out 1; have hcz67_0 : w63.cell? ⟨gb145, 0, none⟩ = some (.int .i64 ((rd_T61 l0 x15_1).f0)) := (blk_cell BK145.out 0).trans rfl; have hcz67_1 : w63.cell? ⟨gb145, 1, none⟩ = some (.int .i64 ((rd_T61 l0 x15_1).f1)) := (blk_cell BK145.out 1).trans rfl; have hfz67_0 := blk_frozen BK145.out 0; have hfz67_1 := blk_frozen BK145.out 1; have hcz68_0 : w63.cell? ⟨gb142, 0, none⟩ = some (.int .i64 a1_0) := (blk_cell BK142.out 0).trans rfl; have hcz68_1 : w63.cell? ⟨gb142, 1, none⟩ = some (.int .i64 a1_1) := (blk_cell BK142.out 1).trans rfl; have hfz68_0 := blk_frozen BK142.out 0; have hfz68_1 := blk_frozen BK142.out 1) | ((with_reducible refine gate_callee (f := 64) rfl ?_); refine goesL_ (some 42) rfl rfl Try.func64 (by kernel_rfl) rfl #[.agg #[.int .i64 ((rd_T61 l0 x15_1).f0), .int .i64 ((rd_T61 l0 x15_1).f1)], .agg #[.int .i64 ((rd_T61 l0 (ji15)).f0), .int .i64 ((rd_T61 l0 (ji15)).f1)], .agg #[.int .i64 a1_0, .int .i64 a1_1]] rfl (by (try simp only [List.map_toArray, List.map_cons, List.map_nil]); first | done | (simp only [hji15]; rfl) | rfl | (simp only [List.length_drop, List.length_take]; rfl)) ?_; (with_reducible refine (spec_l02Cross.calls ((rd_T61 l0 x15_1).f0) ((rd_T61 l0 x15_1).f1) ((rd_T61 l0 (ji15)).f0) ((rd_T61 l0 (ji15)).f1) a1_0 a1_1 t148 _ A19.out).mono ?_); rintro e w69 ⟨rfl, hb⟩; refine ⟨_, rfl, ?_⟩; have n0_ := zm1 (zd1 (o := .cells #[.int .i64 a1_0, .int .i64 a1_1] 61 (0, 0)) (by (with_reducible repeat (first | apply zb1 | apply zb2 | apply zb3)); refine blk_far ?_ NB142_147.out _; (with_reducible repeat (first | apply zb1 | apply zb2 | apply zb3)); refine blk_far ?_ NB142_147.out _; (with_reducible repeat (first | apply zb1 | apply zb2 | apply zb3)); exact BK142.out) hb); have n1_ := zm1 (zd1 (o := .cells #[.int .i64 ((rd_T61 l0 x15_1).f0), .int .i64 ((rd_T61 l0 x15_1).f1)] 61 (0, 0)) (by (with_reducible repeat (first | apply zb1 | apply zb2 | apply zb3)); refine blk_far ?_ NB145_147.out _; (with_reducible repeat (first | apply zb1 | apply zb2 | apply zb3)); refine blk_far ?_ NB145_147.out _; (with_reducible repeat (first | apply zb1 | apply zb2 | apply zb3)); exact BK145.out) hb); have n2_ := zm1 (zd1 (o := .cells #[.int .i64 ((rd_T61 l0 (ji15)).f0), .int .i64 ((rd_T61 l0 (ji15)).f1)] 61 (0, 0)) (by (with_reducible repeat (first | apply zb1 | apply zb2 | apply zb3)); refine blk_put (cs := #[.int .i64 ((rd_T61 l0 (ji15)).f0), .int .i64 0]) ?_ 1 _ rfl; (with_reducible repeat (first | apply zb1 | apply zb2 | apply zb3)); refine blk_put (cs := #[.int .i64 0, .int .i64 0]) ?_ 0 _ rfl; (with_reducible repeat (first | apply zb1 | apply zb2 | apply zb3)); exact BK147.out) hb); have n3_ := zm1 (zc6 (by repeat (first | (with_reducible first | exact HB.out | apply zc1 | apply zc2 | apply zc3 | refine zc4 ?_ GE142.out | refine zc4 ?_ GE145.out | refine zc4 ?_ GE147.out) | exact HB.out)) hb); clear BK142; clear BK145; clear BK147; clear HB; have BK142 := n0_; have BK145 := n1_; have BK147 := n2_; have HB := n3_; clear n0_ n1_ n2_ n3_; (try clear hb); (try clear hb2); (try clear hk); (try clear hi); have hcz70_0 : w69.cell? ⟨gb147, 0, none⟩ = some (.int .i64 ((rd_T61 l0 (ji15)).f0)) := (blk_cell BK147.out 0).trans rfl; have hcz70_1 : w69.cell? ⟨gb147, 1, none⟩ = some (.int .i64 ((rd_T61 l0 (ji15)).f1)) := (blk_cell BK147.out 1).trans rfl; have hfz70_0 := blk_frozen BK147.out 0; have hfz70_1 := blk_frozen BK147.out 1; have hcz71_0 : w69.cell? ⟨gb145, 0, none⟩ = some (.int .i64 ((rd_T61 l0 x15_1).f0)) := (blk_cell BK145.out 0).trans rfl; have hcz71_1 : w69.cell? ⟨gb145, 1, none⟩ = some (.int .i64 ((rd_T61 l0 x15_1).f1)) := (blk_cell BK145.out 1).trans rfl; have hfz71_0 := blk_frozen BK145.out 0; have hfz71_1 := blk_frozen BK145.out 1))
              go_roundg k1
              case measure => have := HK1.out; omega
              case rel => exact ⟨(x5_1), (wrap64 (x15_1 + 1)), (by first | rfl | (simp; done) | (simp [*]; done)), (by first | rfl | (simp; done) | (simp [*]; done)), H', ⟨by have := HK1.out; omega⟩, ⟨by (with_reducible repeat (first | apply zb1 | apply zb2 | apply zb3)); exact BK142.out⟩, ⟨by repeat (first | (with_reducible first | exact HB.out | apply zc1 | apply zc2 | apply zc3 | refine zc4 ?_ GE142.out | refine zc4 ?_ GE145.out | refine zc4 ?_ GE147.out) | exact HB.out)⟩⟩
           ·rw [if_neg c20] at H
            have c20b0 : decide (((rd_T61 l0 x15_1).f1) < ((rd_T61 l0 (ji15)).f1)) = false := decide_eq_false c20
            clear c20
            by_cases c72 : ((rd_T61 l0 (ji15)).f1) < ((rd_T61 l0 x15_1).f1)
            ·rw [if_pos c72] at H
             have c72b0 : decide (((rd_T61 l0 (ji15)).f1) < ((rd_T61 l0 x15_1).f1)) = true := decide_eq_true c72
             clear c72
             by_cases c73 : t148 < 0
             ·rw [if_pos c73] at H
              have c73b0 : decide (t148 < 0) = true := decide_eq_true c73
              clear c73
              have H' := zm1 H
              clear H
              have p144 : 0 ≤ (x15_1 : Int) := of_decide_eq_true (by assumption)
              have q144 : x15_1 < (l0.length : Int) := of_decide_eq_true (by assumption)
              obtain ⟨ad144, e144, hx144_0, hx144_1⟩ := at_T61 HR0.out x15_1 p144 q144
              cases e144
              (try replace hx144_0 := (HB.out.cell (zl hx144_0)).trans hx144_0)
              (try replace hx144_1 := (HB.out.cell (zl hx144_1)).trans hx144_1)
              replace p144 := eq_true p144
              replace q144 := eq_true q144
              go_wp2_with (first | ((with_reducible refine gate_dst (N := 7) rfl ?_); refine box_event ?hg (N := 7) ?hd (cs := #[.int .i64 0, .int .i64 0]) (t := 61) ?hr ?_; (case hd => rfl); (case hg => rfl); (case hr => first | (go_simp; done) | (go_simp; rfl)); intro gb145 hg w74 hbox hb; have n0_ := zm1 (zd1 (zb4 BK142.out) hb); have n1_ := zm1 (zc6 (by repeat (first | (with_reducible first | exact HB.out | apply zc1 | apply zc2 | apply zc3 | refine zc4 ?_ GE142.out) | exact HB.out)) hb); have n2_ := zm1 (hbox); have n3_ := zm1 ((by rw [hg]; exact (zc5 (by repeat (first | (with_reducible first | exact HB.out | apply zc1 | apply zc2 | apply zc3 | refine zc4 ?_ GE142.out) | exact HB.out))) : w.heap.size ≤ gb145)); have n4_ := zm1 ((by rw [hg]; exact (zc5 (by repeat (first | (with_reducible first | exact HB.out | apply zc1 | apply zc2 | apply zc3 | refine zc4 ?_ GE142.out) | exact HB.out))) : w.heap.size ≤ gb145)); have n5_ := zm1 ((by rw [hg]; exact Nat.ne_of_lt (zd2 (zb4 BK142.out)) : gb142 ≠ gb145)); have n6_ := zm1 ((by rw [hg]; exact Nat.ne_of_gt (zd2 (zb4 BK142.out)) : gb145 ≠ gb142)); clear BK142; clear HB; have BK142 := n0_; have HB := n1_; have BK145 := n2_; have GW145 := n3_; have GE145 := n4_; have NB142_145 := n5_; have NB145_142 := n6_; clear n0_ n1_ n2_ n3_ n4_ n5_ n6_; clear hb hbox hg; have hnb75 := NB145_142.out; have hnc75 := NB142_145.out; have hcz76_0 : w74.cell? ⟨gb145, 0, none⟩ = some (.int .i64 0) := (blk_cell BK145.out 0).trans rfl; have hcz76_1 : w74.cell? ⟨gb145, 1, none⟩ = some (.int .i64 0) := (blk_cell BK145.out 1).trans rfl; have hfz76_0 := blk_frozen BK145.out 0; have hfz76_1 := blk_frozen BK145.out 1; have p146 : 0 ≤ ((ji15) : Int) := of_decide_eq_true (by assumption); have q146 : (ji15) < (l0.length : Int) := of_decide_eq_true (by assumption); obtain ⟨ad146, e146, hx146_0, hx146_1⟩ := at_T61 HR0.out (ji15) p146 q146; obtain rfl : ad144 = ad146 := (by injection e146); have hn146_0 : ad144.block ≠ gb145 := Nat.ne_of_lt (Nat.lt_of_lt_of_le (by have := zl hx146_0; first | rwa [add_block] at this | exact this) GW145.out); have hn146_1 : ad144.block ≠ gb145 := Nat.ne_of_lt (Nat.lt_of_lt_of_le (by have := zl hx146_0; first | rwa [add_block] at this | exact this) GW145.out); (try replace hx146_0 := (HB.out.cell (zl hx146_0)).trans hx146_0); (try replace hx146_1 := (HB.out.cell (zl hx146_1)).trans hx146_1); replace hx146_0 := (cell_far (p := ⟨gb145, 0, none⟩) (by first | (rw [add_block]; exact hn146_0) | (show (Addr.add _ _).block ≠ _; rw [add_block]; exact hn146_0) | exact hn146_0) (.int .i64 ((rd_T61 l0 x15_1).f0))).trans hx146_0; replace hx146_1 := (cell_far (p := ⟨gb145, 0, none⟩) (by first | (rw [add_block]; exact hn146_0) | (show (Addr.add _ _).block ≠ _; rw [add_block]; exact hn146_0) | exact hn146_0) (.int .i64 ((rd_T61 l0 x15_1).f0))).trans hx146_1; replace hx146_0 := (cell_far (p := ⟨gb145, 1, none⟩) (by first | (rw [add_block]; exact hn146_1) | (show (Addr.add _ _).block ≠ _; rw [add_block]; exact hn146_1) | exact hn146_1) (.int .i64 ((rd_T61 l0 x15_1).f1))).trans hx146_0; replace hx146_1 := (cell_far (p := ⟨gb145, 1, none⟩) (by first | (rw [add_block]; exact hn146_1) | (show (Addr.add _ _).block ≠ _; rw [add_block]; exact hn146_1) | exact hn146_1) (.int .i64 ((rd_T61 l0 x15_1).f1))).trans hx146_1; clear hn146_0; clear hn146_1; replace p146 := eq_true p146; replace q146 := eq_true q146) | ((with_reducible refine gate_dst (N := 8) rfl ?_); refine box_event ?hg (N := 8) ?hd (cs := #[.int .i64 0, .int .i64 0]) (t := 61) ?hr ?_; (case hd => rfl); (case hg => rfl); (case hr => first | (go_simp; done) | (go_simp; rfl)); intro gb147 hg w77 hbox hb; have n0_ := zm1 (zd1 (o := .cells #[.int .i64 a1_0, .int .i64 a1_1] 61 (0, 0)) (by (with_reducible repeat (first | apply zb1 | apply zb2 | apply zb3)); refine blk_far ?_ NB142_145.out _; (with_reducible repeat (first | apply zb1 | apply zb2 | apply zb3)); refine blk_far ?_ NB142_145.out _; (with_reducible repeat (first | apply zb1 | apply zb2 | apply zb3)); exact BK142.out) hb); have n1_ := zm1 (zd1 (o := .cells #[.int .i64 ((rd_T61 l0 x15_1).f0), .int .i64 ((rd_T61 l0 x15_1).f1)] 61 (0, 0)) (by (with_reducible repeat (first | apply zb1 | apply zb2 | apply zb3)); refine blk_put (cs := #[.int .i64 ((rd_T61 l0 x15_1).f0), .int .i64 0]) ?_ 1 _ rfl; (with_reducible repeat (first | apply zb1 | apply zb2 | apply zb3)); refine blk_put (cs := #[.int .i64 0, .int .i64 0]) ?_ 0 _ rfl; (with_reducible repeat (first | apply zb1 | apply zb2 | apply zb3)); exact BK145.out) hb); have n2_ := zm1 (zc6 (by repeat (first | (with_reducible first | exact HB.out | apply zc1 | apply zc2 | apply zc3 | refine zc4 ?_ GE142.out | refine zc4 ?_ GE145.out) | exact HB.out)) hb); have n3_ := zm1 (hbox); have n4_ := zm1 ((by rw [hg]; exact (zc5 (by repeat (first | (with_reducible first | exact HB.out | apply zc1 | apply zc2 | apply zc3 | refine zc4 ?_ GE142.out | refine zc4 ?_ GE145.out) | exact HB.out))) : w.heap.size ≤ gb147)); have n5_ := zm1 ((by rw [hg]; exact (zc5 (by repeat (first | (with_reducible first | exact HB.out | apply zc1 | apply zc2 | apply zc3 | refine zc4 ?_ GE142.out | refine zc4 ?_ GE145.out) | exact HB.out))) : w.heap.size ≤ gb147)); have n6_ := zm1 ((by rw [hg]; exact Nat.ne_of_lt (zd2 (o := .cells #[.int .i64 a1_0, .int .i64 a1_1] 61 (0, 0)) (by (with_reducible repeat (first | apply zb1 | apply zb2 | apply zb3)); refine blk_far ?_ NB142_145.out _; (with_reducible repeat (first | apply zb1 | apply zb2 | apply zb3)); refine blk_far ?_ NB142_145.out _; (with_reducible repeat (first | apply zb1 | apply zb2 | apply zb3)); exact BK142.out)) : gb142 ≠ gb147)); have n7_ := zm1 ((by rw [hg]; exact Nat.ne_of_gt (zd2 (o := .cells #[.int .i64 a1_0, .int .i64 a1_1] 61 (0, 0)) (by (with_reducible repeat (first | apply zb1 | apply zb2 | apply zb3)); refine blk_far ?_ NB142_145.out _; (with_reducible repeat (first | apply zb1 | apply zb2 | apply zb3)); refine blk_far ?_ NB142_145.out _; (with_reducible repeat (first | apply zb1 | apply zb2 | apply zb3)); exact BK142.out)) : gb147 ≠ gb142)); have n8_ := zm1 ((by rw [hg]; exact Nat.ne_of_lt (zd2 (o := .cells #[.int .i64 ((rd_T61 l0 x15_1).f0), .int .i64 ((rd_T61 l0 x15_1).f1)] 61 (0, 0)) (by (with_reducible repeat (first | apply zb1 | apply zb2 | apply zb3)); refine blk_put (cs := #[.int .i64 ((rd_T61 l0 x15_1).f0), .int .i64 0]) ?_ 1 _ rfl; (with_reducible repeat (first | apply zb1 | apply zb2 | apply zb3)); refine blk_put (cs := #[.int .i64 0, .int .i64 0]) ?_ 0 _ rfl; (with_reducible repeat (first | apply zb1 | apply zb2 | apply zb3)); exact BK145.out)) : gb145 ≠ gb147)); have n9_ := zm1 ((by rw [hg]; exact Nat.ne_of_gt (zd2 (o := .cells #[.int .i64 ((rd_T61 l0 x15_1).f0), .int .i64 ((rd_T61 l0 x15_1).f1)] 61 (0, 0)) (by (with_reducible repeat (first | apply zb1 | apply zb2 | apply zb3)); refine blk_put (cs := #[.int .i64 ((rd_T61 l0 x15_1).f0), .int .i64 0]) ?_ 1 _ rfl; (with_reducible repeat (first | apply zb1 | apply zb2 | apply zb3)); refine blk_put (cs := #[.int .i64 0, .int .i64 0]) ?_ 0 _ rfl; (with_reducible repeat (first | apply zb1 | apply zb2 | apply zb3)); exact BK145.out)) : gb147 ≠ gb145)); clear BK142; clear BK145; clear HB; have BK142 := n0_; have BK145 := n1_; have HB := n2_; have BK147 := n3_; have GW147 := n4_; have GE147 := n5_; have NB142_147 := n6_; have NB147_142 := n7_; have NB145_147 := n8_; have NB147_145 := n9_; clear n0_ n1_ n2_ n3_ n4_ n5_ n6_ n7_ n8_ n9_; clear hb hbox hg; have hnb78 := NB147_142.out; have hnc78 := NB142_147.out; have hnb79 := NB147_145.out; have hnc79 := NB145_147.out; have hcz80_0 : w77.cell? ⟨gb147, 0, none⟩ = some (.int .i64 0) := (blk_cell BK147.out 0).trans rfl; have hcz80_1 : w77.cell? ⟨gb147, 1, none⟩ = some (.int .i64 0) := (blk_cell BK147.out 1).trans rfl; have hfz80_0 := blk_frozen BK147.out 0; have hfz80_1 := blk_frozen BK147.out 1; have hcz81_0 : w77.cell? ⟨gb145, 0, none⟩ = some (.int .i64 ((rd_T61 l0 x15_1).f0)) := (blk_cell BK145.out 0).trans rfl; have hcz81_1 : w77.cell? ⟨gb145, 1, none⟩ = some (.int .i64 ((rd_T61 l0 x15_1).f1)) := (blk_cell BK145.out 1).trans rfl; have hfz81_0 := blk_frozen BK145.out 0; have hfz81_1 := blk_frozen BK145.out 1; have hcz82_0 : w77.cell? ⟨gb142, 0, none⟩ = some (.int .i64 a1_0) := (blk_cell BK142.out 0).trans rfl; have hcz82_1 : w77.cell? ⟨gb142, 1, none⟩ = some (.int .i64 a1_1) := (blk_cell BK142.out 1).trans rfl; have hfz82_0 := blk_frozen BK142.out 0; have hfz82_1 := blk_frozen BK142.out 1) | ((with_reducible refine gate_callee (f := 64) rfl ?_); refine goesL_ (some 42) rfl rfl Try.func64 (by kernel_rfl) rfl #[.agg #[.int .i64 ((rd_T61 l0 x15_1).f0), .int .i64 ((rd_T61 l0 x15_1).f1)], .agg #[.int .i64 ((rd_T61 l0 (ji15)).f0), .int .i64 ((rd_T61 l0 (ji15)).f1)], .agg #[.int .i64 a1_0, .int .i64 a1_1]] rfl (by (try simp only [List.map_toArray, List.map_cons, List.map_nil]); first | done | (simp only [hji15]; rfl) | rfl | (simp only [List.length_drop, List.length_take]; rfl)) ?_; (with_reducible refine (spec_l02Cross.calls ((rd_T61 l0 x15_1).f0) ((rd_T61 l0 x15_1).f1) ((rd_T61 l0 (ji15)).f0) ((rd_T61 l0 (ji15)).f1) a1_0 a1_1 t148 _ A19.out).mono ?_); rintro e w83 ⟨rfl, hb⟩; refine ⟨_, rfl, ?_⟩; have n0_ := zm1 (zd1 (o := .cells #[.int .i64 a1_0, .int .i64 a1_1] 61 (0, 0)) (by (with_reducible repeat (first | apply zb1 | apply zb2 | apply zb3)); refine blk_far ?_ NB142_147.out _; (with_reducible repeat (first | apply zb1 | apply zb2 | apply zb3)); refine blk_far ?_ NB142_147.out _; (with_reducible repeat (first | apply zb1 | apply zb2 | apply zb3)); exact BK142.out) hb); have n1_ := zm1 (zd1 (o := .cells #[.int .i64 ((rd_T61 l0 x15_1).f0), .int .i64 ((rd_T61 l0 x15_1).f1)] 61 (0, 0)) (by (with_reducible repeat (first | apply zb1 | apply zb2 | apply zb3)); refine blk_far ?_ NB145_147.out _; (with_reducible repeat (first | apply zb1 | apply zb2 | apply zb3)); refine blk_far ?_ NB145_147.out _; (with_reducible repeat (first | apply zb1 | apply zb2 | apply zb3)); exact BK145.out) hb); have n2_ := zm1 (zd1 (o := .cells #[.int .i64 ((rd_T61 l0 (ji15)).f0), .int .i64 ((rd_T61 l0 (ji15)).f1)] 61 (0, 0)) (by (with_reducible repeat (first | apply zb1 | apply zb2 | apply zb3)); refine blk_put (cs := #[.int .i64 ((rd_T61 l0 (ji15)).f0), .int .i64 0]) ?_ 1 _ rfl; (with_reducible repeat (first | apply zb1 | apply zb2 | apply zb3)); refine blk_put (cs := #[.int .i64 0, .int .i64 0]) ?_ 0 _ rfl; (with_reducible repeat (first | apply zb1 | apply zb2 | apply zb3)); exact BK147.out) hb); have n3_ := zm1 (zc6 (by repeat (first | (with_reducible first | exact HB.out | apply zc1 | apply zc2 | apply zc3 | refine zc4 ?_ GE142.out | refine zc4 ?_ GE145.out | refine zc4 ?_ GE147.out) | exact HB.out)) hb); clear BK142; clear BK145; clear BK147; clear HB; have BK142 := n0_; have BK145 := n1_; have BK147 := n2_; have HB := n3_; clear n0_ n1_ n2_ n3_; (try clear hb); (try clear hb2); (try clear hk); (try clear hi); have hcz84_0 : w83.cell? ⟨gb147, 0, none⟩ = some (.int .i64 ((rd_T61 l0 (ji15)).f0)) := (blk_cell BK147.out 0).trans rfl; have hcz84_1 : w83.cell? ⟨gb147, 1, none⟩ = some (.int .i64 ((rd_T61 l0 (ji15)).f1)) := (blk_cell BK147.out 1).trans rfl; have hfz84_0 := blk_frozen BK147.out 0; have hfz84_1 := blk_frozen BK147.out 1; have hcz85_0 : w83.cell? ⟨gb145, 0, none⟩ = some (.int .i64 ((rd_T61 l0 x15_1).f0)) := (blk_cell BK145.out 0).trans rfl; have hcz85_1 : w83.cell? ⟨gb145, 1, none⟩ = some (.int .i64 ((rd_T61 l0 x15_1).f1)) := (blk_cell BK145.out 1).trans rfl; have hfz85_0 := blk_frozen BK145.out 0; have hfz85_1 := blk_frozen BK145.out 1))
              go_roundg k1
              case measure => have := HK1.out; omega
              case rel => exact ⟨(!x5_1), (wrap64 (x15_1 + 1)), (by first | rfl | (simp; done) | (simp [*]; done)), (by first | rfl | (simp; done) | (simp [*]; done)), H', ⟨by have := HK1.out; omega⟩, ⟨by (with_reducible repeat (first | apply zb1 | apply zb2 | apply zb3)); exact BK142.out⟩, ⟨by repeat (first | (with_reducible first | exact HB.out | apply zc1 | apply zc2 | apply zc3 | refine zc4 ?_ GE142.out | refine zc4 ?_ GE145.out | refine zc4 ?_ GE147.out) | exact HB.out)⟩⟩
             ·rw [if_neg c73] at H
              have c73b0 : decide (t148 < 0) = false := decide_eq_false c73
              clear c73
              have H' := zm1 H
              clear H
              have p144 : 0 ≤ (x15_1 : Int) := of_decide_eq_true (by assumption)
              have q144 : x15_1 < (l0.length : Int) := of_decide_eq_true (by assumption)
              obtain ⟨ad144, e144, hx144_0, hx144_1⟩ := at_T61 HR0.out x15_1 p144 q144
              cases e144
              (try replace hx144_0 := (HB.out.cell (zl hx144_0)).trans hx144_0)
              (try replace hx144_1 := (HB.out.cell (zl hx144_1)).trans hx144_1)
              replace p144 := eq_true p144
              replace q144 := eq_true q144
              go_wp2_with (first | ((with_reducible refine gate_dst (N := 7) rfl ?_); refine box_event ?hg (N := 7) ?hd (cs := #[.int .i64 0, .int .i64 0]) (t := 61) ?hr ?_; (case hd => rfl); (case hg => rfl); (case hr => first | (go_simp; done) | (go_simp; rfl)); intro gb145 hg w86 hbox hb; have n0_ := zm1 (zd1 (zb4 BK142.out) hb); have n1_ := zm1 (zc6 (by repeat (first | (with_reducible first | exact HB.out | apply zc1 | apply zc2 | apply zc3 | refine zc4 ?_ GE142.out) | exact HB.out)) hb); have n2_ := zm1 (hbox); have n3_ := zm1 ((by rw [hg]; exact (zc5 (by repeat (first | (with_reducible first | exact HB.out | apply zc1 | apply zc2 | apply zc3 | refine zc4 ?_ GE142.out) | exact HB.out))) : w.heap.size ≤ gb145)); have n4_ := zm1 ((by rw [hg]; exact (zc5 (by repeat (first | (with_reducible first | exact HB.out | apply zc1 | apply zc2 | apply zc3 | refine zc4 ?_ GE142.out) | exact HB.out))) : w.heap.size ≤ gb145)); have n5_ := zm1 ((by rw [hg]; exact Nat.ne_of_lt (zd2 (zb4 BK142.out)) : gb142 ≠ gb145)); have n6_ := zm1 ((by rw [hg]; exact Nat.ne_of_gt (zd2 (zb4 BK142.out)) : gb145 ≠ gb142)); clear BK142; clear HB; have BK142 := n0_; have HB := n1_; have BK145 := n2_; have GW145 := n3_; have GE145 := n4_; have NB142_145 := n5_; have NB145_142 := n6_; clear n0_ n1_ n2_ n3_ n4_ n5_ n6_; clear hb hbox hg; have hnb87 := NB145_142.out; have hnc87 := NB142_145.out; have hcz88_0 : w86.cell? ⟨gb145, 0, none⟩ = some (.int .i64 0) := (blk_cell BK145.out 0).trans rfl; have hcz88_1 : w86.cell? ⟨gb145, 1, none⟩ = some (.int .i64 0) := (blk_cell BK145.out 1).trans rfl; have hfz88_0 := blk_frozen BK145.out 0; have hfz88_1 := blk_frozen BK145.out 1; have p146 : 0 ≤ ((ji15) : Int) := of_decide_eq_true (by assumption); have q146 : (ji15) < (l0.length : Int) := of_decide_eq_true (by assumption); obtain ⟨ad146, e146, hx146_0, hx146_1⟩ := at_T61 HR0.out (ji15) p146 q146; obtain rfl : ad144 = ad146 := (by injection e146); have hn146_0 : ad144.block ≠ gb145 := Nat.ne_of_lt (Nat.lt_of_lt_of_le (by have := zl hx146_0; first | rwa [add_block] at this | exact this) GW145.out); have hn146_1 : ad144.block ≠ gb145 := Nat.ne_of_lt (Nat.lt_of_lt_of_le (by have := zl hx146_0; first | rwa [add_block] at this | exact this) GW145.out); (try replace hx146_0 := (HB.out.cell (zl hx146_0)).trans hx146_0); (try replace hx146_1 := (HB.out.cell (zl hx146_1)).trans hx146_1); replace hx146_0 := (cell_far (p := ⟨gb145, 0, none⟩) (by first | (rw [add_block]; exact hn146_0) | (show (Addr.add _ _).block ≠ _; rw [add_block]; exact hn146_0) | exact hn146_0) (.int .i64 ((rd_T61 l0 x15_1).f0))).trans hx146_0; replace hx146_1 := (cell_far (p := ⟨gb145, 0, none⟩) (by first | (rw [add_block]; exact hn146_0) | (show (Addr.add _ _).block ≠ _; rw [add_block]; exact hn146_0) | exact hn146_0) (.int .i64 ((rd_T61 l0 x15_1).f0))).trans hx146_1; replace hx146_0 := (cell_far (p := ⟨gb145, 1, none⟩) (by first | (rw [add_block]; exact hn146_1) | (show (Addr.add _ _).block ≠ _; rw [add_block]; exact hn146_1) | exact hn146_1) (.int .i64 ((rd_T61 l0 x15_1).f1))).trans hx146_0; replace hx146_1 := (cell_far (p := ⟨gb145, 1, none⟩) (by first | (rw [add_block]; exact hn146_1) | (show (Addr.add _ _).block ≠ _; rw [add_block]; exact hn146_1) | exact hn146_1) (.int .i64 ((rd_T61 l0 x15_1).f1))).trans hx146_1; clear hn146_0; clear hn146_1; replace p146 := eq_true p146; replace q146 := eq_true q146) | ((with_reducible refine gate_dst (N := 8) rfl ?_); refine box_event ?hg (N := 8) ?hd (cs := #[.int .i64 0, .int .i64 0]) (t := 61) ?hr ?_; (case hd => rfl); (case hg => rfl); (case hr => first | (go_simp; done) | (go_simp; rfl)); intro gb147 hg w89 hbox hb; have n0_ := zm1 (zd1 (o := .cells #[.int .i64 a1_0, .int .i64 a1_1] 61 (0, 0)) (by (with_reducible repeat (first | apply zb1 | apply zb2 | apply zb3)); refine blk_far ?_ NB142_145.out _; (with_reducible repeat (first | apply zb1 | apply zb2 | apply zb3)); refine blk_far ?_ NB142_145.out _; (with_reducible repeat (first | apply zb1 | apply zb2 | apply zb3)); exact BK142.out) hb); have n1_ := zm1 (zd1 (o := .cells #[.int .i64 ((rd_T61 l0 x15_1).f0), .int .i64 ((rd_T61 l0 x15_1).f1)] 61 (0, 0)) (by (with_reducible repeat (first | apply zb1 | apply zb2 | apply zb3)); refine blk_put (cs := #[.int .i64 ((rd_T61 l0 x15_1).f0), .int .i64 0]) ?_ 1 _ rfl; (with_reducible repeat (first | apply zb1 | apply zb2 | apply zb3)); refine blk_put (cs := #[.int .i64 0, .int .i64 0]) ?_ 0 _ rfl; (with_reducible repeat (first | apply zb1 | apply zb2 | apply zb3)); exact BK145.out) hb); have n2_ := zm1 (zc6 (by repeat (first | (with_reducible first | exact HB.out | apply zc1 | apply zc2 | apply zc3 | refine zc4 ?_ GE142.out | refine zc4 ?_ GE145.out) | exact HB.out)) hb); have n3_ := zm1 (hbox); have n4_ := zm1 ((by rw [hg]; exact (zc5 (by repeat (first | (with_reducible first | exact HB.out | apply zc1 | apply zc2 | apply zc3 | refine zc4 ?_ GE142.out | refine zc4 ?_ GE145.out) | exact HB.out))) : w.heap.size ≤ gb147)); have n5_ := zm1 ((by rw [hg]; exact (zc5 (by repeat (first | (with_reducible first | exact HB.out | apply zc1 | apply zc2 | apply zc3 | refine zc4 ?_ GE142.out | refine zc4 ?_ GE145.out) | exact HB.out))) : w.heap.size ≤ gb147)); have n6_ := zm1 ((by rw [hg]; exact Nat.ne_of_lt (zd2 (o := .cells #[.int .i64 a1_0, .int .i64 a1_1] 61 (0, 0)) (by (with_reducible repeat (first | apply zb1 | apply zb2 | apply zb3)); refine blk_far ?_ NB142_145.out _; (with_reducible repeat (first | apply zb1 | apply zb2 | apply zb3)); refine blk_far ?_ NB142_145.out _; (with_reducible repeat (first | apply zb1 | apply zb2 | apply zb3)); exact BK142.out)) : gb142 ≠ gb147)); have n7_ := zm1 ((by rw [hg]; exact Nat.ne_of_gt (zd2 (o := .cells #[.int .i64 a1_0, .int .i64 a1_1] 61 (0, 0)) (by (with_reducible repeat (first | apply zb1 | apply zb2 | apply zb3)); refine blk_far ?_ NB142_145.out _; (with_reducible repeat (first | apply zb1 | apply zb2 | apply zb3)); refine blk_far ?_ NB142_145.out _; (with_reducible repeat (first | apply zb1 | apply zb2 | apply zb3)); exact BK142.out)) : gb147 ≠ gb142)); have n8_ := zm1 ((by rw [hg]; exact Nat.ne_of_lt (zd2 (o := .cells #[.int .i64 ((rd_T61 l0 x15_1).f0), .int .i64 ((rd_T61 l0 x15_1).f1)] 61 (0, 0)) (by (with_reducible repeat (first | apply zb1 | apply zb2 | apply zb3)); refine blk_put (cs := #[.int .i64 ((rd_T61 l0 x15_1).f0), .int .i64 0]) ?_ 1 _ rfl; (with_reducible repeat (first | apply zb1 | apply zb2 | apply zb3)); refine blk_put (cs := #[.int .i64 0, .int .i64 0]) ?_ 0 _ rfl; (with_reducible repeat (first | apply zb1 | apply zb2 | apply zb3)); exact BK145.out)) : gb145 ≠ gb147)); have n9_ := zm1 ((by rw [hg]; exact Nat.ne_of_gt (zd2 (o := .cells #[.int .i64 ((rd_T61 l0 x15_1).f0), .int .i64 ((rd_T61 l0 x15_1).f1)] 61 (0, 0)) (by (with_reducible repeat (first | apply zb1 | apply zb2 | apply zb3)); refine blk_put (cs := #[.int .i64 ((rd_T61 l0 x15_1).f0), .int .i64 0]) ?_ 1 _ rfl; (with_reducible repeat (first | apply zb1 | apply zb2 | apply zb3)); refine blk_put (cs := #[.int .i64 0, .int .i64 0]) ?_ 0 _ rfl; (with_reducible repeat (first | apply zb1 | apply zb2 | apply zb3)); exact BK145.out)) : gb147 ≠ gb145)); clear BK142; clear BK145; clear HB; have BK142 := n0_; have BK145 := n1_; have HB := n2_; have BK147 := n3_; have GW147 := n4_; have GE147 := n5_; have NB142_147 := n6_; have NB147_142 := n7_; have NB145_147 := n8_; have NB147_145 := n9_; clear n0_ n1_ n2_ n3_ n4_ n5_ n6_ n7_ n8_ n9_; clear hb hbox hg; have hnb90 := NB147_142.out; have hnc90 := NB142_147.out; have hnb91 := NB147_145.out; have hnc91 := NB145_147.out; have hcz92_0 : w89.cell? ⟨gb147, 0, none⟩ = some (.int .i64 0) := (blk_cell BK147.out 0).trans rfl; have hcz92_1 : w89.cell? ⟨gb147, 1, none⟩ = some (.int .i64 0) := (blk_cell BK147.out 1).trans rfl; have hfz92_0 := blk_frozen BK147.out 0; have hfz92_1 := blk_frozen BK147.out 1; have hcz93_0 : w89.cell? ⟨gb145, 0, none⟩ = some (.int .i64 ((rd_T61 l0 x15_1).f0)) := (blk_cell BK145.out 0).trans rfl; have hcz93_1 : w89.cell? ⟨gb145, 1, none⟩ = some (.int .i64 ((rd_T61 l0 x15_1).f1)) := (blk_cell BK145.out 1).trans rfl; have hfz93_0 := blk_frozen BK145.out 0; have hfz93_1 := blk_frozen BK145.out 1; have hcz94_0 : w89.cell? ⟨gb142, 0, none⟩ = some (.int .i64 a1_0) := (blk_cell BK142.out 0).trans rfl; have hcz94_1 : w89.cell? ⟨gb142, 1, none⟩ = some (.int .i64 a1_1) := (blk_cell BK142.out 1).trans rfl; have hfz94_0 := blk_frozen BK142.out 0; have hfz94_1 := blk_frozen BK142.out 1) | ((with_reducible refine gate_callee (f := 64) rfl ?_); refine goesL_ (some 42) rfl rfl Try.func64 (by kernel_rfl) rfl #[.agg #[.int .i64 ((rd_T61 l0 x15_1).f0), .int .i64 ((rd_T61 l0 x15_1).f1)], .agg #[.int .i64 ((rd_T61 l0 (ji15)).f0), .int .i64 ((rd_T61 l0 (ji15)).f1)], .agg #[.int .i64 a1_0, .int .i64 a1_1]] rfl (by (try simp only [List.map_toArray, List.map_cons, List.map_nil]); first | done | (simp only [hji15]; rfl) | rfl | (simp only [List.length_drop, List.length_take]; rfl)) ?_; (with_reducible refine (spec_l02Cross.calls ((rd_T61 l0 x15_1).f0) ((rd_T61 l0 x15_1).f1) ((rd_T61 l0 (ji15)).f0) ((rd_T61 l0 (ji15)).f1) a1_0 a1_1 t148 _ A19.out).mono ?_); rintro e w95 ⟨rfl, hb⟩; refine ⟨_, rfl, ?_⟩; have n0_ := zm1 (zd1 (o := .cells #[.int .i64 a1_0, .int .i64 a1_1] 61 (0, 0)) (by (with_reducible repeat (first | apply zb1 | apply zb2 | apply zb3)); refine blk_far ?_ NB142_147.out _; (with_reducible repeat (first | apply zb1 | apply zb2 | apply zb3)); refine blk_far ?_ NB142_147.out _; (with_reducible repeat (first | apply zb1 | apply zb2 | apply zb3)); exact BK142.out) hb); have n1_ := zm1 (zd1 (o := .cells #[.int .i64 ((rd_T61 l0 x15_1).f0), .int .i64 ((rd_T61 l0 x15_1).f1)] 61 (0, 0)) (by (with_reducible repeat (first | apply zb1 | apply zb2 | apply zb3)); refine blk_far ?_ NB145_147.out _; (with_reducible repeat (first | apply zb1 | apply zb2 | apply zb3)); refine blk_far ?_ NB145_147.out _; (with_reducible repeat (first | apply zb1 | apply zb2 | apply zb3)); exact BK145.out) hb); have n2_ := zm1 (zd1 (o := .cells #[.int .i64 ((rd_T61 l0 (ji15)).f0), .int .i64 ((rd_T61 l0 (ji15)).f1)] 61 (0, 0)) (by (with_reducible repeat (first | apply zb1 | apply zb2 | apply zb3)); refine blk_put (cs := #[.int .i64 ((rd_T61 l0 (ji15)).f0), .int .i64 0]) ?_ 1 _ rfl; (with_reducible repeat (first | apply zb1 | apply zb2 | apply zb3)); refine blk_put (cs := #[.int .i64 0, .int .i64 0]) ?_ 0 _ rfl; (with_reducible repeat (first | apply zb1 | apply zb2 | apply zb3)); exact BK147.out) hb); have n3_ := zm1 (zc6 (by repeat (first | (with_reducible first | exact HB.out | apply zc1 | apply zc2 | apply zc3 | refine zc4 ?_ GE142.out | refine zc4 ?_ GE145.out | refine zc4 ?_ GE147.out) | exact HB.out)) hb); clear BK142; clear BK145; clear BK147; clear HB; have BK142 := n0_; have BK145 := n1_; have BK147 := n2_; have HB := n3_; clear n0_ n1_ n2_ n3_; (try clear hb); (try clear hb2); (try clear hk); (try clear hi); have hcz96_0 : w95.cell? ⟨gb147, 0, none⟩ = some (.int .i64 ((rd_T61 l0 (ji15)).f0)) := (blk_cell BK147.out 0).trans rfl; have hcz96_1 : w95.cell? ⟨gb147, 1, none⟩ = some (.int .i64 ((rd_T61 l0 (ji15)).f1)) := (blk_cell BK147.out 1).trans rfl; have hfz96_0 := blk_frozen BK147.out 0; have hfz96_1 := blk_frozen BK147.out 1; have hcz97_0 : w95.cell? ⟨gb145, 0, none⟩ = some (.int .i64 ((rd_T61 l0 x15_1).f0)) := (blk_cell BK145.out 0).trans rfl; have hcz97_1 : w95.cell? ⟨gb145, 1, none⟩ = some (.int .i64 ((rd_T61 l0 x15_1).f1)) := (blk_cell BK145.out 1).trans rfl; have hfz97_0 := blk_frozen BK145.out 0; have hfz97_1 := blk_frozen BK145.out 1))
              go_roundg k1
              case measure => have := HK1.out; omega
              case rel => exact ⟨(x5_1), (wrap64 (x15_1 + 1)), (by first | rfl | (simp; done) | (simp [*]; done)), (by first | rfl | (simp; done) | (simp [*]; done)), H', ⟨by have := HK1.out; omega⟩, ⟨by (with_reducible repeat (first | apply zb1 | apply zb2 | apply zb3)); exact BK142.out⟩, ⟨by repeat (first | (with_reducible first | exact HB.out | apply zc1 | apply zc2 | apply zc3 | refine zc4 ?_ GE142.out | refine zc4 ?_ GE145.out | refine zc4 ?_ GE147.out) | exact HB.out)⟩⟩
            ·rw [if_neg c72] at H
             have c72b0 : decide (((rd_T61 l0 (ji15)).f1) < ((rd_T61 l0 x15_1).f1)) = false := decide_eq_false c72
             clear c72
             have H' := zm1 H
             clear H
             have p144 : 0 ≤ (x15_1 : Int) := of_decide_eq_true (by assumption)
             have q144 : x15_1 < (l0.length : Int) := of_decide_eq_true (by assumption)
             obtain ⟨ad144, e144, hx144_0, hx144_1⟩ := at_T61 HR0.out x15_1 p144 q144
             cases e144
             (try replace hx144_0 := (HB.out.cell (zl hx144_0)).trans hx144_0)
             (try replace hx144_1 := (HB.out.cell (zl hx144_1)).trans hx144_1)
             replace p144 := eq_true p144
             replace q144 := eq_true q144
             go_wp2_with (first | ((with_reducible refine gate_dst (N := 7) rfl ?_); refine box_event ?hg (N := 7) ?hd (cs := #[.int .i64 0, .int .i64 0]) (t := 61) ?hr ?_; (case hd => rfl); (case hg => rfl); (case hr => first | (go_simp; done) | (go_simp; rfl)); intro gb145 hg w98 hbox hb; have n0_ := zm1 (zd1 (zb4 BK142.out) hb); have n1_ := zm1 (zc6 (by repeat (first | (with_reducible first | exact HB.out | apply zc1 | apply zc2 | apply zc3 | refine zc4 ?_ GE142.out) | exact HB.out)) hb); have n2_ := zm1 (hbox); have n3_ := zm1 ((by rw [hg]; exact (zc5 (by repeat (first | (with_reducible first | exact HB.out | apply zc1 | apply zc2 | apply zc3 | refine zc4 ?_ GE142.out) | exact HB.out))) : w.heap.size ≤ gb145)); have n4_ := zm1 ((by rw [hg]; exact (zc5 (by repeat (first | (with_reducible first | exact HB.out | apply zc1 | apply zc2 | apply zc3 | refine zc4 ?_ GE142.out) | exact HB.out))) : w.heap.size ≤ gb145)); have n5_ := zm1 ((by rw [hg]; exact Nat.ne_of_lt (zd2 (zb4 BK142.out)) : gb142 ≠ gb145)); have n6_ := zm1 ((by rw [hg]; exact Nat.ne_of_gt (zd2 (zb4 BK142.out)) : gb145 ≠ gb142)); clear BK142; clear HB; have BK142 := n0_; have HB := n1_; have BK145 := n2_; have GW145 := n3_; have GE145 := n4_; have NB142_145 := n5_; have NB145_142 := n6_; clear n0_ n1_ n2_ n3_ n4_ n5_ n6_; clear hb hbox hg; have hnb99 := NB145_142.out; have hnc99 := NB142_145.out; have hcz100_0 : w98.cell? ⟨gb145, 0, none⟩ = some (.int .i64 0) := (blk_cell BK145.out 0).trans rfl; have hcz100_1 : w98.cell? ⟨gb145, 1, none⟩ = some (.int .i64 0) := (blk_cell BK145.out 1).trans rfl; have hfz100_0 := blk_frozen BK145.out 0; have hfz100_1 := blk_frozen BK145.out 1; have p146 : 0 ≤ ((ji15) : Int) := of_decide_eq_true (by assumption); have q146 : (ji15) < (l0.length : Int) := of_decide_eq_true (by assumption); obtain ⟨ad146, e146, hx146_0, hx146_1⟩ := at_T61 HR0.out (ji15) p146 q146; obtain rfl : ad144 = ad146 := (by injection e146); have hn146_0 : ad144.block ≠ gb145 := Nat.ne_of_lt (Nat.lt_of_lt_of_le (by have := zl hx146_0; first | rwa [add_block] at this | exact this) GW145.out); have hn146_1 : ad144.block ≠ gb145 := Nat.ne_of_lt (Nat.lt_of_lt_of_le (by have := zl hx146_0; first | rwa [add_block] at this | exact this) GW145.out); (try replace hx146_0 := (HB.out.cell (zl hx146_0)).trans hx146_0); (try replace hx146_1 := (HB.out.cell (zl hx146_1)).trans hx146_1); replace hx146_0 := (cell_far (p := ⟨gb145, 0, none⟩) (by first | (rw [add_block]; exact hn146_0) | (show (Addr.add _ _).block ≠ _; rw [add_block]; exact hn146_0) | exact hn146_0) (.int .i64 ((rd_T61 l0 x15_1).f0))).trans hx146_0; replace hx146_1 := (cell_far (p := ⟨gb145, 0, none⟩) (by first | (rw [add_block]; exact hn146_0) | (show (Addr.add _ _).block ≠ _; rw [add_block]; exact hn146_0) | exact hn146_0) (.int .i64 ((rd_T61 l0 x15_1).f0))).trans hx146_1; replace hx146_0 := (cell_far (p := ⟨gb145, 1, none⟩) (by first | (rw [add_block]; exact hn146_1) | (show (Addr.add _ _).block ≠ _; rw [add_block]; exact hn146_1) | exact hn146_1) (.int .i64 ((rd_T61 l0 x15_1).f1))).trans hx146_0; replace hx146_1 := (cell_far (p := ⟨gb145, 1, none⟩) (by first | (rw [add_block]; exact hn146_1) | (show (Addr.add _ _).block ≠ _; rw [add_block]; exact hn146_1) | exact hn146_1) (.int .i64 ((rd_T61 l0 x15_1).f1))).trans hx146_1; clear hn146_0; clear hn146_1; replace p146 := eq_true p146; replace q146 := eq_true q146) | ((with_reducible refine gate_dst (N := 8) rfl ?_); refine box_event ?hg (N := 8) ?hd (cs := #[.int .i64 0, .int .i64 0]) (t := 61) ?hr ?_; (case hd => rfl); (case hg => rfl); (case hr => first | (go_simp; done) | (go_simp; rfl)); intro gb147 hg w101 hbox hb; have n0_ := zm1 (zd1 (o := .cells #[.int .i64 a1_0, .int .i64 a1_1] 61 (0, 0)) (by (with_reducible repeat (first | apply zb1 | apply zb2 | apply zb3)); refine blk_far ?_ NB142_145.out _; (with_reducible repeat (first | apply zb1 | apply zb2 | apply zb3)); refine blk_far ?_ NB142_145.out _; (with_reducible repeat (first | apply zb1 | apply zb2 | apply zb3)); exact BK142.out) hb); have n1_ := zm1 (zd1 (o := .cells #[.int .i64 ((rd_T61 l0 x15_1).f0), .int .i64 ((rd_T61 l0 x15_1).f1)] 61 (0, 0)) (by (with_reducible repeat (first | apply zb1 | apply zb2 | apply zb3)); refine blk_put (cs := #[.int .i64 ((rd_T61 l0 x15_1).f0), .int .i64 0]) ?_ 1 _ rfl; (with_reducible repeat (first | apply zb1 | apply zb2 | apply zb3)); refine blk_put (cs := #[.int .i64 0, .int .i64 0]) ?_ 0 _ rfl; (with_reducible repeat (first | apply zb1 | apply zb2 | apply zb3)); exact BK145.out) hb); have n2_ := zm1 (zc6 (by repeat (first | (with_reducible first | exact HB.out | apply zc1 | apply zc2 | apply zc3 | refine zc4 ?_ GE142.out | refine zc4 ?_ GE145.out) | exact HB.out)) hb); have n3_ := zm1 (hbox); have n4_ := zm1 ((by rw [hg]; exact (zc5 (by repeat (first | (with_reducible first | exact HB.out | apply zc1 | apply zc2 | apply zc3 | refine zc4 ?_ GE142.out | refine zc4 ?_ GE145.out) | exact HB.out))) : w.heap.size ≤ gb147)); have n5_ := zm1 ((by rw [hg]; exact (zc5 (by repeat (first | (with_reducible first | exact HB.out | apply zc1 | apply zc2 | apply zc3 | refine zc4 ?_ GE142.out | refine zc4 ?_ GE145.out) | exact HB.out))) : w.heap.size ≤ gb147)); have n6_ := zm1 ((by rw [hg]; exact Nat.ne_of_lt (zd2 (o := .cells #[.int .i64 a1_0, .int .i64 a1_1] 61 (0, 0)) (by (with_reducible repeat (first | apply zb1 | apply zb2 | apply zb3)); refine blk_far ?_ NB142_145.out _; (with_reducible repeat (first | apply zb1 | apply zb2 | apply zb3)); refine blk_far ?_ NB142_145.out _; (with_reducible repeat (first | apply zb1 | apply zb2 | apply zb3)); exact BK142.out)) : gb142 ≠ gb147)); have n7_ := zm1 ((by rw [hg]; exact Nat.ne_of_gt (zd2 (o := .cells #[.int .i64 a1_0, .int .i64 a1_1] 61 (0, 0)) (by (with_reducible repeat (first | apply zb1 | apply zb2 | apply zb3)); refine blk_far ?_ NB142_145.out _; (with_reducible repeat (first | apply zb1 | apply zb2 | apply zb3)); refine blk_far ?_ NB142_145.out _; (with_reducible repeat (first | apply zb1 | apply zb2 | apply zb3)); exact BK142.out)) : gb147 ≠ gb142)); have n8_ := zm1 ((by rw [hg]; exact Nat.ne_of_lt (zd2 (o := .cells #[.int .i64 ((rd_T61 l0 x15_1).f0), .int .i64 ((rd_T61 l0 x15_1).f1)] 61 (0, 0)) (by (with_reducible repeat (first | apply zb1 | apply zb2 | apply zb3)); refine blk_put (cs := #[.int .i64 ((rd_T61 l0 x15_1).f0), .int .i64 0]) ?_ 1 _ rfl; (with_reducible repeat (first | apply zb1 | apply zb2 | apply zb3)); refine blk_put (cs := #[.int .i64 0, .int .i64 0]) ?_ 0 _ rfl; (with_reducible repeat (first | apply zb1 | apply zb2 | apply zb3)); exact BK145.out)) : gb145 ≠ gb147)); have n9_ := zm1 ((by rw [hg]; exact Nat.ne_of_gt (zd2 (o := .cells #[.int .i64 ((rd_T61 l0 x15_1).f0), .int .i64 ((rd_T61 l0 x15_1).f1)] 61 (0, 0)) (by (with_reducible repeat (first | apply zb1 | apply zb2 | apply zb3)); refine blk_put (cs := #[.int .i64 ((rd_T61 l0 x15_1).f0), .int .i64 0]) ?_ 1 _ rfl; (with_reducible repeat (first | apply zb1 | apply zb2 | apply zb3)); refine blk_put (cs := #[.int .i64 0, .int .i64 0]) ?_ 0 _ rfl; (with_reducible repeat (first | apply zb1 | apply zb2 | apply zb3)); exact BK145.out)) : gb147 ≠ gb145)); clear BK142; clear BK145; clear HB; have BK142 := n0_; have BK145 := n1_; have HB := n2_; have BK147 := n3_; have GW147 := n4_; have GE147 := n5_; have NB142_147 := n6_; have NB147_142 := n7_; have NB145_147 := n8_; have NB147_145 := n9_; clear n0_ n1_ n2_ n3_ n4_ n5_ n6_ n7_ n8_ n9_; clear hb hbox hg; have hnb102 := NB147_142.out; have hnc102 := NB142_147.out; have hnb103 := NB147_145.out; have hnc103 := NB145_147.out; have hcz104_0 : w101.cell? ⟨gb147, 0, none⟩ = some (.int .i64 0) := (blk_cell BK147.out 0).trans rfl; have hcz104_1 : w101.cell? ⟨gb147, 1, none⟩ = some (.int .i64 0) := (blk_cell BK147.out 1).trans rfl; have hfz104_0 := blk_frozen BK147.out 0; have hfz104_1 := blk_frozen BK147.out 1; have hcz105_0 : w101.cell? ⟨gb145, 0, none⟩ = some (.int .i64 ((rd_T61 l0 x15_1).f0)) := (blk_cell BK145.out 0).trans rfl; have hcz105_1 : w101.cell? ⟨gb145, 1, none⟩ = some (.int .i64 ((rd_T61 l0 x15_1).f1)) := (blk_cell BK145.out 1).trans rfl; have hfz105_0 := blk_frozen BK145.out 0; have hfz105_1 := blk_frozen BK145.out 1; have hcz106_0 : w101.cell? ⟨gb142, 0, none⟩ = some (.int .i64 a1_0) := (blk_cell BK142.out 0).trans rfl; have hcz106_1 : w101.cell? ⟨gb142, 1, none⟩ = some (.int .i64 a1_1) := (blk_cell BK142.out 1).trans rfl; have hfz106_0 := blk_frozen BK142.out 0; have hfz106_1 := blk_frozen BK142.out 1) | ((with_reducible refine gate_callee (f := 64) rfl ?_); refine goesL_ (some 42) rfl rfl Try.func64 (by kernel_rfl) rfl #[.agg #[.int .i64 ((rd_T61 l0 x15_1).f0), .int .i64 ((rd_T61 l0 x15_1).f1)], .agg #[.int .i64 ((rd_T61 l0 (ji15)).f0), .int .i64 ((rd_T61 l0 (ji15)).f1)], .agg #[.int .i64 a1_0, .int .i64 a1_1]] rfl (by (try simp only [List.map_toArray, List.map_cons, List.map_nil]); first | done | (simp only [hji15]; rfl) | rfl | (simp only [List.length_drop, List.length_take]; rfl)) ?_; (with_reducible refine (spec_l02Cross.calls ((rd_T61 l0 x15_1).f0) ((rd_T61 l0 x15_1).f1) ((rd_T61 l0 (ji15)).f0) ((rd_T61 l0 (ji15)).f1) a1_0 a1_1 t148 _ A19.out).mono ?_); rintro e w107 ⟨rfl, hb⟩; refine ⟨_, rfl, ?_⟩; have n0_ := zm1 (zd1 (o := .cells #[.int .i64 a1_0, .int .i64 a1_1] 61 (0, 0)) (by (with_reducible repeat (first | apply zb1 | apply zb2 | apply zb3)); refine blk_far ?_ NB142_147.out _; (with_reducible repeat (first | apply zb1 | apply zb2 | apply zb3)); refine blk_far ?_ NB142_147.out _; (with_reducible repeat (first | apply zb1 | apply zb2 | apply zb3)); exact BK142.out) hb); have n1_ := zm1 (zd1 (o := .cells #[.int .i64 ((rd_T61 l0 x15_1).f0), .int .i64 ((rd_T61 l0 x15_1).f1)] 61 (0, 0)) (by (with_reducible repeat (first | apply zb1 | apply zb2 | apply zb3)); refine blk_far ?_ NB145_147.out _; (with_reducible repeat (first | apply zb1 | apply zb2 | apply zb3)); refine blk_far ?_ NB145_147.out _; (with_reducible repeat (first | apply zb1 | apply zb2 | apply zb3)); exact BK145.out) hb); have n2_ := zm1 (zd1 (o := .cells #[.int .i64 ((rd_T61 l0 (ji15)).f0), .int .i64 ((rd_T61 l0 (ji15)).f1)] 61 (0, 0)) (by (with_reducible repeat (first | apply zb1 | apply zb2 | apply zb3)); refine blk_put (cs := #[.int .i64 ((rd_T61 l0 (ji15)).f0), .int .i64 0]) ?_ 1 _ rfl; (with_reducible repeat (first | apply zb1 | apply zb2 | apply zb3)); refine blk_put (cs := #[.int .i64 0, .int .i64 0]) ?_ 0 _ rfl; (with_reducible repeat (first | apply zb1 | apply zb2 | apply zb3)); exact BK147.out) hb); have n3_ := zm1 (zc6 (by repeat (first | (with_reducible first | exact HB.out | apply zc1 | apply zc2 | apply zc3 | refine zc4 ?_ GE142.out | refine zc4 ?_ GE145.out | refine zc4 ?_ GE147.out) | exact HB.out)) hb); clear BK142; clear BK145; clear BK147; clear HB; have BK142 := n0_; have BK145 := n1_; have BK147 := n2_; have HB := n3_; clear n0_ n1_ n2_ n3_; (try clear hb); (try clear hb2); (try clear hk); (try clear hi); have hcz108_0 : w107.cell? ⟨gb147, 0, none⟩ = some (.int .i64 ((rd_T61 l0 (ji15)).f0)) := (blk_cell BK147.out 0).trans rfl; have hcz108_1 : w107.cell? ⟨gb147, 1, none⟩ = some (.int .i64 ((rd_T61 l0 (ji15)).f1)) := (blk_cell BK147.out 1).trans rfl; have hfz108_0 := blk_frozen BK147.out 0; have hfz108_1 := blk_frozen BK147.out 1; have hcz109_0 : w107.cell? ⟨gb145, 0, none⟩ = some (.int .i64 ((rd_T61 l0 x15_1).f0)) := (blk_cell BK145.out 0).trans rfl; have hcz109_1 : w107.cell? ⟨gb145, 1, none⟩ = some (.int .i64 ((rd_T61 l0 x15_1).f1)) := (blk_cell BK145.out 1).trans rfl; have hfz109_0 := blk_frozen BK145.out 0; have hfz109_1 := blk_frozen BK145.out 1))
             go_roundg k1
             case measure => have := HK1.out; omega
             case rel => exact ⟨(x5_1), (wrap64 (x15_1 + 1)), (by first | rfl | (simp; done) | (simp [*]; done)), (by first | rfl | (simp; done) | (simp [*]; done)), H', ⟨by have := HK1.out; omega⟩, ⟨by (with_reducible repeat (first | apply zb1 | apply zb2 | apply zb3)); exact BK142.out⟩, ⟨by repeat (first | (with_reducible first | exact HB.out | apply zc1 | apply zc2 | apply zc3 | refine zc4 ?_ GE142.out | refine zc4 ?_ GE145.out | refine zc4 ?_ GE147.out) | exact HB.out)⟩⟩
          ·rw [if_neg c18] at H
           have c18b0 : ((decide (((rd_T61 l0 x15_1).f1) > a1_1)) != (decide (((rd_T61 l0 (ji15)).f1) > a1_1))) = false := by simpa using c18
           (try (have c18b1 : decide ((decide (((rd_T61 l0 x15_1).f1) > a1_1)) = (decide (((rd_T61 l0 (ji15)).f1) > a1_1))) = true := by simpa using c18))
           (try (have c18b2 : ((decide (((rd_T61 l0 x15_1).f1) > a1_1)) == (decide (((rd_T61 l0 (ji15)).f1) > a1_1))) = true := by simpa using c18))
           clear c18
           have H' := zm1 H
           clear H
           have p144 : 0 ≤ (x15_1 : Int) := of_decide_eq_true (by assumption)
           have q144 : x15_1 < (l0.length : Int) := of_decide_eq_true (by assumption)
           obtain ⟨ad144, e144, hx144_0, hx144_1⟩ := at_T61 HR0.out x15_1 p144 q144
           cases e144
           (try replace hx144_0 := (HB.out.cell (zl hx144_0)).trans hx144_0)
           (try replace hx144_1 := (HB.out.cell (zl hx144_1)).trans hx144_1)
           replace p144 := eq_true p144
           replace q144 := eq_true q144
           go_wp2_with (first | ((with_reducible refine gate_dst (N := 7) rfl ?_); refine box_event ?hg (N := 7) ?hd (cs := #[.int .i64 0, .int .i64 0]) (t := 61) ?hr ?_; (case hd => rfl); (case hg => rfl); (case hr => first | (go_simp; done) | (go_simp; rfl)); intro gb145 hg w110 hbox hb; have n0_ := zm1 (zd1 (zb4 BK142.out) hb); have n1_ := zm1 (zc6 (by repeat (first | (with_reducible first | exact HB.out | apply zc1 | apply zc2 | apply zc3 | refine zc4 ?_ GE142.out) | exact HB.out)) hb); have n2_ := zm1 (hbox); have n3_ := zm1 ((by rw [hg]; exact (zc5 (by repeat (first | (with_reducible first | exact HB.out | apply zc1 | apply zc2 | apply zc3 | refine zc4 ?_ GE142.out) | exact HB.out))) : w.heap.size ≤ gb145)); have n4_ := zm1 ((by rw [hg]; exact (zc5 (by repeat (first | (with_reducible first | exact HB.out | apply zc1 | apply zc2 | apply zc3 | refine zc4 ?_ GE142.out) | exact HB.out))) : w.heap.size ≤ gb145)); have n5_ := zm1 ((by rw [hg]; exact Nat.ne_of_lt (zd2 (zb4 BK142.out)) : gb142 ≠ gb145)); have n6_ := zm1 ((by rw [hg]; exact Nat.ne_of_gt (zd2 (zb4 BK142.out)) : gb145 ≠ gb142)); clear BK142; clear HB; have BK142 := n0_; have HB := n1_; have BK145 := n2_; have GW145 := n3_; have GE145 := n4_; have NB142_145 := n5_; have NB145_142 := n6_; clear n0_ n1_ n2_ n3_ n4_ n5_ n6_; clear hb hbox hg; have hnb111 := NB145_142.out; have hnc111 := NB142_145.out; have hcz112_0 : w110.cell? ⟨gb145, 0, none⟩ = some (.int .i64 0) := (blk_cell BK145.out 0).trans rfl; have hcz112_1 : w110.cell? ⟨gb145, 1, none⟩ = some (.int .i64 0) := (blk_cell BK145.out 1).trans rfl; have hfz112_0 := blk_frozen BK145.out 0; have hfz112_1 := blk_frozen BK145.out 1; have p146 : 0 ≤ ((ji15) : Int) := of_decide_eq_true (by assumption); have q146 : (ji15) < (l0.length : Int) := of_decide_eq_true (by assumption); obtain ⟨ad146, e146, hx146_0, hx146_1⟩ := at_T61 HR0.out (ji15) p146 q146; obtain rfl : ad144 = ad146 := (by injection e146); have hn146_0 : ad144.block ≠ gb145 := Nat.ne_of_lt (Nat.lt_of_lt_of_le (by have := zl hx146_0; first | rwa [add_block] at this | exact this) GW145.out); have hn146_1 : ad144.block ≠ gb145 := Nat.ne_of_lt (Nat.lt_of_lt_of_le (by have := zl hx146_0; first | rwa [add_block] at this | exact this) GW145.out); (try replace hx146_0 := (HB.out.cell (zl hx146_0)).trans hx146_0); (try replace hx146_1 := (HB.out.cell (zl hx146_1)).trans hx146_1); replace hx146_0 := (cell_far (p := ⟨gb145, 0, none⟩) (by first | (rw [add_block]; exact hn146_0) | (show (Addr.add _ _).block ≠ _; rw [add_block]; exact hn146_0) | exact hn146_0) (.int .i64 ((rd_T61 l0 x15_1).f0))).trans hx146_0; replace hx146_1 := (cell_far (p := ⟨gb145, 0, none⟩) (by first | (rw [add_block]; exact hn146_0) | (show (Addr.add _ _).block ≠ _; rw [add_block]; exact hn146_0) | exact hn146_0) (.int .i64 ((rd_T61 l0 x15_1).f0))).trans hx146_1; replace hx146_0 := (cell_far (p := ⟨gb145, 1, none⟩) (by first | (rw [add_block]; exact hn146_1) | (show (Addr.add _ _).block ≠ _; rw [add_block]; exact hn146_1) | exact hn146_1) (.int .i64 ((rd_T61 l0 x15_1).f1))).trans hx146_0; replace hx146_1 := (cell_far (p := ⟨gb145, 1, none⟩) (by first | (rw [add_block]; exact hn146_1) | (show (Addr.add _ _).block ≠ _; rw [add_block]; exact hn146_1) | exact hn146_1) (.int .i64 ((rd_T61 l0 x15_1).f1))).trans hx146_1; clear hn146_0; clear hn146_1; replace p146 := eq_true p146; replace q146 := eq_true q146) | ((with_reducible refine gate_dst (N := 8) rfl ?_); refine box_event ?hg (N := 8) ?hd (cs := #[.int .i64 0, .int .i64 0]) (t := 61) ?hr ?_; (case hd => rfl); (case hg => rfl); (case hr => first | (go_simp; done) | (go_simp; rfl)); intro gb147 hg w113 hbox hb; have n0_ := zm1 (zd1 (o := .cells #[.int .i64 a1_0, .int .i64 a1_1] 61 (0, 0)) (by (with_reducible repeat (first | apply zb1 | apply zb2 | apply zb3)); refine blk_far ?_ NB142_145.out _; (with_reducible repeat (first | apply zb1 | apply zb2 | apply zb3)); refine blk_far ?_ NB142_145.out _; (with_reducible repeat (first | apply zb1 | apply zb2 | apply zb3)); exact BK142.out) hb); have n1_ := zm1 (zd1 (o := .cells #[.int .i64 ((rd_T61 l0 x15_1).f0), .int .i64 ((rd_T61 l0 x15_1).f1)] 61 (0, 0)) (by (with_reducible repeat (first | apply zb1 | apply zb2 | apply zb3)); refine blk_put (cs := #[.int .i64 ((rd_T61 l0 x15_1).f0), .int .i64 0]) ?_ 1 _ rfl; (with_reducible repeat (first | apply zb1 | apply zb2 | apply zb3)); refine blk_put (cs := #[.int .i64 0, .int .i64 0]) ?_ 0 _ rfl; (with_reducible repeat (first | apply zb1 | apply zb2 | apply zb3)); exact BK145.out) hb); have n2_ := zm1 (zc6 (by repeat (first | (with_reducible first | exact HB.out | apply zc1 | apply zc2 | apply zc3 | refine zc4 ?_ GE142.out | refine zc4 ?_ GE145.out) | exact HB.out)) hb); have n3_ := zm1 (hbox); have n4_ := zm1 ((by rw [hg]; exact (zc5 (by repeat (first | (with_reducible first | exact HB.out | apply zc1 | apply zc2 | apply zc3 | refine zc4 ?_ GE142.out | refine zc4 ?_ GE145.out) | exact HB.out))) : w.heap.size ≤ gb147)); have n5_ := zm1 ((by rw [hg]; exact (zc5 (by repeat (first | (with_reducible first | exact HB.out | apply zc1 | apply zc2 | apply zc3 | refine zc4 ?_ GE142.out | refine zc4 ?_ GE145.out) | exact HB.out))) : w.heap.size ≤ gb147)); have n6_ := zm1 ((by rw [hg]; exact Nat.ne_of_lt (zd2 (o := .cells #[.int .i64 a1_0, .int .i64 a1_1] 61 (0, 0)) (by (with_reducible repeat (first | apply zb1 | apply zb2 | apply zb3)); refine blk_far ?_ NB142_145.out _; (with_reducible repeat (first | apply zb1 | apply zb2 | apply zb3)); refine blk_far ?_ NB142_145.out _; (with_reducible repeat (first | apply zb1 | apply zb2 | apply zb3)); exact BK142.out)) : gb142 ≠ gb147)); have n7_ := zm1 ((by rw [hg]; exact Nat.ne_of_gt (zd2 (o := .cells #[.int .i64 a1_0, .int .i64 a1_1] 61 (0, 0)) (by (with_reducible repeat (first | apply zb1 | apply zb2 | apply zb3)); refine blk_far ?_ NB142_145.out _; (with_reducible repeat (first | apply zb1 | apply zb2 | apply zb3)); refine blk_far ?_ NB142_145.out _; (with_reducible repeat (first | apply zb1 | apply zb2 | apply zb3)); exact BK142.out)) : gb147 ≠ gb142)); have n8_ := zm1 ((by rw [hg]; exact Nat.ne_of_lt (zd2 (o := .cells #[.int .i64 ((rd_T61 l0 x15_1).f0), .int .i64 ((rd_T61 l0 x15_1).f1)] 61 (0, 0)) (by (with_reducible repeat (first | apply zb1 | apply zb2 | apply zb3)); refine blk_put (cs := #[.int .i64 ((rd_T61 l0 x15_1).f0), .int .i64 0]) ?_ 1 _ rfl; (with_reducible repeat (first | apply zb1 | apply zb2 | apply zb3)); refine blk_put (cs := #[.int .i64 0, .int .i64 0]) ?_ 0 _ rfl; (with_reducible repeat (first | apply zb1 | apply zb2 | apply zb3)); exact BK145.out)) : gb145 ≠ gb147)); have n9_ := zm1 ((by rw [hg]; exact Nat.ne_of_gt (zd2 (o := .cells #[.int .i64 ((rd_T61 l0 x15_1).f0), .int .i64 ((rd_T61 l0 x15_1).f1)] 61 (0, 0)) (by (with_reducible repeat (first | apply zb1 | apply zb2 | apply zb3)); refine blk_put (cs := #[.int .i64 ((rd_T61 l0 x15_1).f0), .int .i64 0]) ?_ 1 _ rfl; (with_reducible repeat (first | apply zb1 | apply zb2 | apply zb3)); refine blk_put (cs := #[.int .i64 0, .int .i64 0]) ?_ 0 _ rfl; (with_reducible repeat (first | apply zb1 | apply zb2 | apply zb3)); exact BK145.out)) : gb147 ≠ gb145)); clear BK142; clear BK145; clear HB; have BK142 := n0_; have BK145 := n1_; have HB := n2_; have BK147 := n3_; have GW147 := n4_; have GE147 := n5_; have NB142_147 := n6_; have NB147_142 := n7_; have NB145_147 := n8_; have NB147_145 := n9_; clear n0_ n1_ n2_ n3_ n4_ n5_ n6_ n7_ n8_ n9_; clear hb hbox hg; have hnb114 := NB147_142.out; have hnc114 := NB142_147.out; have hnb115 := NB147_145.out; have hnc115 := NB145_147.out; have hcz116_0 : w113.cell? ⟨gb147, 0, none⟩ = some (.int .i64 0) := (blk_cell BK147.out 0).trans rfl; have hcz116_1 : w113.cell? ⟨gb147, 1, none⟩ = some (.int .i64 0) := (blk_cell BK147.out 1).trans rfl; have hfz116_0 := blk_frozen BK147.out 0; have hfz116_1 := blk_frozen BK147.out 1; have hcz117_0 : w113.cell? ⟨gb145, 0, none⟩ = some (.int .i64 ((rd_T61 l0 x15_1).f0)) := (blk_cell BK145.out 0).trans rfl; have hcz117_1 : w113.cell? ⟨gb145, 1, none⟩ = some (.int .i64 ((rd_T61 l0 x15_1).f1)) := (blk_cell BK145.out 1).trans rfl; have hfz117_0 := blk_frozen BK145.out 0; have hfz117_1 := blk_frozen BK145.out 1; have hcz118_0 : w113.cell? ⟨gb142, 0, none⟩ = some (.int .i64 a1_0) := (blk_cell BK142.out 0).trans rfl; have hcz118_1 : w113.cell? ⟨gb142, 1, none⟩ = some (.int .i64 a1_1) := (blk_cell BK142.out 1).trans rfl; have hfz118_0 := blk_frozen BK142.out 0; have hfz118_1 := blk_frozen BK142.out 1))
           go_roundg k1
           case measure => have := HK1.out; omega
           case rel => exact ⟨(x5_1), (wrap64 (x15_1 + 1)), (by first | rfl | (simp; done) | (simp [*]; done)), (by first | rfl | (simp; done) | (simp [*]; done)), H', ⟨by have := HK1.out; omega⟩, ⟨by (with_reducible repeat (first | apply zb1 | apply zb2 | apply zb3)); refine blk_far ?_ NB142_147.out _; (with_reducible repeat (first | apply zb1 | apply zb2 | apply zb3)); refine blk_far ?_ NB142_147.out _; (with_reducible repeat (first | apply zb1 | apply zb2 | apply zb3)); exact BK142.out⟩, ⟨by repeat (first | (with_reducible first | exact HB.out | apply zc1 | apply zc2 | apply zc3 | refine zc4 ?_ GE142.out | refine zc4 ?_ GE145.out | refine zc4 ?_ GE147.out) | exact HB.out)⟩⟩
         ·rw [if_neg c17] at H
          exact absurd H (by simp)
        ·rw [if_neg c16] at H
         exact absurd H (by simp)
      ·rw [if_neg c13] at H
       exact absurd H (by simp)
     ·rw [if_neg c12] at H
      exact absurd H (by simp)
    ·rw [if_neg c11] at H
     have c11b0 : decide (x15_1 < (l0.length : Int)) = false := decide_eq_false c11
     clear c11
     obtain rfl := Option.some.inj H
     go_wp2
     go_ret
     exact ⟨by first | rfl | (simp [errW_none, errW_some] <;> rfl) | (simp [*, errW_none, errW_some] <;> rfl), by repeat (first | (with_reducible first | exact HB.out | apply zc1 | apply zc2 | apply zc3 | refine zc4 ?_ GE142.out) | exact HB.out)⟩

/-! ### spec_l05Double: function 127 -/
def spec_l05Double.l0 : Nat → List (S61) → List (S61) → Int → Int → Option ((List (S61)))
 | 0, _, _, _, _ => none
 | k + 1, x3, x7, x8, x9 => if x9 < x8 then (if 0 ≤ x9 then (if x9 < (x7.length : Int) then (if x3.length < 8796093022208 then (spec_l05Double.l0 k (x3 ++ [(⟨wrap64 (2 * ((rd_T61 x7 x9).f0)), wrap64 (2 * ((rd_T61 x7 x9).f1))⟩ : S61)]) x7 x8 (wrap64 (x9 + 1))) else (none)) else (none)) else (none)) else (some x3)
def spec_l05Double.f (k : Nat) (l0 : List (S61)) : Option ((List (S61))) := spec_l05Double.l0 k (([] : List (S61))) l0 (l0.length : Int) 0
theorem spec_l05Double.mono_l : ∀ k, (∀ y0 y1 y2 y3, LeO (spec_l05Double.l0 k y0 y1 y2 y3) (spec_l05Double.l0 (k + 1) y0 y1 y2 y3))
 | 0 => fun _ _ _ _ r h => by simp [spec_l05Double.l0] at h
 | k + 1 => by
  have ih0 := spec_l05Double.mono_l k
  ·intro y0 y1 y2 y3
   unfold spec_l05Double.l0
   repeat' first
   | (with_reducible exact ih0 _ _ _ _)
   | (with_reducible exact LeO.refl _)
   | (with_reducible exact LeO.none _)
   | (with_reducible refine LeO.ite ?_ ?_)
   | (with_reducible refine LeO.bind ?_ (fun _ => ?_))
   | exact ih0 _ _ _ _
   | exact LeO.none _
   | refine LeO.ite ?_ ?_
   | refine LeO.bind ?_ (fun _ => ?_)
theorem spec_l05Double.mono : ∀ a0 k, LeO (spec_l05Double.f k a0) (spec_l05Double.f (k + 1) a0) := by
 intro a0 k
 have ih0 := spec_l05Double.mono_l k
 unfold spec_l05Double.f
 repeat' first
   | (with_reducible exact ih0 _ _ _ _)
   | (with_reducible exact LeO.refl _)
   | (with_reducible exact LeO.none _)
   | (with_reducible refine LeO.ite ?_ ?_)
   | (with_reducible refine LeO.bind ?_ (fun _ => ?_))
   | exact ih0 _ _ _ _
   | exact LeO.none _
   | refine LeO.ite ?_ ?_
   | refine LeO.bind ?_ (fun _ => ?_)
set_option maxHeartbeats 8000000 in
set_option maxRecDepth 100000 in
theorem spec_l05Double.calls (k : Nat) (A0 : Option Addr) (c0 : Nat) (l0 : List (S61)) (r : List (S61)) (w : World) (hr0 : Kd.C k61 w A0 l0.length l0) (hc0 : l0.length ≤ c0) (h : spec_l05Double.f k l0 = some r) :
  Calls Try.prog 127 #[.slice A0 l0.length c0] w fun e w' => ∃ v0_ : Value, e = .returned (v0_) ∧ Kd.R k61 61 w' w.heap.size (fun _ => True) v0_ r ∧ Below w.heap.size w w' := by
 have hu61 := Try.underlying61
 have HR0 := zm1 hr0
 have HC0 := zm1 hc0
 clear hr0 hc0
 have HB := zm1 (Below.refl w.heap.size w)
 have H : (spec_l05Double.l0 k (([] : List (S61))) l0 (l0.length : Int) 0) = some r := h
 clear h
 obtain ⟨y149, hy149⟩ : ∃ y_ : List (S61), y_ = (([] : List (S61))) := ⟨_, rfl⟩
 replace H : (spec_l05Double.l0 k y149 l0 (l0.length : Int) 0) = some r := by first | (rw [hy149]; with_reducible exact H) | (have H2_ := (Option.bind_some _ _).symm.trans H; rw [hy149]; with_reducible exact H2_) | (have H2_ := (Option.bind_some _ _).symm.trans H; with_reducible exact H2_) | with_reducible exact H | (rw [hy149]; exact H) | exact H
 have Ny149 := zm1 hy149
 clear hy149
 have H' := zm1 H
 clear H
 go_enter Try.func127, Try.ntmps127
 go_wp2_with (first | ((with_reducible refine gate_dst (N := 6) rfl ?_); refine Kd.R_lit k61 _ 61 ?hg (N := 6) ?hd (xs := ([] : List (S61))) (inner := []) (ok := fun _ => True) (okp := fun _ => True) ?hr ?hp (fun _ hk => hk) trivial (Below.refl _ _) (Nat.le_refl _) (by simp) ?_; (case hd => rfl); (case hg => rfl); (case hr => first | (go_simp; done) | (go_simp; rfl)); (case hp => exact (Reps.none _ _)); intro v150 w2 ho3 hb hg_ hnew_; clear hg_ hnew_; (first | rw [← Ny149.out] at ho3 | (simp only [Int.reduceToNat] at ho3; rw [← Ny149.out] at ho3)); have n0_ := zm1 (Kd.R_lower ho3 (zc5 (by repeat (first | (with_reducible first | exact HB.out | apply zc1 | apply zc2 | apply zc3) | exact HB.out)))); have n1_ := zm1 (zc6 (by repeat (first | (with_reducible first | exact HB.out | apply zc1 | apply zc2 | apply zc3) | exact HB.out)) hb); clear HB; have HO151 := n0_; have HB := n1_; clear n0_ n1_; clear hb ho3))
 go_loopg [3, 9] k (fun kq v3 v9 w' => ∃ (x3_1 : List (S61)) (x9_1 : Int), v9 = .int .i64 x9_1 ∧ Aside0 (spec_l05Double.l0 kq x3_1 l0 (l0.length : Int) x9_1 = some r) ∧ Aside0 (kq ≤ k) ∧ Aside0 (Kd.R k61 61 w' w.heap.size (fun _ => True) v3 x3_1) ∧ Aside0 (Below w.heap.size w w'))
 case atStart => exact ⟨(y149), (0), (by first | rfl | (simp; done) | (simp [*]; done)), H', ⟨Nat.le_refl _⟩, ⟨by (with_reducible repeat (first | apply zr1 | apply zr2 | apply zr3)); exact HO151.out⟩, ⟨by repeat (first | (with_reducible first | exact HB.out | apply zc1 | apply zc2 | apply zc3) | exact HB.out)⟩⟩
 case round =>
  clear H'
  try clear c1
  try clear p2
  obtain ⟨x3_1, x9_1, rfl, HA, HK1, HO_3, HB⟩ := hrel
  cases gk with
  | zero => exact absurd HA.out (by simp [spec_l05Double.l0])
  | succ k1 =>
   have H := HA.out
   clear HA
   simp only [spec_l05Double.l0] at H
   by_cases c4 : x9_1 < (l0.length : Int)
   ·rw [if_pos c4] at H
    have c4b0 : decide (x9_1 < (l0.length : Int)) = true := decide_eq_true c4
    clear c4
    by_cases c5 : 0 ≤ x9_1
    ·rw [if_pos c5] at H
     have c5b0 : decide (0 ≤ x9_1) = true := decide_eq_true c5
     clear c5
     by_cases c6 : x9_1 < (l0.length : Int)
     ·rw [if_pos c6] at H
      have c6b0 : decide (x9_1 < (l0.length : Int)) = true := decide_eq_true c6
      clear c6
      by_cases c7 : x3_1.length < 8796093022208
      ·rw [if_pos c7] at H
       have LMc7 := zm1 c7
       clear c7
       obtain ⟨y154, hy154⟩ : ∃ y_ : List (S61), y_ = (x3_1 ++ [(⟨wrap64 (2 * ((rd_T61 l0 x9_1).f0)), wrap64 (2 * ((rd_T61 l0 x9_1).f1))⟩ : S61)]) := ⟨_, rfl⟩
       replace H : (spec_l05Double.l0 k1 y154 l0 (l0.length : Int) (wrap64 (x9_1 + 1))) = some r := by first | (rw [hy154]; with_reducible exact H) | (have H2_ := (Option.bind_some _ _).symm.trans H; rw [hy154]; with_reducible exact H2_) | (have H2_ := (Option.bind_some _ _).symm.trans H; with_reducible exact H2_) | with_reducible exact H | (rw [hy154]; exact H) | exact H
       have Ny154 := zm1 hy154
       clear hy154
       have H' := zm1 H
       clear H
       have p152 : 0 ≤ (x9_1 : Int) := of_decide_eq_true (by assumption)
       have q152 : x9_1 < (l0.length : Int) := of_decide_eq_true (by assumption)
       obtain ⟨ad152, e152, hx152_0, hx152_1⟩ := at_T61 HR0.out x9_1 p152 q152
       cases e152
       (try replace hx152_0 := (HB.out.cell (zl hx152_0)).trans hx152_0)
       (try replace hx152_1 := (HB.out.cell (zl hx152_1)).trans hx152_1)
       replace p152 := eq_true p152
       replace q152 := eq_true q152
       go_wp2_with (first | ((with_reducible refine gate_dst (N := 5) rfl ?_); refine box_event ?hg (N := 5) ?hd (cs := #[.int .i64 0, .int .i64 0]) (t := 61) ?hr ?_; (case hd => rfl); (case hg => rfl); (case hr => first | (go_simp; done) | (go_simp; rfl)); intro gb153 hg w8 hbox hb; have n0_ := zm1 (Kd.R_below (Kd.R_elderB (by (with_reducible repeat (first | apply zr1 | apply zr2 | apply zr3)); exact HO_3.out) gb153 (Nat.le_of_eq hg.symm)) hb); have n1_ := zm1 (zc6 (by repeat (first | (with_reducible first | exact HB.out | apply zc1 | apply zc2 | apply zc3) | exact HB.out)) hb); have n2_ := zm1 (hbox); have n3_ := zm1 ((by rw [hg]; exact (zc5 (by repeat (first | (with_reducible first | exact HB.out | apply zc1 | apply zc2 | apply zc3) | exact HB.out))) : w.heap.size ≤ gb153)); have n4_ := zm1 ((by rw [hg]; exact (zc5 (by repeat (first | (with_reducible first | exact HB.out | apply zc1 | apply zc2 | apply zc3) | exact HB.out))) : w.heap.size ≤ gb153)); clear HO_3; clear HB; have HO_3 := n0_; have HB := n1_; have BK153 := n2_; have GW153 := n3_; have GE153 := n4_; clear n0_ n1_ n2_ n3_ n4_; clear hb hbox hg; have hcz9_0 : w8.cell? ⟨gb153, 0, none⟩ = some (.int .i64 0) := (blk_cell BK153.out 0).trans rfl; have hcz9_1 : w8.cell? ⟨gb153, 1, none⟩ = some (.int .i64 0) := (blk_cell BK153.out 1).trans rfl; have hfz9_0 := blk_frozen BK153.out 0; have hfz9_1 := blk_frozen BK153.out 1) | ((with_reducible refine gate_builtin (b := .append) (xs := #[.tmp 13, .tmp 21]) rfl ?_); at_builtin; refine Kd.R_append k61 (w0 := w) w.heap.size rfl (.tmp 13) (.tmp 21) 25 61 (.agg #[(.int .i64 0), (.int .i64 0)]) 16 rfl Try.underlying25 info61 rfl (by decide) (by omega) u3 x3_1 (⟨wrap64 (2 * ((rd_T61 l0 x9_1).f0)), wrap64 (2 * ((rd_T61 l0 x9_1).f1))⟩ : S61) [.int .i64 (wrap64 (2 * ((rd_T61 l0 x9_1).f0))), .int .i64 (wrap64 (2 * ((rd_T61 l0 x9_1).f1)))] (fun k_ => k_ ≠ gb153) (fun _ => False) rfl (by first | (go_simp; done) | (go_simp; rfl)) ?aP (fun _ hk => hk.elim) ?aF ?aO ?aB ?aS ?aL ?_; (case aP => exact k61_mkM _ _ _ (⟨wrap64 (2 * ((rd_T61 l0 x9_1).f0)), wrap64 (2 * ((rd_T61 l0 x9_1).f1))⟩ : S61)); (case aB => exact (by repeat (first | (with_reducible first | exact HB.out | apply zc1 | apply zc2 | apply zc3 | refine zc4 ?_ GE153.out) | exact HB.out))); (case aF => exact (fun k_ hk => Kd.freshB (g := gb153) (o := .cells #[.int .i64 ((rd_T61 l0 x9_1).f0), .int .i64 ((rd_T61 l0 x9_1).f1)] 61 (0, 0)) (by (with_reducible repeat (first | apply zb1 | apply zb2 | apply zb3)); refine blk_put (cs := #[.int .i64 ((rd_T61 l0 x9_1).f0), .int .i64 0]) ?_ 1 _ rfl; (with_reducible repeat (first | apply zb1 | apply zb2 | apply zb3)); refine blk_put (cs := #[.int .i64 0, .int .i64 0]) ?_ 0 _ rfl; (with_reducible repeat (first | apply zb1 | apply zb2 | apply zb3)); exact BK153.out) k_ hk)); (case aO => exact (by (with_reducible repeat (first | apply zr1 | apply zr2 | apply zr3)); exact Kd.R_mono (Kd.R_far (p := ⟨gb153, 1, none⟩) (Kd.R_far (p := ⟨gb153, 0, none⟩) (Kd.R_mono HO_3.out (fun k_ hk => (⟨hk, hk.2⟩ : _ ∧ k_ ≠ gb153))) (fun _ hk => hk.2) (.int .i64 ((rd_T61 l0 x9_1).f0))) (fun _ hk => hk.2) (.int .i64 ((rd_T61 l0 x9_1).f1))) (fun _ hk => hk.1.2))); (case aS => exact (zc5 (by repeat (first | (with_reducible first | exact HB.out | apply zc1 | apply zc2 | apply zc3 | refine zc4 ?_ GE153.out) | exact HB.out)))); (case aL => have := LMc7.out; omega); intro v155 w10 ho hb hg hat; rw [← Ny154.out] at ho; have n0_ := zm1 (blk_grown (g := gb153) (o := .cells #[.int .i64 ((rd_T61 l0 x9_1).f0), .int .i64 ((rd_T61 l0 x9_1).f1)] 61 (0, 0)) (by (with_reducible repeat (first | apply zb1 | apply zb2 | apply zb3)); refine blk_put (cs := #[.int .i64 ((rd_T61 l0 x9_1).f0), .int .i64 0]) ?_ 1 _ rfl; (with_reducible repeat (first | apply zb1 | apply zb2 | apply zb3)); refine blk_put (cs := #[.int .i64 0, .int .i64 0]) ?_ 0 _ rfl; (with_reducible repeat (first | apply zb1 | apply zb2 | apply zb3)); exact BK153.out) hg (Kd.R_away HO_3.out (fun _ hk => hk.2))); have n1_ := zm1 (hb); have n2_ := zm1 (ho); clear BK153; clear HB; clear HO_3; have BK153 := n0_; have HB := n1_; have HO156 := n2_; clear n0_ n1_ n2_; clear ho hb hg hat))
       go_roundg k1
       case measure => have := HK1.out; omega
       case rel => exact ⟨(y154), (wrap64 (x9_1 + 1)), (by first | rfl | (simp; done) | (simp [*]; done)), H', ⟨by have := HK1.out; omega⟩, ⟨by (with_reducible repeat (first | apply zr1 | apply zr2 | apply zr3)); exact Kd.R_mono HO156.out (fun _ hk => trivial)⟩, ⟨by repeat (first | (with_reducible first | exact HB.out | apply zc1 | apply zc2 | apply zc3 | refine zc4 ?_ GE153.out) | exact HB.out)⟩⟩
      ·rw [if_neg c7] at H
       exact absurd H (by simp)
     ·rw [if_neg c6] at H
      exact absurd H (by simp)
    ·rw [if_neg c5] at H
     exact absurd H (by simp)
   ·rw [if_neg c4] at H
    have c4b0 : decide (x9_1 < (l0.length : Int)) = false := decide_eq_false c4
    clear c4
    obtain rfl := Option.some.inj H
    go_wp2
    go_ret
    exact ⟨_, by first | rfl | (simp [errW_none, errW_some] <;> rfl) | (simp [*, errW_none, errW_some] <;> rfl), by (with_reducible repeat (first | apply zr1 | apply zr2 | apply zr3)); exact HO_3.out, by repeat (first | (with_reducible first | exact HB.out | apply zc1 | apply zc2 | apply zc3) | exact HB.out)⟩

end Go.Proofs.Ytdiphnkkomfmdaa.QFnExactBestCut
