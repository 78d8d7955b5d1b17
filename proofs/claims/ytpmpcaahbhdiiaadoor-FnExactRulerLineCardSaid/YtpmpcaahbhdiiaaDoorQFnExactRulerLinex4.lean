-- Printed for this claim by a changed copy of the kit's print (the session's own; own contracts in place of some functions).
import Derived.Test.YtpmpcaahbhdiiaaDoorQFnExactRulerLinex0
import Derived.Test.YtpmpcaahbhdiiaaDoorQFnExactRulerLinex3
namespace Go.Proofs.YtpmpcaahbhdiiaaDoor.QFnExactRulerLine
open Go.RowKit Go.Proofs.YtpmpcaahbhdiiaaDoorW.PrintWords Go.Proofs.YtpmpcaahbhdiiaaDoorW.PrintLast Go.Proofs.YtpmpcaahbhdiiaaDoorW.PrintMore
attribute [local go_sem] max2_int min2_int max_two min_two max_three min_three max_four min_four   -- for this text's walks alone
set_option linter.unusedVariables false
set_option linter.unusedSimpArgs false

/-! ### impl_ends: function 110 -/
def impl_ends.l0 : Nat → List Int → ByteArray → List Int → Int → Int → Option (List Int)
  | 0, _, _, _, _, _ => none
  | k + 1, x0, x1, x5, x9, x10 => if x10 < x9 then (if 0 ≤ x10 then (if x10 < (x1.size : Int) then (if (bt x1 x10) = 114 then (if x10 < (x5.length : Int) then (if x10 < (x0.length : Int) then (if x5.length < 17592186044416 then (impl_ends.l0 k x0 x1 (x5 ++ [wrap64 ((rd x5 x10) + (rd x0 x10))]) x9 (wrap64 (x10 + 1))) else (none)) else (none)) else (none)) else (if x10 < (x5.length : Int) then (if x10 < (x0.length : Int) then (if x5.length < 17592186044416 then (impl_ends.l0 k x0 x1 (x5 ++ [wrap64 ((rd x5 x10) - (rd x0 x10))]) x9 (wrap64 (x10 + 1))) else (none)) else (none)) else (none))) else (none)) else (none)) else (some x5)
def impl_ends.f (k : Nat) (l0 : List Int) (a1 : ByteArray) : Option (List Int) := impl_ends.l0 k l0 a1 (([0] : List Int)) (a1.size : Int) 0
theorem impl_ends.mono_l : ∀ k, (∀ y0 y1 y2 y3 y4, LeO (impl_ends.l0 k y0 y1 y2 y3 y4) (impl_ends.l0 (k + 1) y0 y1 y2 y3 y4))
  | 0 => fun _ _ _ _ _ r h => by simp [impl_ends.l0] at h
  | k + 1 => by
    have ih0 := impl_ends.mono_l k
    · intro y0 y1 y2 y3 y4
      unfold impl_ends.l0
      repeat' first
      | (with_reducible exact ih0 _ _ _ _ _)
      | (with_reducible exact LeO.refl _)
      | (with_reducible exact LeO.none _)
      | (with_reducible refine LeO.ite ?_ ?_)
      | (with_reducible refine LeO.bind ?_ (fun _ => ?_))
      | exact ih0 _ _ _ _ _
      | exact LeO.none _
      | refine LeO.ite ?_ ?_
      | refine LeO.bind ?_ (fun _ => ?_)
theorem impl_ends.mono : ∀ a0 a1 k, LeO (impl_ends.f k a0 a1) (impl_ends.f (k + 1) a0 a1) := by
  intro a0 a1 k
  have ih0 := impl_ends.mono_l k
  unfold impl_ends.f
  repeat' first
      | (with_reducible exact ih0 _ _ _ _ _)
      | (with_reducible exact LeO.refl _)
      | (with_reducible exact LeO.none _)
      | (with_reducible refine LeO.ite ?_ ?_)
      | (with_reducible refine LeO.bind ?_ (fun _ => ?_))
      | exact ih0 _ _ _ _ _
      | exact LeO.none _
      | refine LeO.ite ?_ ?_
      | refine LeO.bind ?_ (fun _ => ?_)
def impl_ends.T6 : Bool × List (List Nat × List Nat) := (true, [([], []), ([], []), ([], []), ([1, 2], [1, 2]), ([3], [3]), ([], []), ([], []), ([5, 6], [5, 6]), ([7], [7]), ([4, 8], [4, 8]), ([9], [9]), ([0, 10], [0, 10]), ([11, 11, 0, 1, 2, 3, 4, 5, 6, 7, 8, 9, 10, 11], [0, 1, 11])])
def impl_ends.B6 : List Nat := [0, 0, 0, 6, 14, 0, 0, 96, 224, 510, 1022, 2047, 4095]
theorem impl_ends.tab6 : rtab .any (opsOf Tryd.f110 6) = impl_ends.T6 := by kernel_rfl
theorem impl_ends.bits6 : waitsOk impl_ends.T6.2 impl_ends.B6 = true := by kernel_rfl
def impl_ends.T7 : Bool × List (List Nat × List Nat) := (true, [([], []), ([], []), ([], []), ([1, 2], [1, 2]), ([3], [3]), ([], []), ([], []), ([5, 6], [5, 6]), ([7], [7]), ([4, 8], [4, 8]), ([9], [9]), ([0, 10], [0, 10]), ([11, 11, 0, 1, 2, 3, 4, 5, 6, 7, 8, 9, 10, 11], [0, 1, 11])])
def impl_ends.B7 : List Nat := [0, 0, 0, 6, 14, 0, 0, 96, 224, 510, 1022, 2047, 4095]
theorem impl_ends.tab7 : rtab .any (opsOf Tryd.f110 7) = impl_ends.T7 := by kernel_rfl
theorem impl_ends.bits7 : waitsOk impl_ends.T7.2 impl_ends.B7 = true := by kernel_rfl
set_option maxHeartbeats 8000000 in
set_option maxRecDepth 100000 in
theorem impl_ends.calls (k : Nat) (A0 : Option Addr) (c0 : Nat) (l0 : List Int) (a1 : ByteArray) (r : List Int) (w : World) (hr0 : Kd.C (Kd.int .i64) w A0 l0.length l0) (hc0 : l0.length ≤ c0) (h : impl_ends.f k l0 a1 = some r) :
    Calls Tryd.prog 110 #[.slice A0 l0.length c0, .string a1] w fun e w' => ∃ v0_ : Value, e = .returned (v0_) ∧ Kd.R (Kd.int .i64) 3 w' w.heap.size (fun _ => True) v0_ r ∧ Below w.heap.size w w' := by
  have HR0 := Aside0.mk hr0
  have HC0 := Aside0.mk hc0
  clear hr0 hc0
  have HB := Aside0.mk (Below.refl w.heap.size w)
  have H : (impl_ends.l0 k l0 a1 (([0] : List Int)) (a1.size : Int) 0) = some r := h
  clear h
  obtain ⟨y158, hy158⟩ : ∃ y_ : List Int, y_ = (([0] : List Int)) := ⟨_, rfl⟩
  replace H : (impl_ends.l0 k l0 a1 y158 (a1.size : Int) 0) = some r := by first | (rw [hy158]; with_reducible exact H) | (have H2_ := (Option.bind_some _ _).symm.trans H; rw [hy158]; with_reducible exact H2_) | (have H2_ := (Option.bind_some _ _).symm.trans H; with_reducible exact H2_) | with_reducible exact H | (rw [hy158]; exact H) | exact H
  have Ny158 := Aside0.mk hy158
  clear hy158
  have H' := Aside0.mk H
  clear H
  go_enter Tryd.func110, Tryd.ntmps110
  go_wp2_with (first | ((with_reducible refine gate_dst (N := 7) rfl ?_); refine Kd.R_lit (Kd.int .i64) _ 3 ?hg (N := 7) ?hd (xs := ([0] : List Int)) (inner := [.int .i64 0]) (ok := fun _ => True) (okp := fun _ => True) ?hr ?hp (fun _ hk => hk) trivial (Below.refl _ _) (Nat.le_refl _) (by simp) ?_; (case hd => rfl); (case hg => rfl); (case hr => first | (go_simp; done) | (go_simp; rfl)); (case hp => exact (Reps.one (show Kd.M (Kd.int .i64) _ _ _ 0 [.int .i64 0] from rfl) (Reps.none _ _))); intro v159 w3 ho4 hb hg_ hnew_; clear hg_ hnew_; (first | rw [← Ny158.out] at ho4 | (simp only [Int.reduceToNat] at ho4; rw [← Ny158.out] at ho4)); have n0_ := Aside0.mk (Kd.R_lower ho4 (below_size (by repeat (first | (with_reducible first | exact HB.out | apply below_alloc | apply pw_below_drewN | apply below_drew1) | exact HB.out)))); have n1_ := Aside0.mk (below_step (by repeat (first | (with_reducible first | exact HB.out | apply below_alloc | apply pw_below_drewN | apply below_drew1) | exact HB.out)) hb); clear HB; have HO160 := n0_; have HB := n1_; clear n0_ n1_; clear hb ho4))
  go_loopg [5, 10] k (fun kq v5 v10 w' => ∃ (x5_1 : List Int) (x10_1 : Int), v10 = .int .i64 x10_1 ∧ Aside0 (impl_ends.l0 kq l0 a1 x5_1 (a1.size : Int) x10_1 = some r) ∧ Aside0 (kq ≤ k) ∧ Aside0 (Kd.R (Kd.int .i64) 3 w' w.heap.size (fun _ => True) v5 x5_1) ∧ Aside0 (Below w.heap.size w w'))
  case atStart => exact ⟨(y158), (0), (by first | rfl | (simp; done) | (simp [*]; done)), H', ⟨Nat.le_refl _⟩, ⟨by (with_reducible repeat (first | apply Kd.R_alloc | apply Kd.R_drewN | apply Kd.R_drew)); exact HO160.out⟩, ⟨by repeat (first | (with_reducible first | exact HB.out | apply below_alloc | apply pw_below_drewN | apply below_drew1) | exact HB.out)⟩⟩
  case round =>
    clear H'
    try clear c1
    try clear p2
    obtain ⟨x5_1, x10_1, rfl, HA, HK1, HO_5, HB⟩ := hrel
    cases gk with
    | zero => exact absurd HA.out (by simp [impl_ends.l0])
    | succ k1 =>
      have H := HA.out
      clear HA
      simp only [impl_ends.l0] at H
      by_cases c5 : x10_1 < (a1.size : Int)
      · rw [if_pos c5] at H
        have c5b0 : decide (x10_1 < (a1.size : Int)) = true := decide_eq_true c5
        clear c5
        by_cases c6 : 0 ≤ x10_1
        · rw [if_pos c6] at H
          have c6b0 : decide (0 ≤ x10_1) = true := decide_eq_true c6
          clear c6
          by_cases c7 : x10_1 < (a1.size : Int)
          · rw [if_pos c7] at H
            have c7b0 : decide (x10_1 < (a1.size : Int)) = true := decide_eq_true c7
            clear c7
            by_cases c9 : (bt a1 x10_1) = 114
            · rw [if_pos c9] at H
              have c9b0 : ((bt a1 x10_1) == 114) = true := beq_iff_eq.mpr c9
              have c9b1 : ((bt a1 x10_1) != 114) = false := bne_eq_false_iff_eq.mpr c9
              clear c9
              by_cases c10 : x10_1 < (x5_1.length : Int)
              · rw [if_pos c10] at H
                have c10b0 : decide (x10_1 < (x5_1.length : Int)) = true := decide_eq_true c10
                clear c10
                by_cases c11 : x10_1 < (l0.length : Int)
                · rw [if_pos c11] at H
                  have c11b0 : decide (x10_1 < (l0.length : Int)) = true := decide_eq_true c11
                  clear c11
                  by_cases c12 : x5_1.length < 17592186044416
                  · rw [if_pos c12] at H
                    have LMc12 := Aside0.mk c12
                    clear c12
                    obtain ⟨y163, hy163⟩ : ∃ y_ : List Int, y_ = (x5_1 ++ [wrap64 ((rd x5_1 x10_1) + (rd l0 x10_1))]) := ⟨_, rfl⟩
                    replace H : (impl_ends.l0 k1 l0 a1 y163 (a1.size : Int) (wrap64 (x10_1 + 1))) = some r := by first | (rw [hy163]; with_reducible exact H) | (have H2_ := (Option.bind_some _ _).symm.trans H; rw [hy163]; with_reducible exact H2_) | (have H2_ := (Option.bind_some _ _).symm.trans H; with_reducible exact H2_) | with_reducible exact H | (rw [hy163]; exact H) | exact H
                    have Ny163 := Aside0.mk hy163
                    clear hy163
                    have H' := Aside0.mk H
                    clear H
                    have p8 : 0 ≤ (x10_1 : Int) := of_decide_eq_true (by first | (with_reducible assumption) | assumption)
                    have q8 : x10_1 < (a1.size : Int) := of_decide_eq_true (by first | (with_reducible assumption) | assumption)
                    have hx8 := bt_at a1 x10_1
                    replace p8 := eq_true p8
                    replace q8 := eq_true q8
                    try go_wp2
                    have n0_ := Aside0.mk (Kd.R_drew HO_5.out)
                    have n1_ := Aside0.mk (below_drew1 HB.out)
                    clear HO_5
                    clear HB
                    have HO_5 := n0_
                    have HB := n1_
                    clear n0_ n1_
                    obtain ⟨Ao14, co14, eo14⟩ := Kd.R_slice HO_5.out
                    (first | subst eo14 | (injection eo14 with f1_ f2_ f3_; have f4_ := f1_.symm; have f5_ := f3_.symm; clear f1_ f2_ f3_; subst f4_; subst f5_))
                    have p161 : 0 ≤ (x10_1 : Int) := of_decide_eq_true (by first | (with_reducible assumption) | assumption)
                    have q161 : x10_1 < (x5_1.length : Int) := of_decide_eq_true (by first | (with_reducible assumption) | assumption)
                    obtain ⟨ad161, e161, hx161_0⟩ := Kd.at_int (Kd.R_reads' HO_5.out).2.2 x10_1 p161 q161
                    cases e161
                    replace p161 := eq_true p161
                    replace q161 := eq_true q161
                    have p162 : 0 ≤ (x10_1 : Int) := of_decide_eq_true (by first | (with_reducible assumption) | assumption)
                    have q162 : x10_1 < (l0.length : Int) := of_decide_eq_true (by first | (with_reducible assumption) | assumption)
                    obtain ⟨ad162, e162, hx162_0⟩ := Kd.at_int HR0.out x10_1 p162 q162
                    have hw162_0 := hx162_0
                    cases e162
                    (try replace hx162_0 := (HB.out.cell (World.block_lt_of_cell? w _ hx162_0)).trans hx162_0)
                    replace p162 := eq_true p162
                    replace q162 := eq_true q162
                    refine start_ (n := 13) (S := fun w' => w'.cell? (ad161.add (x10_1).toNat) = some (.int .i64 (rd x5_1 x10_1)) ∧ w'.cell? (ad162.add (x10_1).toNat) = some (.int .i64 (rd l0 x10_1))) (ds := [10, 11]) #[false, false, false, false, false, false, false, false, false, false, false, false, false] (by kernel_rfl) rfl rfl ⟨hx161_0, ((HB.out.cell (World.block_lt_of_cell? w _ hw162_0)).trans hw162_0)⟩ (fun hHeld => ?_); refine with_tabW impl_ends.tab6 impl_ends.bits6 (fun HT_ HW_ => ?_)
                    generalize wr.drew = w13 at HO_5 HB hx161_0 hx162_0 hHeld ⊢
                    refine pure_ (i := 0) (N := some 17) (v := ?_) (a' := ?_) #[true, false, false, false, false, false, false, false, false, false, false, false, false] rfl rfl (any_of HT_.out (by kernel_rfl)) (fun _ _ _ h => h) (Or.inl ⟨by rfl, ?_⟩) ?_ ?_
                    rotate_left
                    · intro w'
                      go_simp
                      with_reducible rfl
                    rotate_left
                    · simp only [Act.put, List.setIfInBounds_toArray, List.set_cons_zero, List.set_cons_succ, i64_w, i32_w]
                      rfl
                    refine pure_ (i := 1) (N := some 18) (v := ?_) (a' := ?_) #[true, true, false, false, false, false, false, false, false, false, false, false, false] rfl rfl (any_of HT_.out (by kernel_rfl)) (fun _ _ _ h => h) (Or.inl ⟨by rfl, ?_⟩) ?_ ?_
                    rotate_left
                    · intro w'
                      go_simp
                      with_reducible rfl
                    rotate_left
                    · simp only [Act.put, List.setIfInBounds_toArray, List.set_cons_zero, List.set_cons_succ, i64_w, i32_w]
                      rfl
                    refine pure_ (i := 2) (N := some 19) (v := ?_) (a' := ?_) #[true, true, true, false, false, false, false, false, false, false, false, false, false] rfl rfl (any_of HT_.out (by kernel_rfl)) (fun _ _ _ h => h) (Or.inl ⟨by rfl, ?_⟩) ?_ ?_
                    rotate_left
                    · intro w'
                      go_simp
                      with_reducible rfl
                    rotate_left
                    · simp only [Act.put, List.setIfInBounds_toArray, List.set_cons_zero, List.set_cons_succ, i64_w, i32_w]
                      rfl
                    refine pure_ (i := 3) (N := some 20) (v := ?_) (a' := ?_) #[true, true, true, true, false, false, false, false, false, false, false, false, false] rfl rfl (any_of HT_.out (by kernel_rfl)) (fun _ _ _ h => h) (Or.inl ⟨by rfl, ?_⟩) ?_ ?_
                    rotate_left
                    · intro w'
                      go_simp
                      with_reducible rfl
                    rotate_left
                    · simp only [Act.put, List.setIfInBounds_toArray, List.set_cons_zero, List.set_cons_succ, i64_w, i32_w]
                      rfl
                    refine pure_ (i := 5) (N := some 22) (v := ?_) (a' := ?_) #[true, true, true, true, false, true, false, false, false, false, false, false, false] rfl rfl (any_of HT_.out (by kernel_rfl)) (fun _ _ _ h => h) (Or.inl ⟨by rfl, ?_⟩) ?_ ?_
                    rotate_left
                    · intro w'
                      go_simp
                      with_reducible rfl
                    rotate_left
                    · simp only [Act.put, List.setIfInBounds_toArray, List.set_cons_zero, List.set_cons_succ, i64_w, i32_w]
                      rfl
                    refine pure_ (i := 6) (N := some 23) (v := ?_) (a' := ?_) #[true, true, true, true, false, true, true, false, false, false, false, false, false] rfl rfl (any_of HT_.out (by kernel_rfl)) (fun _ _ _ h => h) (Or.inl ⟨by rfl, ?_⟩) ?_ ?_
                    rotate_left
                    · intro w'
                      go_simp
                      with_reducible rfl
                    rotate_left
                    · simp only [Act.put, List.setIfInBounds_toArray, List.set_cons_zero, List.set_cons_succ, i64_w, i32_w]
                      rfl
                    refine pure_ (i := 7) (N := some 24) (v := ?_) (a' := ?_) #[true, true, true, true, false, true, true, true, false, false, false, false, false] rfl rfl (any_of HT_.out (by kernel_rfl)) (fun _ _ _ h => h) (Or.inl ⟨by rfl, ?_⟩) ?_ ?_
                    rotate_left
                    · intro w'
                      go_simp
                      with_reducible rfl
                    rotate_left
                    · simp only [Act.put, List.setIfInBounds_toArray, List.set_cons_zero, List.set_cons_succ, i64_w, i32_w]
                      rfl
                    refine take_ (i := 4) (N := some 21) (v := ?_) (a' := ?_) #[true, true, true, true, true, true, true, true, false, false, false, false, false] rfl rfl (take_ofW HT_.out HW_.out (by kernel_rfl)) (fun _ _ _ h => h) (Or.inl ⟨by rfl, ?_⟩) hHeld ?_ ?_
                    rotate_left
                    · rintro w' ⟨s0, s1⟩
                      go_simp
                      with_reducible rfl
                    rotate_left
                    · simp only [Act.put, List.setIfInBounds_toArray, List.set_cons_zero, List.set_cons_succ, i64_w, i32_w]
                      rfl
                    refine take_ (i := 8) (N := some 25) (v := ?_) (a' := ?_) #[true, true, true, true, true, true, true, true, true, false, false, false, false] rfl rfl (take_ofW HT_.out HW_.out (by kernel_rfl)) (fun _ _ _ h => h) (Or.inl ⟨by rfl, ?_⟩) hHeld ?_ ?_
                    rotate_left
                    · rintro w' ⟨s0, s1⟩
                      go_simp
                      with_reducible rfl
                    rotate_left
                    · simp only [Act.put, List.setIfInBounds_toArray, List.set_cons_zero, List.set_cons_succ, i64_w, i32_w]
                      rfl
                    refine pure_ (i := 9) (N := some 26) (v := ?_) (a' := ?_) #[true, true, true, true, true, true, true, true, true, true, false, false, false] rfl rfl (any_of HT_.out (by kernel_rfl)) (fun _ _ _ h => h) (Or.inl ⟨by rfl, ?_⟩) ?_ ?_
                    rotate_left
                    · intro w'
                      go_simp
                      with_reducible rfl
                    rotate_left
                    · simp only [Act.put, List.setIfInBounds_toArray, List.set_cons_zero, List.set_cons_succ, i64_w, i32_w]
                      rfl
                    refine last_ (i := 10) (N := some 27) #[true, true, true, true, true, true, true, true, true, true, true, false, false] rfl rfl (one_of HT_.out (by kernel_rfl)) (by decide) (fun K hK => ?_)
                    refine value_ (w1 := ?_) (v := ?_) (by rfl) rfl ?_ ?_
                    rotate_left 2
                    · go_simp
                      constructor
                      · rfl
                      · rfl
                    refine hK.out _ _ ?_
                    clear hK K
                    refine norm_ (a' := ?_) ?_ ?_
                    rotate_left
                    · show Act.put _ (some 27) _ = _
                      simp only [Act.put, List.setIfInBounds_toArray, List.set_cons_zero, List.set_cons_succ, i64_w, i32_w]
                      rfl
                    refine last_ (i := 11) (N := some 28) #[true, true, true, true, true, true, true, true, true, true, true, true, false] rfl rfl (one_of HT_.out (by kernel_rfl)) (by decide) (fun K hK => ?_)
                    refine Kd.R_append_step (Kd.int .i64) (w0 := w) w.heap.size (by rfl) (.tmp 17) (.tmp 27) 22 3 (.int .i64 0) 8 rfl Tryd.underlying22 info3 rfl (by decide) (by omega) (.slice (some ad161) x5_1.length co14) x5_1 (wrap64 ((rd x5_1 x10_1) + (rd l0 x10_1))) [.int .i64 (wrap64 ((rd x5_1 x10_1) + (rd l0 x10_1)))] (fun _ => True) (fun _ => False) rfl rfl ?aP (fun _ hk => hk.elim) ?aF ?aO ?aB ?aS ?aL ?_
                    (case aP => exact rfl)
                    (case aB => exact (by repeat (first | (with_reducible first | exact HB.out | apply below_alloc | apply pw_below_drewN | apply below_drew1) | exact HB.out)))
                    (case aF => exact (fun _ _ => trivial))
                    (case aO => exact (by (with_reducible repeat (first | apply Kd.R_alloc | apply Kd.R_drewN | apply Kd.R_drew)); exact HO_5.out))
                    (case aS => exact (below_size (by repeat (first | (with_reducible first | exact HB.out | apply below_alloc | apply pw_below_drewN | apply below_drew1) | exact HB.out))))
                    (case aL => have := LMc12.out; omega)
                    intro v164 w15 ho hb hg hat
                    rw [← Ny163.out] at ho
                    have n0_ := Aside0.mk (hb)
                    have n1_ := Aside0.mk (ho)
                    clear HB
                    clear HO_5
                    have HB := n0_
                    have HO165 := n1_
                    clear n0_ n1_
                    clear ho hb hg hat
                    refine hK.out _ _ ?_
                    clear hK K
                    refine norm_ (a' := ?_) ?_ ?_
                    rotate_left
                    · show Act.put _ (some 28) _ = _
                      simp only [Act.put, List.setIfInBounds_toArray, List.set_cons_zero, List.set_cons_succ, i64_w, i32_w]
                      rfl
                    refine pure_ (i := 12) (N := some 5) (v := ?_) (a' := ?_) #[true, true, true, true, true, true, true, true, true, true, true, true, true] rfl rfl (any_of HT_.out (by kernel_rfl)) (fun _ _ _ h => h) (Or.inl ⟨by rfl, ?_⟩) ?_ ?_
                    rotate_left
                    · intro w'
                      go_simp
                      with_reducible rfl
                    rotate_left
                    · simp only [Act.put, List.setIfInBounds_toArray, List.set_cons_zero, List.set_cons_succ, i64_w, i32_w]
                      rfl
                    refine done_ (done_of HT_.out (by kernel_rfl)) ?_
                    try go_wp2
                    go_roundg k1
                    case measure => have := HK1.out; omega
                    case rel => exact ⟨(y163), (wrap64 (x10_1 + 1)), (by first | rfl | (simp; done) | (simp [*]; done)), H', ⟨by have := HK1.out; omega⟩, ⟨by (with_reducible repeat (first | apply Kd.R_alloc | apply Kd.R_drewN | apply Kd.R_drew)); exact HO165.out⟩, ⟨by repeat (first | (with_reducible first | exact HB.out | apply below_alloc | apply pw_below_drewN | apply below_drew1) | exact HB.out)⟩⟩
                  · rw [if_neg c12] at H
                    exact absurd H (by simp)
                · rw [if_neg c11] at H
                  exact absurd H (by simp)
              · rw [if_neg c10] at H
                exact absurd H (by simp)
            · rw [if_neg c9] at H
              have c9b0 : ((bt a1 x10_1) == 114) = false := beq_eq_false_iff_ne.mpr c9
              have c9b1 : ((bt a1 x10_1) != 114) = true := bne_iff_ne.mpr c9
              by_cases c16 : x10_1 < (x5_1.length : Int)
              · rw [if_pos c16] at H
                have c16b0 : decide (x10_1 < (x5_1.length : Int)) = true := decide_eq_true c16
                clear c16
                by_cases c17 : x10_1 < (l0.length : Int)
                · rw [if_pos c17] at H
                  have c17b0 : decide (x10_1 < (l0.length : Int)) = true := decide_eq_true c17
                  clear c17
                  by_cases c18 : x5_1.length < 17592186044416
                  · rw [if_pos c18] at H
                    have LMc18 := Aside0.mk c18
                    clear c18
                    obtain ⟨y168, hy168⟩ : ∃ y_ : List Int, y_ = (x5_1 ++ [wrap64 ((rd x5_1 x10_1) - (rd l0 x10_1))]) := ⟨_, rfl⟩
                    replace H : (impl_ends.l0 k1 l0 a1 y168 (a1.size : Int) (wrap64 (x10_1 + 1))) = some r := by first | (rw [hy168]; with_reducible exact H) | (have H2_ := (Option.bind_some _ _).symm.trans H; rw [hy168]; with_reducible exact H2_) | (have H2_ := (Option.bind_some _ _).symm.trans H; with_reducible exact H2_) | with_reducible exact H | (rw [hy168]; exact H) | exact H
                    have Ny168 := Aside0.mk hy168
                    clear hy168
                    have H' := Aside0.mk H
                    clear H
                    have p8 : 0 ≤ (x10_1 : Int) := of_decide_eq_true (by first | (with_reducible assumption) | assumption)
                    have q8 : x10_1 < (a1.size : Int) := of_decide_eq_true (by first | (with_reducible assumption) | assumption)
                    have hx8 := bt_at a1 x10_1
                    replace p8 := eq_true p8
                    replace q8 := eq_true q8
                    try go_wp2
                    have n0_ := Aside0.mk (Kd.R_drew HO_5.out)
                    have n1_ := Aside0.mk (below_drew1 HB.out)
                    clear HO_5
                    clear HB
                    have HO_5 := n0_
                    have HB := n1_
                    clear n0_ n1_
                    obtain ⟨Ao20, co20, eo20⟩ := Kd.R_slice HO_5.out
                    (first | subst eo20 | (injection eo20 with f1_ f2_ f3_; have f4_ := f1_.symm; have f5_ := f3_.symm; clear f1_ f2_ f3_; subst f4_; subst f5_))
                    have p166 : 0 ≤ (x10_1 : Int) := of_decide_eq_true (by first | (with_reducible assumption) | assumption)
                    have q166 : x10_1 < (x5_1.length : Int) := of_decide_eq_true (by first | (with_reducible assumption) | assumption)
                    obtain ⟨ad166, e166, hx166_0⟩ := Kd.at_int (Kd.R_reads' HO_5.out).2.2 x10_1 p166 q166
                    cases e166
                    replace p166 := eq_true p166
                    replace q166 := eq_true q166
                    have p167 : 0 ≤ (x10_1 : Int) := of_decide_eq_true (by first | (with_reducible assumption) | assumption)
                    have q167 : x10_1 < (l0.length : Int) := of_decide_eq_true (by first | (with_reducible assumption) | assumption)
                    obtain ⟨ad167, e167, hx167_0⟩ := Kd.at_int HR0.out x10_1 p167 q167
                    have hw167_0 := hx167_0
                    cases e167
                    (try replace hx167_0 := (HB.out.cell (World.block_lt_of_cell? w _ hx167_0)).trans hx167_0)
                    replace p167 := eq_true p167
                    replace q167 := eq_true q167
                    refine start_ (n := 13) (S := fun w' => w'.cell? (ad166.add (x10_1).toNat) = some (.int .i64 (rd x5_1 x10_1)) ∧ w'.cell? (ad167.add (x10_1).toNat) = some (.int .i64 (rd l0 x10_1))) (ds := [10, 11]) #[false, false, false, false, false, false, false, false, false, false, false, false, false] (by kernel_rfl) rfl rfl ⟨hx166_0, ((HB.out.cell (World.block_lt_of_cell? w _ hw167_0)).trans hw167_0)⟩ (fun hHeld => ?_); refine with_tabW impl_ends.tab7 impl_ends.bits7 (fun HT_ HW_ => ?_)
                    generalize wr.drew = w19 at HO_5 HB hx166_0 hx167_0 hHeld ⊢
                    refine pure_ (i := 0) (N := some 29) (v := ?_) (a' := ?_) #[true, false, false, false, false, false, false, false, false, false, false, false, false] rfl rfl (any_of HT_.out (by kernel_rfl)) (fun _ _ _ h => h) (Or.inl ⟨by rfl, ?_⟩) ?_ ?_
                    rotate_left
                    · intro w'
                      go_simp
                      with_reducible rfl
                    rotate_left
                    · simp only [Act.put, List.setIfInBounds_toArray, List.set_cons_zero, List.set_cons_succ, i64_w, i32_w]
                      rfl
                    refine pure_ (i := 1) (N := some 30) (v := ?_) (a' := ?_) #[true, true, false, false, false, false, false, false, false, false, false, false, false] rfl rfl (any_of HT_.out (by kernel_rfl)) (fun _ _ _ h => h) (Or.inl ⟨by rfl, ?_⟩) ?_ ?_
                    rotate_left
                    · intro w'
                      go_simp
                      with_reducible rfl
                    rotate_left
                    · simp only [Act.put, List.setIfInBounds_toArray, List.set_cons_zero, List.set_cons_succ, i64_w, i32_w]
                      rfl
                    refine pure_ (i := 2) (N := some 31) (v := ?_) (a' := ?_) #[true, true, true, false, false, false, false, false, false, false, false, false, false] rfl rfl (any_of HT_.out (by kernel_rfl)) (fun _ _ _ h => h) (Or.inl ⟨by rfl, ?_⟩) ?_ ?_
                    rotate_left
                    · intro w'
                      go_simp
                      with_reducible rfl
                    rotate_left
                    · simp only [Act.put, List.setIfInBounds_toArray, List.set_cons_zero, List.set_cons_succ, i64_w, i32_w]
                      rfl
                    refine pure_ (i := 3) (N := some 32) (v := ?_) (a' := ?_) #[true, true, true, true, false, false, false, false, false, false, false, false, false] rfl rfl (any_of HT_.out (by kernel_rfl)) (fun _ _ _ h => h) (Or.inl ⟨by rfl, ?_⟩) ?_ ?_
                    rotate_left
                    · intro w'
                      go_simp
                      with_reducible rfl
                    rotate_left
                    · simp only [Act.put, List.setIfInBounds_toArray, List.set_cons_zero, List.set_cons_succ, i64_w, i32_w]
                      rfl
                    refine pure_ (i := 5) (N := some 34) (v := ?_) (a' := ?_) #[true, true, true, true, false, true, false, false, false, false, false, false, false] rfl rfl (any_of HT_.out (by kernel_rfl)) (fun _ _ _ h => h) (Or.inl ⟨by rfl, ?_⟩) ?_ ?_
                    rotate_left
                    · intro w'
                      go_simp
                      with_reducible rfl
                    rotate_left
                    · simp only [Act.put, List.setIfInBounds_toArray, List.set_cons_zero, List.set_cons_succ, i64_w, i32_w]
                      rfl
                    refine pure_ (i := 6) (N := some 35) (v := ?_) (a' := ?_) #[true, true, true, true, false, true, true, false, false, false, false, false, false] rfl rfl (any_of HT_.out (by kernel_rfl)) (fun _ _ _ h => h) (Or.inl ⟨by rfl, ?_⟩) ?_ ?_
                    rotate_left
                    · intro w'
                      go_simp
                      with_reducible rfl
                    rotate_left
                    · simp only [Act.put, List.setIfInBounds_toArray, List.set_cons_zero, List.set_cons_succ, i64_w, i32_w]
                      rfl
                    refine pure_ (i := 7) (N := some 36) (v := ?_) (a' := ?_) #[true, true, true, true, false, true, true, true, false, false, false, false, false] rfl rfl (any_of HT_.out (by kernel_rfl)) (fun _ _ _ h => h) (Or.inl ⟨by rfl, ?_⟩) ?_ ?_
                    rotate_left
                    · intro w'
                      go_simp
                      with_reducible rfl
                    rotate_left
                    · simp only [Act.put, List.setIfInBounds_toArray, List.set_cons_zero, List.set_cons_succ, i64_w, i32_w]
                      rfl
                    refine take_ (i := 4) (N := some 33) (v := ?_) (a' := ?_) #[true, true, true, true, true, true, true, true, false, false, false, false, false] rfl rfl (take_ofW HT_.out HW_.out (by kernel_rfl)) (fun _ _ _ h => h) (Or.inl ⟨by rfl, ?_⟩) hHeld ?_ ?_
                    rotate_left
                    · rintro w' ⟨s0, s1⟩
                      go_simp
                      with_reducible rfl
                    rotate_left
                    · simp only [Act.put, List.setIfInBounds_toArray, List.set_cons_zero, List.set_cons_succ, i64_w, i32_w]
                      rfl
                    refine take_ (i := 8) (N := some 37) (v := ?_) (a' := ?_) #[true, true, true, true, true, true, true, true, true, false, false, false, false] rfl rfl (take_ofW HT_.out HW_.out (by kernel_rfl)) (fun _ _ _ h => h) (Or.inl ⟨by rfl, ?_⟩) hHeld ?_ ?_
                    rotate_left
                    · rintro w' ⟨s0, s1⟩
                      go_simp
                      with_reducible rfl
                    rotate_left
                    · simp only [Act.put, List.setIfInBounds_toArray, List.set_cons_zero, List.set_cons_succ, i64_w, i32_w]
                      rfl
                    refine pure_ (i := 9) (N := some 38) (v := ?_) (a' := ?_) #[true, true, true, true, true, true, true, true, true, true, false, false, false] rfl rfl (any_of HT_.out (by kernel_rfl)) (fun _ _ _ h => h) (Or.inl ⟨by rfl, ?_⟩) ?_ ?_
                    rotate_left
                    · intro w'
                      go_simp
                      with_reducible rfl
                    rotate_left
                    · simp only [Act.put, List.setIfInBounds_toArray, List.set_cons_zero, List.set_cons_succ, i64_w, i32_w]
                      rfl
                    refine last_ (i := 10) (N := some 39) #[true, true, true, true, true, true, true, true, true, true, true, false, false] rfl rfl (one_of HT_.out (by kernel_rfl)) (by decide) (fun K hK => ?_)
                    refine value_ (w1 := ?_) (v := ?_) (by rfl) rfl ?_ ?_
                    rotate_left 2
                    · go_simp
                      constructor
                      · rfl
                      · rfl
                    refine hK.out _ _ ?_
                    clear hK K
                    refine norm_ (a' := ?_) ?_ ?_
                    rotate_left
                    · show Act.put _ (some 39) _ = _
                      simp only [Act.put, List.setIfInBounds_toArray, List.set_cons_zero, List.set_cons_succ, i64_w, i32_w]
                      rfl
                    refine last_ (i := 11) (N := some 40) #[true, true, true, true, true, true, true, true, true, true, true, true, false] rfl rfl (one_of HT_.out (by kernel_rfl)) (by decide) (fun K hK => ?_)
                    refine Kd.R_append_step (Kd.int .i64) (w0 := w) w.heap.size (by rfl) (.tmp 29) (.tmp 39) 22 3 (.int .i64 0) 8 rfl Tryd.underlying22 info3 rfl (by decide) (by omega) (.slice (some ad166) x5_1.length co20) x5_1 (wrap64 ((rd x5_1 x10_1) - (rd l0 x10_1))) [.int .i64 (wrap64 ((rd x5_1 x10_1) - (rd l0 x10_1)))] (fun _ => True) (fun _ => False) rfl rfl ?aP (fun _ hk => hk.elim) ?aF ?aO ?aB ?aS ?aL ?_
                    (case aP => exact rfl)
                    (case aB => exact (by repeat (first | (with_reducible first | exact HB.out | apply below_alloc | apply pw_below_drewN | apply below_drew1) | exact HB.out)))
                    (case aF => exact (fun _ _ => trivial))
                    (case aO => exact (by (with_reducible repeat (first | apply Kd.R_alloc | apply Kd.R_drewN | apply Kd.R_drew)); exact HO_5.out))
                    (case aS => exact (below_size (by repeat (first | (with_reducible first | exact HB.out | apply below_alloc | apply pw_below_drewN | apply below_drew1) | exact HB.out))))
                    (case aL => have := LMc18.out; omega)
                    intro v169 w21 ho hb hg hat
                    rw [← Ny168.out] at ho
                    have n0_ := Aside0.mk (hb)
                    have n1_ := Aside0.mk (ho)
                    clear HB
                    clear HO_5
                    have HB := n0_
                    have HO170 := n1_
                    clear n0_ n1_
                    clear ho hb hg hat
                    refine hK.out _ _ ?_
                    clear hK K
                    refine norm_ (a' := ?_) ?_ ?_
                    rotate_left
                    · show Act.put _ (some 40) _ = _
                      simp only [Act.put, List.setIfInBounds_toArray, List.set_cons_zero, List.set_cons_succ, i64_w, i32_w]
                      rfl
                    refine pure_ (i := 12) (N := some 5) (v := ?_) (a' := ?_) #[true, true, true, true, true, true, true, true, true, true, true, true, true] rfl rfl (any_of HT_.out (by kernel_rfl)) (fun _ _ _ h => h) (Or.inl ⟨by rfl, ?_⟩) ?_ ?_
                    rotate_left
                    · intro w'
                      go_simp
                      with_reducible rfl
                    rotate_left
                    · simp only [Act.put, List.setIfInBounds_toArray, List.set_cons_zero, List.set_cons_succ, i64_w, i32_w]
                      rfl
                    refine done_ (done_of HT_.out (by kernel_rfl)) ?_
                    try go_wp2
                    go_roundg k1
                    case measure => have := HK1.out; omega
                    case rel => exact ⟨(y168), (wrap64 (x10_1 + 1)), (by first | rfl | (simp; done) | (simp [*]; done)), H', ⟨by have := HK1.out; omega⟩, ⟨by (with_reducible repeat (first | apply Kd.R_alloc | apply Kd.R_drewN | apply Kd.R_drew)); exact HO170.out⟩, ⟨by repeat (first | (with_reducible first | exact HB.out | apply below_alloc | apply pw_below_drewN | apply below_drew1) | exact HB.out)⟩⟩
                  · rw [if_neg c18] at H
                    exact absurd H (by simp)
                · rw [if_neg c17] at H
                  exact absurd H (by simp)
              · rw [if_neg c16] at H
                exact absurd H (by simp)
          · rw [if_neg c7] at H
            exact absurd H (by simp)
        · rw [if_neg c6] at H
          exact absurd H (by simp)
      · rw [if_neg c5] at H
        have c5b0 : decide (x10_1 < (a1.size : Int)) = false := decide_eq_false c5
        clear c5
        obtain rfl := Option.some.inj H
        go_wp2
        go_ret
        exact ⟨_, by first | rfl | (simp [errW_none, errW_some] <;> rfl) | (simp [*, errW_none, errW_some] <;> rfl), by (with_reducible repeat (first | apply Kd.R_alloc | apply Kd.R_drewN | apply Kd.R_drew)); exact HO_5.out, by repeat (first | (with_reducible first | exact HB.out | apply below_alloc | apply pw_below_drewN | apply below_drew1) | exact HB.out)⟩

/-! ### impl_bestLaying: function 78 -/
--import Derived.WalkSpells
def impl_bestLaying.bx (n : Nat) (kk : Int) (i : Nat) : Int := Go.bits .and .i64 (shr .i64 kk ((n : Int) - 1 - (i : Int))) 1
def impl_bestLaying.bit (n : Nat) (kk : Int) (i : Nat) : Int := if impl_bestLaying.bx n kk i = 1 then 114 else 108
def impl_bestLaying.part (n : Nat) (kk : Int) : Nat → List Int
  | 0 => List.replicate n 0
  | i + 1 => (impl_bestLaying.part n kk i).set i (impl_bestLaying.bit n kk i)
theorem impl_bestLaying.part_len (n : Nat) (kk : Int) : ∀ i, (impl_bestLaying.part n kk i).length = n
  | 0 => by simp [impl_bestLaying.part]
  | i + 1 => by simp [impl_bestLaying.part, impl_bestLaying.part_len n kk i]
def impl_bestLaying.okB (n : Nat) (kk : Int) : Bool := (List.range n).all (fun i => decide (impl_bestLaying.bx n kk i = 0) || decide (impl_bestLaying.bx n kk i = 1))
theorem impl_bestLaying.okB_at {n : Nat} {kk : Int} (h : impl_bestLaying.okB n kk = true) {i : Nat} (hi : i < n) : impl_bestLaying.bx n kk i = 0 ∨ impl_bestLaying.bx n kk i = 1 := by
  unfold impl_bestLaying.okB at h
  rw [List.all_eq_true] at h
  have h2 := h i (List.mem_range.2 hi)
  simpa using h2
def impl_bestLaying.lay (n : Nat) (kk : Int) : ByteArray := strOfNums (impl_bestLaying.part n kk n)
def impl_bestLaying.l0 (K : Nat) (l0 : List Int) : Nat → Int → ByteArray → Int → Option (ByteArray × Int)
  | 0, _, _, _ => none
  | m + 1, kk, best, least => if kk < shl .i64 1 (l0.length : Int) then (if impl_bestLaying.okB l0.length kk = true then ((impl_ends.f K l0 (impl_bestLaying.lay l0.length kk)).bind fun e => (impl_room.f K e).bind fun n => if least < 0 ∨ n < least then impl_bestLaying.l0 K l0 m (kk + 1) (impl_bestLaying.lay l0.length kk) n else impl_bestLaying.l0 K l0 m (kk + 1) best least) else none) else some (best, least)
def impl_bestLaying.f (k : Nat) (l0 : List Int) : Option (ByteArray × Int) := if l0.length ≤ 10 then impl_bestLaying.l0 k l0 k 0 ⟨#[]⟩ (-1) else none
theorem impl_bestLaying.l0_mono (K : Nat) (l0 : List Int) : ∀ (m : Nat) (kk : Int) (b : ByteArray) (n : Int), LeO (impl_bestLaying.l0 K l0 m kk b n) (impl_bestLaying.l0 (K + 1) l0 (m + 1) kk b n)
  | 0, _, _, _ => fun r h => by simp [impl_bestLaying.l0] at h
  | m + 1, kk, b, n => by
    rw [impl_bestLaying.l0, impl_bestLaying.l0]
    exact LeO.ite (LeO.ite (LeO.bind (impl_ends.mono _ _ _) (fun _ => LeO.bind (impl_room.mono _ _) (fun _ => LeO.ite (impl_bestLaying.l0_mono K l0 m _ _ _) (impl_bestLaying.l0_mono K l0 m _ _ _)))) (LeO.refl _)) (LeO.refl _)
theorem impl_bestLaying.mono : ∀ a0 k, LeO (impl_bestLaying.f k a0) (impl_bestLaying.f (k + 1) a0) := fun a0 k => by
  unfold impl_bestLaying.f
  exact LeO.ite (impl_bestLaying.l0_mono _ _ _ _ _ _) (LeO.refl _)
structure impl_bestLaying.ST (w0 w : World) (gp gl gb : Nat) (A0 : Option Addr) (c0 : Nat) (l0 : List Int) (best : ByteArray) (least : Int) : Prop where
  hp : w.heap[gp]? = some (.cells #[.slice A0 l0.length c0] 22 (0, 0))
  hl : w.heap[gl]? = some (.cells #[.int .i64 least] 3 (0, 0))
  hb : w.heap[gb]? = some (.cells #[.string best] 9 (0, 0))
  ge : w0.heap.size ≤ gl ∧ w0.heap.size ≤ gb
  below : Below w0.heap.size w0 w
theorem impl_bestLaying.ST.step {w0 w w1 : World} {gp gl gb : Nat} {A0 : Option Addr} {c0 : Nat} {l0 : List Int} {best : ByteArray} {least : Int} (h : impl_bestLaying.ST w0 w gp gl gb A0 c0 l0 best least) (hb : Below w.heap.size w w1) : impl_bestLaying.ST w0 w1 gp gl gb A0 c0 l0 best least :=
  ⟨blk_below h.hp hb, blk_below h.hl hb, blk_below h.hb hb, h.ge, below_step h.below hb⟩
theorem impl_bestLaying.ST.put {w0 w : World} {gp gl gb : Nat} {A0 : Option Addr} {c0 : Nat} {l0 : List Int} {best : ByteArray} {least : Int} (h : impl_bestLaying.ST w0 w gp gl gb A0 c0 l0 best least) (s : ByteArray) (n : Int) :
    impl_bestLaying.ST w0 ((w.setCell ⟨gb, 0, none⟩ (.string s)).setCell ⟨gl, 0, none⟩ (.int .i64 n)) gp gl gb A0 c0 l0 s n := by
  have n1 : gp ≠ gl := blk_ne h.hp h.hl (by decide)
  have n2 : gp ≠ gb := blk_ne h.hp h.hb (by decide)
  have n3 : gl ≠ gb := blk_ne h.hl h.hb (by decide)
  exact ⟨blk_far (p := ⟨gl, 0, none⟩) (blk_far (p := ⟨gb, 0, none⟩) h.hp n2 _) n1 _, blk_put (blk_far (p := ⟨gb, 0, none⟩) h.hl n3 _) 0 _ rfl, blk_far (p := ⟨gl, 0, none⟩) (blk_put h.hb 0 _ rfl) n3.symm _, h.ge, below_set (below_set h.below h.ge.2) h.ge.1⟩
set_option maxHeartbeats 4000000 in
set_option maxRecDepth 100000 in
theorem impl_bestLaying.visit (K : Nat) (w0 w : World) (gp gl gb : Nat) (A0 : Option Addr) (c0 : Nat) (l0 : List Int) (best s : ByteArray) (least n : Int) (e : List Int) (hr0 : Kd.C (Kd.int .i64) w0 A0 l0.length l0) (hc0 : l0.length ≤ c0) (h : impl_bestLaying.ST w0 w gp gl gb A0 c0 l0 best least) (he : impl_ends.f K l0 s = some e) (hn : impl_room.f K e = some n) :
    Calls Tryd.prog 108 #[.string s, .pointer (some ⟨gp, 0, none⟩), .pointer (some ⟨gl, 0, none⟩), .pointer (some ⟨gb, 0, none⟩)] w fun e' w' => e' = .returned (.tuple #[]) ∧ impl_bestLaying.ST w0 w' gp gl gb A0 c0 l0 (if least < 0 ∨ n < least then s else best) (if least < 0 ∨ n < least then n else least) := by
  have hz : w.cell? ⟨gp, 0, none⟩ = some (.slice A0 l0.length c0) := (blk_cell h.hp 0).trans rfl
  have HR := Aside0.mk (Kd.C_below hr0 h.below)
  have HC := Aside0.mk hc0
  have HS := Aside0.mk h
  have HE := Aside0.mk he
  have HN := Aside0.mk hn
  clear hr0 hc0 h he hn
  by_cases c1 : least < 0
  · have c1b : decide (least < 0) = true := decide_eq_true c1
    rw [if_pos (.inl c1), if_pos (.inl c1)]
    clear c1
    go_enter Tryd.func108, Tryd.ntmps108
    go_wp2_with (first | (go_at_call 110; (with_reducible refine (impl_ends.calls K A0 c0 l0 s e _ HR.out HC.out HE.out).mono ?_); rintro e1 w1 ⟨v, rfl, ho, hb⟩; obtain ⟨Ae, ce, ee⟩ := Kd.R_slice ho; subst ee; have HO := Aside0.mk ho; have nHS := Aside0.mk (HS.out.step hb); clear HS ho hb; have HS := nHS; clear nHS) | (go_at_call 109; (with_reducible refine (impl_room.calls K Ae ce e n _ (Kd.R_reads' HO.out).2.2 (Kd.R_reads' HO.out).2.1 HN.out).mono ?_); rintro e2 w2 ⟨rfl, hb⟩; have nHS := Aside0.mk (HS.out.step hb); clear HS hb HO; have HS := nHS; clear nHS; have hzl : w2.cell? ⟨gl, 0, none⟩ = some (.int .i64 least) := (blk_cell HS.out.hl 0).trans rfl; have hzb : w2.cell? ⟨gb, 0, none⟩ = some (.string best) := (blk_cell HS.out.hb 0).trans rfl; have hfb := blk_frozen HS.out.hb 0; have hl2 := blk_far (p := ⟨gb, 0, none⟩) HS.out.hl (blk_ne HS.out.hl HS.out.hb (by decide)) (.string s); have hzl2 : (w2.setCell ⟨gb, 0, none⟩ (.string s)).cell? ⟨gl, 0, none⟩ = some (.int .i64 least) := (blk_cell hl2 0).trans rfl; have hfl2 := blk_frozen hl2 0; clear hl2))
    go_end0
    exact ⟨rfl, HS.out.put s n⟩
  · have c1b : decide (least < 0) = false := decide_eq_false c1
    by_cases c2 : n < least
    · have c2b : decide (n < least) = true := decide_eq_true c2
      rw [if_pos (.inr c2), if_pos (.inr c2)]
      clear c1 c2
      go_enter Tryd.func108, Tryd.ntmps108
      go_wp2_with (first | (go_at_call 110; (with_reducible refine (impl_ends.calls K A0 c0 l0 s e _ HR.out HC.out HE.out).mono ?_); rintro e1 w1 ⟨v, rfl, ho, hb⟩; obtain ⟨Ae, ce, ee⟩ := Kd.R_slice ho; subst ee; have HO := Aside0.mk ho; have nHS := Aside0.mk (HS.out.step hb); clear HS ho hb; have HS := nHS; clear nHS) | (go_at_call 109; (with_reducible refine (impl_room.calls K Ae ce e n _ (Kd.R_reads' HO.out).2.2 (Kd.R_reads' HO.out).2.1 HN.out).mono ?_); rintro e2 w2 ⟨rfl, hb⟩; have nHS := Aside0.mk (HS.out.step hb); clear HS hb HO; have HS := nHS; clear nHS; have hzl : w2.cell? ⟨gl, 0, none⟩ = some (.int .i64 least) := (blk_cell HS.out.hl 0).trans rfl; have hzb : w2.cell? ⟨gb, 0, none⟩ = some (.string best) := (blk_cell HS.out.hb 0).trans rfl; have hfb := blk_frozen HS.out.hb 0; have hl2 := blk_far (p := ⟨gb, 0, none⟩) HS.out.hl (blk_ne HS.out.hl HS.out.hb (by decide)) (.string s); have hzl2 : (w2.setCell ⟨gb, 0, none⟩ (.string s)).cell? ⟨gl, 0, none⟩ = some (.int .i64 least) := (blk_cell hl2 0).trans rfl; have hfl2 := blk_frozen hl2 0; clear hl2))
      go_end0
      exact ⟨rfl, HS.out.put s n⟩
    · have c2b : decide (n < least) = false := decide_eq_false c2
      rw [if_neg (fun h => h.elim c1 c2), if_neg (fun h => h.elim c1 c2)]
      clear c1 c2
      go_enter Tryd.func108, Tryd.ntmps108
      go_wp2_with (first | (go_at_call 110; (with_reducible refine (impl_ends.calls K A0 c0 l0 s e _ HR.out HC.out HE.out).mono ?_); rintro e1 w1 ⟨v, rfl, ho, hb⟩; obtain ⟨Ae, ce, ee⟩ := Kd.R_slice ho; subst ee; have HO := Aside0.mk ho; have nHS := Aside0.mk (HS.out.step hb); clear HS ho hb; have HS := nHS; clear nHS) | (go_at_call 109; (with_reducible refine (impl_room.calls K Ae ce e n _ (Kd.R_reads' HO.out).2.2 (Kd.R_reads' HO.out).2.1 HN.out).mono ?_); rintro e2 w2 ⟨rfl, hb⟩; have nHS := Aside0.mk (HS.out.step hb); clear HS hb HO; have HS := nHS; clear nHS; have hzl : w2.cell? ⟨gl, 0, none⟩ = some (.int .i64 least) := (blk_cell HS.out.hl 0).trans rfl; have hzb : w2.cell? ⟨gb, 0, none⟩ = some (.string best) := (blk_cell HS.out.hb 0).trans rfl; have hfb := blk_frozen HS.out.hb 0; have hl2 := blk_far (p := ⟨gb, 0, none⟩) HS.out.hl (blk_ne HS.out.hl HS.out.hb (by decide)) (.string s); have hzl2 : (w2.setCell ⟨gb, 0, none⟩ (.string s)).cell? ⟨gl, 0, none⟩ = some (.int .i64 least) := (blk_cell hl2 0).trans rfl; have hfl2 := blk_frozen hl2 0; clear hl2))
      go_end0
      exact ⟨rfl, HS.out⟩
theorem impl_bestLaying.ST.grown {w0 w w1 : World} {gp gl gb g : Nat} {A0 : Option Addr} {c0 : Nat} {l0 : List Int} {best : ByteArray} {least : Int} (h : impl_bestLaying.ST w0 w gp gl gb A0 c0 l0 best least) (hg : w.grownBy w1 (some g)) (n1 : some gp ≠ some g) (n2 : some gl ≠ some g) (n3 : some gb ≠ some g) (hb : Below w0.heap.size w0 w1) : impl_bestLaying.ST w0 w1 gp gl gb A0 c0 l0 best least :=
  ⟨blk_grown h.hp hg n1, blk_grown h.hl hg n2, blk_grown h.hb hg n3, h.ge, hb⟩
theorem impl_bestLaying.inf5 : (Tryd.prog.info? 5).map (fun i => (i.zero, i.size, i.bytes)) = some (some (.int .u8 0), 1, 1) := by kernel_rfl
set_option maxHeartbeats 16000000 in
set_option maxRecDepth 100000 in
theorem impl_bestLaying.each (K : Nat) (w0 w : World) (gp gl gb : Nat) (A0 : Option Addr) (c0 : Nat) (l0 : List Int) (r1 : ByteArray) (r2 : Int) (hr0 : Kd.C (Kd.int .i64) w0 A0 l0.length l0) (hc0 : l0.length ≤ c0) (h : impl_bestLaying.ST w0 w gp gl gb A0 c0 l0 ⟨#[]⟩ (-1)) (hn : l0.length ≤ 10) (hl : impl_bestLaying.l0 K l0 K 0 ⟨#[]⟩ (-1) = some (r1, r2)) :
    Calls Tryd.prog 107 #[.slice A0 l0.length c0, .func (.func 108) #[] #[.pointer (some ⟨gp, 0, none⟩), .pointer (some ⟨gl, 0, none⟩), .pointer (some ⟨gb, 0, none⟩)]] w fun e w' => e = .returned (.tuple #[]) ∧ impl_bestLaying.ST w0 w' gp gl gb A0 c0 l0 r1 r2 := by
  have HR := Aside0.mk hr0
  have HC := Aside0.mk hc0
  have HS := Aside0.mk h
  have HN := Aside0.mk hn
  have HL := Aside0.mk hl
  obtain ⟨n, hnn⟩ : ∃ n, n = l0.length := ⟨_, rfl⟩
  have EN := Aside0.mk hnn
  rw [← hnn]
  clear hr0 hc0 h hn hl
  obtain ⟨p2, hp2⟩ : ∃ j_ : Int, (shl .i64 1 (n : Int)) = j_ := ⟨_, rfl⟩
  have hji4_ : (IntKind.i64.wrap (1 * 2 ^ min (n : Int).toNat 64)) = p2 := hp2
  have hji4z : (n : Int) ≤ 64 → (IntKind.i64.wrap (1 * 2 ^ (n : Int).toNat)) = p2 := shl_small hp2
  have hji4p : (IntKind.i64.wrap (1 * 2 ^ min n 64)) = p2 := hji4_
  have hji4q : (n : Int) ≤ 64 → (IntKind.i64.wrap (1 * 2 ^ n)) = p2 := hji4z
  have hji4r : (IntKind.i64.wrap (2 ^ min n 64)) = p2 := by have h_ := hji4p; rw [Int.one_mul] at h_; exact h_
  have hji4s : (n : Int) ≤ 64 → (IntKind.i64.wrap (2 ^ n)) = p2 := fun hle_ => by have h_ := hji4q hle_; rw [Int.one_mul] at h_; exact h_
  have hn64 : ((n : Int) ≤ 64) = True := eq_true (by have := HN.out; omega)
  have hn0 : (0 ≤ (n : Int)) = True := eq_true (by omega)
  have HP := Aside0.mk hp2
  clear hp2 hnn
  go_enter Tryd.func107, Tryd.ntmps107
  go_wp2
  clear hji4_ hji4z hji4p hji4q hji4r hji4s
  go_loopg [12] K (fun kq v12 w' => ∃ (kk : Int) (best : ByteArray) (least : Int), v12 = .int .i64 kk ∧ Aside0 (0 ≤ kk) ∧ Aside0 (impl_bestLaying.l0 K l0 kq kk best least = some (r1, r2)) ∧ Aside0 (kq ≤ K) ∧ Aside0 (impl_bestLaying.ST w0 w' gp gl gb A0 c0 l0 best least))
  case atStart => exact ⟨0, ⟨#[]⟩, -1, (by first | rfl | (simp; done)), ⟨by omega⟩, HL, ⟨Nat.le_refl _⟩, HS⟩
  case round =>
    clear HS HL
    obtain ⟨kk, best, least, rfl, H0, HA, HK, HS⟩ := hrel
    cases gk with
    | zero => exact absurd HA.out (by simp [impl_bestLaying.l0])
    | succ k1 =>
      have H := HA.out
      clear HA
      rw [impl_bestLaying.l0, ← EN.out, HP.out] at H
      by_cases c1 : kk < p2
      · rw [if_pos c1] at H
        by_cases c2 : impl_bestLaying.okB n kk = true
        case neg => rw [if_neg c2] at H; cases H
        rw [if_pos c2, Option.bind_eq_some_iff] at H
        obtain ⟨e, he, H⟩ := H
        rw [Option.bind_eq_some_iff] at H
        obtain ⟨m, hm, H⟩ := H
        have HE := Aside0.mk he
        have HM := Aside0.mk hm
        have HOK := Aside0.mk c2
        have HH := Aside0.mk H
        have HKP := Aside0.mk c1
        have c1b : decide (kk < p2) = true := decide_eq_true c1
        clear he hm c2 H c1
        have nb : decide (0 ≤ (n : Int)) = true := decide_eq_true (by omega)
        go_wp2_with (first | ((with_reducible refine gate_dst (N := 16) rfl ?_); refine Kd.R_make (Kd.int .u8) _ 5 rfl (N := 16) rfl 65 _ _ rfl (n : Int) rfl rfl Tryd.underlying65 (.int .u8 0) 1 impl_bestLaying.inf5 rfl (by decide) (by omega) 0 (ok := fun _ => True) (okp := fun _ => True) rfl (fun _ hk => hk) trivial (by omega) (by have := HN.out; have := EN.out; omega) (Below.refl _ _) (Nat.le_refl _) ?_; intro vL w4 ho5 hb hg_ hnew_; clear hg_ hnew_; obtain ⟨AL, cL, eL⟩ := Kd.R_slice ho5; rw [List.length_replicate, Int.toNat_natCast] at eL; subst eL; have nHS := Aside0.mk (HS.out.step hb); have HO := Aside0.mk (Kd.R_lower ho5 (below_size HS.out.below)); clear HS hb ho5; have HS := nHS; clear nHS))
        rw [show ((n : Int).toNat : Nat) = n from Int.toNat_natCast n] at HO
        go_loopg [19] n (fun kq v19 w' => ∃ (i : Int), v19 = .int .i64 i ∧ Aside0 (0 ≤ i ∧ i + kq = (n : Int)) ∧ Aside0 (Kd.R (Kd.int .u8) 5 w' w0.heap.size (fun _ => True) (.slice AL n cL) (impl_bestLaying.part n kk i.toNat)) ∧ Aside0 (impl_bestLaying.ST w0 w' gp gl gb A0 c0 l0 best least))
        case atStart => exact ⟨0, (by first | rfl | (simp; done)), ⟨by omega⟩, HO, HS⟩
        case round =>
          clear HO HS
          obtain ⟨i, rfl, HI, HO, HS⟩ := hrel
          by_cases c5 : i < (n : Int)
          · have c5b : decide (i < (n : Int)) = true := decide_eq_true c5
            have HI5 := Aside0.mk c5
            have p5 : 0 ≤ i := HI.out.1
            have hlen := impl_bestLaying.part_len n kk i.toNat
            obtain ⟨g, cg, ev, hg0, hg1, _⟩ := Kd.R_form HO.out (by rw [hlen]; omega)
            rw [hlen] at ev
            injection ev with ea _ ec
            subst ea
            subst ec
            have G0 := Aside0.mk hg0
            obtain ⟨hx, hf⟩ := Kd.R_celln 0 HO.out i p5 c5
            obtain ⟨a1, ha1⟩ : ∃ j : Int, wrap64 ((n : Int) - 1) = j := ⟨_, rfl⟩
            have ha1w : IntKind.i64.wrap ((n : Int) - 1) = a1 := (i64_w _).trans ha1
            obtain ⟨a2, ha2⟩ : ∃ j : Int, wrap64 (a1 - i) = j := ⟨_, rfl⟩
            have ha2w : IntKind.i64.wrap (a1 - i) = a2 := (i64_w _).trans ha2
            have EA := Aside0.mk (show a2 = (n : Int) - 1 - (i.toNat : Int) ∧ 0 ≤ a2 ∧ a2 ≤ 64 by
              have := HN.out; have := EN.out; have := HI.out
              have e1 : a1 = (n : Int) - 1 := by rw [← ha1]; unfold wrap64; omega
              have e2 : a2 = a1 - i := by rw [← ha2]; unfold wrap64; omega
              omega)
            obtain ⟨j5, hj5⟩ : ∃ j_ : Int, (shr .i64 kk a2) = j_ := ⟨_, rfl⟩
            have hj5_ : (kk / 2 ^ min a2.toNat 64) = j5 := hj5
            have hj5z : (kk / 2 ^ a2.toNat) = j5 := shr_small hj5 EA.out.2.2
            have q2 : 0 ≤ a2 := EA.out.2.1
            have hbx : impl_bestLaying.bx n kk i.toNat = Go.bits .and .i64 j5 1 := by unfold impl_bestLaying.bx; rw [← EA.out.1, hj5]
            have hbit := impl_bestLaying.okB_at HOK.out (i := i.toNat) (by omega)
            rw [hbx] at hbit
            have hB : impl_bestLaying.bit n kk i.toNat = if Go.bits .and .i64 j5 1 = 1 then 114 else 108 := by unfold impl_bestLaying.bit; rw [hbx]
            have NB := Aside0.mk hB
            clear hj5 hbx hB hlen hg0 hg1 ha1 ha2
            replace c5 := eq_true c5
            replace p5 := eq_true p5
            replace q2 := eq_true q2
            rcases hbit with hz | hz
            · have EB := Aside0.mk (show impl_bestLaying.bit n kk i.toNat = 108 by rw [NB.out, hz]; decide)
              obtain ⟨hP, hg⟩ := Kd.R_putg HO.out i 108
              have n1 := Kd.R_ne HO.out HS.out.hp (by decide)
              have n2 := Kd.R_ne HO.out HS.out.hl (by decide)
              have n3 := Kd.R_ne HO.out HS.out.hb (by decide)
              have nS := Aside0.mk (HS.out.grown hg n1 n2 n3 (below_set HS.out.below G0.out))
              have nP := Aside0.mk hP
              clear hP hg n1 n2 n3
              go_wp2
              go_roundg (n - (i.toNat + 1))
              case measure => have := HI.out; have := HI5.out; omega
              case rel => exact ⟨i + 1, (by have := HI.out; have := HI5.out; have := HN.out; have := EN.out; rw [show wrap64 (i + 1) = i + 1 by unfold wrap64; omega]), ⟨by have := HI.out; have := HI5.out; omega⟩, ⟨by rw [show (i + 1).toNat = i.toNat + 1 by have := HI.out; omega, impl_bestLaying.part, EB.out]; exact nP.out⟩, nS⟩
            · have EB := Aside0.mk (show impl_bestLaying.bit n kk i.toNat = 114 by rw [NB.out, hz]; decide)
              obtain ⟨hP, hg⟩ := Kd.R_putg HO.out i 114
              have n1 := Kd.R_ne HO.out HS.out.hp (by decide)
              have n2 := Kd.R_ne HO.out HS.out.hl (by decide)
              have n3 := Kd.R_ne HO.out HS.out.hb (by decide)
              have nS := Aside0.mk (HS.out.grown hg n1 n2 n3 (below_set HS.out.below G0.out))
              have nP := Aside0.mk hP
              clear hP hg n1 n2 n3
              go_wp2
              go_roundg (n - (i.toNat + 1))
              case measure => have := HI.out; have := HI5.out; omega
              case rel => exact ⟨i + 1, (by have := HI.out; have := HI5.out; have := HN.out; have := EN.out; rw [show wrap64 (i + 1) = i + 1 by unfold wrap64; omega]), ⟨by have := HI.out; have := HI5.out; omega⟩, ⟨by rw [show (i + 1).toNat = i.toNat + 1 by have := HI.out; omega, impl_bestLaying.part, EB.out]; exact nP.out⟩, nS⟩
          · have c5b : decide (i < (n : Int)) = false := decide_eq_false c5
            have hin : i.toNat = n := by have := HI.out; omega
            rw [hin] at HO
            clear hin c5 HI
            obtain ⟨s, hs⟩ : ∃ s, s = impl_bestLaying.lay n kk := ⟨_, rfl⟩
            have hcv := own_string (P := Tryd.prog) Tryd.underlying65 Tryd.underlying5 Tryd.underlying9 (Kd.own_of_R HO.out)
            rw [show strOfNums (impl_bestLaying.part n kk n) = s from hs.symm] at hcv
            have ES := Aside0.mk hs
            have nHE := Aside0.mk (show impl_ends.f K l0 s = some e by rw [hs]; exact HE.out)
            have nHH := HH.out
            rw [← hs] at nHH
            have HH2 := Aside0.mk nHH
            clear hs HE HH nHH HO
            go_wp2_with (first | (go_at_call 108; (with_reducible refine (impl_bestLaying.visit K w0 _ gp gl gb A0 c0 l0 best s least m e HR.out HC.out HS.out nHE.out HM.out).mono ?_); rintro e9 w9 ⟨rfl, hS9⟩; have HS9 := Aside0.mk hS9; clear hS9 HS))
            go_roundg k1
            case measure => have := HK.out; omega
            case rel =>
              have hk : kk < 1024 := by
                have h1 := HKP.out
                have h2 := HP.out
                rw [← h2] at h1
                have h3 := HN.out
                rw [← EN.out] at h3
                unfold shl at h1
                exact Int.lt_of_lt_of_le h1 (by
                  clear h1 h2
                  rcases n with _ | _ | _ | _ | _ | _ | _ | _ | _ | _ | _ | n <;> first | omega | decide)
              by_cases hc : least < 0 ∨ m < least
              · refine ⟨kk + 1, s, m, (by have := H0.out; rw [show wrap64 (kk + 1) = kk + 1 by unfold wrap64; omega]), ⟨by have := H0.out; omega⟩, ⟨?_⟩, ⟨by have := HK.out; omega⟩, ⟨?_⟩⟩
                · have h4 := HH2.out
                  rwa [if_pos hc] at h4
                · have h4 := HS9.out
                  rwa [if_pos hc, if_pos hc] at h4
              · refine ⟨kk + 1, best, least, (by have := H0.out; rw [show wrap64 (kk + 1) = kk + 1 by unfold wrap64; omega]), ⟨by have := H0.out; omega⟩, ⟨?_⟩, ⟨by have := HK.out; omega⟩, ⟨?_⟩⟩
                · have h4 := HH2.out
                  rwa [if_neg hc] at h4
                · have h4 := HS9.out
                  rwa [if_neg hc, if_neg hc] at h4
      · rw [if_neg c1] at H
        have c1b : decide (kk < p2) = false := decide_eq_false c1
        simp only [Option.some.injEq, Prod.mk.injEq] at H
        obtain ⟨rfl, rfl⟩ := H
        clear c1
        go_wp2
        go_end0
        exact ⟨rfl, HS.out⟩
theorem impl_bestLaying.made (w : World) (A0 : Option Addr) (c0 : Nat) (l0 : List Int) : impl_bestLaying.ST w (((w.alloc (.cells #[.slice A0 l0.length c0] 22 (0, 0))).alloc (.cells #[.string ⟨#[]⟩] 9 (0, 0))).alloc (.cells #[.int .i64 (-1)] 3 (0, 0))) w.heap.size (w.heap.size + 1 + 1) (w.heap.size + 1) A0 c0 l0 ⟨#[]⟩ (-1) :=
  ⟨blk_alloc (blk_alloc (blk_new w _) _) _, by simpa using blk_new ((w.alloc (.cells #[.slice A0 l0.length c0] 22 (0, 0))).alloc (.cells #[.string ⟨#[]⟩] 9 (0, 0))) (.cells #[.int .i64 (-1)] 3 (0, 0)), blk_alloc (by simpa using blk_new (w.alloc (.cells #[.slice A0 l0.length c0] 22 (0, 0))) (.cells #[.string ⟨#[]⟩] 9 (0, 0))) _, ⟨by omega, by omega⟩, below_alloc (below_alloc (below_alloc (Below.refl _ _) _) _) _⟩
set_option maxHeartbeats 8000000 in
set_option maxRecDepth 100000 in
theorem impl_bestLaying.calls (k : Nat) (A0 : Option Addr) (c0 : Nat) (l0 : List Int) (r1 : ByteArray) (r2 : Int) (w : World) (hr0 : Kd.C (Kd.int .i64) w A0 l0.length l0) (hc0 : l0.length ≤ c0) (h : impl_bestLaying.f k l0 = some (r1, r2)) :
    Calls Tryd.prog 78 #[.slice A0 l0.length c0] w fun e w' => e = .returned (.tuple #[.string r1, .int .i64 r2]) ∧ Below w.heap.size w w' := by
  unfold impl_bestLaying.f at h
  by_cases hn : l0.length ≤ 10
  case neg => rw [if_neg hn] at h; cases h
  rw [if_pos hn] at h
  have HR := Aside0.mk hr0
  have HC := Aside0.mk hc0
  have HN := Aside0.mk hn
  have HL := Aside0.mk h
  have HB := Aside0.mk (Below.refl w.heap.size w)
  clear hr0 hc0 hn h
  have hmf : ∀ (fn : Fn) (first cap : Array Value) (w : World), (Instr.makeFunc fn first cap).run Tryd.prog w = .ok (.func fn first cap) w := fun _ _ _ _ => rfl
  go_enter Tryd.func78, Tryd.ntmps78
  go_upto_region 2 with (fail)
  have hS0 := impl_bestLaying.made w A0 c0 l0
  generalize (((w.alloc (.cells #[.slice A0 l0.length c0] 22 (0, 0))).alloc (.cells #[.string ⟨#[]⟩] 9 (0, 0))).alloc (.cells #[.int .i64 (-1)] 3 (0, 0))) = W at hS0 ⊢
  generalize w.heap.size + 1 + 1 = gl at hS0 ⊢
  generalize w.heap.size + 1 = gb at hS0 ⊢
  obtain ⟨gp, hgp⟩ : ∃ g, g = w.heap.size := ⟨_, rfl⟩
  rw [← hgp] at hS0 ⊢
  have hz : W.cell? ⟨gp, 0, none⟩ = some (.slice A0 l0.length c0) := (blk_cell hS0.hp 0).trans rfl
  have HS := Aside0.mk hS0
  clear hgp hS0
  go_wp2_with (first | (go_at_call 107; (with_reducible refine (impl_bestLaying.each k w _ gp gl gb A0 c0 l0 r1 r2 HR.out HC.out HS.out HN.out HL.out).mono ?_); rintro e1 w1 ⟨rfl, hS1⟩; have HS1 := Aside0.mk hS1; have hzl : w1.cell? ⟨gl, 0, none⟩ = some (.int .i64 r2) := (blk_cell hS1.hl 0).trans rfl; have hzb : w1.cell? ⟨gb, 0, none⟩ = some (.string r1) := (blk_cell hS1.hb 0).trans rfl; clear hS1 HS hz))
  have HB1 := Aside0.mk HS1.out.below
  clear HS1 HB
  go_quiet (fail)
  go_wp2
  go_ret2
  exact ⟨rfl, by repeat (first | exact HB1.out | apply pw_below_drewN | apply below_drew1)⟩

/-! ### impl_LeastRoom: function 46 -/
def impl_LeastRoom.f (k : Nat) (l0 : List Int) : Option (Int) := (impl_RulerOk.f l0).bind fun t171 => (if t171 = true then ((impl_bestLaying.f k l0).bind fun bt172 => (some bt172.2)) else (some (-1)))
theorem impl_LeastRoom.mono : ∀ a0 k, LeO (impl_LeastRoom.f k a0) (impl_LeastRoom.f (k + 1) a0) := by
  intro a0 k
  unfold impl_LeastRoom.f
  repeat' first
      | (with_reducible exact impl_bestLaying.mono _ _)
      | (with_reducible exact LeO.refl _)
      | (with_reducible exact LeO.none _)
      | (with_reducible refine LeO.ite ?_ ?_)
      | (with_reducible refine LeO.bind ?_ (fun _ => ?_))
      | exact impl_bestLaying.mono _ _
      | exact LeO.none _
      | refine LeO.ite ?_ ?_
      | refine LeO.bind ?_ (fun _ => ?_)
set_option maxHeartbeats 8000000 in
set_option maxRecDepth 100000 in
theorem impl_LeastRoom.calls (k : Nat) (A0 : Option Addr) (c0 : Nat) (l0 : List Int) (r : Int) (w : World) (hr0 : Kd.C (Kd.int .i64) w A0 l0.length l0) (hc0 : l0.length ≤ c0) (h : impl_LeastRoom.f k l0 = some r) :
    Calls Tryd.prog 46 #[.slice A0 l0.length c0] w fun e w' => e = .returned (.int .i64 r) ∧ Below w.heap.size w w' := by
  have HR0 := Aside0.mk hr0
  have HC0 := Aside0.mk hc0
  clear hr0 hc0
  have HB := Aside0.mk (Below.refl w.heap.size w)
  have H : ((impl_RulerOk.f l0).bind fun t171 => (if t171 = true then ((impl_bestLaying.f k l0).bind fun bt172 => (some bt172.2)) else (some (-1)))) = some r := h
  clear h
  replace H := Option.bind_eq_some_iff.mp H
  obtain ⟨t171, A20, H⟩ := H
  replace H : (if t171 = true then ((impl_bestLaying.f k l0).bind fun bt172 => (some bt172.2)) else (some (-1))) = some r := H
  have A2 := Aside0.mk A20
  clear A20
  by_cases c3 : t171 = true
  · subst c3
    have H1 : ((impl_bestLaying.f k l0).bind fun bt172 => (some bt172.2)) = some r := by rw [if_pos rfl] at H; exact H
    clear H
    have H := H1
    clear H1
    replace H := Option.bind_eq_some_iff.mp H
    obtain ⟨⟨t172, t173⟩, A40, H⟩ := H
    replace H : (some t173) = some r := H
    have A4 := Aside0.mk A40
    clear A40
    obtain rfl := Option.some.inj H
    go_enter Tryd.func46, Tryd.ntmps46
    go_wp2_with (first | ((with_reducible refine gate_callee (f := 45) rfl ?_); refine goesL_ (some 6) rfl rfl Tryd.func45 (by kernel_rfl) rfl #[.slice A0 l0.length c0] rfl (by (try simp only [List.map_toArray, List.map_cons, List.map_nil]); first | done | rfl | (simp only [List.length_drop, List.length_take]; rfl)) ?_; (with_reducible refine (impl_RulerOk.calls _ _ l0 true _ ?side1 ?side2 A2.out).mono ?_); (case side1 => repeat (first | exact HR0.out | (with_reducible refine Kd.C_alloc ?_ _) | (with_reducible refine Kd.C_drewN ?_ _) | (with_reducible refine Kd.C_drew ?_))); (case side2 => exact HC0.out); rintro e w5 ⟨rfl, hb⟩; refine ⟨_, rfl, ?_⟩; have n0_ := Aside0.mk (below_step (by repeat (first | (with_reducible first | exact HB.out | apply below_alloc | apply pw_below_drewN | apply below_drew1) | exact HB.out)) hb); clear HB; have HB := n0_; clear n0_; (try clear hb); (try clear hb2); (try clear hk); (try clear hi)) | ((with_reducible refine gate_callee (f := 78) rfl ?_); refine goesL_ (some 10) rfl rfl Tryd.func78 (by kernel_rfl) rfl #[.slice A0 l0.length c0] rfl (by (try simp only [List.map_toArray, List.map_cons, List.map_nil]); first | done | rfl | (simp only [List.length_drop, List.length_take]; rfl)) ?_; (with_reducible refine (impl_bestLaying.calls k _ _ l0 t172 t173 _ ?side1 ?side2 A4.out).mono ?_); (case side1 => repeat (first | exact (Kd.C_below HR0.out HB.out) | (with_reducible refine Kd.C_alloc ?_ _) | (with_reducible refine Kd.C_drewN ?_ _) | (with_reducible refine Kd.C_drew ?_))); (case side2 => exact HC0.out); rintro e w6 ⟨rfl, hb⟩; refine ⟨_, rfl, ?_⟩; have n0_ := Aside0.mk (below_step (by repeat (first | (with_reducible first | exact HB.out | apply below_alloc | apply pw_below_drewN | apply below_drew1) | exact HB.out)) hb); clear HB; have HB := n0_; clear n0_; (try clear hb); (try clear hb2); (try clear hk); (try clear hi)))
    go_ret
    exact ⟨by first | rfl | (simp [errW_none, errW_some] <;> rfl) | (simp [*, errW_none, errW_some] <;> rfl), by repeat (first | (with_reducible first | exact HB.out | apply below_alloc | apply pw_below_drewN | apply below_drew1) | exact HB.out)⟩
  · replace c3 := Bool.eq_false_iff.mpr c3
    subst c3
    have H1 : (some (-1)) = some r := by rw [if_neg (show ¬ (false = true) by decide)] at H; exact H
    clear H
    have H := H1
    clear H1
    obtain rfl := Option.some.inj H
    go_enter Tryd.func46, Tryd.ntmps46
    go_wp2_with (first | ((with_reducible refine gate_callee (f := 45) rfl ?_); refine goesL_ (some 6) rfl rfl Tryd.func45 (by kernel_rfl) rfl #[.slice A0 l0.length c0] rfl (by (try simp only [List.map_toArray, List.map_cons, List.map_nil]); first | done | rfl | (simp only [List.length_drop, List.length_take]; rfl)) ?_; (with_reducible refine (impl_RulerOk.calls _ _ l0 false _ ?side1 ?side2 A2.out).mono ?_); (case side1 => repeat (first | exact HR0.out | (with_reducible refine Kd.C_alloc ?_ _) | (with_reducible refine Kd.C_drewN ?_ _) | (with_reducible refine Kd.C_drew ?_))); (case side2 => exact HC0.out); rintro e w7 ⟨rfl, hb⟩; refine ⟨_, rfl, ?_⟩; have n0_ := Aside0.mk (below_step (by repeat (first | (with_reducible first | exact HB.out | apply below_alloc | apply pw_below_drewN | apply below_drew1) | exact HB.out)) hb); clear HB; have HB := n0_; clear n0_; (try clear hb); (try clear hb2); (try clear hk); (try clear hi)))
    go_ret
    exact ⟨by first | rfl | (simp [errW_none, errW_some] <;> rfl) | (simp [*, errW_none, errW_some] <;> rfl), by repeat (first | (with_reducible first | exact HB.out | apply below_alloc | apply pw_below_drewN | apply below_drew1) | exact HB.out)⟩

/-! ### impl_BestLaying: function 47 -/
def impl_BestLaying.f (k : Nat) (l0 : List Int) : Option (ByteArray) := (impl_RulerOk.f l0).bind fun t174 => (if t174 = true then ((impl_bestLaying.f k l0).bind fun bt175 => (some bt175.1)) else (some (⟨#[]⟩ : ByteArray)))
theorem impl_BestLaying.mono : ∀ a0 k, LeO (impl_BestLaying.f k a0) (impl_BestLaying.f (k + 1) a0) := by
  intro a0 k
  unfold impl_BestLaying.f
  repeat' first
      | (with_reducible exact impl_bestLaying.mono _ _)
      | (with_reducible exact LeO.refl _)
      | (with_reducible exact LeO.none _)
      | (with_reducible refine LeO.ite ?_ ?_)
      | (with_reducible refine LeO.bind ?_ (fun _ => ?_))
      | exact impl_bestLaying.mono _ _
      | exact LeO.none _
      | refine LeO.ite ?_ ?_
      | refine LeO.bind ?_ (fun _ => ?_)
set_option maxHeartbeats 8000000 in
set_option maxRecDepth 100000 in
theorem impl_BestLaying.calls (k : Nat) (A0 : Option Addr) (c0 : Nat) (l0 : List Int) (r : ByteArray) (w : World) (hr0 : Kd.C (Kd.int .i64) w A0 l0.length l0) (hc0 : l0.length ≤ c0) (h : impl_BestLaying.f k l0 = some r) :
    Calls Tryd.prog 47 #[.slice A0 l0.length c0] w fun e w' => e = .returned (.string r) ∧ Below w.heap.size w w' := by
  have HR0 := Aside0.mk hr0
  have HC0 := Aside0.mk hc0
  clear hr0 hc0
  have HB := Aside0.mk (Below.refl w.heap.size w)
  have H : ((impl_RulerOk.f l0).bind fun t174 => (if t174 = true then ((impl_bestLaying.f k l0).bind fun bt175 => (some bt175.1)) else (some (⟨#[]⟩ : ByteArray)))) = some r := h
  clear h
  replace H := Option.bind_eq_some_iff.mp H
  obtain ⟨t174, A20, H⟩ := H
  replace H : (if t174 = true then ((impl_bestLaying.f k l0).bind fun bt175 => (some bt175.1)) else (some (⟨#[]⟩ : ByteArray))) = some r := H
  have A2 := Aside0.mk A20
  clear A20
  by_cases c3 : t174 = true
  · subst c3
    have H1 : ((impl_bestLaying.f k l0).bind fun bt175 => (some bt175.1)) = some r := by rw [if_pos rfl] at H; exact H
    clear H
    have H := H1
    clear H1
    replace H := Option.bind_eq_some_iff.mp H
    obtain ⟨⟨t175, t176⟩, A40, H⟩ := H
    replace H : (some t175) = some r := H
    have A4 := Aside0.mk A40
    clear A40
    obtain rfl := Option.some.inj H
    go_enter Tryd.func47, Tryd.ntmps47
    go_wp2_with (first | ((with_reducible refine gate_callee (f := 45) rfl ?_); refine goesL_ (some 6) rfl rfl Tryd.func45 (by kernel_rfl) rfl #[.slice A0 l0.length c0] rfl (by (try simp only [List.map_toArray, List.map_cons, List.map_nil]); first | done | rfl | (simp only [List.length_drop, List.length_take]; rfl)) ?_; (with_reducible refine (impl_RulerOk.calls _ _ l0 true _ ?side1 ?side2 A2.out).mono ?_); (case side1 => repeat (first | exact HR0.out | (with_reducible refine Kd.C_alloc ?_ _) | (with_reducible refine Kd.C_drewN ?_ _) | (with_reducible refine Kd.C_drew ?_))); (case side2 => exact HC0.out); rintro e w5 ⟨rfl, hb⟩; refine ⟨_, rfl, ?_⟩; have n0_ := Aside0.mk (below_step (by repeat (first | (with_reducible first | exact HB.out | apply below_alloc | apply pw_below_drewN | apply below_drew1) | exact HB.out)) hb); clear HB; have HB := n0_; clear n0_; (try clear hb); (try clear hb2); (try clear hk); (try clear hi)) | ((with_reducible refine gate_callee (f := 78) rfl ?_); refine goesL_ (some 10) rfl rfl Tryd.func78 (by kernel_rfl) rfl #[.slice A0 l0.length c0] rfl (by (try simp only [List.map_toArray, List.map_cons, List.map_nil]); first | done | rfl | (simp only [List.length_drop, List.length_take]; rfl)) ?_; (with_reducible refine (impl_bestLaying.calls k _ _ l0 t175 t176 _ ?side1 ?side2 A4.out).mono ?_); (case side1 => repeat (first | exact (Kd.C_below HR0.out HB.out) | (with_reducible refine Kd.C_alloc ?_ _) | (with_reducible refine Kd.C_drewN ?_ _) | (with_reducible refine Kd.C_drew ?_))); (case side2 => exact HC0.out); rintro e w6 ⟨rfl, hb⟩; refine ⟨_, rfl, ?_⟩; have n0_ := Aside0.mk (below_step (by repeat (first | (with_reducible first | exact HB.out | apply below_alloc | apply pw_below_drewN | apply below_drew1) | exact HB.out)) hb); clear HB; have HB := n0_; clear n0_; (try clear hb); (try clear hb2); (try clear hk); (try clear hi)))
    go_ret
    exact ⟨by first | rfl | (simp [errW_none, errW_some] <;> rfl) | (simp [*, errW_none, errW_some] <;> rfl), by repeat (first | (with_reducible first | exact HB.out | apply below_alloc | apply pw_below_drewN | apply below_drew1) | exact HB.out)⟩
  · replace c3 := Bool.eq_false_iff.mpr c3
    subst c3
    have H1 : (some (⟨#[]⟩ : ByteArray)) = some r := by rw [if_neg (show ¬ (false = true) by decide)] at H; exact H
    clear H
    have H := H1
    clear H1
    obtain rfl := Option.some.inj H
    go_enter Tryd.func47, Tryd.ntmps47
    go_wp2_with (first | ((with_reducible refine gate_callee (f := 45) rfl ?_); refine goesL_ (some 6) rfl rfl Tryd.func45 (by kernel_rfl) rfl #[.slice A0 l0.length c0] rfl (by (try simp only [List.map_toArray, List.map_cons, List.map_nil]); first | done | rfl | (simp only [List.length_drop, List.length_take]; rfl)) ?_; (with_reducible refine (impl_RulerOk.calls _ _ l0 false _ ?side1 ?side2 A2.out).mono ?_); (case side1 => repeat (first | exact HR0.out | (with_reducible refine Kd.C_alloc ?_ _) | (with_reducible refine Kd.C_drewN ?_ _) | (with_reducible refine Kd.C_drew ?_))); (case side2 => exact HC0.out); rintro e w7 ⟨rfl, hb⟩; refine ⟨_, rfl, ?_⟩; have n0_ := Aside0.mk (below_step (by repeat (first | (with_reducible first | exact HB.out | apply below_alloc | apply pw_below_drewN | apply below_drew1) | exact HB.out)) hb); clear HB; have HB := n0_; clear n0_; (try clear hb); (try clear hb2); (try clear hk); (try clear hi)))
    go_ret
    exact ⟨by first | rfl | (simp [errW_none, errW_some] <;> rfl) | (simp [*, errW_none, errW_some] <;> rfl), by repeat (first | (with_reducible first | exact HB.out | apply below_alloc | apply pw_below_drewN | apply below_drew1) | exact HB.out)⟩

end Go.Proofs.YtpmpcaahbhdiiaaDoor.QFnExactRulerLine
