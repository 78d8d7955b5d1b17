-- Printed for this claim by a changed copy of the kit's print (the session's own; own contracts in place of some functions).
import Derived.Test.YtndlmckfacegeaaGreatDoorQFnFoldsx0
import Derived.Test.YtndlmckfacegeaaGreatDoorQFnFoldsx1
import Derived.Test.YtndlmckfacegeaaGreatDoorQFnFoldsx3
namespace Go.Proofs.YtndlmckfacegeaaGreatDoor.QFnFolds
open Go.RowKit Go.Proofs.YtndlmckfacegeaaGreatDoorW.PrintWords Go.Proofs.YtndlmckfacegeaaGreatDoorW.PrintLast Go.Proofs.YtndlmckfacegeaaGreatDoorW.PrintMore
attribute [local go_sem] max2_int min2_int max_two min_two max_three min_three max_four min_four   -- for this text's walks alone
set_option linter.unusedVariables false
set_option linter.unusedSimpArgs false

/-! ### impl_FoldOrder: function 5 -/
def impl_FoldOrder.l0 : Nat → List Int → List (S40) → Int → Int → Option (List Int)
  | 0, _, _, _, _ => none
  | k + 1, x3, x11, x12, x13 => if x13 < x12 then (if 0 ≤ x13 then (if x13 < (x11.length : Int) then (if x3.length < 17592186044416 then (impl_FoldOrder.l0 k (x3 ++ [(rd_T40 x11 x13).f0]) x11 x12 (wrap64 (x13 + 1))) else (none)) else (none)) else (none)) else (some x3)
def impl_FoldOrder.f (k : Nat) (a0 : ByteArray) : Option (List Int) := (impl_FoldWordOk.f a0).bind fun t166 => (if t166 = true then ((impl_folded.f k a0).bind fun t170 => (impl_FoldOrder.l0 k (([] : List Int)) t170 (t170.length : Int) 0)) else (some ([] : List Int)))
theorem impl_FoldOrder.mono_l : ∀ k, (∀ y0 y1 y2 y3, LeO (impl_FoldOrder.l0 k y0 y1 y2 y3) (impl_FoldOrder.l0 (k + 1) y0 y1 y2 y3))
  | 0 => fun _ _ _ _ r h => by simp [impl_FoldOrder.l0] at h
  | k + 1 => by
    have ih0 := impl_FoldOrder.mono_l k
    · intro y0 y1 y2 y3
      unfold impl_FoldOrder.l0
      repeat' first
      | (with_reducible exact ih0 _ _ _ _)
      | (with_reducible exact impl_folded.mono _ _)
      | (with_reducible exact LeO.refl _)
      | (with_reducible exact LeO.none _)
      | (with_reducible refine LeO.ite ?_ ?_)
      | (with_reducible refine LeO.bind ?_ (fun _ => ?_))
      | exact ih0 _ _ _ _
      | exact impl_folded.mono _ _
      | exact LeO.none _
      | refine LeO.ite ?_ ?_
      | refine LeO.bind ?_ (fun _ => ?_)
theorem impl_FoldOrder.mono : ∀ a0 k, LeO (impl_FoldOrder.f k a0) (impl_FoldOrder.f (k + 1) a0) := by
  intro a0 k
  have ih0 := impl_FoldOrder.mono_l k
  unfold impl_FoldOrder.f
  repeat' first
      | (with_reducible exact ih0 _ _ _ _)
      | (with_reducible exact impl_folded.mono _ _)
      | (with_reducible exact LeO.refl _)
      | (with_reducible exact LeO.none _)
      | (with_reducible refine LeO.ite ?_ ?_)
      | (with_reducible refine LeO.bind ?_ (fun _ => ?_))
      | exact ih0 _ _ _ _
      | exact impl_folded.mono _ _
      | exact LeO.none _
      | refine LeO.ite ?_ ?_
      | refine LeO.bind ?_ (fun _ => ?_)
set_option maxHeartbeats 8000000 in
set_option maxRecDepth 100000 in
theorem impl_FoldOrder.calls (k : Nat) (a0 : ByteArray) (r : List Int) (w : World) (h : impl_FoldOrder.f k a0 = some r) :
    Calls Tryz.prog 5 #[.string a0] w fun e w' => ∃ v0_ : Value, e = .returned (v0_) ∧ Kd.R (Kd.int .i64) 3 w' w.heap.size (fun _ => True) v0_ r ∧ Below w.heap.size w w' := by
  have hu40 := Tryz.underlying40
  have HB := Aside0.mk (Below.refl w.heap.size w)
  have H : ((impl_FoldWordOk.f a0).bind fun t166 => (if t166 = true then ((impl_folded.f k a0).bind fun t170 => (impl_FoldOrder.l0 k (([] : List Int)) t170 (t170.length : Int) 0)) else (some ([] : List Int)))) = some r := h
  clear h
  replace H := Option.bind_eq_some_iff.mp H
  obtain ⟨t166, A20, H⟩ := H
  replace H : (if t166 = true then ((impl_folded.f k a0).bind fun t170 => (impl_FoldOrder.l0 k (([] : List Int)) t170 (t170.length : Int) 0)) else (some ([] : List Int))) = some r := H
  have A2 := Aside0.mk A20
  clear A20
  by_cases c3 : t166 = true
  · subst c3
    have H1 : ((impl_folded.f k a0).bind fun t170 => (impl_FoldOrder.l0 k (([] : List Int)) t170 (t170.length : Int) 0)) = some r := by rw [if_pos rfl] at H; exact H
    clear H
    have H := H1
    clear H1
    obtain ⟨y167, hy167⟩ : ∃ y_ : List Int, y_ = (([] : List Int)) := ⟨_, rfl⟩
    replace H : ((impl_folded.f k a0).bind fun t170 => (impl_FoldOrder.l0 k y167 t170 (t170.length : Int) 0)) = some r := by first | (rw [hy167]; with_reducible exact H) | (have H2_ := (Option.bind_some _ _).symm.trans H; rw [hy167]; with_reducible exact H2_) | (have H2_ := (Option.bind_some _ _).symm.trans H; with_reducible exact H2_) | with_reducible exact H | (rw [hy167]; exact H) | exact H
    have Ny167 := Aside0.mk hy167
    clear hy167
    replace H := Option.bind_eq_some_iff.mp H
    obtain ⟨t170, A40, H⟩ := H
    replace H : (impl_FoldOrder.l0 k y167 t170 (t170.length : Int) 0) = some r := H
    have A4 := Aside0.mk A40
    clear A40
    have H' := Aside0.mk H
    clear H
    go_enter Tryz.func5, Tryz.ntmps5
    go_wp2_with (first | ((with_reducible refine gate_callee (f := 9) rfl ?_); refine goesL_ (some 7) rfl rfl Tryz.func9 (by kernel_rfl) rfl #[.string a0] rfl (by (try simp only [List.map_toArray, List.map_cons, List.map_nil]); first | done | rfl | (simp only [List.length_drop, List.length_take]; rfl)) ?_; (with_reducible refine (impl_FoldWordOk.calls a0 true _ A2.out).mono ?_); rintro e w5 ⟨rfl, hb⟩; refine ⟨_, rfl, ?_⟩; have n0_ := Aside0.mk (below_step (by repeat (first | (with_reducible first | exact HB.out | apply below_alloc | apply pw_below_drewN | apply below_drew1) | exact HB.out)) hb); clear HB; have HB := n0_; clear n0_; (try clear hb); (try clear hb2); (try clear hk); (try clear hi)) | ((with_reducible refine gate_dst (N := 9) rfl ?_); refine Kd.R_lit (Kd.int .i64) _ 3 ?hg (N := 9) ?hd (xs := ([] : List Int)) (inner := []) (ok := fun _ => True) (okp := fun _ => True) ?hr ?hp (fun _ hk => hk) trivial (Below.refl _ _) (Nat.le_refl _) (by simp) ?_; (case hd => rfl); (case hg => rfl); (case hr => first | (go_simp; done) | (go_simp; rfl)); (case hp => exact (Reps.none _ _)); intro v168 w6 ho7 hb hg_ hnew_; clear hg_ hnew_; (first | rw [← Ny167.out] at ho7 | (simp only [Int.reduceToNat] at ho7; rw [← Ny167.out] at ho7)); have n0_ := Aside0.mk (Kd.R_lower ho7 (below_size (by repeat (first | (with_reducible first | exact HB.out | apply below_alloc | apply pw_below_drewN | apply below_drew1) | exact HB.out)))); have n1_ := Aside0.mk (below_step (by repeat (first | (with_reducible first | exact HB.out | apply below_alloc | apply pw_below_drewN | apply below_drew1) | exact HB.out)) hb); clear HB; have HO169 := n0_; have HB := n1_; clear n0_ n1_; clear hb ho7) | ((with_reducible refine gate_callee (f := 18) rfl ?_); refine goesL_ (some 11) rfl rfl Tryz.func18 (by kernel_rfl) rfl #[.string a0] rfl (by (try simp only [List.map_toArray, List.map_cons, List.map_nil]); first | done | rfl | (simp only [List.length_drop, List.length_take]; rfl)) ?_; (with_reducible refine (impl_folded.calls k a0 t170 _ A4.out).mono ?_); rintro e w8 ⟨v171, rfl, ho0, hb⟩; refine ⟨_, rfl, ?_⟩; have n0_ := Aside0.mk (Kd.R_below (by (with_reducible repeat (first | apply Kd.R_alloc | apply Kd.R_drewN | apply Kd.R_drew)); exact HO169.out) hb); have n1_ := Aside0.mk (Kd.R_lower ho0 (below_size (by repeat (first | (with_reducible first | exact HB.out | apply below_alloc | apply pw_below_drewN | apply below_drew1) | exact HB.out)))); have n2_ := Aside0.mk (below_step (by repeat (first | (with_reducible first | exact HB.out | apply below_alloc | apply pw_below_drewN | apply below_drew1) | exact HB.out)) hb); clear HO169; clear HB; have HO169 := n0_; have HO172 := n1_; have HB := n2_; clear n0_ n1_ n2_; (try clear hb); (try clear hb2); (try clear hk); (try clear hi); (try clear ho0); obtain ⟨Ao9, co9, eo9⟩ := Kd.R_slice HO172.out; subst eo9))
    go_loopg [3, 13] k (fun kq v3 v13 w' => ∃ (x3_1 : List Int) (x13_1 : Int), v13 = .int .i64 x13_1 ∧ Aside0 (impl_FoldOrder.l0 kq x3_1 t170 (t170.length : Int) x13_1 = some r) ∧ Aside0 (kq ≤ k) ∧ Aside0 (Kd.R (Kd.int .i64) 3 w' w.heap.size (fun _ => True) v3 x3_1) ∧ Aside0 (Kd.R k40 40 w' w.heap.size (fun _ => True) (.slice Ao9 t170.length co9) t170) ∧ Aside0 (Below w.heap.size w w'))
    case atStart => exact ⟨(y167), (0), (by first | rfl | (simp; done) | (simp [*]; done)), H', ⟨Nat.le_refl _⟩, ⟨by (with_reducible repeat (first | apply Kd.R_alloc | apply Kd.R_drewN | apply Kd.R_drew)); exact HO169.out⟩, ⟨by (with_reducible repeat (first | apply Kd.R_alloc | apply Kd.R_drewN | apply Kd.R_drew)); exact HO172.out⟩, ⟨by repeat (first | (with_reducible first | exact HB.out | apply below_alloc | apply pw_below_drewN | apply below_drew1) | exact HB.out)⟩⟩
    case round =>
      clear H'
      try clear c1
      try clear p2
      try clear c3
      try clear c5
      try clear c9
      obtain ⟨x3_1, x13_1, rfl, HA, HK1, HO_3, HO_11, HB⟩ := hrel
      cases gk with
      | zero => exact absurd HA.out (by simp [impl_FoldOrder.l0])
      | succ k1 =>
        have H := HA.out
        clear HA
        simp only [impl_FoldOrder.l0] at H
        by_cases c10 : x13_1 < (t170.length : Int)
        · rw [if_pos c10] at H
          have c10b0 : decide (x13_1 < (t170.length : Int)) = true := decide_eq_true c10
          clear c10
          by_cases c11 : 0 ≤ x13_1
          · rw [if_pos c11] at H
            have c11b0 : decide (0 ≤ x13_1) = true := decide_eq_true c11
            clear c11
            by_cases c12 : x13_1 < (t170.length : Int)
            · rw [if_pos c12] at H
              have c12b0 : decide (x13_1 < (t170.length : Int)) = true := decide_eq_true c12
              clear c12
              by_cases c13 : x3_1.length < 17592186044416
              · rw [if_pos c13] at H
                have LMc13 := Aside0.mk c13
                clear c13
                obtain ⟨y175, hy175⟩ : ∃ y_ : List Int, y_ = (x3_1 ++ [(rd_T40 t170 x13_1).f0]) := ⟨_, rfl⟩
                replace H : (impl_FoldOrder.l0 k1 y175 t170 (t170.length : Int) (wrap64 (x13_1 + 1))) = some r := by first | (rw [hy175]; with_reducible exact H) | (have H2_ := (Option.bind_some _ _).symm.trans H; rw [hy175]; with_reducible exact H2_) | (have H2_ := (Option.bind_some _ _).symm.trans H; with_reducible exact H2_) | with_reducible exact H | (rw [hy175]; exact H) | exact H
                have Ny175 := Aside0.mk hy175
                clear hy175
                have H' := Aside0.mk H
                clear H
                have p173 : 0 ≤ (x13_1 : Int) := of_decide_eq_true (by first | (with_reducible assumption) | assumption)
                have q173 : x13_1 < (t170.length : Int) := of_decide_eq_true (by first | (with_reducible assumption) | assumption)
                obtain ⟨ad173, e173, hx173_0, hx173_1⟩ := at_T40 (Kd.R_reads' HO_11.out).2.2 x13_1 p173 q173
                cases e173
                replace p173 := eq_true p173
                replace q173 := eq_true q173
                go_wp2_with (first | ((with_reducible refine gate_dst (N := 5) rfl ?_); refine box_event ?hg (N := 5) ?hd (cs := #[.int .i64 0, .bool false]) (t := 40) ?hr ?_; (case hd => rfl); (case hg => rfl); (case hr => first | (go_simp; done) | (go_simp; rfl)); intro gb174 hg w14 hbox hb; have n0_ := Aside0.mk (Kd.R_below (by (with_reducible repeat (first | apply Kd.R_alloc | apply Kd.R_drewN | apply Kd.R_drew)); exact HO_3.out) hb); have n1_ := Aside0.mk (Kd.R_below (Kd.R_elderB (by (with_reducible repeat (first | apply Kd.R_alloc | apply Kd.R_drewN | apply Kd.R_drew)); exact HO_11.out) gb174 (Nat.le_of_eq hg.symm)) hb); have n2_ := Aside0.mk (below_step (by repeat (first | (with_reducible first | exact HB.out | apply below_alloc | apply pw_below_drewN | apply below_drew1) | exact HB.out)) hb); have n3_ := Aside0.mk (hbox); have n4_ := Aside0.mk ((by rw [hg]; exact (below_size (by repeat (first | (with_reducible first | exact HB.out | apply below_alloc | apply pw_below_drewN | apply below_drew1) | exact HB.out))) : w.heap.size ≤ gb174)); have n5_ := Aside0.mk ((by rw [hg]; exact (below_size (by repeat (first | (with_reducible first | exact HB.out | apply below_alloc | apply pw_below_drewN | apply below_drew1) | exact HB.out))) : w.heap.size ≤ gb174)); clear HO_3; clear HO_11; clear HB; have HO_3 := n0_; have HO_11 := n1_; have HB := n2_; have BK174 := n3_; have GW174 := n4_; have GE174 := n5_; clear n0_ n1_ n2_ n3_ n4_ n5_; clear hb hbox hg; have hcz15_0 : w14.cell? ⟨gb174, 0, none⟩ = some (.int .i64 0) := (blk_cell BK174.out 0).trans rfl; have hcz15_1 : w14.cell? ⟨gb174, 1, none⟩ = some (.bool false) := (blk_cell BK174.out 1).trans rfl; have hfz15_0 := blk_frozen BK174.out 0; have hfz15_1 := blk_frozen BK174.out 1) | ((with_reducible refine gate_builtin (b := .append) (xs := #[.tmp 17, .tmp 20]) rfl ?_); at_builtin; refine Kd.R_append (Kd.int .i64) (w0 := w) w.heap.size rfl (.tmp 17) (.tmp 20) 24 3 (.int .i64 0) 8 rfl Tryz.underlying24 info3 rfl (by decide) (by omega) u3 x3_1 ((rd_T40 t170 x13_1).f0) [.int .i64 ((rd_T40 t170 x13_1).f0)] (fun _ => True) (fun _ => False) rfl (by first | (go_simp; done) | (go_simp; rfl)) ?aP (fun _ hk => hk.elim) ?aF ?aO ?aB ?aS ?aL ?_; (case aP => exact rfl); (case aB => exact (by repeat (first | (with_reducible first | exact HB.out | apply below_alloc | apply pw_below_drewN | apply below_drew1 | refine below_set ?_ GE174.out) | exact HB.out))); (case aF => exact (fun _ _ => trivial)); (case aO => exact (by (with_reducible repeat (first | apply Kd.R_alloc | apply Kd.R_drewN | apply Kd.R_drew)); exact Kd.R_mono (Kd.R_far (p := ⟨gb174, 1, none⟩) (Kd.R_far (p := ⟨gb174, 0, none⟩) (Kd.R_types HO_3.out BK174.out (by decide)) (fun _ hk => hk.2) (.int .i64 ((rd_T40 t170 x13_1).f0))) (fun _ hk => hk.2) (.bool ((rd_T40 t170 x13_1).f1))) (fun _ hk => trivial))); (case aS => exact (below_size (by repeat (first | (with_reducible first | exact HB.out | apply below_alloc | apply pw_below_drewN | apply below_drew1 | refine below_set ?_ GE174.out) | exact HB.out)))); (case aL => have := LMc13.out; omega); intro v176 w16 ho hb hg hat; rw [← Ny175.out] at ho; have n0_ := Aside0.mk (Kd.R_over' (by (with_reducible repeat (first | apply Kd.R_alloc | apply Kd.R_drewN | apply Kd.R_drew)); exact (Kd.R_mono (Kd.R_far (p := ⟨gb174, 1, none⟩) (Kd.R_far (p := ⟨gb174, 0, none⟩) (Kd.R_mono HO_11.out (fun k_ hk => (⟨hk, hk.2⟩ : _ ∧ k_ ≠ gb174))) (fun _ hk => hk.2) (.int .i64 ((rd_T40 t170 x13_1).f0))) (fun _ hk => hk.2) (.bool ((rd_T40 t170 x13_1).f1))) (fun _ h_ => h_.1))) (Kd.R_typed (by (with_reducible repeat (first | apply Kd.R_alloc | apply Kd.R_drewN | apply Kd.R_drew)); exact (Kd.R_mono (Kd.R_far (p := ⟨gb174, 1, none⟩) (Kd.R_far (p := ⟨gb174, 0, none⟩) (Kd.R_types HO_3.out BK174.out (by decide)) (fun _ hk => hk.2) (.int .i64 ((rd_T40 t170 x13_1).f0))) (fun _ hk => hk.2) (.bool ((rd_T40 t170 x13_1).f1))) (fun _ h_ => h_.1)))) (by decide) hg); have n1_ := Aside0.mk (blk_grown (g := gb174) (o := .cells #[.int .i64 ((rd_T40 t170 x13_1).f0), .bool ((rd_T40 t170 x13_1).f1)] 40 (0, 0)) (by (with_reducible repeat (first | refine blk_drewN ?_ _ | refine blk_drew ?_ | refine blk_alloc ?_ _)); refine blk_put (cs := #[.int .i64 ((rd_T40 t170 x13_1).f0), .bool false]) ?_ 1 _ rfl; (with_reducible repeat (first | refine blk_drewN ?_ _ | refine blk_drew ?_ | refine blk_alloc ?_ _)); refine blk_put (cs := #[.int .i64 0, .bool false]) ?_ 0 _ rfl; (with_reducible repeat (first | refine blk_drewN ?_ _ | refine blk_drew ?_ | refine blk_alloc ?_ _)); exact BK174.out) hg (Kd.R_ne HO_3.out BK174.out (by decide))); have n2_ := Aside0.mk (hb); have n3_ := Aside0.mk (ho); clear HO_11; clear BK174; clear HB; clear HO_3; have HO_11 := n0_; have BK174 := n1_; have HB := n2_; have HO177 := n3_; clear n0_ n1_ n2_ n3_; clear ho hb hg hat))
                go_roundg k1
                case measure => have := HK1.out; omega
                case rel => exact ⟨(y175), (wrap64 (x13_1 + 1)), (by first | rfl | (simp; done) | (simp [*]; done)), H', ⟨by have := HK1.out; omega⟩, ⟨by (with_reducible repeat (first | apply Kd.R_alloc | apply Kd.R_drewN | apply Kd.R_drew)); exact HO177.out⟩, ⟨by (with_reducible repeat (first | apply Kd.R_alloc | apply Kd.R_drewN | apply Kd.R_drew)); exact Kd.R_mono HO_11.out (fun _ hk => trivial)⟩, ⟨by repeat (first | (with_reducible first | exact HB.out | apply below_alloc | apply pw_below_drewN | apply below_drew1 | refine below_set ?_ GE174.out) | exact HB.out)⟩⟩
              · rw [if_neg c13] at H
                exact absurd H (by simp)
            · rw [if_neg c12] at H
              exact absurd H (by simp)
          · rw [if_neg c11] at H
            exact absurd H (by simp)
        · rw [if_neg c10] at H
          have c10b0 : decide (x13_1 < (t170.length : Int)) = false := decide_eq_false c10
          clear c10
          obtain rfl := Option.some.inj H
          go_wp2
          go_ret
          exact ⟨_, by first | rfl | (simp [errW_none, errW_some] <;> rfl) | (simp [*, errW_none, errW_some] <;> rfl), by (with_reducible repeat (first | apply Kd.R_alloc | apply Kd.R_drewN | apply Kd.R_drew)); exact HO_3.out, by repeat (first | (with_reducible first | exact HB.out | apply below_alloc | apply pw_below_drewN | apply below_drew1) | exact HB.out)⟩
  · replace c3 := Bool.eq_false_iff.mpr c3
    subst c3
    have H1 : (some ([] : List Int)) = some r := by rw [if_neg (show ¬ (false = true) by decide)] at H; exact H
    clear H
    have H := H1
    clear H1
    obtain rfl := Option.some.inj H
    go_enter Tryz.func5, Tryz.ntmps5
    go_wp2_with (first | ((with_reducible refine gate_callee (f := 9) rfl ?_); refine goesL_ (some 7) rfl rfl Tryz.func9 (by kernel_rfl) rfl #[.string a0] rfl (by (try simp only [List.map_toArray, List.map_cons, List.map_nil]); first | done | rfl | (simp only [List.length_drop, List.length_take]; rfl)) ?_; (with_reducible refine (impl_FoldWordOk.calls a0 false _ A2.out).mono ?_); rintro e w17 ⟨rfl, hb⟩; refine ⟨_, rfl, ?_⟩; have n0_ := Aside0.mk (below_step (by repeat (first | (with_reducible first | exact HB.out | apply below_alloc | apply pw_below_drewN | apply below_drew1) | exact HB.out)) hb); clear HB; have HB := n0_; clear n0_; (try clear hb); (try clear hb2); (try clear hk); (try clear hi)))
    go_ret
    exact ⟨_, by first | rfl | (simp [errW_none, errW_some] <;> rfl) | (simp [*, errW_none, errW_some] <;> rfl), by first | exact Kd.R_nil _ _ _ _ _ | exact Kd.N_nil _ _ _ _ _ | exact Kd.V_nil _ _ _ _ _ | exact Kd.Q_nil _ _ _ _ _ | exact Kd.S_nil _ _ _ _ _, by repeat (first | (with_reducible first | exact HB.out | apply below_alloc | apply pw_below_drewN | apply below_drew1) | exact HB.out)⟩

/-! ### impl_creases: function 19 -/
--import Derived.WalkSpells
--import Derived.RegionTactic
--import Derived.Deep.RegionLaw
--import Derived.Deep.DeepCutAuto
def impl_creases.ats (t : List S40) : Nat → List Int
  | 0 => List.replicate t.length 0
  | i + 1 => (impl_creases.ats t i).set (rd_T40 t (i : Int)).f0.toNat (i : Int)
def impl_creases.ups (t : List S40) : Nat → List Bool
  | 0 => List.replicate t.length false
  | i + 1 => (impl_creases.ups t i).set (rd_T40 t (i : Int)).f0.toNat (rd_T40 t (i : Int)).f1
theorem impl_creases.ats_len (t : List S40) : ∀ i, (impl_creases.ats t i).length = t.length
  | 0 => by simp [impl_creases.ats]
  | i + 1 => by simp [impl_creases.ats, impl_creases.ats_len t i]
theorem impl_creases.ups_len (t : List S40) : ∀ i, (impl_creases.ups t i).length = t.length
  | 0 => by simp [impl_creases.ups]
  | i + 1 => by simp [impl_creases.ups, impl_creases.ups_len t i]
def impl_creases.okT (t : List S40) : Bool := (List.range t.length).all (fun i => decide (0 ≤ (rd_T40 t (i : Int)).f0) && decide ((rd_T40 t (i : Int)).f0 < (t.length : Int)))
theorem impl_creases.okT_at {t : List S40} (h : impl_creases.okT t = true) (i : Int) (h0 : 0 ≤ i) (h1 : i < (t.length : Int)) : 0 ≤ (rd_T40 t i).f0 ∧ (rd_T40 t i).f0 < (t.length : Int) := by
  unfold impl_creases.okT at h
  rw [List.all_eq_true] at h
  have h2 := h i.toNat (List.mem_range.2 (by omega))
  rw [show ((i.toNat : Nat) : Int) = i by omega] at h2
  simpa using h2
def impl_creases.mk (a : List Int) (u : List Bool) (j : Int) : Int := if (decide (rdOf 0 a j < rdOf 0 a (j + 1)) == rdOf false u j) = true then 118 else 109
def impl_creases.out (a : List Int) (u : List Bool) (n : Nat) : List Int := (List.range n).map (fun (j : Nat) => impl_creases.mk a u (j : Int))
theorem impl_creases.out_succ (a : List Int) (u : List Bool) (n : Nat) : impl_creases.out a u (n + 1) = impl_creases.out a u n ++ [impl_creases.mk a u (n : Int)] := by simp [impl_creases.out, List.range_succ]
theorem impl_creases.out_len (a : List Int) (u : List Bool) (n : Nat) : (impl_creases.out a u n).length = n := by simp [impl_creases.out]
def impl_creases.g (t : List S40) : Option ByteArray := if (impl_creases.okT t && decide (1 ≤ t.length ∧ t.length ≤ 1048576)) = true then some (strOfNums (impl_creases.out (impl_creases.ats t t.length) (impl_creases.ups t t.length) (t.length - 1))) else none
def impl_creases.f (k : Nat) (a0 : ByteArray) : Option ByteArray := (impl_folded.f k a0).bind impl_creases.g
theorem impl_creases.mono : ∀ a0 k, LeO (impl_creases.f k a0) (impl_creases.f (k + 1) a0) := fun a0 k => LeO.bind (impl_folded.mono _ _) (fun _ => LeO.refl _)
theorem impl_creases.mkrun {P : Program} {t e : TypeId} (ht : P.underlying t = some (.slice e)) (z : Value) (bytes : Nat) (hinfo : (P.info? e).map (fun i => (i.zero, i.size, i.bytes)) = some (some z, 1, bytes)) (hb : bytes ≤ 8) (m : Nat) (hm : m ≤ 1048576) (W : World) :
    (Instr.makeSlice t (.int .i64 (m : Int)) (.int .i64 (m : Int))).run P W = .ok (.slice (some ⟨W.heap.size, 0, none⟩) m m) (W.alloc (.cells (madeCells z.cells (m * 1)) e)) := by
  obtain ⟨i0, hi, hzz⟩ := Option.map_eq_some_iff.1 hinfo
  simp only [Prod.mk.injEq] at hzz
  obtain ⟨hz0, hz1, hz2⟩ := hzz
  have h3 : i0.bytes * m ≤ 8 * 1048576 := Nat.mul_le_mul (by omega) hm
  have hr := run_make (P := P) W t e i0 z ht hi hz0 .i64 .i64 (m : Int) (m : Int) (by omega) (by omega) (by rw [← Int.natCast_mul]; omega) (by omega)
  simp only [Int.toNat_natCast] at hr
  rw [hz1] at hr
  exact hr
theorem impl_creases.mkR {α : Type} (enc : α → Value) {h1 : ∀ x : α, (enc x).oneCell' = true} (e : Nat) (z0 : α) (m : Nat) (W : World) (base : Nat) (hb : base ≤ W.heap.size) (hm : m ≤ 1048576) (hz : (enc z0).cells = #[enc z0]) :
    (Kd.scalar enc h1).R e (W.alloc (.cells (madeCells (enc z0).cells (m * 1)) e)) base (fun _ => True) (.slice (some ⟨W.heap.size, 0, none⟩) m m) (List.replicate m z0) := by
  refine ⟨fun _ _ => trivial, (madeCells (enc z0).cells (m * 1)).toList, ?_, Kd.reps_made (by rw [hz]; rfl) (by show 0 < 1; decide) (by rw [hz]; rfl) m⟩
  have h2 := World.ownsRow_lit (base := base) (e := e) (size := 1) W (madeCells (enc z0).cells (m * 1)) (List.replicate m z0).length hb (by simp [maxLen]; omega) (by simp [size_madeCells])
  rw [List.length_replicate] at h2
  show World.ownsRow _ _ _ 1 _ _ _
  simpa using h2
theorem impl_creases.inf3 : (Tryz.prog.info? 3).map (fun i => (i.zero, i.size, i.bytes)) = some (some (.int .i64 0), 1, 8) := by kernel_rfl
theorem impl_creases.inf4 : (Tryz.prog.info? 4).map (fun i => (i.zero, i.size, i.bytes)) = some (some (.bool false), 1, 1) := by kernel_rfl
theorem impl_creases.inf5 : (Tryz.prog.info? 5).map (fun i => (i.zero, i.size, i.bytes)) = some (some (.int .u8 0), 1, 1) := by kernel_rfl
set_option maxHeartbeats 16000000 in
set_option maxRecDepth 100000 in
theorem impl_creases.calls (k : Nat) (a0 : ByteArray) (r : ByteArray) (w : World) (h : impl_creases.f k a0 = some r) :
    Calls Tryz.prog 19 #[.string a0] w fun e w' => e = .returned (.string r) ∧ Below w.heap.size w w' := by
  have HB := Aside0.mk (Below.refl w.heap.size w)
  unfold impl_creases.f at h
  rw [Option.bind_eq_some_iff] at h
  obtain ⟨t, ht, h⟩ := h
  unfold impl_creases.g at h
  by_cases hok : (impl_creases.okT t && decide (1 ≤ t.length ∧ t.length ≤ 1048576)) = true
  case neg => rw [if_neg hok] at h; cases h
  rw [if_pos hok] at h
  obtain rfl := Option.some.inj h
  rw [Bool.and_eq_true, decide_eq_true_eq] at hok
  have HT := Aside0.mk ht
  have HOK := Aside0.mk hok.1
  have HN := Aside0.mk hok.2
  clear ht hok h
  go_enter Tryz.func19, Tryz.ntmps19
  go_upto_region 2 with (first | ((with_reducible refine gate_callee (f := 18) rfl ?_); refine goesL_ (some 11) rfl rfl Tryz.func18 (by kernel_rfl) rfl #[.string a0] rfl (by (try simp only [List.map_toArray, List.map_cons, List.map_nil]); first | done | rfl) ?_; (with_reducible refine (impl_folded.calls k a0 t _ HT.out).mono ?_); rintro e w8 ⟨v153, rfl, ho0, hb⟩; refine ⟨_, rfl, ?_⟩; have nHB := Aside0.mk (below_step (by repeat (first | (with_reducible first | exact HB.out | apply below_alloc | apply pw_below_drewN | apply below_drew1) | exact HB.out)) hb); have nHL := Aside0.mk (Kd.R_lower ho0 (below_size (by repeat (first | (with_reducible first | exact HB.out | apply below_alloc | apply pw_below_drewN | apply below_drew1) | exact HB.out)))); clear HB; have HB := nHB; have HL := nHL; clear nHB nHL; clear hb ho0; obtain ⟨Al, cl, el⟩ := Kd.R_slice HL.out; subst el))
  go_cut [4, 5] (fun s4 s5 wx => Aside0 (Kd.R (Kd.int .i64) 3 wx w.heap.size (fun _ => True) s4 (List.replicate t.length 0)) ∧ Aside0 (Kd.R Kd.bool 4 wx w.heap.size (fun _ => True) s5 (List.replicate t.length false)) ∧ Aside0 (Kd.R k40 40 wx w.heap.size (fun _ => True) (.slice Al t.length cl) t) ∧ Aside0 (Below w.heap.size w wx))
  case first =>
    obtain ⟨CA, hCA⟩ : ∃ c, c = madeCells (Value.int .i64 0).cells (t.length * 1) := ⟨_, rfl⟩
    obtain ⟨CU, hCU⟩ : ∃ c, c = madeCells (Value.bool false).cells (t.length * 1) := ⟨_, rfl⟩
    have hmA := impl_creases.mkrun (t := 24) Tryz.underlying24 (.int .i64 0) 8 impl_creases.inf3 (by decide) t.length HN.out.2
    have hmU := impl_creases.mkrun (t := 48) Tryz.underlying48 (.bool false) 1 impl_creases.inf4 (by decide) t.length HN.out.2
    rw [← hCA] at hmA
    rw [← hCU] at hmU
    have NA := Aside0.mk hCA
    have NU := Aside0.mk hCU
    clear hCA hCU
    go_region
    all_goals (go_wp2_with fail; go_meet; exact ⟨⟨(by rw [NA.out]; have hs_ : w.heap.size ≤ w8.heap.size := (below_size HB.out); have hz_ : (w8.alloc (.cells CU 4)).heap.size = w8.heap.size + 1 := (by simp); apply Kd.R_drew; first | (exact Kd.R_alloc (impl_creases.mkR (h1 := fun _ => rfl) (Value.int .i64) 3 (0 : Int) t.length w8 w.heap.size hs_ HN.out.2 rfl) _) | (have h_ := impl_creases.mkR (h1 := fun _ => rfl) (Value.int .i64) 3 (0 : Int) t.length (w8.alloc (.cells CU 4)) w.heap.size (by rw [hz_]; omega) HN.out.2 rfl; rw [hz_] at h_; exact h_))⟩, ⟨(by rw [NU.out]; have hs_ : w.heap.size ≤ w8.heap.size := (below_size HB.out); have hz_ : (w8.alloc (.cells CA 3)).heap.size = w8.heap.size + 1 := (by simp); apply Kd.R_drew; first | (exact Kd.R_alloc (impl_creases.mkR (h1 := fun _ => rfl) Value.bool 4 false t.length w8 w.heap.size hs_ HN.out.2 rfl) _) | (have h_ := impl_creases.mkR (h1 := fun _ => rfl) Value.bool 4 false t.length (w8.alloc (.cells CA 3)) w.heap.size (by rw [hz_]; omega) HN.out.2 rfl; rw [hz_] at h_; exact h_))⟩, ⟨(by (with_reducible repeat (first | apply Kd.R_alloc | apply Kd.R_drewN | apply Kd.R_drew)); exact HL.out)⟩, ⟨(by repeat (first | (with_reducible first | exact HB.out | apply below_alloc | apply pw_below_drewN | apply below_drew1) | exact HB.out))⟩⟩)
  case rest =>
    clear HL HB
    obtain ⟨HA, HU, HL, HB⟩ := hcut
    obtain ⟨gA, cA, eA, hgA, _, _⟩ := Kd.R_form HA.out (by rw [List.length_replicate]; exact HN.out.1)
    obtain ⟨gU, cU, eU, hgU, _, _⟩ := Kd.R_form HU.out (by rw [List.length_replicate]; exact HN.out.1)
    rw [List.length_replicate] at eA eU
    subst eA
    subst eU
    have HGA := Aside0.mk hgA
    have HGU := Aside0.mk hgU
    clear hgA hgU
    go_wp2_with fail
    go_loopg [20] t.length (fun kq v20 w' => ∃ (i : Int), v20 = .int .i64 i ∧ Aside0 (0 ≤ i ∧ i + kq = (t.length : Int)) ∧ Aside0 (Kd.R k40 40 w' w.heap.size (fun _ => True) (.slice Al t.length cl) t) ∧ Aside0 (Kd.R (Kd.int .i64) 3 w' w.heap.size (fun _ => True) (.slice (some ⟨gA, 0, none⟩) t.length cA) (impl_creases.ats t i.toNat)) ∧ Aside0 (Kd.R Kd.bool 4 w' w.heap.size (fun _ => True) (.slice (some ⟨gU, 0, none⟩) t.length cU) (impl_creases.ups t i.toNat)) ∧ Aside0 (Below w.heap.size w w'))
    case atStart => exact ⟨0, (by first | rfl | (simp; done) | (simp [*]; done)), ⟨by omega⟩, HL, ⟨HA.out⟩, ⟨HU.out⟩, HB⟩
    case round =>
      clear HL HA HU HB
      obtain ⟨i, rfl, HI, HL, HA, HU, HB⟩ := hrel
      by_cases c5 : i < (t.length : Int)
      · have c5b : decide (i < (t.length : Int)) = true := decide_eq_true c5
        have HI5 := Aside0.mk c5
        have p5 : 0 ≤ i := HI.out.1
        obtain ⟨hu0, hu1⟩ := impl_creases.okT_at HOK.out i p5 c5
        obtain ⟨ad, ead, hx0, hx1⟩ := at_T40 (Kd.R_reads' HL.out).2.2 i p5 c5
        cases ead
        obtain ⟨u, hu⟩ : ∃ u, u = (rd_T40 t i).f0 := ⟨_, rfl⟩
        obtain ⟨b, hb⟩ : ∃ b, b = (rd_T40 t i).f1 := ⟨_, rfl⟩
        rw [← hu] at hu0 hu1 hx0
        rw [← hb] at hx1
        have EU := Aside0.mk hu
        have EB := Aside0.mk hb
        have HU0 := Aside0.mk hu0
        have HU1 := Aside0.mk hu1
        clear hu hb hu0 hu1
        replace p5 := eq_true p5
        replace c5 := eq_true c5
        go_wp2_with (first | ((with_reducible refine gate_dst (N := 7) rfl ?_); refine box_event ?hg (N := 7) ?hd (cs := #[.int .i64 0, .bool false]) (t := 40) ?hr ?_; (case hd => rfl); (case hg => rfl); (case hr => first | (go_simp; done) | (go_simp; rfl)); intro gb hg w16 hbox hb; have nHL := Aside0.mk (Kd.R_below (Kd.R_elderB (by (with_reducible repeat (first | apply Kd.R_alloc | apply Kd.R_drewN | apply Kd.R_drew)); exact HL.out) gb (Nat.le_of_eq hg.symm)) hb); have nHA := Aside0.mk (Kd.R_below (by (with_reducible repeat (first | apply Kd.R_alloc | apply Kd.R_drewN | apply Kd.R_drew)); exact HA.out) hb); have nHU := Aside0.mk (Kd.R_below (by (with_reducible repeat (first | apply Kd.R_alloc | apply Kd.R_drewN | apply Kd.R_drew)); exact HU.out) hb); have nHB := Aside0.mk (below_step (by repeat (first | (with_reducible first | exact HB.out | apply below_alloc | apply pw_below_drewN | apply below_drew1) | exact HB.out)) hb); have nBK := Aside0.mk (hbox); have nGW := Aside0.mk ((by rw [hg]; exact (below_size (by repeat (first | (with_reducible first | exact HB.out | apply below_alloc | apply pw_below_drewN | apply below_drew1) | exact HB.out))) : w.heap.size ≤ gb)); clear HL HA HU HB; have HL := nHL; have HA := nHA; have HU := nHU; have HB := nHB; have BK := nBK; have GW := nGW; clear nHL nHA nHU nHB nBK nGW; clear hb hbox hg; have hcz0 : w16.cell? ⟨gb, 0, none⟩ = some (.int .i64 0) := (blk_cell BK.out 0).trans rfl; have hcz1 : w16.cell? ⟨gb, 1, none⟩ = some (.bool false) := (blk_cell BK.out 1).trans rfl; have hfz0 := blk_frozen BK.out 0; have hfz1 := blk_frozen BK.out 1))
        obtain ⟨W, hW⟩ : ∃ W, W = ((w16.setCell ⟨gb, 0, none⟩ (.int .i64 u)).setCell ⟨gb, 1, none⟩ (.bool b)) := ⟨_, rfl⟩
        rw [← hW]
        have HL2 : Aside0 (Kd.R k40 40 W w.heap.size (fun _ => True) (.slice (some ad) t.length cl) t) := ⟨by rw [hW]; exact Kd.R_mono (Kd.R_far (p := ⟨gb, 1, none⟩) (Kd.R_far (p := ⟨gb, 0, none⟩) (Kd.R_mono HL.out (fun k_ hk => (⟨hk, hk.2⟩ : _ ∧ k_ ≠ gb))) (fun _ hk => hk.2) (.int .i64 u)) (fun _ hk => hk.2) (.bool b)) (fun _ _ => trivial)⟩
        have HA2 : Aside0 (Kd.R (Kd.int .i64) 3 W w.heap.size (fun _ => True) (.slice (some ⟨gA, 0, none⟩) t.length cA) (impl_creases.ats t i.toNat)) := ⟨by rw [hW]; exact Kd.R_mono (Kd.R_far (p := ⟨gb, 1, none⟩) (Kd.R_far (p := ⟨gb, 0, none⟩) (Kd.R_types HA.out BK.out (by decide)) (fun _ hk => hk.2) (.int .i64 u)) (fun _ hk => hk.2) (.bool b)) (fun _ _ => trivial)⟩
        have HU2 : Aside0 (Kd.R Kd.bool 4 W w.heap.size (fun _ => True) (.slice (some ⟨gU, 0, none⟩) t.length cU) (impl_creases.ups t i.toNat)) := ⟨by rw [hW]; exact Kd.R_mono (Kd.R_far (p := ⟨gb, 1, none⟩) (Kd.R_far (p := ⟨gb, 0, none⟩) (Kd.R_types HU.out BK.out (by decide)) (fun _ hk => hk.2) (.int .i64 u)) (fun _ hk => hk.2) (.bool b)) (fun _ _ => trivial)⟩
        have HB2 : Aside0 (Below w.heap.size w W) := ⟨by rw [hW]; exact below_set (below_set HB.out GW.out) GW.out⟩
        have BW : Aside0 (W.heap[gb]? = some (.cells #[.int .i64 u, .bool b] 40 (0, 0))) := ⟨by rw [hW]; exact blk_put (blk_put BK.out 0 _ rfl) 1 _ rfl⟩
        clear hW HL HA HU HB BK hcz0 hcz1 hfz0 hfz1 hx0 hx1
        obtain ⟨hA0, hAf⟩ := Kd.R_celln 0 HA2.out u HU0.out HU1.out
        obtain ⟨hU0, hUf⟩ := Kd.R_celln false HU2.out u HU0.out HU1.out
        obtain ⟨hPA, hgA⟩ := Kd.R_putg HA2.out u i
        have hU3 := Kd.R_over' (v := (.slice (some ⟨gA, 0, none⟩) t.length cA)) HU2.out (Kd.R_typed HA2.out) (by decide) hgA
        have HL3 := Aside0.mk (Kd.R_over' (v := (.slice (some ⟨gA, 0, none⟩) t.length cA)) HL2.out (Kd.R_typed HA2.out) (by decide) hgA)
        have hB3 : Below w.heap.size w (W.setCell ⟨gA, u.toNat, none⟩ (.int .i64 i)) := below_set HB2.out HGA.out
        have hbk3 := blk_grown BW.out hgA (Kd.R_ne HA2.out BW.out (by decide))
        obtain ⟨hU0', hUf'⟩ := Kd.R_celln false hU3 u HU0.out HU1.out
        obtain ⟨hPU, hgU⟩ := Kd.R_putg hU3 u b
        have HPA := Aside0.mk (Kd.R_over' (v := (.slice (some ⟨gU, 0, none⟩) t.length cU)) hPA (Kd.R_typed hU3) (by decide) hgU)
        have HL4 := Aside0.mk (Kd.R_over' (v := (.slice (some ⟨gU, 0, none⟩) t.length cU)) HL3.out (Kd.R_typed hU3) (by decide) hgU)
        have HPU := Aside0.mk hPU
        have HB4 : Aside0 (Below w.heap.size w ((W.setCell ⟨gA, u.toNat, none⟩ (.int .i64 i)).setCell ⟨gU, u.toNat, none⟩ (.bool b))) := ⟨below_set hB3 HGU.out⟩
        have hb0 : W.cell? ⟨gb, 0, none⟩ = some (.int .i64 u) := (blk_cell BW.out 0).trans rfl
        have hb1 : W.cell? ⟨gb, 1, none⟩ = some (.bool b) := (blk_cell BW.out 1).trans rfl
        have hb0' : (W.setCell ⟨gA, u.toNat, none⟩ (.int .i64 i)).cell? ⟨gb, 0, none⟩ = some (.int .i64 u) := (blk_cell hbk3 0).trans rfl
        have hb1' : (W.setCell ⟨gA, u.toNat, none⟩ (.int .i64 i)).cell? ⟨gb, 1, none⟩ = some (.bool b) := (blk_cell hbk3 1).trans rfl
        have q0 := eq_true HU0.out
        have q1 := eq_true HU1.out
        clear hPA hgA hU3 HL3 hB3 hbk3 hPU hgU HA2 HU2 HL2 HB2 BW
        go_region
        go_wp2_with fail
        go_roundg (t.length - (i.toNat + 1))
        case measure => have := HI.out; have := HI5.out; omega
        case rel => exact ⟨i + 1, (by have := HI.out; have := HI5.out; have := HN.out; rw [show wrap64 (i + 1) = i + 1 by unfold wrap64; omega]), ⟨by have := HI.out; have := HI5.out; omega⟩, ⟨(by (with_reducible repeat (first | apply Kd.R_alloc | apply Kd.R_drewN | apply Kd.R_drew)); exact HL4.out)⟩, ⟨by
          rw [show (i + 1).toNat = i.toNat + 1 by have := HI.out; omega, impl_creases.ats, show ((i.toNat : Nat) : Int) = i by have := HI.out; omega, ← EU.out]; exact (by (with_reducible repeat (first | apply Kd.R_alloc | apply Kd.R_drewN | apply Kd.R_drew)); exact HPA.out)⟩, ⟨by
          rw [show (i + 1).toNat = i.toNat + 1 by have := HI.out; omega, impl_creases.ups, show ((i.toNat : Nat) : Int) = i by have := HI.out; omega, ← EU.out, ← EB.out]; exact (by (with_reducible repeat (first | apply Kd.R_alloc | apply Kd.R_drewN | apply Kd.R_drew)); exact HPU.out)⟩, ⟨by repeat (first | exact HB4.out | apply pw_below_drewN | apply below_drew1)⟩⟩
      · have c5b : decide (i < (t.length : Int)) = false := decide_eq_false c5
        have hie : i = (t.length : Int) := by have := HI.out; omega
        rw [hie, Int.toNat_natCast] at HA HU
        clear hie c5 HI
        obtain ⟨A, hA⟩ : ∃ A, A = impl_creases.ats t t.length := ⟨_, rfl⟩
        obtain ⟨U, hU⟩ : ∃ U, U = impl_creases.ups t t.length := ⟨_, rfl⟩
        have hAl : A.length = t.length := by rw [hA, impl_creases.ats_len]
        have hUl : U.length = t.length := by rw [hU, impl_creases.ups_len]
        rw [← hA] at HA
        rw [← hU] at HU
        have EA := Aside0.mk hA
        have EU := Aside0.mk hU
        have LA := Aside0.mk hAl
        have LU := Aside0.mk hUl
        clear hA hU hAl hUl
        obtain ⟨m, hm⟩ : ∃ m : Int, (wrap64 ((t.length : Int) - 1)) = m := ⟨_, rfl⟩
        have hmw : (IntKind.i64.wrap ((t.length : Int) - 1)) = m := (i64_w _).trans hm
        have HM := Aside0.mk (show m = (t.length : Int) - 1 ∧ 0 ≤ m by have := HN.out; rw [← hm]; unfold wrap64; omega)
        clear HL
        go_wp2_with (first | ((with_reducible refine gate_dst (N := 37) rfl ?_); refine Kd.R_lit (Kd.int .u8) _ 5 ?hg (N := 37) ?hd (xs := ([] : List Int)) (inner := []) (ok := fun _ => True) (okp := fun _ => True) ?hr ?hp (fun _ hk => hk) trivial (Below.refl _ _) (Nat.le_refl _) (by simp) ?_; (case hd => rfl); (case hg => rfl); (case hr => first | (go_simp; done) | (go_simp; rfl)); (case hp => exact (Reps.none _ _)); intro vo wo ho hb _ _; have nHA := Aside0.mk (Kd.R_below (by (with_reducible repeat (first | apply Kd.R_alloc | apply Kd.R_drewN | apply Kd.R_drew)); exact HA.out) hb); have nHU := Aside0.mk (Kd.R_below (by (with_reducible repeat (first | apply Kd.R_alloc | apply Kd.R_drewN | apply Kd.R_drew)); exact HU.out) hb); have nHB := Aside0.mk (below_step (by repeat (first | (with_reducible first | exact HB.out | apply below_alloc | apply pw_below_drewN | apply below_drew1) | exact HB.out)) hb); have nHO := Aside0.mk (Kd.R_lower ho (below_size (by repeat (first | (with_reducible first | exact HB.out | apply below_alloc | apply pw_below_drewN | apply below_drew1) | exact HB.out)))); clear HA HU HB; have HA := nHA; have HU := nHU; have HB := nHB; have HO := nHO; clear nHA nHU nHB nHO; clear hb ho))
        go_loopg [8, 41] (t.length - 1) (fun kq v8 v41 w' => ∃ (j : Int), v41 = .int .i64 j ∧ Aside0 (0 ≤ j ∧ j + kq = m) ∧ Aside0 (Kd.R (Kd.int .i64) 3 w' w.heap.size (fun _ => True) (.slice (some ⟨gA, 0, none⟩) t.length cA) A) ∧ Aside0 (Kd.R Kd.bool 4 w' w.heap.size (fun _ => True) (.slice (some ⟨gU, 0, none⟩) t.length cU) U) ∧ Aside0 (Kd.R (Kd.int .u8) 5 w' w.heap.size (fun _ => True) v8 (impl_creases.out A U j.toNat)) ∧ Aside0 (Below w.heap.size w w'))
        case atStart => exact ⟨0, (by first | rfl | (simp; done) | (simp [*]; done)), ⟨by have := HM.out; omega⟩, HA, HU, ⟨by exact HO.out⟩, HB⟩
        case round =>
          clear HA HU HO HB
          obtain ⟨j, rfl, HJ, HA, HU, HO, HB⟩ := hrel
          obtain ⟨ol, hol⟩ : ∃ ol, ol = impl_creases.out A U j.toNat := ⟨_, rfl⟩
          rw [← hol] at HO
          have EO := Aside0.mk hol
          clear hol
          by_cases c6 : j < m
          · have c6b : decide (j < m) = true := decide_eq_true c6
            have HJ6 := Aside0.mk c6
            have p6 : 0 ≤ j := HJ.out.1
            have q6 : j < (t.length : Int) := by have := HM.out; omega
            obtain ⟨j1, hj1⟩ : ∃ j1 : Int, (wrap64 (j + 1)) = j1 := ⟨_, rfl⟩
            have hj1w : (IntKind.i64.wrap (j + 1)) = j1 := (i64_w _).trans hj1
            have HJ1 := Aside0.mk (show j1 = j + 1 by have := HN.out; rw [← hj1]; unfold wrap64; omega)
            have p7 : 0 ≤ j1 := by have := HJ1.out; omega
            have q7 : j1 < (t.length : Int) := by have := HJ1.out; have := HM.out; omega
            obtain ⟨hx0, _⟩ := Kd.R_celln 0 HA.out j p6 q6
            obtain ⟨hx1, _⟩ := Kd.R_celln 0 HA.out j1 p7 q7
            obtain ⟨hx2, _⟩ := Kd.R_celln false HU.out j p6 q6
            obtain ⟨xa, hxa⟩ : ∃ x, x = rdOf 0 A j := ⟨_, rfl⟩
            obtain ⟨xb, hxb⟩ : ∃ x, x = rdOf 0 A j1 := ⟨_, rfl⟩
            obtain ⟨ub, hub⟩ : ∃ x, x = rdOf false U j := ⟨_, rfl⟩
            rw [← hxa] at hx0
            rw [← hxb] at hx1
            rw [← hub] at hx2
            have XA := Aside0.mk hxa
            have XB := Aside0.mk hxb
            have XU := Aside0.mk hub
            clear hxa hxb hub c6
            replace p6 := eq_true p6
            replace q6 := eq_true q6
            replace p7 := eq_true p7
            replace q7 := eq_true q7
            cases hd : (decide (xa < xb) == ub) with
            | true =>
              have HMK := Aside0.mk (show impl_creases.mk A U j = 118 by unfold impl_creases.mk; rw [← HJ1.out, ← XA.out, ← XB.out, ← XU.out, hd]; rfl)
              go_wp2_with fail
              go_quiet (fail)
              go_wp2_with (first | ((with_reducible refine gate_builtin (b := .append) (xs := #[.tmp 59, .tmp 60]) rfl ?_); at_builtin; refine Kd.R_append (Kd.int .u8) (w0 := w) w.heap.size rfl (.tmp 59) (.tmp 60) 22 5 (.int .u8 0) 1 rfl Tryz.underlying22 impl_creases.inf5 rfl (by decide) (by omega) u8 ol 118 [.int .u8 118] (fun _ => True) (fun _ => False) rfl (by first | (go_simp; done) | (go_simp; rfl)) ?aP (fun _ hk => hk.elim) ?aF ?aO ?aB ?aS ?aL ?_; (case aP => exact rfl); (case aB => exact (by repeat (first | (with_reducible first | exact HB.out | apply below_alloc | apply pw_below_drewN | apply below_drew1) | exact HB.out))); (case aF => exact (fun _ _ => trivial)); (case aO => exact (by (with_reducible repeat (first | apply Kd.R_alloc | apply Kd.R_drewN | apply Kd.R_drew)); exact HO.out)); (case aS => exact (below_size (by repeat (first | (with_reducible first | exact HB.out | apply below_alloc | apply pw_below_drewN | apply below_drew1) | exact HB.out)))); (case aL => have h1_ := EO.out; have h2_ := HJ6.out; have h3_ := HM.out; have h4_ := HN.out; have h5_ := HJ.out; have h6_ : ol.length = j.toNat := (by rw [h1_, impl_creases.out_len]); omega); intro v1 w18 ho hb hg hat; have nHA := Aside0.mk (Kd.R_over' (by (with_reducible repeat (first | apply Kd.R_alloc | apply Kd.R_drewN | apply Kd.R_drew)); exact HA.out) (Kd.R_typed (by (with_reducible repeat (first | apply Kd.R_alloc | apply Kd.R_drewN | apply Kd.R_drew)); exact HO.out)) (by decide) hg); have nHU := Aside0.mk (Kd.R_over' (by (with_reducible repeat (first | apply Kd.R_alloc | apply Kd.R_drewN | apply Kd.R_drew)); exact HU.out) (Kd.R_typed (by (with_reducible repeat (first | apply Kd.R_alloc | apply Kd.R_drewN | apply Kd.R_drew)); exact HO.out)) (by decide) hg); have nHO := Aside0.mk (ho); have nHB := Aside0.mk (hb); clear HA HU HO HB; have HA := nHA; have HU := nHU; have HO := nHO; have HB := nHB; clear nHA nHU nHO nHB; clear ho hb hg hat))
              go_roundg (t.length - 1 - (j.toNat + 1))
              case measure => have := HJ.out; have := HJ6.out; have := HM.out; omega
              case rel => exact ⟨j1, rfl, ⟨by have := HJ.out; have := HJ6.out; have := HM.out; have := HJ1.out; omega⟩, HA, HU, ⟨by
                have e : impl_creases.out A U j1.toNat = ol ++ [118] := by
                  rw [HJ1.out, show (j + 1).toNat = j.toNat + 1 by have := HJ.out; omega, impl_creases.out_succ, ← EO.out, show ((j.toNat : Nat) : Int) = j by have := HJ.out; omega, HMK.out]
                rw [e]; exact HO.out⟩, HB⟩
            | false =>
              have HMK := Aside0.mk (show impl_creases.mk A U j = 109 by unfold impl_creases.mk; rw [← HJ1.out, ← XA.out, ← XB.out, ← XU.out, hd]; rfl)
              go_wp2_with fail
              go_quiet (fail)
              go_wp2_with (first | ((with_reducible refine gate_builtin (b := .append) (xs := #[.tmp 62, .tmp 63]) rfl ?_); at_builtin; refine Kd.R_append (Kd.int .u8) (w0 := w) w.heap.size rfl (.tmp 62) (.tmp 63) 22 5 (.int .u8 0) 1 rfl Tryz.underlying22 impl_creases.inf5 rfl (by decide) (by omega) u8 ol 109 [.int .u8 109] (fun _ => True) (fun _ => False) rfl (by first | (go_simp; done) | (go_simp; rfl)) ?aP (fun _ hk => hk.elim) ?aF ?aO ?aB ?aS ?aL ?_; (case aP => exact rfl); (case aB => exact (by repeat (first | (with_reducible first | exact HB.out | apply below_alloc | apply pw_below_drewN | apply below_drew1) | exact HB.out))); (case aF => exact (fun _ _ => trivial)); (case aO => exact (by (with_reducible repeat (first | apply Kd.R_alloc | apply Kd.R_drewN | apply Kd.R_drew)); exact HO.out)); (case aS => exact (below_size (by repeat (first | (with_reducible first | exact HB.out | apply below_alloc | apply pw_below_drewN | apply below_drew1) | exact HB.out)))); (case aL => have h1_ := EO.out; have h2_ := HJ6.out; have h3_ := HM.out; have h4_ := HN.out; have h5_ := HJ.out; have h6_ : ol.length = j.toNat := (by rw [h1_, impl_creases.out_len]); omega); intro v1 w18 ho hb hg hat; have nHA := Aside0.mk (Kd.R_over' (by (with_reducible repeat (first | apply Kd.R_alloc | apply Kd.R_drewN | apply Kd.R_drew)); exact HA.out) (Kd.R_typed (by (with_reducible repeat (first | apply Kd.R_alloc | apply Kd.R_drewN | apply Kd.R_drew)); exact HO.out)) (by decide) hg); have nHU := Aside0.mk (Kd.R_over' (by (with_reducible repeat (first | apply Kd.R_alloc | apply Kd.R_drewN | apply Kd.R_drew)); exact HU.out) (Kd.R_typed (by (with_reducible repeat (first | apply Kd.R_alloc | apply Kd.R_drewN | apply Kd.R_drew)); exact HO.out)) (by decide) hg); have nHO := Aside0.mk (ho); have nHB := Aside0.mk (hb); clear HA HU HO HB; have HA := nHA; have HU := nHU; have HO := nHO; have HB := nHB; clear nHA nHU nHO nHB; clear ho hb hg hat))
              go_roundg (t.length - 1 - (j.toNat + 1))
              case measure => have := HJ.out; have := HJ6.out; have := HM.out; omega
              case rel => exact ⟨j1, rfl, ⟨by have := HJ.out; have := HJ6.out; have := HM.out; have := HJ1.out; omega⟩, HA, HU, ⟨by
                have e : impl_creases.out A U j1.toNat = ol ++ [109] := by
                  rw [HJ1.out, show (j + 1).toNat = j.toNat + 1 by have := HJ.out; omega, impl_creases.out_succ, ← EO.out, show ((j.toNat : Nat) : Int) = j by have := HJ.out; omega, HMK.out]
                rw [e]; exact HO.out⟩, HB⟩
          · have c6b : decide (j < m) = false := decide_eq_false c6
            have hje : j.toNat = t.length - 1 := by have := HJ.out; have := HM.out; omega
            have EO2 := Aside0.mk (show ol = impl_creases.out (impl_creases.ats t t.length) (impl_creases.ups t t.length) (t.length - 1) by rw [EO.out, hje, EA.out, EU.out])
            clear hje c6
            have hcv := own_string (P := Tryz.prog) Tryz.underlying22 Tryz.underlying5 Tryz.underlying9 (Kd.own_of_R HO.out)
            rw [EO2.out] at hcv
            go_wp2
            go_ret
            exact ⟨rfl, by repeat (first | exact HB.out | apply pw_below_drewN | apply below_drew1)⟩

/-! ### impl_CreasesOf: function 6 -/
def impl_CreasesOf.f (k : Nat) (a0 : ByteArray) : Option (ByteArray) := (impl_FoldWordOk.f a0).bind fun t178 => (if t178 = true then ((impl_creases.f k a0).bind fun t179 => (some t179)) else (some (⟨#[]⟩ : ByteArray)))
theorem impl_CreasesOf.mono : ∀ a0 k, LeO (impl_CreasesOf.f k a0) (impl_CreasesOf.f (k + 1) a0) := by
  intro a0 k
  unfold impl_CreasesOf.f
  repeat' first
      | (with_reducible exact impl_creases.mono _ _)
      | (with_reducible exact LeO.refl _)
      | (with_reducible exact LeO.none _)
      | (with_reducible refine LeO.ite ?_ ?_)
      | (with_reducible refine LeO.bind ?_ (fun _ => ?_))
      | exact impl_creases.mono _ _
      | exact LeO.none _
      | refine LeO.ite ?_ ?_
      | refine LeO.bind ?_ (fun _ => ?_)
set_option maxHeartbeats 8000000 in
set_option maxRecDepth 100000 in
theorem impl_CreasesOf.calls (k : Nat) (a0 : ByteArray) (r : ByteArray) (w : World) (h : impl_CreasesOf.f k a0 = some r) :
    Calls Tryz.prog 6 #[.string a0] w fun e w' => e = .returned (.string r) ∧ Below w.heap.size w w' := by
  have HB := Aside0.mk (Below.refl w.heap.size w)
  have H : ((impl_FoldWordOk.f a0).bind fun t178 => (if t178 = true then ((impl_creases.f k a0).bind fun t179 => (some t179)) else (some (⟨#[]⟩ : ByteArray)))) = some r := h
  clear h
  replace H := Option.bind_eq_some_iff.mp H
  obtain ⟨t178, A20, H⟩ := H
  replace H : (if t178 = true then ((impl_creases.f k a0).bind fun t179 => (some t179)) else (some (⟨#[]⟩ : ByteArray))) = some r := H
  have A2 := Aside0.mk A20
  clear A20
  by_cases c3 : t178 = true
  · subst c3
    have H1 : ((impl_creases.f k a0).bind fun t179 => (some t179)) = some r := by rw [if_pos rfl] at H; exact H
    clear H
    have H := H1
    clear H1
    replace H := Option.bind_eq_some_iff.mp H
    obtain ⟨t179, A40, H⟩ := H
    replace H : (some t179) = some r := H
    have A4 := Aside0.mk A40
    clear A40
    obtain rfl := Option.some.inj H
    go_enter Tryz.func6, Tryz.ntmps6
    go_wp2_with (first | ((with_reducible refine gate_callee (f := 9) rfl ?_); refine goesL_ (some 4) rfl rfl Tryz.func9 (by kernel_rfl) rfl #[.string a0] rfl (by (try simp only [List.map_toArray, List.map_cons, List.map_nil]); first | done | rfl | (simp only [List.length_drop, List.length_take]; rfl)) ?_; (with_reducible refine (impl_FoldWordOk.calls a0 true _ A2.out).mono ?_); rintro e w5 ⟨rfl, hb⟩; refine ⟨_, rfl, ?_⟩; have n0_ := Aside0.mk (below_step (by repeat (first | (with_reducible first | exact HB.out | apply below_alloc | apply pw_below_drewN | apply below_drew1) | exact HB.out)) hb); clear HB; have HB := n0_; clear n0_; (try clear hb); (try clear hb2); (try clear hk); (try clear hi)) | ((with_reducible refine gate_callee (f := 19) rfl ?_); refine goesL_ (some 7) rfl rfl Tryz.func19 (by kernel_rfl) rfl #[.string a0] rfl (by (try simp only [List.map_toArray, List.map_cons, List.map_nil]); first | done | rfl | (simp only [List.length_drop, List.length_take]; rfl)) ?_; (with_reducible refine (impl_creases.calls k a0 t179 _ A4.out).mono ?_); rintro e w6 ⟨rfl, hb⟩; refine ⟨_, rfl, ?_⟩; have n0_ := Aside0.mk (below_step (by repeat (first | (with_reducible first | exact HB.out | apply below_alloc | apply pw_below_drewN | apply below_drew1) | exact HB.out)) hb); clear HB; have HB := n0_; clear n0_; (try clear hb); (try clear hb2); (try clear hk); (try clear hi)))
    go_ret
    exact ⟨by first | rfl | (simp [errW_none, errW_some] <;> rfl) | (simp [*, errW_none, errW_some] <;> rfl), by repeat (first | (with_reducible first | exact HB.out | apply below_alloc | apply pw_below_drewN | apply below_drew1) | exact HB.out)⟩
  · replace c3 := Bool.eq_false_iff.mpr c3
    subst c3
    have H1 : (some (⟨#[]⟩ : ByteArray)) = some r := by rw [if_neg (show ¬ (false = true) by decide)] at H; exact H
    clear H
    have H := H1
    clear H1
    obtain rfl := Option.some.inj H
    go_enter Tryz.func6, Tryz.ntmps6
    go_wp2_with (first | ((with_reducible refine gate_callee (f := 9) rfl ?_); refine goesL_ (some 4) rfl rfl Tryz.func9 (by kernel_rfl) rfl #[.string a0] rfl (by (try simp only [List.map_toArray, List.map_cons, List.map_nil]); first | done | rfl | (simp only [List.length_drop, List.length_take]; rfl)) ?_; (with_reducible refine (impl_FoldWordOk.calls a0 false _ A2.out).mono ?_); rintro e w7 ⟨rfl, hb⟩; refine ⟨_, rfl, ?_⟩; have n0_ := Aside0.mk (below_step (by repeat (first | (with_reducible first | exact HB.out | apply below_alloc | apply pw_below_drewN | apply below_drew1) | exact HB.out)) hb); clear HB; have HB := n0_; clear n0_; (try clear hb); (try clear hb2); (try clear hk); (try clear hi)))
    go_ret
    exact ⟨by first | rfl | (simp [errW_none, errW_some] <;> rfl) | (simp [*, errW_none, errW_some] <;> rfl), by repeat (first | (with_reducible first | exact HB.out | apply below_alloc | apply pw_below_drewN | apply below_drew1) | exact HB.out)⟩

/-! ### impl_FacesOf: function 7 -/
def impl_FacesOf.l0 : Nat → List Int → List (S40) → Int → Int → Option (ByteArray)
  | 0, _, _, _, _ => none
  | k + 1, x3, x11, x12, x13 => if x13 < x12 then (if 0 ≤ x13 then (if x13 < (x11.length : Int) then (if (rd_T40 x11 x13).f1 = true then (if x3.length < 140737488355328 then (impl_FacesOf.l0 k (x3 ++ [117]) x11 x12 (wrap64 (x13 + 1))) else (none)) else (if x3.length < 140737488355328 then (impl_FacesOf.l0 k (x3 ++ [100]) x11 x12 (wrap64 (x13 + 1))) else (none))) else (none)) else (none)) else (some (strOfNums x3))
def impl_FacesOf.f (k : Nat) (a0 : ByteArray) : Option (ByteArray) := (impl_FoldWordOk.f a0).bind fun t180 => (if t180 = true then ((impl_folded.f k a0).bind fun t184 => (impl_FacesOf.l0 k (([] : List Int)) t184 (t184.length : Int) 0)) else (some (⟨#[]⟩ : ByteArray)))
theorem impl_FacesOf.mono_l : ∀ k, (∀ y0 y1 y2 y3, LeO (impl_FacesOf.l0 k y0 y1 y2 y3) (impl_FacesOf.l0 (k + 1) y0 y1 y2 y3))
  | 0 => fun _ _ _ _ r h => by simp [impl_FacesOf.l0] at h
  | k + 1 => by
    have ih0 := impl_FacesOf.mono_l k
    · intro y0 y1 y2 y3
      unfold impl_FacesOf.l0
      repeat' first
      | (with_reducible exact ih0 _ _ _ _)
      | (with_reducible exact impl_folded.mono _ _)
      | (with_reducible exact LeO.refl _)
      | (with_reducible exact LeO.none _)
      | (with_reducible refine LeO.ite ?_ ?_)
      | (with_reducible refine LeO.bind ?_ (fun _ => ?_))
      | exact ih0 _ _ _ _
      | exact impl_folded.mono _ _
      | exact LeO.none _
      | refine LeO.ite ?_ ?_
      | refine LeO.bind ?_ (fun _ => ?_)
theorem impl_FacesOf.mono : ∀ a0 k, LeO (impl_FacesOf.f k a0) (impl_FacesOf.f (k + 1) a0) := by
  intro a0 k
  have ih0 := impl_FacesOf.mono_l k
  unfold impl_FacesOf.f
  repeat' first
      | (with_reducible exact ih0 _ _ _ _)
      | (with_reducible exact impl_folded.mono _ _)
      | (with_reducible exact LeO.refl _)
      | (with_reducible exact LeO.none _)
      | (with_reducible refine LeO.ite ?_ ?_)
      | (with_reducible refine LeO.bind ?_ (fun _ => ?_))
      | exact ih0 _ _ _ _
      | exact impl_folded.mono _ _
      | exact LeO.none _
      | refine LeO.ite ?_ ?_
      | refine LeO.bind ?_ (fun _ => ?_)
set_option maxHeartbeats 8000000 in
set_option maxRecDepth 100000 in
theorem impl_FacesOf.calls (k : Nat) (a0 : ByteArray) (r : ByteArray) (w : World) (h : impl_FacesOf.f k a0 = some r) :
    Calls Tryz.prog 7 #[.string a0] w fun e w' => e = .returned (.string r) ∧ Below w.heap.size w w' := by
  have hu40 := Tryz.underlying40
  have HB := Aside0.mk (Below.refl w.heap.size w)
  have H : ((impl_FoldWordOk.f a0).bind fun t180 => (if t180 = true then ((impl_folded.f k a0).bind fun t184 => (impl_FacesOf.l0 k (([] : List Int)) t184 (t184.length : Int) 0)) else (some (⟨#[]⟩ : ByteArray)))) = some r := h
  clear h
  replace H := Option.bind_eq_some_iff.mp H
  obtain ⟨t180, A20, H⟩ := H
  replace H : (if t180 = true then ((impl_folded.f k a0).bind fun t184 => (impl_FacesOf.l0 k (([] : List Int)) t184 (t184.length : Int) 0)) else (some (⟨#[]⟩ : ByteArray))) = some r := H
  have A2 := Aside0.mk A20
  clear A20
  by_cases c3 : t180 = true
  · subst c3
    have H1 : ((impl_folded.f k a0).bind fun t184 => (impl_FacesOf.l0 k (([] : List Int)) t184 (t184.length : Int) 0)) = some r := by rw [if_pos rfl] at H; exact H
    clear H
    have H := H1
    clear H1
    obtain ⟨y181, hy181⟩ : ∃ y_ : List Int, y_ = (([] : List Int)) := ⟨_, rfl⟩
    replace H : ((impl_folded.f k a0).bind fun t184 => (impl_FacesOf.l0 k y181 t184 (t184.length : Int) 0)) = some r := by first | (rw [hy181]; with_reducible exact H) | (have H2_ := (Option.bind_some _ _).symm.trans H; rw [hy181]; with_reducible exact H2_) | (have H2_ := (Option.bind_some _ _).symm.trans H; with_reducible exact H2_) | with_reducible exact H | (rw [hy181]; exact H) | exact H
    have Ny181 := Aside0.mk hy181
    clear hy181
    replace H := Option.bind_eq_some_iff.mp H
    obtain ⟨t184, A40, H⟩ := H
    replace H : (impl_FacesOf.l0 k y181 t184 (t184.length : Int) 0) = some r := H
    have A4 := Aside0.mk A40
    clear A40
    have H' := Aside0.mk H
    clear H
    go_enter Tryz.func7, Tryz.ntmps7
    go_wp2_with (first | ((with_reducible refine gate_callee (f := 9) rfl ?_); refine goesL_ (some 7) rfl rfl Tryz.func9 (by kernel_rfl) rfl #[.string a0] rfl (by (try simp only [List.map_toArray, List.map_cons, List.map_nil]); first | done | rfl | (simp only [List.length_drop, List.length_take]; rfl)) ?_; (with_reducible refine (impl_FoldWordOk.calls a0 true _ A2.out).mono ?_); rintro e w5 ⟨rfl, hb⟩; refine ⟨_, rfl, ?_⟩; have n0_ := Aside0.mk (below_step (by repeat (first | (with_reducible first | exact HB.out | apply below_alloc | apply pw_below_drewN | apply below_drew1) | exact HB.out)) hb); clear HB; have HB := n0_; clear n0_; (try clear hb); (try clear hb2); (try clear hk); (try clear hi)) | ((with_reducible refine gate_dst (N := 9) rfl ?_); refine Kd.R_lit (Kd.int .u8) _ 5 ?hg (N := 9) ?hd (xs := ([] : List Int)) (inner := []) (ok := fun _ => True) (okp := fun _ => True) ?hr ?hp (fun _ hk => hk) trivial (Below.refl _ _) (Nat.le_refl _) (by simp) ?_; (case hd => rfl); (case hg => rfl); (case hr => first | (go_simp; done) | (go_simp; rfl)); (case hp => exact (Reps.none _ _)); intro v182 w6 ho7 hb hg_ hnew_; clear hg_ hnew_; (first | rw [← Ny181.out] at ho7 | (simp only [Int.reduceToNat] at ho7; rw [← Ny181.out] at ho7)); have n0_ := Aside0.mk (Kd.R_lower ho7 (below_size (by repeat (first | (with_reducible first | exact HB.out | apply below_alloc | apply pw_below_drewN | apply below_drew1) | exact HB.out)))); have n1_ := Aside0.mk (below_step (by repeat (first | (with_reducible first | exact HB.out | apply below_alloc | apply pw_below_drewN | apply below_drew1) | exact HB.out)) hb); clear HB; have HO183 := n0_; have HB := n1_; clear n0_ n1_; clear hb ho7) | ((with_reducible refine gate_callee (f := 18) rfl ?_); refine goesL_ (some 11) rfl rfl Tryz.func18 (by kernel_rfl) rfl #[.string a0] rfl (by (try simp only [List.map_toArray, List.map_cons, List.map_nil]); first | done | rfl | (simp only [List.length_drop, List.length_take]; rfl)) ?_; (with_reducible refine (impl_folded.calls k a0 t184 _ A4.out).mono ?_); rintro e w8 ⟨v185, rfl, ho0, hb⟩; refine ⟨_, rfl, ?_⟩; have n0_ := Aside0.mk (Kd.R_below (by (with_reducible repeat (first | apply Kd.R_alloc | apply Kd.R_drewN | apply Kd.R_drew)); exact HO183.out) hb); have n1_ := Aside0.mk (Kd.R_lower ho0 (below_size (by repeat (first | (with_reducible first | exact HB.out | apply below_alloc | apply pw_below_drewN | apply below_drew1) | exact HB.out)))); have n2_ := Aside0.mk (below_step (by repeat (first | (with_reducible first | exact HB.out | apply below_alloc | apply pw_below_drewN | apply below_drew1) | exact HB.out)) hb); clear HO183; clear HB; have HO183 := n0_; have HO186 := n1_; have HB := n2_; clear n0_ n1_ n2_; (try clear hb); (try clear hb2); (try clear hk); (try clear hi); (try clear ho0); obtain ⟨Ao9, co9, eo9⟩ := Kd.R_slice HO186.out; subst eo9))
    go_loopg [3, 13] k (fun kq v3 v13 w' => ∃ (x3_1 : List Int) (x13_1 : Int), v13 = .int .i64 x13_1 ∧ Aside0 (impl_FacesOf.l0 kq x3_1 t184 (t184.length : Int) x13_1 = some r) ∧ Aside0 (kq ≤ k) ∧ Aside0 (Kd.R (Kd.int .u8) 5 w' w.heap.size (fun _ => True) v3 x3_1) ∧ Aside0 (Kd.R k40 40 w' w.heap.size (fun _ => True) (.slice Ao9 t184.length co9) t184) ∧ Aside0 (Below w.heap.size w w'))
    case atStart => exact ⟨(y181), (0), (by first | rfl | (simp; done) | (simp [*]; done)), H', ⟨Nat.le_refl _⟩, ⟨by (with_reducible repeat (first | apply Kd.R_alloc | apply Kd.R_drewN | apply Kd.R_drew)); exact HO183.out⟩, ⟨by (with_reducible repeat (first | apply Kd.R_alloc | apply Kd.R_drewN | apply Kd.R_drew)); exact HO186.out⟩, ⟨by repeat (first | (with_reducible first | exact HB.out | apply below_alloc | apply pw_below_drewN | apply below_drew1) | exact HB.out)⟩⟩
    case round =>
      clear H'
      try clear c1
      try clear p2
      try clear c3
      try clear c7
      try clear c9
      obtain ⟨x3_1, x13_1, rfl, HA, HK1, HO_3, HO_11, HB⟩ := hrel
      cases gk with
      | zero => exact absurd HA.out (by simp [impl_FacesOf.l0])
      | succ k1 =>
        have H := HA.out
        clear HA
        simp only [impl_FacesOf.l0] at H
        by_cases c10 : x13_1 < (t184.length : Int)
        · rw [if_pos c10] at H
          have c10b0 : decide (x13_1 < (t184.length : Int)) = true := decide_eq_true c10
          clear c10
          by_cases c11 : 0 ≤ x13_1
          · rw [if_pos c11] at H
            have c11b0 : decide (0 ≤ x13_1) = true := decide_eq_true c11
            clear c11
            by_cases c12 : x13_1 < (t184.length : Int)
            · rw [if_pos c12] at H
              have c12b0 : decide (x13_1 < (t184.length : Int)) = true := decide_eq_true c12
              clear c12
              obtain ⟨bq13, hbq13⟩ : ∃ b_ : Bool, b_ = ((rd_T40 t184 x13_1).f1) := ⟨_, rfl⟩
              replace H : (if bq13 = true then (if x3_1.length < 140737488355328 then (impl_FacesOf.l0 k1 (x3_1 ++ [117]) t184 (t184.length : Int) (wrap64 (x13_1 + 1))) else (none)) else (if x3_1.length < 140737488355328 then (impl_FacesOf.l0 k1 (x3_1 ++ [100]) t184 (t184.length : Int) (wrap64 (x13_1 + 1))) else (none))) = some r := by rw [← hbq13] at H; exact H
              have Nbq13 := Aside0.mk hbq13
              clear hbq13
              by_cases c14 : bq13 = true
              · subst c14
                have H1 : (if x3_1.length < 140737488355328 then (impl_FacesOf.l0 k1 (x3_1 ++ [117]) t184 (t184.length : Int) (wrap64 (x13_1 + 1))) else (none)) = some r := by rw [if_pos rfl] at H; exact H
                clear H
                have H := H1
                clear H1
                by_cases c15 : x3_1.length < 140737488355328
                · rw [if_pos c15] at H
                  have LMc15 := Aside0.mk c15
                  clear c15
                  obtain ⟨y189, hy189⟩ : ∃ y_ : List Int, y_ = (x3_1 ++ [117]) := ⟨_, rfl⟩
                  replace H : (impl_FacesOf.l0 k1 y189 t184 (t184.length : Int) (wrap64 (x13_1 + 1))) = some r := by first | (rw [hy189]; with_reducible exact H) | (have H2_ := (Option.bind_some _ _).symm.trans H; rw [hy189]; with_reducible exact H2_) | (have H2_ := (Option.bind_some _ _).symm.trans H; with_reducible exact H2_) | with_reducible exact H | (rw [hy189]; exact H) | exact H
                  have Ny189 := Aside0.mk hy189
                  clear hy189
                  have H' := Aside0.mk H
                  clear H
                  have p187 : 0 ≤ (x13_1 : Int) := of_decide_eq_true (by first | (with_reducible assumption) | assumption)
                  have q187 : x13_1 < (t184.length : Int) := of_decide_eq_true (by first | (with_reducible assumption) | assumption)
                  obtain ⟨ad187, e187, hx187_0, hx187_1⟩ := at_T40 (Kd.R_reads' HO_11.out).2.2 x13_1 p187 q187
                  (try rw [← Nbq13.out] at hx187_1)
                  cases e187
                  replace p187 := eq_true p187
                  replace q187 := eq_true q187
                  go_wp2_with (first | ((with_reducible refine gate_dst (N := 5) rfl ?_); refine box_event ?hg (N := 5) ?hd (cs := #[.int .i64 0, .bool false]) (t := 40) ?hr ?_; (case hd => rfl); (case hg => rfl); (case hr => first | (go_simp; done) | (go_simp; rfl)); intro gb188 hg w16 hbox hb; have n0_ := Aside0.mk (Kd.R_below (by (with_reducible repeat (first | apply Kd.R_alloc | apply Kd.R_drewN | apply Kd.R_drew)); exact HO_3.out) hb); have n1_ := Aside0.mk (Kd.R_below (Kd.R_elderB (by (with_reducible repeat (first | apply Kd.R_alloc | apply Kd.R_drewN | apply Kd.R_drew)); exact HO_11.out) gb188 (Nat.le_of_eq hg.symm)) hb); have n2_ := Aside0.mk (below_step (by repeat (first | (with_reducible first | exact HB.out | apply below_alloc | apply pw_below_drewN | apply below_drew1) | exact HB.out)) hb); have n3_ := Aside0.mk (hbox); have n4_ := Aside0.mk ((by rw [hg]; exact (below_size (by repeat (first | (with_reducible first | exact HB.out | apply below_alloc | apply pw_below_drewN | apply below_drew1) | exact HB.out))) : w.heap.size ≤ gb188)); have n5_ := Aside0.mk ((by rw [hg]; exact (below_size (by repeat (first | (with_reducible first | exact HB.out | apply below_alloc | apply pw_below_drewN | apply below_drew1) | exact HB.out))) : w.heap.size ≤ gb188)); clear HO_3; clear HO_11; clear HB; have HO_3 := n0_; have HO_11 := n1_; have HB := n2_; have BK188 := n3_; have GW188 := n4_; have GE188 := n5_; clear n0_ n1_ n2_ n3_ n4_ n5_; clear hb hbox hg; have hcz17_0 : w16.cell? ⟨gb188, 0, none⟩ = some (.int .i64 0) := (blk_cell BK188.out 0).trans rfl; have hcz17_1 : w16.cell? ⟨gb188, 1, none⟩ = some (.bool false) := (blk_cell BK188.out 1).trans rfl; have hfz17_0 := blk_frozen BK188.out 0; have hfz17_1 := blk_frozen BK188.out 1) | ((with_reducible refine gate_builtin (b := .append) (xs := #[.tmp 19, .tmp 20]) rfl ?_); at_builtin; refine Kd.R_append (Kd.int .u8) (w0 := w) w.heap.size rfl (.tmp 19) (.tmp 20) 22 5 (.int .u8 0) 1 rfl Tryz.underlying22 info5 rfl (by decide) (by omega) u3 x3_1 117 [.int .u8 117] (fun _ => True) (fun _ => False) rfl (by first | (go_simp; done) | (go_simp; rfl)) ?aP (fun _ hk => hk.elim) ?aF ?aO ?aB ?aS ?aL ?_; (case aP => exact rfl); (case aB => exact (by repeat (first | (with_reducible first | exact HB.out | apply below_alloc | apply pw_below_drewN | apply below_drew1 | refine below_set ?_ GE188.out) | exact HB.out))); (case aF => exact (fun _ _ => trivial)); (case aO => exact (by (with_reducible repeat (first | apply Kd.R_alloc | apply Kd.R_drewN | apply Kd.R_drew)); exact Kd.R_mono (Kd.R_far (p := ⟨gb188, 1, none⟩) (Kd.R_far (p := ⟨gb188, 0, none⟩) (Kd.R_types HO_3.out BK188.out (by decide)) (fun _ hk => hk.2) (.int .i64 ((rd_T40 t184 x13_1).f0))) (fun _ hk => hk.2) (.bool true)) (fun _ hk => trivial))); (case aS => exact (below_size (by repeat (first | (with_reducible first | exact HB.out | apply below_alloc | apply pw_below_drewN | apply below_drew1 | refine below_set ?_ GE188.out) | exact HB.out)))); (case aL => have := LMc15.out; omega); intro v190 w18 ho hb hg hat; rw [← Ny189.out] at ho; have n0_ := Aside0.mk (Kd.R_over' (by (with_reducible repeat (first | apply Kd.R_alloc | apply Kd.R_drewN | apply Kd.R_drew)); exact (Kd.R_mono (Kd.R_far (p := ⟨gb188, 1, none⟩) (Kd.R_far (p := ⟨gb188, 0, none⟩) (Kd.R_mono HO_11.out (fun k_ hk => (⟨hk, hk.2⟩ : _ ∧ k_ ≠ gb188))) (fun _ hk => hk.2) (.int .i64 ((rd_T40 t184 x13_1).f0))) (fun _ hk => hk.2) (.bool true)) (fun _ h_ => h_.1))) (Kd.R_typed (by (with_reducible repeat (first | apply Kd.R_alloc | apply Kd.R_drewN | apply Kd.R_drew)); exact (Kd.R_mono (Kd.R_far (p := ⟨gb188, 1, none⟩) (Kd.R_far (p := ⟨gb188, 0, none⟩) (Kd.R_types HO_3.out BK188.out (by decide)) (fun _ hk => hk.2) (.int .i64 ((rd_T40 t184 x13_1).f0))) (fun _ hk => hk.2) (.bool true)) (fun _ h_ => h_.1)))) (by decide) hg); have n1_ := Aside0.mk (blk_grown (g := gb188) (o := .cells #[.int .i64 ((rd_T40 t184 x13_1).f0), .bool true] 40 (0, 0)) (by (with_reducible repeat (first | refine blk_drewN ?_ _ | refine blk_drew ?_ | refine blk_alloc ?_ _)); refine blk_put (cs := #[.int .i64 ((rd_T40 t184 x13_1).f0), .bool false]) ?_ 1 _ rfl; (with_reducible repeat (first | refine blk_drewN ?_ _ | refine blk_drew ?_ | refine blk_alloc ?_ _)); refine blk_put (cs := #[.int .i64 0, .bool false]) ?_ 0 _ rfl; (with_reducible repeat (first | refine blk_drewN ?_ _ | refine blk_drew ?_ | refine blk_alloc ?_ _)); exact BK188.out) hg (Kd.R_ne HO_3.out BK188.out (by decide))); have n2_ := Aside0.mk (hb); have n3_ := Aside0.mk (ho); clear HO_11; clear BK188; clear HB; clear HO_3; have HO_11 := n0_; have BK188 := n1_; have HB := n2_; have HO191 := n3_; clear n0_ n1_ n2_ n3_; clear ho hb hg hat))
                  go_roundg k1
                  case measure => have := HK1.out; omega
                  case rel => exact ⟨(y189), (wrap64 (x13_1 + 1)), (by first | rfl | (simp; done) | (simp [*]; done)), H', ⟨by have := HK1.out; omega⟩, ⟨by (with_reducible repeat (first | apply Kd.R_alloc | apply Kd.R_drewN | apply Kd.R_drew)); exact HO191.out⟩, ⟨by (with_reducible repeat (first | apply Kd.R_alloc | apply Kd.R_drewN | apply Kd.R_drew)); exact Kd.R_mono HO_11.out (fun _ hk => trivial)⟩, ⟨by repeat (first | (with_reducible first | exact HB.out | apply below_alloc | apply pw_below_drewN | apply below_drew1 | refine below_set ?_ GE188.out) | exact HB.out)⟩⟩
                · rw [if_neg c15] at H
                  exact absurd H (by simp)
              · replace c14 := Bool.eq_false_iff.mpr c14
                subst c14
                have H1 : (if x3_1.length < 140737488355328 then (impl_FacesOf.l0 k1 (x3_1 ++ [100]) t184 (t184.length : Int) (wrap64 (x13_1 + 1))) else (none)) = some r := by rw [if_neg (show ¬ (false = true) by decide)] at H; exact H
                clear H
                have H := H1
                clear H1
                by_cases c19 : x3_1.length < 140737488355328
                · rw [if_pos c19] at H
                  have LMc19 := Aside0.mk c19
                  clear c19
                  obtain ⟨y192, hy192⟩ : ∃ y_ : List Int, y_ = (x3_1 ++ [100]) := ⟨_, rfl⟩
                  replace H : (impl_FacesOf.l0 k1 y192 t184 (t184.length : Int) (wrap64 (x13_1 + 1))) = some r := by first | (rw [hy192]; with_reducible exact H) | (have H2_ := (Option.bind_some _ _).symm.trans H; rw [hy192]; with_reducible exact H2_) | (have H2_ := (Option.bind_some _ _).symm.trans H; with_reducible exact H2_) | with_reducible exact H | (rw [hy192]; exact H) | exact H
                  have Ny192 := Aside0.mk hy192
                  clear hy192
                  have H' := Aside0.mk H
                  clear H
                  have p187 : 0 ≤ (x13_1 : Int) := of_decide_eq_true (by first | (with_reducible assumption) | assumption)
                  have q187 : x13_1 < (t184.length : Int) := of_decide_eq_true (by first | (with_reducible assumption) | assumption)
                  obtain ⟨ad187, e187, hx187_0, hx187_1⟩ := at_T40 (Kd.R_reads' HO_11.out).2.2 x13_1 p187 q187
                  (try rw [← Nbq13.out] at hx187_1)
                  cases e187
                  replace p187 := eq_true p187
                  replace q187 := eq_true q187
                  go_wp2_with (first | ((with_reducible refine gate_dst (N := 5) rfl ?_); refine box_event ?hg (N := 5) ?hd (cs := #[.int .i64 0, .bool false]) (t := 40) ?hr ?_; (case hd => rfl); (case hg => rfl); (case hr => first | (go_simp; done) | (go_simp; rfl)); intro gb188 hg w20 hbox hb; have n0_ := Aside0.mk (Kd.R_below (by (with_reducible repeat (first | apply Kd.R_alloc | apply Kd.R_drewN | apply Kd.R_drew)); exact HO_3.out) hb); have n1_ := Aside0.mk (Kd.R_below (Kd.R_elderB (by (with_reducible repeat (first | apply Kd.R_alloc | apply Kd.R_drewN | apply Kd.R_drew)); exact HO_11.out) gb188 (Nat.le_of_eq hg.symm)) hb); have n2_ := Aside0.mk (below_step (by repeat (first | (with_reducible first | exact HB.out | apply below_alloc | apply pw_below_drewN | apply below_drew1) | exact HB.out)) hb); have n3_ := Aside0.mk (hbox); have n4_ := Aside0.mk ((by rw [hg]; exact (below_size (by repeat (first | (with_reducible first | exact HB.out | apply below_alloc | apply pw_below_drewN | apply below_drew1) | exact HB.out))) : w.heap.size ≤ gb188)); have n5_ := Aside0.mk ((by rw [hg]; exact (below_size (by repeat (first | (with_reducible first | exact HB.out | apply below_alloc | apply pw_below_drewN | apply below_drew1) | exact HB.out))) : w.heap.size ≤ gb188)); clear HO_3; clear HO_11; clear HB; have HO_3 := n0_; have HO_11 := n1_; have HB := n2_; have BK188 := n3_; have GW188 := n4_; have GE188 := n5_; clear n0_ n1_ n2_ n3_ n4_ n5_; clear hb hbox hg; have hcz21_0 : w20.cell? ⟨gb188, 0, none⟩ = some (.int .i64 0) := (blk_cell BK188.out 0).trans rfl; have hcz21_1 : w20.cell? ⟨gb188, 1, none⟩ = some (.bool false) := (blk_cell BK188.out 1).trans rfl; have hfz21_0 := blk_frozen BK188.out 0; have hfz21_1 := blk_frozen BK188.out 1) | ((with_reducible refine gate_builtin (b := .append) (xs := #[.tmp 22, .tmp 23]) rfl ?_); at_builtin; refine Kd.R_append (Kd.int .u8) (w0 := w) w.heap.size rfl (.tmp 22) (.tmp 23) 22 5 (.int .u8 0) 1 rfl Tryz.underlying22 info5 rfl (by decide) (by omega) u3 x3_1 100 [.int .u8 100] (fun _ => True) (fun _ => False) rfl (by first | (go_simp; done) | (go_simp; rfl)) ?aP (fun _ hk => hk.elim) ?aF ?aO ?aB ?aS ?aL ?_; (case aP => exact rfl); (case aB => exact (by repeat (first | (with_reducible first | exact HB.out | apply below_alloc | apply pw_below_drewN | apply below_drew1 | refine below_set ?_ GE188.out) | exact HB.out))); (case aF => exact (fun _ _ => trivial)); (case aO => exact (by (with_reducible repeat (first | apply Kd.R_alloc | apply Kd.R_drewN | apply Kd.R_drew)); exact Kd.R_mono (Kd.R_far (p := ⟨gb188, 1, none⟩) (Kd.R_far (p := ⟨gb188, 0, none⟩) (Kd.R_types HO_3.out BK188.out (by decide)) (fun _ hk => hk.2) (.int .i64 ((rd_T40 t184 x13_1).f0))) (fun _ hk => hk.2) (.bool false)) (fun _ hk => trivial))); (case aS => exact (below_size (by repeat (first | (with_reducible first | exact HB.out | apply below_alloc | apply pw_below_drewN | apply below_drew1 | refine below_set ?_ GE188.out) | exact HB.out)))); (case aL => have := LMc19.out; omega); intro v193 w22 ho hb hg hat; rw [← Ny192.out] at ho; have n0_ := Aside0.mk (Kd.R_over' (by (with_reducible repeat (first | apply Kd.R_alloc | apply Kd.R_drewN | apply Kd.R_drew)); exact (Kd.R_mono (Kd.R_far (p := ⟨gb188, 1, none⟩) (Kd.R_far (p := ⟨gb188, 0, none⟩) (Kd.R_mono HO_11.out (fun k_ hk => (⟨hk, hk.2⟩ : _ ∧ k_ ≠ gb188))) (fun _ hk => hk.2) (.int .i64 ((rd_T40 t184 x13_1).f0))) (fun _ hk => hk.2) (.bool false)) (fun _ h_ => h_.1))) (Kd.R_typed (by (with_reducible repeat (first | apply Kd.R_alloc | apply Kd.R_drewN | apply Kd.R_drew)); exact (Kd.R_mono (Kd.R_far (p := ⟨gb188, 1, none⟩) (Kd.R_far (p := ⟨gb188, 0, none⟩) (Kd.R_types HO_3.out BK188.out (by decide)) (fun _ hk => hk.2) (.int .i64 ((rd_T40 t184 x13_1).f0))) (fun _ hk => hk.2) (.bool false)) (fun _ h_ => h_.1)))) (by decide) hg); have n1_ := Aside0.mk (blk_grown (g := gb188) (o := .cells #[.int .i64 ((rd_T40 t184 x13_1).f0), .bool false] 40 (0, 0)) (by (with_reducible repeat (first | refine blk_drewN ?_ _ | refine blk_drew ?_ | refine blk_alloc ?_ _)); refine blk_put (cs := #[.int .i64 ((rd_T40 t184 x13_1).f0), .bool false]) ?_ 1 _ rfl; (with_reducible repeat (first | refine blk_drewN ?_ _ | refine blk_drew ?_ | refine blk_alloc ?_ _)); refine blk_put (cs := #[.int .i64 0, .bool false]) ?_ 0 _ rfl; (with_reducible repeat (first | refine blk_drewN ?_ _ | refine blk_drew ?_ | refine blk_alloc ?_ _)); exact BK188.out) hg (Kd.R_ne HO_3.out BK188.out (by decide))); have n2_ := Aside0.mk (hb); have n3_ := Aside0.mk (ho); clear HO_11; clear BK188; clear HB; clear HO_3; have HO_11 := n0_; have BK188 := n1_; have HB := n2_; have HO194 := n3_; clear n0_ n1_ n2_ n3_; clear ho hb hg hat))
                  go_roundg k1
                  case measure => have := HK1.out; omega
                  case rel => exact ⟨(y192), (wrap64 (x13_1 + 1)), (by first | rfl | (simp; done) | (simp [*]; done)), H', ⟨by have := HK1.out; omega⟩, ⟨by (with_reducible repeat (first | apply Kd.R_alloc | apply Kd.R_drewN | apply Kd.R_drew)); exact HO194.out⟩, ⟨by (with_reducible repeat (first | apply Kd.R_alloc | apply Kd.R_drewN | apply Kd.R_drew)); exact Kd.R_mono HO_11.out (fun _ hk => trivial)⟩, ⟨by repeat (first | (with_reducible first | exact HB.out | apply below_alloc | apply pw_below_drewN | apply below_drew1 | refine below_set ?_ GE188.out) | exact HB.out)⟩⟩
                · rw [if_neg c19] at H
                  exact absurd H (by simp)
            · rw [if_neg c12] at H
              exact absurd H (by simp)
          · rw [if_neg c11] at H
            exact absurd H (by simp)
        · rw [if_neg c10] at H
          have c10b0 : decide (x13_1 < (t184.length : Int)) = false := decide_eq_false c10
          clear c10
          obtain rfl := Option.some.inj H
          (first | have hcv23 := own_string (P := Tryz.prog) Tryz.underlying22 Tryz.underlying5 Tryz.underlying9 (Kd.own_of_R HO_3.out) | (obtain ⟨A_, c_, e_, _⟩ := Kd.Q_slice HO_3.out; subst e_; have hcv23 := Kd.C_string (P := Tryz.prog) (c := c_) Tryz.underlying22 Tryz.underlying5 Tryz.underlying9 (Kd.Q_reads' HO_3.out).2.2))
          go_wp2
          go_ret
          exact ⟨by first | rfl | (simp [errW_none, errW_some] <;> rfl) | (simp [*, errW_none, errW_some] <;> rfl), by repeat (first | (with_reducible first | exact HB.out | apply below_alloc | apply pw_below_drewN | apply below_drew1) | exact HB.out)⟩
  · replace c3 := Bool.eq_false_iff.mpr c3
    subst c3
    have H1 : (some (⟨#[]⟩ : ByteArray)) = some r := by rw [if_neg (show ¬ (false = true) by decide)] at H; exact H
    clear H
    have H := H1
    clear H1
    obtain rfl := Option.some.inj H
    go_enter Tryz.func7, Tryz.ntmps7
    go_wp2_with (first | ((with_reducible refine gate_callee (f := 9) rfl ?_); refine goesL_ (some 7) rfl rfl Tryz.func9 (by kernel_rfl) rfl #[.string a0] rfl (by (try simp only [List.map_toArray, List.map_cons, List.map_nil]); first | done | rfl | (simp only [List.length_drop, List.length_take]; rfl)) ?_; (with_reducible refine (impl_FoldWordOk.calls a0 false _ A2.out).mono ?_); rintro e w24 ⟨rfl, hb⟩; refine ⟨_, rfl, ?_⟩; have n0_ := Aside0.mk (below_step (by repeat (first | (with_reducible first | exact HB.out | apply below_alloc | apply pw_below_drewN | apply below_drew1) | exact HB.out)) hb); clear HB; have HB := n0_; clear n0_; (try clear hb); (try clear hb2); (try clear hk); (try clear hi)))
    go_ret
    exact ⟨by first | rfl | (simp [errW_none, errW_some] <;> rfl) | (simp [*, errW_none, errW_some] <;> rfl), by repeat (first | (with_reducible first | exact HB.out | apply below_alloc | apply pw_below_drewN | apply below_drew1) | exact HB.out)⟩

-- NOT PRINTED: function 20 (strings_NewReplacer)

-- NOT PRINTED: function 43 (atomic_LoadUint32)

-- NOT PRINTED: function 36 (atomic_Bool_Load)

-- NOT PRINTED: function 63 (atomic_CompareAndSwapInt32)

-- NOT PRINTED: function 65 (race_Acquire)

-- NOT PRINTED: function 68 (atomic_AddInt32)

-- NOT PRINTED: function 77 (sync_runtime_SemacquireMutex)

-- NOT PRINTED: function 52 (sync_Mutex_Lock_52)

-- NOT PRINTED: function 44 (sync_Mutex_Lock_44)

-- NOT PRINTED: function 67 (race_ReleaseMerge)

-- NOT PRINTED: function 79 (sync_runtime_Semrelease)

-- NOT PRINTED: function 53 (sync_Mutex_Unlock_53)

-- NOT PRINTED: function 45 (sync_Mutex_Unlock_45)

-- NOT PRINTED: function 54 (atomic_StoreUint32)

-- NOT PRINTED: function 46 (atomic_Bool_Store)

-- NOT PRINTED: function 37 (sync_Once_doSlow)

-- NOT PRINTED: function 26 (sync_Once_Do)

-- NOT PRINTED: function 56 (strings_makeStringFinder)

-- NOT PRINTED: function 47 (strings_makeSingleStringReplacer)

-- NOT PRINTED: function 57 (strings_trieNode_add)

-- NOT PRINTED: function 48 (strings_makeGenericReplacer)

-- NOT PRINTED: function 38 (strings_Replacer_build)

-- NOT PRINTED: function 27 (strings_Replacer_buildOnce)

-- NOT PRINTED: function 21 (strings_Replacer_Replace)

end Go.Proofs.YtndlmckfacegeaaGreatDoor.QFnFolds
