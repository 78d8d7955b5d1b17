-- Printed for this claim by a changed copy of the kit's print (the session's own; own contracts in place of some functions).
import Derived.Test.YteelfcmlghjknaaQFnExactAddEntryx0
import Derived.Test.YteelfcmlghjknaaQFnExactAddEntryx1
import Derived.Test.YteelfcmlghjknaaQFnExactAddEntryx2
import Derived.Test.YteelfcmlghjknaaQFnExactAddEntryx4
namespace Go.Proofs.Yteelfcmlghjknaa.QFnExactAddEntry
open Go.RowKit Go.Proofs.YteelfcmlghjknaaW.PrintWords Go.Proofs.YteelfcmlghjknaaW.PrintLast Go.Proofs.YteelfcmlghjknaaW.PrintMore
attribute [local go_sem] max2_int min2_int max_two min_two max_three min_three max_four min_four   -- for this text's walks alone
set_option linter.unusedVariables false
set_option linter.unusedSimpArgs false

/-! ### impl_AddEntry: function 31 -/
def impl_AddEntry.f (k : Nat) (l0 : List (List Int)) (l1 : List Int) : Option ((List (List Int)) × Bool) := (impl_copyLists.f k l0).bind fun t214 => ((some (([] : List Int) : List Int)).bind fun y217 => (if y217.length + l1.length < 17592186044416 then (if t214.length < 5864062014805 then ((some (t214 ++ [(y217 ++ l1)] : List (List Int))).bind fun y223 => ((impl_LedgerOk.f k y223).bind fun t226 => (if t226 = true then (some (y223, true)) else (some (([] : List (List Int)), false))))) else (none)) else (none)))
theorem impl_AddEntry.mono : ∀ a0 a1 k, LeO (impl_AddEntry.f k a0 a1) (impl_AddEntry.f (k + 1) a0 a1) := by
  intro a0 a1 k
  unfold impl_AddEntry.f
  repeat' first
      | (with_reducible exact impl_LedgerOk.mono _ _)
      | (with_reducible exact impl_copyLists.mono _ _)
      | (with_reducible exact LeO.refl _)
      | (with_reducible exact LeO.none _)
      | (with_reducible refine LeO.ite ?_ ?_)
      | (with_reducible refine LeO.bind ?_ (fun _ => ?_))
      | exact impl_LedgerOk.mono _ _
      | exact impl_copyLists.mono _ _
      | exact LeO.none _
      | refine LeO.ite ?_ ?_
      | refine LeO.bind ?_ (fun _ => ?_)
set_option maxHeartbeats 8000000 in
set_option maxRecDepth 100000 in
theorem impl_AddEntry.calls (k : Nat) (A0 : Option Addr) (c0 : Nat) (l0 : List (List Int)) (A1 : Option Addr) (c1 : Nat) (l1 : List Int) (r1 : List (List Int)) (r2 : Bool) (w : World) (hr0 : Kd.C (Kd.slice 3 (Kd.int .i64)) w A0 l0.length l0) (hc0 : l0.length ≤ c0) (hr1 : Kd.C (Kd.int .i64) w A1 l1.length l1) (hc1 : l1.length ≤ c1) (h : impl_AddEntry.f k l0 l1 = some (r1, r2)) :
    Calls Try.prog 31 #[.slice A0 l0.length c0, .slice A1 l1.length c1] w fun e w' => ∃ v0_ : Value, e = .returned (.tuple #[v0_, .bool r2]) ∧ Kd.S (Kd.slice 3 (Kd.int .i64)) 39 w' w.heap.size (fun _ => True) v0_ r1 ∧ Below w.heap.size w w' := by
  have HR0 := Aside0.mk hr0
  have HC0 := Aside0.mk hc0
  clear hr0 hc0
  have HR1 := Aside0.mk hr1
  have HC1 := Aside0.mk hc1
  clear hr1 hc1
  have HB := Aside0.mk (Below.refl w.heap.size w)
  have H : ((impl_copyLists.f k l0).bind fun t214 => ((some (([] : List Int) : List Int)).bind fun y217 => (if y217.length + l1.length < 17592186044416 then (if t214.length < 5864062014805 then ((some (t214 ++ [(y217 ++ l1)] : List (List Int))).bind fun y223 => ((impl_LedgerOk.f k y223).bind fun t226 => (if t226 = true then (some (y223, true)) else (some (([] : List (List Int)), false))))) else (none)) else (none)))) = some (r1, r2) := h
  clear h
  replace H := Option.bind_eq_some_iff.mp H
  obtain ⟨t214, A30, H⟩ := H
  replace H : ((some (([] : List Int) : List Int)).bind fun y217 => (if y217.length + l1.length < 17592186044416 then (if t214.length < 5864062014805 then ((some (t214 ++ [(y217 ++ l1)] : List (List Int))).bind fun y223 => ((impl_LedgerOk.f k y223).bind fun t226 => (if t226 = true then (some (y223, true)) else (some (([] : List (List Int)), false))))) else (none)) else (none))) = some (r1, r2) := H
  have A3 := Aside0.mk A30
  clear A30
  obtain ⟨y217, hy217⟩ : ∃ y_ : List Int, y_ = (([] : List Int)) := ⟨_, rfl⟩
  replace H : (if y217.length + l1.length < 17592186044416 then (if t214.length < 5864062014805 then ((some (t214 ++ [(y217 ++ l1)] : List (List Int))).bind fun y223 => ((impl_LedgerOk.f k y223).bind fun t226 => (if t226 = true then (some (y223, true)) else (some (([] : List (List Int)), false))))) else (none)) else (none)) = some (r1, r2) := by first | (rw [hy217]; with_reducible exact H) | (have H2_ := (Option.bind_some _ _).symm.trans H; rw [hy217]; with_reducible exact H2_) | (have H2_ := (Option.bind_some _ _).symm.trans H; with_reducible exact H2_) | with_reducible exact H | (rw [hy217]; exact H) | exact H
  have Ny217 := Aside0.mk hy217
  clear hy217
  by_cases c4 : y217.length + l1.length < 17592186044416
  · rw [if_pos c4] at H
    have LMc4 := Aside0.mk c4
    clear c4
    obtain ⟨y220, hy220⟩ : ∃ y_ : List Int, y_ = (y217 ++ l1) := ⟨_, rfl⟩
    replace H : (if t214.length < 5864062014805 then ((some (t214 ++ [y220] : List (List Int))).bind fun y223 => ((impl_LedgerOk.f k y223).bind fun t226 => (if t226 = true then (some (y223, true)) else (some (([] : List (List Int)), false))))) else (none)) = some (r1, r2) := by first | (rw [hy220]; with_reducible exact H) | (have H2_ := (Option.bind_some _ _).symm.trans H; rw [hy220]; with_reducible exact H2_) | (have H2_ := (Option.bind_some _ _).symm.trans H; with_reducible exact H2_) | with_reducible exact H | (rw [hy220]; exact H) | exact H
    have Ny220 := Aside0.mk hy220
    clear hy220
    by_cases c5 : t214.length < 5864062014805
    · rw [if_pos c5] at H
      have LMc5 := Aside0.mk c5
      clear c5
      obtain ⟨y223, hy223⟩ : ∃ y_ : List (List Int), y_ = (t214 ++ [y220]) := ⟨_, rfl⟩
      replace H : ((impl_LedgerOk.f k y223).bind fun t226 => (if t226 = true then (some (y223, true)) else (some (([] : List (List Int)), false)))) = some (r1, r2) := by first | (rw [hy223]; with_reducible exact H) | (have H2_ := (Option.bind_some _ _).symm.trans H; rw [hy223]; with_reducible exact H2_) | (have H2_ := (Option.bind_some _ _).symm.trans H; with_reducible exact H2_) | with_reducible exact H | (rw [hy223]; exact H) | exact H
      have Ny223 := Aside0.mk hy223
      clear hy223
      replace H := Option.bind_eq_some_iff.mp H
      obtain ⟨t226, A60, H⟩ := H
      replace H : (if t226 = true then (some (y223, true)) else (some (([] : List (List Int)), false))) = some (r1, r2) := H
      have A6 := Aside0.mk A60
      clear A60
      by_cases c7 : t226 = true
      · subst c7
        have H1 : (some (y223, true)) = some (r1, r2) := by rw [if_pos rfl] at H; exact H
        clear H
        have H := H1
        clear H1
        simp only [Option.some.injEq, Prod.mk.injEq] at H
        obtain ⟨rfl, rfl⟩ := H
        go_enter Try.func31, Try.ntmps31
        go_wp2_with (first | ((with_reducible refine gate_callee (f := 60) rfl ?_); refine goesL_ (some 8) rfl rfl Try.func60 (by kernel_rfl) rfl #[.slice A0 l0.length c0] rfl (by (try simp only [List.map_toArray, List.map_cons, List.map_nil]); first | done | rfl | (simp only [List.length_drop, List.length_take]; rfl)) ?_; (with_reducible refine (impl_copyLists.calls k _ _ l0 t214 _ ?side1 ?side2 A3.out).mono ?_); (case side1 => repeat (first | exact HR0.out | (with_reducible refine Kd.C_alloc ?_ _) | (with_reducible refine Kd.C_drewN ?_ _) | (with_reducible refine Kd.C_drew ?_))); (case side2 => exact HC0.out); rintro e w8 ⟨v215, rfl, ho0, hb⟩; refine ⟨_, rfl, ?_⟩; have n0_ := Aside0.mk (Kd.S_lower ho0 (below_size (by repeat (first | (with_reducible first | exact HB.out | apply below_alloc | apply pw_below_drewN | apply below_drew1) | exact HB.out)))); have n1_ := Aside0.mk (below_step (by repeat (first | (with_reducible first | exact HB.out | apply below_alloc | apply pw_below_drewN | apply below_drew1) | exact HB.out)) hb); clear HB; have HO216 := n0_; have HB := n1_; clear n0_ n1_; (try clear hb); (try clear hb2); (try clear hk); (try clear hi); (try clear ho0)) | ((with_reducible refine gate_dst (N := 9) rfl ?_); refine Kd.R_lit (Kd.int .i64) _ 3 ?hg (N := 9) ?hd (xs := ([] : List Int)) (inner := []) (ok := fun _ => True) (okp := fun _ => True) ?hr ?hp (fun _ hk => hk) trivial (Below.refl _ _) (Nat.le_refl _) (by simp) ?_; (case hd => rfl); (case hg => rfl); (case hr => first | (go_simp; done) | (go_simp; rfl)); (case hp => exact (Reps.none _ _)); intro v218 w9 ho10 hb hg_ hnew_; clear hg_ hnew_; (first | rw [← Ny217.out] at ho10 | (simp only [Int.reduceToNat] at ho10; rw [← Ny217.out] at ho10)); have n0_ := Aside0.mk (Kd.S_elder' (by (with_reducible repeat (first | apply Kd.S_alloc | apply Kd.S_drewN | apply Kd.S_drew)); exact HO216.out) (Kd.R_base ho10) hb); have n1_ := Aside0.mk (Kd.R_lower ho10 (below_size (by repeat (first | (with_reducible first | exact HB.out | apply below_alloc | apply pw_below_drewN | apply below_drew1) | exact HB.out)))); have n2_ := Aside0.mk (below_step (by repeat (first | (with_reducible first | exact HB.out | apply below_alloc | apply pw_below_drewN | apply below_drew1) | exact HB.out)) hb); clear HO216; clear HB; have HO216 := n0_; have HO219 := n1_; have HB := n2_; clear n0_ n1_ n2_; clear hb ho10) | ((with_reducible refine gate_builtin (b := .append) (xs := #[.tmp 9, .tmp 10]) rfl ?_); at_builtin; refine Kd.R_append_rows (Kd.int .i64) (w0 := w) w.heap.size rfl (.tmp 9) (.tmp 10) 39 3 (.int .i64 0) 8 rfl Try.underlying39 info3 rfl (by decide) (by omega) v218 y217 l1 _ _ _ (fun _ => True) (fun _ => False) rfl rfl ?aO ?aR (fun _ _ h => h) (fun _ h => h.elim) ?aF ?aB ?aS ?aL ?_; (case aR => repeat (first | exact (Kd.C_below HR1.out HB.out) | (with_reducible refine Kd.C_alloc ?_ _) | (with_reducible refine Kd.C_drewN ?_ _) | (with_reducible refine Kd.C_drew ?_))); (case aB => exact (by repeat (first | (with_reducible first | exact HB.out | apply below_alloc | apply pw_below_drewN | apply below_drew1) | exact HB.out))); (case aF => exact (fun _ _ => trivial)); (case aO => exact (by (with_reducible repeat (first | apply Kd.R_alloc | apply Kd.R_drewN | apply Kd.R_drew)); exact HO219.out)); (case aS => exact (below_size (by repeat (first | (with_reducible first | exact HB.out | apply below_alloc | apply pw_below_drewN | apply below_drew1) | exact HB.out)))); (case aL => have := LMc4.out; omega); intro v221 w11 ho hb hg hat; rw [← Ny220.out] at ho; have n0_ := Aside0.mk (Kd.S_after (ok := (fun _ => True)) (by (with_reducible repeat (first | apply Kd.S_alloc | apply Kd.S_drewN | apply Kd.S_drew)); exact HO216.out) hg hat); have n1_ := Aside0.mk (hb); have n2_ := Aside0.mk (ho); clear HO216; clear HB; clear HO219; have HO216 := n0_; have HB := n1_; have HO222 := n2_; clear n0_ n1_ n2_; clear ho hb hg hat; obtain ⟨Ao13, co13, eo13⟩ := Kd.R_slice HO222.out; subst eo13) | ((with_reducible refine gate_builtin (b := .append) (xs := #[.tmp 8, .tmp 12]) rfl ?_); at_builtin; refine Kd.S_append (Kd.slice 3 (Kd.int .i64)) (w0 := w) w.heap.size rfl (.tmp 8) (.tmp 12) 23 39 (.slice none 0 0) 24 rfl Try.underlying23 info39 rfl (by decide) (by omega) v215 t214 y220 [.slice Ao13 y220.length co13] (fun _ => True) (fun k_ => some k_ = (.slice Ao13 y220.length co13 : Value).ownBlock) rfl rfl ?aP (fun k_ hk_ => ((Kd.R_mono (ok' := fun k_ => ((fun _ => True)) k_ ∧ some k_ ≠ (v215 : Value).ownBlock) (Kd.R_apart' (HO222.out) (Kd.S_typed HO216.out) (by decide)) (fun k_ hk => ⟨trivial, hk.2⟩))).1 k_ hk_.symm) ?aF ?aO ?aB ?aS ?aL ?_; (case aP => exact Kd.M_row (Kd.R_mono (Kd.R_tight rfl (Kd.R_mono (ok' := fun k_ => ((fun _ => True)) k_ ∧ some k_ ≠ (v215 : Value).ownBlock) (Kd.R_apart' (HO222.out) (Kd.S_typed HO216.out) (by decide)) (fun k_ hk => ⟨trivial, hk.2⟩))) (fun _ h_ => h_))); (case aB => exact (by repeat (first | (with_reducible first | exact HB.out | apply below_alloc | apply pw_below_drewN | apply below_drew1) | exact HB.out))); (case aF => exact (fun _ _ => trivial)); (case aO => exact (by (with_reducible repeat (first | apply Kd.S_alloc | apply Kd.S_drewN | apply Kd.S_drew)); exact Kd.S_mono HO216.out (fun k_ hk => ⟨trivial, fun e_ => hk.2 e_⟩))); (case aS => exact (below_size (by repeat (first | (with_reducible first | exact HB.out | apply below_alloc | apply pw_below_drewN | apply below_drew1) | exact HB.out)))); (case aL => have := LMc5.out; omega); intro v224 w12 ho hb hg hat; rw [← Ny223.out] at ho; have n0_ := Aside0.mk (hb); have n1_ := Aside0.mk (ho); clear HB; clear HO216; clear HO222; have HB := n0_; have HO225 := n1_; clear n0_ n1_; clear ho hb hg hat; obtain ⟨Ao14, co14, eo14⟩ := Kd.S_slice HO225.out; subst eo14) | ((with_reducible refine gate_callee (f := 61) rfl ?_); refine goesL_ (some 15) rfl rfl Try.func61 (by kernel_rfl) rfl #[.slice Ao14 y223.length co14] rfl (by (try simp only [List.map_toArray, List.map_cons, List.map_nil]); first | done | rfl | (simp only [List.length_drop, List.length_take]; rfl)) ?_; (with_reducible refine (impl_LedgerOk.calls k _ _ y223 true _ ?side1 ?side2 A6.out).mono ?_); (case side1 => repeat (first | exact (Kd.S_reads' HO225.out).2.2 | (with_reducible refine Kd.C_alloc ?_ _) | (with_reducible refine Kd.C_drewN ?_ _) | (with_reducible refine Kd.C_drew ?_))); (case side2 => exact (Kd.S_reads' HO225.out).2.1); rintro e w15 ⟨rfl, hb⟩; refine ⟨_, rfl, ?_⟩; have n0_ := Aside0.mk (Kd.S_below (by (with_reducible repeat (first | apply Kd.S_alloc | apply Kd.S_drewN | apply Kd.S_drew)); exact HO225.out) hb); have n1_ := Aside0.mk (below_step (by repeat (first | (with_reducible first | exact HB.out | apply below_alloc | apply pw_below_drewN | apply below_drew1) | exact HB.out)) hb); clear HO225; clear HB; have HO225 := n0_; have HB := n1_; clear n0_ n1_; (try clear hb); (try clear hb2); (try clear hk); (try clear hi)))
        go_ret2
        exact ⟨_, by first | rfl | (simp [errW_none, errW_some] <;> rfl) | (simp [*, errW_none, errW_some] <;> rfl), by (with_reducible repeat (first | apply Kd.S_alloc | apply Kd.S_drewN | apply Kd.S_drew)); exact HO225.out, by repeat (first | (with_reducible first | exact HB.out | apply below_alloc | apply pw_below_drewN | apply below_drew1) | exact HB.out)⟩
      · replace c7 := Bool.eq_false_iff.mpr c7
        subst c7
        have H1 : (some (([] : List (List Int)), false)) = some (r1, r2) := by rw [if_neg (show ¬ (false = true) by decide)] at H; exact H
        clear H
        have H := H1
        clear H1
        simp only [Option.some.injEq, Prod.mk.injEq] at H
        obtain ⟨rfl, rfl⟩ := H
        go_enter Try.func31, Try.ntmps31
        go_wp2_with (first | ((with_reducible refine gate_callee (f := 60) rfl ?_); refine goesL_ (some 8) rfl rfl Try.func60 (by kernel_rfl) rfl #[.slice A0 l0.length c0] rfl (by (try simp only [List.map_toArray, List.map_cons, List.map_nil]); first | done | rfl | (simp only [List.length_drop, List.length_take]; rfl)) ?_; (with_reducible refine (impl_copyLists.calls k _ _ l0 t214 _ ?side1 ?side2 A3.out).mono ?_); (case side1 => repeat (first | exact HR0.out | (with_reducible refine Kd.C_alloc ?_ _) | (with_reducible refine Kd.C_drewN ?_ _) | (with_reducible refine Kd.C_drew ?_))); (case side2 => exact HC0.out); rintro e w16 ⟨v215, rfl, ho0, hb⟩; refine ⟨_, rfl, ?_⟩; have n0_ := Aside0.mk (Kd.S_lower ho0 (below_size (by repeat (first | (with_reducible first | exact HB.out | apply below_alloc | apply pw_below_drewN | apply below_drew1) | exact HB.out)))); have n1_ := Aside0.mk (below_step (by repeat (first | (with_reducible first | exact HB.out | apply below_alloc | apply pw_below_drewN | apply below_drew1) | exact HB.out)) hb); clear HB; have HO216 := n0_; have HB := n1_; clear n0_ n1_; (try clear hb); (try clear hb2); (try clear hk); (try clear hi); (try clear ho0)) | ((with_reducible refine gate_dst (N := 9) rfl ?_); refine Kd.R_lit (Kd.int .i64) _ 3 ?hg (N := 9) ?hd (xs := ([] : List Int)) (inner := []) (ok := fun _ => True) (okp := fun _ => True) ?hr ?hp (fun _ hk => hk) trivial (Below.refl _ _) (Nat.le_refl _) (by simp) ?_; (case hd => rfl); (case hg => rfl); (case hr => first | (go_simp; done) | (go_simp; rfl)); (case hp => exact (Reps.none _ _)); intro v218 w17 ho18 hb hg_ hnew_; clear hg_ hnew_; (first | rw [← Ny217.out] at ho18 | (simp only [Int.reduceToNat] at ho18; rw [← Ny217.out] at ho18)); have n0_ := Aside0.mk (Kd.S_elder' (by (with_reducible repeat (first | apply Kd.S_alloc | apply Kd.S_drewN | apply Kd.S_drew)); exact HO216.out) (Kd.R_base ho18) hb); have n1_ := Aside0.mk (Kd.R_lower ho18 (below_size (by repeat (first | (with_reducible first | exact HB.out | apply below_alloc | apply pw_below_drewN | apply below_drew1) | exact HB.out)))); have n2_ := Aside0.mk (below_step (by repeat (first | (with_reducible first | exact HB.out | apply below_alloc | apply pw_below_drewN | apply below_drew1) | exact HB.out)) hb); clear HO216; clear HB; have HO216 := n0_; have HO219 := n1_; have HB := n2_; clear n0_ n1_ n2_; clear hb ho18) | ((with_reducible refine gate_builtin (b := .append) (xs := #[.tmp 9, .tmp 10]) rfl ?_); at_builtin; refine Kd.R_append_rows (Kd.int .i64) (w0 := w) w.heap.size rfl (.tmp 9) (.tmp 10) 39 3 (.int .i64 0) 8 rfl Try.underlying39 info3 rfl (by decide) (by omega) v218 y217 l1 _ _ _ (fun _ => True) (fun _ => False) rfl rfl ?aO ?aR (fun _ _ h => h) (fun _ h => h.elim) ?aF ?aB ?aS ?aL ?_; (case aR => repeat (first | exact (Kd.C_below HR1.out HB.out) | (with_reducible refine Kd.C_alloc ?_ _) | (with_reducible refine Kd.C_drewN ?_ _) | (with_reducible refine Kd.C_drew ?_))); (case aB => exact (by repeat (first | (with_reducible first | exact HB.out | apply below_alloc | apply pw_below_drewN | apply below_drew1) | exact HB.out))); (case aF => exact (fun _ _ => trivial)); (case aO => exact (by (with_reducible repeat (first | apply Kd.R_alloc | apply Kd.R_drewN | apply Kd.R_drew)); exact HO219.out)); (case aS => exact (below_size (by repeat (first | (with_reducible first | exact HB.out | apply below_alloc | apply pw_below_drewN | apply below_drew1) | exact HB.out)))); (case aL => have := LMc4.out; omega); intro v221 w19 ho hb hg hat; rw [← Ny220.out] at ho; have n0_ := Aside0.mk (Kd.S_after (ok := (fun _ => True)) (by (with_reducible repeat (first | apply Kd.S_alloc | apply Kd.S_drewN | apply Kd.S_drew)); exact HO216.out) hg hat); have n1_ := Aside0.mk (hb); have n2_ := Aside0.mk (ho); clear HO216; clear HB; clear HO219; have HO216 := n0_; have HB := n1_; have HO222 := n2_; clear n0_ n1_ n2_; clear ho hb hg hat; obtain ⟨Ao21, co21, eo21⟩ := Kd.R_slice HO222.out; subst eo21) | ((with_reducible refine gate_builtin (b := .append) (xs := #[.tmp 8, .tmp 12]) rfl ?_); at_builtin; refine Kd.S_append (Kd.slice 3 (Kd.int .i64)) (w0 := w) w.heap.size rfl (.tmp 8) (.tmp 12) 23 39 (.slice none 0 0) 24 rfl Try.underlying23 info39 rfl (by decide) (by omega) v215 t214 y220 [.slice Ao21 y220.length co21] (fun _ => True) (fun k_ => some k_ = (.slice Ao21 y220.length co21 : Value).ownBlock) rfl rfl ?aP (fun k_ hk_ => ((Kd.R_mono (ok' := fun k_ => ((fun _ => True)) k_ ∧ some k_ ≠ (v215 : Value).ownBlock) (Kd.R_apart' (HO222.out) (Kd.S_typed HO216.out) (by decide)) (fun k_ hk => ⟨trivial, hk.2⟩))).1 k_ hk_.symm) ?aF ?aO ?aB ?aS ?aL ?_; (case aP => exact Kd.M_row (Kd.R_mono (Kd.R_tight rfl (Kd.R_mono (ok' := fun k_ => ((fun _ => True)) k_ ∧ some k_ ≠ (v215 : Value).ownBlock) (Kd.R_apart' (HO222.out) (Kd.S_typed HO216.out) (by decide)) (fun k_ hk => ⟨trivial, hk.2⟩))) (fun _ h_ => h_))); (case aB => exact (by repeat (first | (with_reducible first | exact HB.out | apply below_alloc | apply pw_below_drewN | apply below_drew1) | exact HB.out))); (case aF => exact (fun _ _ => trivial)); (case aO => exact (by (with_reducible repeat (first | apply Kd.S_alloc | apply Kd.S_drewN | apply Kd.S_drew)); exact Kd.S_mono HO216.out (fun k_ hk => ⟨trivial, fun e_ => hk.2 e_⟩))); (case aS => exact (below_size (by repeat (first | (with_reducible first | exact HB.out | apply below_alloc | apply pw_below_drewN | apply below_drew1) | exact HB.out)))); (case aL => have := LMc5.out; omega); intro v224 w20 ho hb hg hat; rw [← Ny223.out] at ho; have n0_ := Aside0.mk (hb); have n1_ := Aside0.mk (ho); clear HB; clear HO216; clear HO222; have HB := n0_; have HO225 := n1_; clear n0_ n1_; clear ho hb hg hat; obtain ⟨Ao22, co22, eo22⟩ := Kd.S_slice HO225.out; subst eo22) | ((with_reducible refine gate_callee (f := 61) rfl ?_); refine goesL_ (some 15) rfl rfl Try.func61 (by kernel_rfl) rfl #[.slice Ao22 y223.length co22] rfl (by (try simp only [List.map_toArray, List.map_cons, List.map_nil]); first | done | rfl | (simp only [List.length_drop, List.length_take]; rfl)) ?_; (with_reducible refine (impl_LedgerOk.calls k _ _ y223 false _ ?side1 ?side2 A6.out).mono ?_); (case side1 => repeat (first | exact (Kd.S_reads' HO225.out).2.2 | (with_reducible refine Kd.C_alloc ?_ _) | (with_reducible refine Kd.C_drewN ?_ _) | (with_reducible refine Kd.C_drew ?_))); (case side2 => exact (Kd.S_reads' HO225.out).2.1); rintro e w23 ⟨rfl, hb⟩; refine ⟨_, rfl, ?_⟩; have n0_ := Aside0.mk (Kd.S_below (by (with_reducible repeat (first | apply Kd.S_alloc | apply Kd.S_drewN | apply Kd.S_drew)); exact HO225.out) hb); have n1_ := Aside0.mk (below_step (by repeat (first | (with_reducible first | exact HB.out | apply below_alloc | apply pw_below_drewN | apply below_drew1) | exact HB.out)) hb); clear HO225; clear HB; have HO225 := n0_; have HB := n1_; clear n0_ n1_; (try clear hb); (try clear hb2); (try clear hk); (try clear hi)))
        go_ret2
        exact ⟨_, by first | rfl | (simp [errW_none, errW_some] <;> rfl) | (simp [*, errW_none, errW_some] <;> rfl), by first | exact Kd.S_nil _ _ _ _ _ | exact Kd.N_nil _ _ _ _ _ | exact Kd.V_nil _ _ _ _ _ | exact Kd.Q_nil _ _ _ _ _ | exact Kd.R_nil _ _ _ _ _, by repeat (first | (with_reducible first | exact HB.out | apply below_alloc | apply pw_below_drewN | apply below_drew1) | exact HB.out)⟩
    · rw [if_neg c5] at H
      exact absurd H (by simp)
  · rw [if_neg c4] at H
    exact absurd H (by simp)

/-! ### laws_FnExactAddEntry: function 5 -/
--import Derived.WalkSpells
def lw_In (lo hi k : Nat) : Prop := lo ≤ k ∧ k < hi
theorem lw_offS {α : Type} {d : Kd α} {e base lo hi lo2 hi2 : Nat} {w w1 : World} {v : Value} {xs : List α} (h : Kd.S d e w base (lw_In lo hi) v xs) (hk : Kept w w1 (lw_In lo2 hi2)) (hd : hi ≤ lo2 ∨ hi2 ≤ lo) : Kd.S d e w1 base (lw_In lo hi) v xs :=
  Kd.S_step h (fun k ho hlt => hk.2 k hlt (fun h2 => by unfold lw_In at *; omega))
theorem lw_offR {α : Type} {d : Kd α} {e base lo hi lo2 hi2 : Nat} {w w1 : World} {v : Value} {xs : List α} (h : Kd.R d e w base (lw_In lo hi) v xs) (hk : Kept w w1 (lw_In lo2 hi2)) (hd : hi ≤ lo2 ∨ hi2 ≤ lo) : Kd.R d e w1 base (lw_In lo hi) v xs :=
  Kd.R_step h (fun k ho hlt => hk.2 k hlt (fun h2 => by unfold lw_In at *; omega))
structure laws_FnExactAddEntry.Ok (k : Nat) (l0 : List (List Int)) (l1 : List Int) (left : Int) (X0 : List (List Int)) (X1 : List Int) (R0 : List (List Int)) (R1 : Bool) (mx0 : Int) (MX0 : List (List Int)) (mx1 : Int) (MX1 : List Int) (m0 : Int) (M0 : List (List Int)) : Prop where
  len1 : l1.length ≤ 1048576
  sz : laws_szIntSS.f k l0 1048576 = some left
  left0 : 0 ≤ left
  to0 : laws_toIntSS.f k l0 = some X0
  to1 : laws_toIntS.f k l1 = some X1
  sp : spec_AddEntry.f k X0 X1 = some (R0, R1)
  im : impl_AddEntry.f k X0 X1 = some (R0, R1)
  eqR0 : laws_eqIntSS.f k R0 R0 = some true
  eqX0 : laws_eqIntSS.f k X0 X0 = some true
  eqX1 : laws_eqIntS.f k X1 X1 = some true
  mkX0 : laws_markIntSS.f k X0 1 = some (mx0, MX0)
  mkX1 : laws_markIntS.f k X1 mx0 = some (mx1, MX1)
  mx : 0 ≤ mx1
  mkR0 : laws_markIntSS.f k R0 1 = some (m0, M0)
  hd0 : laws_heldIntSS.f k M0 1 = some m0
  pos0 : 0 ≤ m0
def laws_FnExactAddEntry.Good (k : Nat) (l0 : List (List Int)) (l1 : List Int) : Prop := (1048576 < l1.length) ∨ (l1.length ≤ 1048576 ∧ ∃ left, laws_szIntSS.f k l0 1048576 = some left ∧ left < 0) ∨ ∃ (left : Int) (X0 : List (List Int)) (X1 : List Int) (R0 : List (List Int)) (R1 : Bool) (mx0 : Int) (MX0 : List (List Int)) (mx1 : Int) (MX1 : List Int) (m0 : Int) (M0 : List (List Int)), laws_FnExactAddEntry.Ok k l0 l1 left X0 X1 R0 R1 mx0 MX0 mx1 MX1 m0 M0
set_option maxHeartbeats 8000000 in
set_option maxRecDepth 100000 in
theorem laws_FnExactAddEntry.calls (k : Nat) (A0 : Option Addr) (c0 : Nat) (l0 : List (List Int)) (A1 : Option Addr) (c1 : Nat) (l1 : List Int) (w : World) (hr0 : Kd.C (Kd.slice 3 (Kd.int .i64)) w A0 l0.length l0) (hc0 : l0.length ≤ c0) (hr1 : Kd.C (Kd.int .i64) w A1 l1.length l1) (hc1 : l1.length ≤ c1) (h : laws_FnExactAddEntry.Good k l0 l1) :
    Calls Try.prog 5 #[.slice A0 l0.length c0, .slice A1 l1.length c1] w fun e w' => e = .returned (.bool true) ∧ Below w.heap.size w w' := by
  have HA0 := Aside0.mk hr0
  have HC0 := Aside0.mk hc0
  clear hr0 hc0
  have HA1 := Aside0.mk hr1
  have HC1 := Aside0.mk hc1
  clear hr1 hc1
  rcases h with hl | ⟨hn, left, hs, hl⟩ | ⟨left, X0, X1, R0, R1, mx0, MX0, mx1, MX1, m0, M0, hok⟩
  · have tn : decide (1048576 < l1.length) = true := decide_eq_true hl
    have ti : decide ((1048576 : Int) < (l1.length : Int)) = true := decide_eq_true (by omega)
    clear hl
    go_enter Try.func5, Try.ntmps5
    have HB := Aside0.mk (Below.refl w.heap.size w)
    go_wp2
    go_ret
    exact ⟨rfl, by repeat (first | exact HB.out | apply pw_below_drewN | apply below_drew1)⟩
  · have HS := Aside0.mk hs
    have tl : decide (left < 0) = true := decide_eq_true hl
    have tn : decide (1048576 < l1.length) = false := decide_eq_false (by omega)
    have ti : decide ((1048576 : Int) < (l1.length : Int)) = false := decide_eq_false (by omega)
    clear hs hl hn
    go_enter Try.func5, Try.ntmps5
    go_wp2_with fail
    go_at_call 27
    (with_reducible refine (laws_szIntSS.calls k _ _ l0 1048576 left _ HA0.out HC0.out HS.out).mono ?_)
    rintro e w11 ⟨rfl, hb⟩
    replace hb := hb.below
    have HB := Aside0.mk hb
    clear hb
    go_wp2
    go_ret
    exact ⟨rfl, by repeat (first | exact HB.out | apply pw_below_drewN | apply below_drew1)⟩
  · have tmx : decide (mx1 < 0) = false := decide_eq_false (by have := hok.mx; omega)
    have tm0 : decide (m0 < 0) = false := decide_eq_false (by have := hok.pos0; omega)
    have tl : decide (left < 0) = false := decide_eq_false (by have := hok.left0; omega)
    have tn : decide (1048576 < l1.length) = false := decide_eq_false (by have := hok.len1; omega)
    have ti : decide ((1048576 : Int) < (l1.length : Int)) = false := decide_eq_false (by have := hok.len1; omega)
    have HOK := Aside0.mk hok
    clear hok
    have HB := Aside0.mk (Below.refl w.heap.size w)
    go_enter Try.func5, Try.ntmps5
    go_wp2_with fail
    go_at_call 27
    (with_reducible refine (laws_szIntSS.calls k _ _ l0 1048576 left _ (Kd.C_below HA0.out HB.out) HC0.out HOK.out.sz).mono ?_)
    rintro e w11 ⟨rfl, hb⟩
    replace hb := hb.below
    have nHB := Aside0.mk (below_step HB.out hb)
    have Z11 := Aside0.mk (show w.heap.size ≤ w11.heap.size from hb.size)
    clear  HB hb
    have HB := nHB
    clear nHB 
    go_wp2_with fail
    go_at_call 29
    (with_reducible refine (laws_toIntSS.calls k _ _ l0 X0 _ (Kd.C_below HA0.out HB.out) HC0.out HOK.out.to0).mono ?_)
    rintro e w12 ⟨vT0_, rfl, hT0_, hb⟩
    have HT0 := Aside0.mk (show Kd.S (Kd.slice 3 (Kd.int .i64)) 39 w12 w.heap.size (lw_In w11.heap.size w12.heap.size) vT0_ X0 from Kd.S_mono (Kd.S_lower (Kd.S_bound hT0_) HB.out.size) (fun k hk => ⟨hk.2.1, hk.2.2.1⟩))
    clear hT0_
    have nHB := Aside0.mk (below_step HB.out hb)
    have Z12 := Aside0.mk (show w11.heap.size ≤ w12.heap.size from hb.size)
    clear  HB hb
    have HB := nHB
    clear nHB 
    obtain ⟨AT0, cT0, eT0⟩ := Kd.S_slice HT0.out
    subst eT0
    go_wp2_with fail
    go_at_call 30
    (with_reducible refine (laws_toIntS.calls k _ _ l1 X1 _ (Kd.C_below HA1.out HB.out) HC1.out HOK.out.to1).mono ?_)
    rintro e w13 ⟨vT1_, rfl, hT1_, hb⟩
    have HT1 := Aside0.mk (show Kd.R (Kd.int .i64) 3 w13 w.heap.size (lw_In w12.heap.size w13.heap.size) vT1_ X1 from Kd.R_mono (Kd.R_lower (Kd.R_bound hT1_) HB.out.size) (fun k hk => ⟨hk.2.1, hk.2.2.1⟩))
    clear hT1_
    have nHT0 := Aside0.mk (Kd.S_below HT0.out hb)
    have nHB := Aside0.mk (below_step HB.out hb)
    have Z13 := Aside0.mk (show w12.heap.size ≤ w13.heap.size from hb.size)
    clear HT0 HB hb
    have HT0 := nHT0
    have HB := nHB
    clear nHB nHT0
    obtain ⟨AT1, cT1, eT1⟩ := Kd.R_slice HT1.out
    subst eT1
    go_wp2_with fail
    go_at_call 28
    (with_reducible refine (spec_AddEntry.calls k _ _ X0 _ _ X1 R0 R1 _ (Kd.S_reads' HT0.out).2.2 (by rw [← (Kd.S_reads' HT0.out).1]; exact (Kd.S_reads' HT0.out).2.1) (Kd.R_reads' HT1.out).2.2 (by rw [← (Kd.R_reads' HT1.out).1]; exact (Kd.R_reads' HT1.out).2.1) HOK.out.sp).mono ?_)
    rintro e w14 ⟨vS0_, rfl, hS0_, hb⟩
    have HS0 := Aside0.mk (show Kd.S (Kd.slice 3 (Kd.int .i64)) 39 w14 w.heap.size (lw_In w13.heap.size w14.heap.size) vS0_ R0 from Kd.S_mono (Kd.S_lower (Kd.S_bound hS0_) HB.out.size) (fun k hk => ⟨hk.2.1, hk.2.2.1⟩))
    clear hS0_
    have nHT0 := Aside0.mk (Kd.S_below HT0.out hb)
    have nHT1 := Aside0.mk (Kd.R_below HT1.out hb)
    have nHB := Aside0.mk (below_step HB.out hb)
    have Z14 := Aside0.mk (show w13.heap.size ≤ w14.heap.size from hb.size)
    clear HT0 HT1 HB hb
    have HT0 := nHT0
    have HT1 := nHT1
    have HB := nHB
    clear nHB nHT0 nHT1
    obtain ⟨AS0, cS0, eS0⟩ := Kd.S_slice HS0.out
    subst eS0
    clear HT0
    clear HT1
    go_wp2_with fail
    go_at_call 29
    (with_reducible refine (laws_toIntSS.calls k _ _ l0 X0 _ (Kd.C_below HA0.out HB.out) HC0.out HOK.out.to0).mono ?_)
    rintro e w15 ⟨vX0_, rfl, hX0_, hb⟩
    have HX0 := Aside0.mk (show Kd.S (Kd.slice 3 (Kd.int .i64)) 39 w15 w.heap.size (lw_In w14.heap.size w15.heap.size) vX0_ X0 from Kd.S_mono (Kd.S_lower (Kd.S_bound hX0_) HB.out.size) (fun k hk => ⟨hk.2.1, hk.2.2.1⟩))
    clear hX0_
    have nHS0 := Aside0.mk (Kd.S_below HS0.out hb)
    have nHB := Aside0.mk (below_step HB.out hb)
    have Z15 := Aside0.mk (show w14.heap.size ≤ w15.heap.size from hb.size)
    clear HS0 HB hb
    have HS0 := nHS0
    have HB := nHB
    clear nHB nHS0
    obtain ⟨AX0, cX0, eX0⟩ := Kd.S_slice HX0.out
    subst eX0
    go_wp2_with fail
    go_at_call 30
    (with_reducible refine (laws_toIntS.calls k _ _ l1 X1 _ (Kd.C_below HA1.out HB.out) HC1.out HOK.out.to1).mono ?_)
    rintro e w16 ⟨vX1_, rfl, hX1_, hb⟩
    have HX1 := Aside0.mk (show Kd.R (Kd.int .i64) 3 w16 w.heap.size (lw_In w15.heap.size w16.heap.size) vX1_ X1 from Kd.R_mono (Kd.R_lower (Kd.R_bound hX1_) HB.out.size) (fun k hk => ⟨hk.2.1, hk.2.2.1⟩))
    clear hX1_
    have nHS0 := Aside0.mk (Kd.S_below HS0.out hb)
    have nHX0 := Aside0.mk (Kd.S_below HX0.out hb)
    have nHB := Aside0.mk (below_step HB.out hb)
    have Z16 := Aside0.mk (show w15.heap.size ≤ w16.heap.size from hb.size)
    clear HS0 HX0 HB hb
    have HS0 := nHS0
    have HX0 := nHX0
    have HB := nHB
    clear nHB nHS0 nHX0
    obtain ⟨AX1, cX1, eX1⟩ := Kd.R_slice HX1.out
    subst eX1
    go_wp2_with fail
    go_at_call 31
    (with_reducible refine (impl_AddEntry.calls k _ _ X0 _ _ X1 R0 R1 _ (Kd.S_reads' HX0.out).2.2 (by rw [← (Kd.S_reads' HX0.out).1]; exact (Kd.S_reads' HX0.out).2.1) (Kd.R_reads' HX1.out).2.2 (by rw [← (Kd.R_reads' HX1.out).1]; exact (Kd.R_reads' HX1.out).2.1) HOK.out.im).mono ?_)
    rintro e w17 ⟨vG0_, rfl, hG0_, hb⟩
    have HG0 := Aside0.mk (show Kd.S (Kd.slice 3 (Kd.int .i64)) 39 w17 w.heap.size (lw_In w16.heap.size w17.heap.size) vG0_ R0 from Kd.S_mono (Kd.S_lower (Kd.S_bound hG0_) HB.out.size) (fun k hk => ⟨hk.2.1, hk.2.2.1⟩))
    clear hG0_
    have nHS0 := Aside0.mk (Kd.S_below HS0.out hb)
    have nHX0 := Aside0.mk (Kd.S_below HX0.out hb)
    have nHX1 := Aside0.mk (Kd.R_below HX1.out hb)
    have nHB := Aside0.mk (below_step HB.out hb)
    have Z17 := Aside0.mk (show w16.heap.size ≤ w17.heap.size from hb.size)
    clear HS0 HX0 HX1 HB hb
    have HS0 := nHS0
    have HX0 := nHX0
    have HX1 := nHX1
    have HB := nHB
    clear nHB nHS0 nHX0 nHX1
    obtain ⟨AG0, cG0, eG0⟩ := Kd.S_slice HG0.out
    subst eG0
    go_wp2_with fail
    go_at_call 22
    (with_reducible refine (laws_eqIntSS.calls k _ _ _ _ _ _ true _ (Kd.S_reads' HG0.out).2.2 (by rw [← (Kd.S_reads' HG0.out).1]; exact (Kd.S_reads' HG0.out).2.1) (Kd.S_reads' HS0.out).2.2 (by rw [← (Kd.S_reads' HS0.out).1]; exact (Kd.S_reads' HS0.out).2.1) HOK.out.eqR0).mono ?_)
    rintro e w18 ⟨rfl, hb⟩
    replace hb := hb.below
    have nHS0 := Aside0.mk (Kd.S_below HS0.out hb)
    have nHX0 := Aside0.mk (Kd.S_below HX0.out hb)
    have nHX1 := Aside0.mk (Kd.R_below HX1.out hb)
    have nHG0 := Aside0.mk (Kd.S_below HG0.out hb)
    have nHB := Aside0.mk (below_step HB.out hb)
    have Z18 := Aside0.mk (show w17.heap.size ≤ w18.heap.size from hb.size)
    clear HS0 HX0 HX1 HG0 HB hb
    have HS0 := nHS0
    have HX0 := nHX0
    have HX1 := nHX1
    have HG0 := nHG0
    have HB := nHB
    clear nHB nHS0 nHX0 nHX1 nHG0
    go_wp2_with fail
    go_at_call 29
    (with_reducible refine (laws_toIntSS.calls k _ _ l0 X0 _ (Kd.C_below HA0.out HB.out) HC0.out HOK.out.to0).mono ?_)
    rintro e w19 ⟨vT0_, rfl, hT0_, hb⟩
    have HT0 := Aside0.mk (show Kd.S (Kd.slice 3 (Kd.int .i64)) 39 w19 w.heap.size (lw_In w18.heap.size w19.heap.size) vT0_ X0 from Kd.S_mono (Kd.S_lower (Kd.S_bound hT0_) HB.out.size) (fun k hk => ⟨hk.2.1, hk.2.2.1⟩))
    clear hT0_
    have nHS0 := Aside0.mk (Kd.S_below HS0.out hb)
    have nHX0 := Aside0.mk (Kd.S_below HX0.out hb)
    have nHX1 := Aside0.mk (Kd.R_below HX1.out hb)
    have nHG0 := Aside0.mk (Kd.S_below HG0.out hb)
    have nHB := Aside0.mk (below_step HB.out hb)
    have Z19 := Aside0.mk (show w18.heap.size ≤ w19.heap.size from hb.size)
    clear HS0 HX0 HX1 HG0 HB hb
    have HS0 := nHS0
    have HX0 := nHX0
    have HX1 := nHX1
    have HG0 := nHG0
    have HB := nHB
    clear nHB nHS0 nHX0 nHX1 nHG0
    obtain ⟨AT0, cT0, eT0⟩ := Kd.S_slice HT0.out
    subst eT0
    go_wp2_with fail
    go_at_call 22
    (with_reducible refine (laws_eqIntSS.calls k _ _ _ _ _ _ true _ (Kd.S_reads' HX0.out).2.2 (by rw [← (Kd.S_reads' HX0.out).1]; exact (Kd.S_reads' HX0.out).2.1) (Kd.S_reads' HT0.out).2.2 (by rw [← (Kd.S_reads' HT0.out).1]; exact (Kd.S_reads' HT0.out).2.1) HOK.out.eqX0).mono ?_)
    rintro e w20 ⟨rfl, hb⟩
    replace hb := hb.below
    have nHS0 := Aside0.mk (Kd.S_below HS0.out hb)
    have nHX0 := Aside0.mk (Kd.S_below HX0.out hb)
    have nHX1 := Aside0.mk (Kd.R_below HX1.out hb)
    have nHG0 := Aside0.mk (Kd.S_below HG0.out hb)
    have nHT0 := Aside0.mk (Kd.S_below HT0.out hb)
    have nHB := Aside0.mk (below_step HB.out hb)
    have Z20 := Aside0.mk (show w19.heap.size ≤ w20.heap.size from hb.size)
    clear HS0 HX0 HX1 HG0 HT0 HB hb
    have HS0 := nHS0
    have HX0 := nHX0
    have HX1 := nHX1
    have HG0 := nHG0
    have HT0 := nHT0
    have HB := nHB
    clear nHB nHS0 nHX0 nHX1 nHG0 nHT0
    clear HT0
    go_wp2_with fail
    go_at_call 30
    (with_reducible refine (laws_toIntS.calls k _ _ l1 X1 _ (Kd.C_below HA1.out HB.out) HC1.out HOK.out.to1).mono ?_)
    rintro e w21 ⟨vT1_, rfl, hT1_, hb⟩
    have HT1 := Aside0.mk (show Kd.R (Kd.int .i64) 3 w21 w.heap.size (lw_In w20.heap.size w21.heap.size) vT1_ X1 from Kd.R_mono (Kd.R_lower (Kd.R_bound hT1_) HB.out.size) (fun k hk => ⟨hk.2.1, hk.2.2.1⟩))
    clear hT1_
    have nHS0 := Aside0.mk (Kd.S_below HS0.out hb)
    have nHX0 := Aside0.mk (Kd.S_below HX0.out hb)
    have nHX1 := Aside0.mk (Kd.R_below HX1.out hb)
    have nHG0 := Aside0.mk (Kd.S_below HG0.out hb)
    have nHB := Aside0.mk (below_step HB.out hb)
    have Z21 := Aside0.mk (show w20.heap.size ≤ w21.heap.size from hb.size)
    clear HS0 HX0 HX1 HG0 HB hb
    have HS0 := nHS0
    have HX0 := nHX0
    have HX1 := nHX1
    have HG0 := nHG0
    have HB := nHB
    clear nHB nHS0 nHX0 nHX1 nHG0
    obtain ⟨AT1, cT1, eT1⟩ := Kd.R_slice HT1.out
    subst eT1
    go_wp2_with fail
    go_at_call 32
    (with_reducible refine (laws_eqIntS.calls k _ _ _ _ _ _ true _ (Kd.R_reads' HX1.out).2.2 (by rw [← (Kd.R_reads' HX1.out).1]; exact (Kd.R_reads' HX1.out).2.1) (Kd.R_reads' HT1.out).2.2 (by rw [← (Kd.R_reads' HT1.out).1]; exact (Kd.R_reads' HT1.out).2.1) HOK.out.eqX1).mono ?_)
    rintro e w22 ⟨rfl, hb⟩
    replace hb := hb.below
    have nHS0 := Aside0.mk (Kd.S_below HS0.out hb)
    have nHX0 := Aside0.mk (Kd.S_below HX0.out hb)
    have nHX1 := Aside0.mk (Kd.R_below HX1.out hb)
    have nHG0 := Aside0.mk (Kd.S_below HG0.out hb)
    have nHT1 := Aside0.mk (Kd.R_below HT1.out hb)
    have nHB := Aside0.mk (below_step HB.out hb)
    have Z22 := Aside0.mk (show w21.heap.size ≤ w22.heap.size from hb.size)
    clear HS0 HX0 HX1 HG0 HT1 HB hb
    have HS0 := nHS0
    have HX0 := nHX0
    have HX1 := nHX1
    have HG0 := nHG0
    have HT1 := nHT1
    have HB := nHB
    clear nHB nHS0 nHX0 nHX1 nHG0 nHT1
    clear HT1
    go_wp2_with fail
    go_at_call 25
    (with_reducible refine (laws_markIntSS.calls k (lw_In w14.heap.size w15.heap.size) _ _ 1 mx0 MX0 w _ HB.out HX0.out HOK.out.mkX0).mono ?_)
    rintro e w23 ⟨rfl, hs, hb, hk⟩
    have nHS0 := Aside0.mk (lw_offS HS0.out hk (by have := Z11.out; have := Z12.out; have := Z13.out; have := Z14.out; have := Z15.out; have := Z16.out; have := Z17.out; have := Z18.out; have := Z19.out; have := Z20.out; have := Z21.out; have := Z22.out; omega))
    have nHX1 := Aside0.mk (lw_offR HX1.out hk (by have := Z11.out; have := Z12.out; have := Z13.out; have := Z14.out; have := Z15.out; have := Z16.out; have := Z17.out; have := Z18.out; have := Z19.out; have := Z20.out; have := Z21.out; have := Z22.out; omega))
    have nHG0 := Aside0.mk (lw_offS HG0.out hk (by have := Z11.out; have := Z12.out; have := Z13.out; have := Z14.out; have := Z15.out; have := Z16.out; have := Z17.out; have := Z18.out; have := Z19.out; have := Z20.out; have := Z21.out; have := Z22.out; omega))
    have Z23 := Aside0.mk (show w22.heap.size ≤ w23.heap.size from hk.1)
    have nHX0 := Aside0.mk (show Kd.S (Kd.slice 3 (Kd.int .i64)) 39 w23 w.heap.size (fun _ => True) _ MX0 from Kd.S_mono hs (fun _ _ => trivial))
    have nHB := Aside0.mk hb
    clear HS0 HX0 HX1 HG0 HB hs hb hk
    have HS0 := nHS0
    have HX0 := nHX0
    have HX1 := nHX1
    have HG0 := nHG0
    have HB := nHB
    clear nHB nHS0 nHX0 nHX1 nHG0
    clear HX0
    go_wp2_with fail
    go_at_call 33
    (with_reducible refine (laws_markIntS.calls k (lw_In w15.heap.size w16.heap.size) _ _ mx0 mx1 MX1 w _ HB.out HX1.out HOK.out.mkX1).mono ?_)
    rintro e w24 ⟨rfl, hs, hb, hk⟩
    have nHS0 := Aside0.mk (lw_offS HS0.out hk (by have := Z11.out; have := Z12.out; have := Z13.out; have := Z14.out; have := Z15.out; have := Z16.out; have := Z17.out; have := Z18.out; have := Z19.out; have := Z20.out; have := Z21.out; have := Z22.out; have := Z23.out; omega))
    have nHG0 := Aside0.mk (lw_offS HG0.out hk (by have := Z11.out; have := Z12.out; have := Z13.out; have := Z14.out; have := Z15.out; have := Z16.out; have := Z17.out; have := Z18.out; have := Z19.out; have := Z20.out; have := Z21.out; have := Z22.out; have := Z23.out; omega))
    have Z24 := Aside0.mk (show w23.heap.size ≤ w24.heap.size from hk.1)
    have nHX1 := Aside0.mk (show Kd.R (Kd.int .i64) 3 w24 w.heap.size (fun _ => True) _ MX1 from Kd.R_mono hs (fun _ _ => trivial))
    have nHB := Aside0.mk hb
    clear HS0 HX1 HG0 HB hs hb hk
    have HS0 := nHS0
    have HX1 := nHX1
    have HG0 := nHG0
    have HB := nHB
    clear nHB nHS0 nHX1 nHG0
    clear HX1
    go_wp2_with fail
    go_at_call 22
    (with_reducible refine (laws_eqIntSS.calls k _ _ _ _ _ _ true _ (Kd.S_reads' HG0.out).2.2 (by rw [← (Kd.S_reads' HG0.out).1]; exact (Kd.S_reads' HG0.out).2.1) (Kd.S_reads' HS0.out).2.2 (by rw [← (Kd.S_reads' HS0.out).1]; exact (Kd.S_reads' HS0.out).2.1) HOK.out.eqR0).mono ?_)
    rintro e w25 ⟨rfl, hb⟩
    replace hb := hb.below
    have nHS0 := Aside0.mk (Kd.S_below HS0.out hb)
    have nHG0 := Aside0.mk (Kd.S_below HG0.out hb)
    have nHB := Aside0.mk (below_step HB.out hb)
    have Z25 := Aside0.mk (show w24.heap.size ≤ w25.heap.size from hb.size)
    clear HS0 HG0 HB hb
    have HS0 := nHS0
    have HG0 := nHG0
    have HB := nHB
    clear nHB nHS0 nHG0
    go_wp2_with fail
    go_at_call 25
    (with_reducible refine (laws_markIntSS.calls k (lw_In w16.heap.size w17.heap.size) _ _ 1 m0 M0 w _ HB.out HG0.out HOK.out.mkR0).mono ?_)
    rintro e w26 ⟨rfl, hs, hb, hk⟩
    have nHS0 := Aside0.mk (lw_offS HS0.out hk (by have := Z11.out; have := Z12.out; have := Z13.out; have := Z14.out; have := Z15.out; have := Z16.out; have := Z17.out; have := Z18.out; have := Z19.out; have := Z20.out; have := Z21.out; have := Z22.out; have := Z23.out; have := Z24.out; have := Z25.out; omega))
    have Z26 := Aside0.mk (show w25.heap.size ≤ w26.heap.size from hk.1)
    have nHG0 := Aside0.mk (show Kd.S (Kd.slice 3 (Kd.int .i64)) 39 w26 w.heap.size (fun _ => True) _ M0 from Kd.S_mono hs (fun _ _ => trivial))
    have nHB := Aside0.mk hb
    clear HS0 HG0 HB hs hb hk
    have HS0 := nHS0
    have HG0 := nHG0
    have HB := nHB
    clear nHB nHS0 nHG0
    have cc := laws_heldIntSS.calls k AG0 cG0 M0 1 m0 w26 (Kd.S_reads' HG0.out).2.2 (by rw [← (Kd.S_reads' HG0.out).1]; exact (Kd.S_reads' HG0.out).2.1) HOK.out.hd0
    rw [← (Kd.S_reads' HG0.out).1] at cc
    have CC := Aside0.mk cc
    clear cc
    go_wp2_with fail
    go_at_call 26
    (with_reducible refine (CC.out).mono ?_)
    rintro e w27 ⟨rfl, hb⟩
    replace hb := hb.below
    have nHS0 := Aside0.mk (Kd.S_below HS0.out hb)
    have nHG0 := Aside0.mk (Kd.S_below HG0.out hb)
    have nHB := Aside0.mk (below_step HB.out hb)
    have Z27 := Aside0.mk (show w26.heap.size ≤ w27.heap.size from hb.size)
    clear HS0 HG0 HB hb
    have HS0 := nHS0
    have HG0 := nHG0
    have HB := nHB
    clear nHB nHS0 nHG0
    clear CC
    go_wp2_with fail
    go_at_call 29
    (with_reducible refine (laws_toIntSS.calls k _ _ l0 X0 _ (Kd.C_below HA0.out HB.out) HC0.out HOK.out.to0).mono ?_)
    rintro e w28 ⟨vT0_, rfl, hT0_, hb⟩
    have HT0 := Aside0.mk (show Kd.S (Kd.slice 3 (Kd.int .i64)) 39 w28 w.heap.size (lw_In w27.heap.size w28.heap.size) vT0_ X0 from Kd.S_mono (Kd.S_lower (Kd.S_bound hT0_) HB.out.size) (fun k hk => ⟨hk.2.1, hk.2.2.1⟩))
    clear hT0_
    have nHS0 := Aside0.mk (Kd.S_below HS0.out hb)
    have nHG0 := Aside0.mk (Kd.S_below HG0.out hb)
    have nHB := Aside0.mk (below_step HB.out hb)
    have Z28 := Aside0.mk (show w27.heap.size ≤ w28.heap.size from hb.size)
    clear HS0 HG0 HB hb
    have HS0 := nHS0
    have HG0 := nHG0
    have HB := nHB
    clear nHB nHS0 nHG0
    obtain ⟨AT0, cT0, eT0⟩ := Kd.S_slice HT0.out
    subst eT0
    go_wp2_with fail
    go_at_call 30
    (with_reducible refine (laws_toIntS.calls k _ _ l1 X1 _ (Kd.C_below HA1.out HB.out) HC1.out HOK.out.to1).mono ?_)
    rintro e w29 ⟨vT1_, rfl, hT1_, hb⟩
    have HT1 := Aside0.mk (show Kd.R (Kd.int .i64) 3 w29 w.heap.size (lw_In w28.heap.size w29.heap.size) vT1_ X1 from Kd.R_mono (Kd.R_lower (Kd.R_bound hT1_) HB.out.size) (fun k hk => ⟨hk.2.1, hk.2.2.1⟩))
    clear hT1_
    have nHS0 := Aside0.mk (Kd.S_below HS0.out hb)
    have nHG0 := Aside0.mk (Kd.S_below HG0.out hb)
    have nHT0 := Aside0.mk (Kd.S_below HT0.out hb)
    have nHB := Aside0.mk (below_step HB.out hb)
    have Z29 := Aside0.mk (show w28.heap.size ≤ w29.heap.size from hb.size)
    clear HS0 HG0 HT0 HB hb
    have HS0 := nHS0
    have HG0 := nHG0
    have HT0 := nHT0
    have HB := nHB
    clear nHB nHS0 nHG0 nHT0
    obtain ⟨AT1, cT1, eT1⟩ := Kd.R_slice HT1.out
    subst eT1
    go_wp2_with fail
    go_at_call 31
    (with_reducible refine (impl_AddEntry.calls k _ _ X0 _ _ X1 R0 R1 _ (Kd.S_reads' HT0.out).2.2 (by rw [← (Kd.S_reads' HT0.out).1]; exact (Kd.S_reads' HT0.out).2.1) (Kd.R_reads' HT1.out).2.2 (by rw [← (Kd.R_reads' HT1.out).1]; exact (Kd.R_reads' HT1.out).2.1) HOK.out.im).mono ?_)
    rintro e w30 ⟨vH0_, rfl, hH0_, hb⟩
    have HH0 := Aside0.mk (show Kd.S (Kd.slice 3 (Kd.int .i64)) 39 w30 w.heap.size (lw_In w29.heap.size w30.heap.size) vH0_ R0 from Kd.S_mono (Kd.S_lower (Kd.S_bound hH0_) HB.out.size) (fun k hk => ⟨hk.2.1, hk.2.2.1⟩))
    clear hH0_
    have nHS0 := Aside0.mk (Kd.S_below HS0.out hb)
    have nHG0 := Aside0.mk (Kd.S_below HG0.out hb)
    have nHT0 := Aside0.mk (Kd.S_below HT0.out hb)
    have nHT1 := Aside0.mk (Kd.R_below HT1.out hb)
    have nHB := Aside0.mk (below_step HB.out hb)
    have Z30 := Aside0.mk (show w29.heap.size ≤ w30.heap.size from hb.size)
    clear HS0 HG0 HT0 HT1 HB hb
    have HS0 := nHS0
    have HG0 := nHG0
    have HT0 := nHT0
    have HT1 := nHT1
    have HB := nHB
    clear nHB nHS0 nHG0 nHT0 nHT1
    obtain ⟨AH0, cH0, eH0⟩ := Kd.S_slice HH0.out
    subst eH0
    clear HT0
    clear HT1
    go_wp2_with fail
    go_at_call 22
    (with_reducible refine (laws_eqIntSS.calls k _ _ _ _ _ _ true _ (Kd.S_reads' HH0.out).2.2 (by rw [← (Kd.S_reads' HH0.out).1]; exact (Kd.S_reads' HH0.out).2.1) (Kd.S_reads' HS0.out).2.2 (by rw [← (Kd.S_reads' HS0.out).1]; exact (Kd.S_reads' HS0.out).2.1) HOK.out.eqR0).mono ?_)
    rintro e w31 ⟨rfl, hb⟩
    replace hb := hb.below
    have nHS0 := Aside0.mk (Kd.S_below HS0.out hb)
    have nHG0 := Aside0.mk (Kd.S_below HG0.out hb)
    have nHH0 := Aside0.mk (Kd.S_below HH0.out hb)
    have nHB := Aside0.mk (below_step HB.out hb)
    have Z31 := Aside0.mk (show w30.heap.size ≤ w31.heap.size from hb.size)
    clear HS0 HG0 HH0 HB hb
    have HS0 := nHS0
    have HG0 := nHG0
    have HH0 := nHH0
    have HB := nHB
    clear nHB nHS0 nHG0 nHH0
    have cc := laws_heldIntSS.calls k AG0 cG0 M0 1 m0 w31 (Kd.S_reads' HG0.out).2.2 (by rw [← (Kd.S_reads' HG0.out).1]; exact (Kd.S_reads' HG0.out).2.1) HOK.out.hd0
    rw [← (Kd.S_reads' HG0.out).1] at cc
    have CC := Aside0.mk cc
    clear cc
    go_wp2_with fail
    go_at_call 26
    (with_reducible refine (CC.out).mono ?_)
    rintro e w32 ⟨rfl, hb⟩
    replace hb := hb.below
    have nHS0 := Aside0.mk (Kd.S_below HS0.out hb)
    have nHG0 := Aside0.mk (Kd.S_below HG0.out hb)
    have nHH0 := Aside0.mk (Kd.S_below HH0.out hb)
    have nHB := Aside0.mk (below_step HB.out hb)
    have Z32 := Aside0.mk (show w31.heap.size ≤ w32.heap.size from hb.size)
    clear HS0 HG0 HH0 HB hb
    have HS0 := nHS0
    have HG0 := nHG0
    have HH0 := nHH0
    have HB := nHB
    clear nHB nHS0 nHG0 nHH0
    clear CC
    go_wp2
    go_ret
    exact ⟨rfl, by repeat (first | exact HB.out | apply pw_below_drewN | apply below_drew1)⟩

end Go.Proofs.Yteelfcmlghjknaa.QFnExactAddEntry
