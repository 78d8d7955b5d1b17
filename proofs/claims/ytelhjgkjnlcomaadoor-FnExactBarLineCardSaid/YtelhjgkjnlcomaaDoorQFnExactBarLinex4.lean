-- Printed for this claim by a changed copy of the kit's print (the session's own; own contracts in place of some functions).
import Derived.Test.YtelhjgkjnlcomaaDoorQFnExactBarLinex0
import Derived.Test.YtelhjgkjnlcomaaDoorQFnExactBarLinex1
import Derived.Test.YtelhjgkjnlcomaaDoorQFnExactBarLinex3
namespace Go.Proofs.YtelhjgkjnlcomaaDoor.QFnExactBarLine
open Go.RowKit Go.Proofs.YtelhjgkjnlcomaaDoorW.PrintWords Go.Proofs.YtelhjgkjnlcomaaDoorW.PrintLast Go.Proofs.YtelhjgkjnlcomaaDoorW.PrintMore
attribute [local go_sem] max2_int min2_int max_two min_two max_three min_three max_four min_four   -- for this text's walks alone
set_option linter.unusedVariables false
set_option linter.unusedSimpArgs false

/-! ### spec_FormatNumbers: function 27 -/
def spec_FormatNumbers.l0 : Nat → List ByteArray → List Int → Int → Int → Option (ByteArray)
  | 0, _, _, _, _ => none
  | k + 1, x3, x10, x11, x12 => if x12 < x11 then (if 0 ≤ x12 then (if x12 < (x10.length : Int) then ((spec_FormatInt.f k (rd x10 x12)).bind fun t162 => (if x3.length < 8796093022208 then (spec_FormatNumbers.l0 k (x3 ++ [t162]) x10 x11 (wrap64 (x12 + 1))) else (none))) else (none)) else (none)) else (if (x3.length : Int) = 0 then (some (⟨#[45]⟩ : ByteArray)) else ((spec_Join.f k x3 (⟨#[44]⟩ : ByteArray)).bind fun t166 => (some t166)))
def spec_FormatNumbers.f (k : Nat) (l0 : List Int) : Option (ByteArray) := if (l0.length : Int) > 40 then (some (⟨#[]⟩ : ByteArray)) else (spec_FormatNumbers.l0 k (([] : List ByteArray)) l0 (l0.length : Int) 0)
theorem spec_FormatNumbers.mono_l : ∀ k, (∀ y0 y1 y2 y3, LeO (spec_FormatNumbers.l0 k y0 y1 y2 y3) (spec_FormatNumbers.l0 (k + 1) y0 y1 y2 y3))
  | 0 => fun _ _ _ _ r h => by simp [spec_FormatNumbers.l0] at h
  | k + 1 => by
    have ih0 := spec_FormatNumbers.mono_l k
    · intro y0 y1 y2 y3
      unfold spec_FormatNumbers.l0
      repeat' first
      | (with_reducible exact ih0 _ _ _ _)
      | (with_reducible exact spec_FormatInt.mono _ _)
      | (with_reducible exact spec_Join.mono _ _ _)
      | (with_reducible exact LeO.refl _)
      | (with_reducible exact LeO.none _)
      | (with_reducible refine LeO.ite ?_ ?_)
      | (with_reducible refine LeO.bind ?_ (fun _ => ?_))
      | exact ih0 _ _ _ _
      | exact spec_FormatInt.mono _ _
      | exact spec_Join.mono _ _ _
      | exact LeO.none _
      | refine LeO.ite ?_ ?_
      | refine LeO.bind ?_ (fun _ => ?_)
theorem spec_FormatNumbers.mono : ∀ a0 k, LeO (spec_FormatNumbers.f k a0) (spec_FormatNumbers.f (k + 1) a0) := by
  intro a0 k
  have ih0 := spec_FormatNumbers.mono_l k
  unfold spec_FormatNumbers.f
  repeat' first
      | (with_reducible exact ih0 _ _ _ _)
      | (with_reducible exact spec_FormatInt.mono _ _)
      | (with_reducible exact spec_Join.mono _ _ _)
      | (with_reducible exact LeO.refl _)
      | (with_reducible exact LeO.none _)
      | (with_reducible refine LeO.ite ?_ ?_)
      | (with_reducible refine LeO.bind ?_ (fun _ => ?_))
      | exact ih0 _ _ _ _
      | exact spec_FormatInt.mono _ _
      | exact spec_Join.mono _ _ _
      | exact LeO.none _
      | refine LeO.ite ?_ ?_
      | refine LeO.bind ?_ (fun _ => ?_)
set_option maxHeartbeats 8000000 in
set_option maxRecDepth 100000 in
theorem spec_FormatNumbers.calls (k : Nat) (A0 : Option Addr) (c0 : Nat) (l0 : List Int) (r : ByteArray) (w : World) (hr0 : Kd.C (Kd.int .i64) w A0 l0.length l0) (hc0 : l0.length ≤ c0) (h : spec_FormatNumbers.f k l0 = some r) :
    Calls Tryd.prog 27 #[.slice A0 l0.length c0] w fun e w' => e = .returned (.string r) ∧ Below w.heap.size w w' := by
  have HR0 := Aside0.mk hr0
  have HC0 := Aside0.mk hc0
  clear hr0 hc0
  have HB := Aside0.mk (Below.refl w.heap.size w)
  have H : (if (l0.length : Int) > 40 then (some (⟨#[]⟩ : ByteArray)) else (spec_FormatNumbers.l0 k (([] : List ByteArray)) l0 (l0.length : Int) 0)) = some r := h
  clear h
  by_cases c2 : (l0.length : Int) > 40
  · rw [if_pos c2] at H
    have c2b0 : decide (40 < (l0.length : Int)) = true := decide_eq_true c2
    have c2b1 : decide (40 < l0.length) = true := decide_eq_true (by omega)
    clear c2
    obtain rfl := Option.some.inj H
    go_enter Tryd.func27, Tryd.ntmps27
    go_wp2
    go_ret
    exact ⟨by first | rfl | (simp [errW_none, errW_some] <;> rfl) | (simp [*, errW_none, errW_some] <;> rfl), by repeat (first | (with_reducible first | exact HB.out | apply below_alloc | apply pw_below_drewN | apply below_drew1) | exact HB.out)⟩
  · rw [if_neg c2] at H
    have c2b0 : decide (40 < (l0.length : Int)) = false := decide_eq_false c2
    have c2b1 : decide (40 < l0.length) = false := decide_eq_false (by omega)
    clear c2
    obtain ⟨y158, hy158⟩ : ∃ y_ : List ByteArray, y_ = (([] : List ByteArray)) := ⟨_, rfl⟩
    replace H : (spec_FormatNumbers.l0 k y158 l0 (l0.length : Int) 0) = some r := by first | (rw [hy158]; with_reducible exact H) | (have H2_ := (Option.bind_some _ _).symm.trans H; rw [hy158]; with_reducible exact H2_) | (have H2_ := (Option.bind_some _ _).symm.trans H; with_reducible exact H2_) | with_reducible exact H | (rw [hy158]; exact H) | exact H
    have Ny158 := Aside0.mk hy158
    clear hy158
    have H' := Aside0.mk H
    clear H
    go_enter Tryd.func27, Tryd.ntmps27
    go_wp2_with (first | ((with_reducible refine gate_dst (N := 9) rfl ?_); refine Kd.R_lit Kd.string _ 9 ?hg (N := 9) ?hd (xs := ([] : List ByteArray)) (inner := []) (ok := fun _ => True) (okp := fun _ => True) ?hr ?hp (fun _ hk => hk) trivial (Below.refl _ _) (Nat.le_refl _) (by simp) ?_; (case hd => rfl); (case hg => rfl); (case hr => first | (go_simp; done) | (go_simp; rfl)); (case hp => exact (Reps.none _ _)); intro v159 w3 ho4 hb hg_ hnew_; clear hg_ hnew_; (first | rw [← Ny158.out] at ho4 | (simp only [Int.reduceToNat] at ho4; rw [← Ny158.out] at ho4)); have n0_ := Aside0.mk (Kd.R_lower ho4 (below_size (by repeat (first | (with_reducible first | exact HB.out | apply below_alloc | apply pw_below_drewN | apply below_drew1) | exact HB.out)))); have n1_ := Aside0.mk (below_step (by repeat (first | (with_reducible first | exact HB.out | apply below_alloc | apply pw_below_drewN | apply below_drew1) | exact HB.out)) hb); clear HB; have HO160 := n0_; have HB := n1_; clear n0_ n1_; clear hb ho4))
    go_loopg [3, 12] k (fun kq v3 v12 w' => ∃ (x3_1 : List ByteArray) (x12_1 : Int), v12 = .int .i64 x12_1 ∧ Aside0 (spec_FormatNumbers.l0 kq x3_1 l0 (l0.length : Int) x12_1 = some r) ∧ Aside0 (kq ≤ k) ∧ Aside0 (Kd.R Kd.string 9 w' w.heap.size (fun _ => True) v3 x3_1) ∧ Aside0 (Below w.heap.size w w'))
    case atStart => exact ⟨(y158), (0), (by first | rfl | (simp; done) | (simp [*]; done)), H', ⟨Nat.le_refl _⟩, ⟨by (with_reducible repeat (first | apply Kd.R_alloc | apply Kd.R_drewN | apply Kd.R_drew)); exact HO160.out⟩, ⟨by repeat (first | (with_reducible first | exact HB.out | apply below_alloc | apply pw_below_drewN | apply below_drew1) | exact HB.out)⟩⟩
    case round =>
      clear H'
      try clear c2
      try clear c2b0
      try clear c2b1
      try clear p2
      obtain ⟨x3_1, x12_1, rfl, HA, HK1, HO_3, HB⟩ := hrel
      cases gk with
      | zero => exact absurd HA.out (by simp [spec_FormatNumbers.l0])
      | succ k1 =>
        have H := HA.out
        clear HA
        simp only [spec_FormatNumbers.l0] at H
        by_cases c5 : x12_1 < (l0.length : Int)
        · rw [if_pos c5] at H
          have c5b0 : decide (x12_1 < (l0.length : Int)) = true := decide_eq_true c5
          clear c5
          by_cases c6 : 0 ≤ x12_1
          · rw [if_pos c6] at H
            have c6b0 : decide (0 ≤ x12_1) = true := decide_eq_true c6
            clear c6
            by_cases c7 : x12_1 < (l0.length : Int)
            · rw [if_pos c7] at H
              have c7b0 : decide (x12_1 < (l0.length : Int)) = true := decide_eq_true c7
              clear c7
              replace H := Option.bind_eq_some_iff.mp H
              obtain ⟨t162, A80, H⟩ := H
              replace H : (if x3_1.length < 8796093022208 then (spec_FormatNumbers.l0 k1 (x3_1 ++ [t162]) l0 (l0.length : Int) (wrap64 (x12_1 + 1))) else (none)) = some r := H
              have A8 := Aside0.mk A80
              clear A80
              by_cases c9 : x3_1.length < 8796093022208
              · rw [if_pos c9] at H
                have LMc9 := Aside0.mk c9
                clear c9
                obtain ⟨y163, hy163⟩ : ∃ y_ : List ByteArray, y_ = (x3_1 ++ [t162]) := ⟨_, rfl⟩
                replace H : (spec_FormatNumbers.l0 k1 y163 l0 (l0.length : Int) (wrap64 (x12_1 + 1))) = some r := by first | (rw [hy163]; with_reducible exact H) | (have H2_ := (Option.bind_some _ _).symm.trans H; rw [hy163]; with_reducible exact H2_) | (have H2_ := (Option.bind_some _ _).symm.trans H; with_reducible exact H2_) | with_reducible exact H | (rw [hy163]; exact H) | exact H
                have Ny163 := Aside0.mk hy163
                clear hy163
                have H' := Aside0.mk H
                clear H
                have p161 : 0 ≤ (x12_1 : Int) := of_decide_eq_true (by first | (with_reducible assumption) | assumption)
                have q161 : x12_1 < (l0.length : Int) := of_decide_eq_true (by first | (with_reducible assumption) | assumption)
                obtain ⟨ad161, e161, hx161_0⟩ := Kd.at_int HR0.out x12_1 p161 q161
                cases e161
                (try replace hx161_0 := (HB.out.cell (World.block_lt_of_cell? w _ hx161_0)).trans hx161_0)
                replace p161 := eq_true p161
                replace q161 := eq_true q161
                go_wp2_with (first | ((with_reducible refine gate_callee (f := 24) rfl ?_); refine goesL_ (some 18) rfl rfl Tryd.func24 (by kernel_rfl) rfl #[.int .i64 (rd l0 x12_1)] rfl (by (try simp only [List.map_toArray, List.map_cons, List.map_nil]); first | done | rfl | (simp only [List.length_drop, List.length_take]; rfl)) ?_; (with_reducible refine (spec_FormatInt.calls k1 (rd l0 x12_1) t162 _ A8.out).mono ?_); rintro e w10 ⟨rfl, hb⟩; refine ⟨_, rfl, ?_⟩; have n0_ := Aside0.mk (Kd.R_below (by (with_reducible repeat (first | apply Kd.R_alloc | apply Kd.R_drewN | apply Kd.R_drew)); exact HO_3.out) hb); have n1_ := Aside0.mk (below_step (by repeat (first | (with_reducible first | exact HB.out | apply below_alloc | apply pw_below_drewN | apply below_drew1) | exact HB.out)) hb); clear HO_3; clear HB; have HO_3 := n0_; have HB := n1_; clear n0_ n1_; (try clear hb); (try clear hb2); (try clear hk); (try clear hi)) | ((with_reducible refine gate_builtin (b := .append) (xs := #[.tmp 16, .tmp 19]) rfl ?_); at_builtin; refine Kd.R_append Kd.string (w0 := w) w.heap.size rfl (.tmp 16) (.tmp 19) 47 9 (.string ⟨#[]⟩) 16 rfl Tryd.underlying47 info9 rfl (by decide) (by omega) u3 x3_1 t162 [.string t162] (fun _ => True) (fun _ => False) rfl rfl ?aP (fun _ hk => hk.elim) ?aF ?aO ?aB ?aS ?aL ?_; (case aP => exact rfl); (case aB => exact (by repeat (first | (with_reducible first | exact HB.out | apply below_alloc | apply pw_below_drewN | apply below_drew1) | exact HB.out))); (case aF => exact (fun _ _ => trivial)); (case aO => exact (by (with_reducible repeat (first | apply Kd.R_alloc | apply Kd.R_drewN | apply Kd.R_drew)); exact HO_3.out)); (case aS => exact (below_size (by repeat (first | (with_reducible first | exact HB.out | apply below_alloc | apply pw_below_drewN | apply below_drew1) | exact HB.out)))); (case aL => have := LMc9.out; omega); intro v164 w11 ho hb hg hat; rw [← Ny163.out] at ho; have n0_ := Aside0.mk (hb); have n1_ := Aside0.mk (ho); clear HB; clear HO_3; have HB := n0_; have HO165 := n1_; clear n0_ n1_; clear ho hb hg hat))
                go_roundg k1
                case measure => have := HK1.out; omega
                case rel => exact ⟨(y163), (wrap64 (x12_1 + 1)), (by first | rfl | (simp; done) | (simp [*]; done)), H', ⟨by have := HK1.out; omega⟩, ⟨by (with_reducible repeat (first | apply Kd.R_alloc | apply Kd.R_drewN | apply Kd.R_drew)); exact HO165.out⟩, ⟨by repeat (first | (with_reducible first | exact HB.out | apply below_alloc | apply pw_below_drewN | apply below_drew1) | exact HB.out)⟩⟩
              · rw [if_neg c9] at H
                exact absurd H (by simp)
            · rw [if_neg c7] at H
              exact absurd H (by simp)
          · rw [if_neg c6] at H
            exact absurd H (by simp)
        · rw [if_neg c5] at H
          have c5b0 : decide (x12_1 < (l0.length : Int)) = false := decide_eq_false c5
          clear c5
          by_cases c12 : (x3_1.length : Int) = 0
          · rw [if_pos c12] at H
            have c12b0 : ((x3_1.length : Int) == 0) = true := beq_iff_eq.mpr c12
            have c12b1 : ((x3_1.length : Int) != 0) = false := bne_eq_false_iff_eq.mpr c12
            clear c12
            obtain rfl := Option.some.inj H
            obtain ⟨Ao13, co13, eo13⟩ := Kd.R_slice HO_3.out
            subst eo13
            go_wp2
            go_ret
            exact ⟨by first | rfl | (simp [errW_none, errW_some] <;> rfl) | (simp [*, errW_none, errW_some] <;> rfl), by repeat (first | (with_reducible first | exact HB.out | apply below_alloc | apply pw_below_drewN | apply below_drew1) | exact HB.out)⟩
          · rw [if_neg c12] at H
            have c12b0 : ((x3_1.length : Int) == 0) = false := beq_eq_false_iff_ne.mpr c12
            have c12b1 : ((x3_1.length : Int) != 0) = true := bne_iff_ne.mpr c12
            have c12b2 : ¬ (x3_1 = []) := fun h_ => c12 (by rw [h_]; rfl)
            replace H := Option.bind_eq_some_iff.mp H
            obtain ⟨t166, A140, H⟩ := H
            replace H : (some t166) = some r := H
            have A14 := Aside0.mk A140
            clear A140
            obtain rfl := Option.some.inj H
            obtain ⟨Ao15, co15, eo15⟩ := Kd.R_slice HO_3.out
            subst eo15
            go_wp2_with (first | ((with_reducible refine gate_callee (f := 36) rfl ?_); refine goesL_ (some 26) rfl rfl Tryd.func36 (by kernel_rfl) rfl #[.slice Ao15 x3_1.length co15, .string (⟨#[44]⟩ : ByteArray)] rfl (by (try simp only [List.map_toArray, List.map_cons, List.map_nil]); first | done | rfl | (simp only [List.length_drop, List.length_take]; rfl)) ?_; (with_reducible refine (spec_Join.calls k1 _ _ x3_1 (⟨#[44]⟩ : ByteArray) t166 _ ?side1 ?side2 A14.out).mono ?_); (case side1 => repeat (first | exact (Kd.R_reads' HO_3.out).2.2 | (with_reducible refine Kd.C_alloc ?_ _) | (with_reducible refine Kd.C_drewN ?_ _) | (with_reducible refine Kd.C_drew ?_))); (case side2 => exact (Kd.R_reads' HO_3.out).2.1); rintro e w' ⟨rfl, ⟨nd, rfl⟩⟩; refine ⟨_, rfl, ?_⟩))
            go_ret
            exact ⟨by first | rfl | (simp [errW_none, errW_some] <;> rfl) | (simp [*, errW_none, errW_some] <;> rfl), by repeat (first | (with_reducible first | exact HB.out | apply below_alloc | apply pw_below_drewN | apply below_drew1) | exact HB.out)⟩

/-! ### spec_BarLine: function 7 -/
def spec_BarLine.f (k : Nat) (a0 : Int) (l1 : List Int) : Option (ByteArray) := (spec_BestBars.f k a0 l1).bind fun bt167 => (if bt167.2 = true then ((spec_CountBars.f k bt167.1).bind fun t171 => ((spec_FormatInt.f k t171).bind fun t172 => (if 5 + t172.size ≤ 9223372036854775807 then (if ((⟨#[98, 97, 114, 115, 32]⟩ : ByteArray) ++ t172).size + 7 ≤ 9223372036854775807 then ((spec_BarBound.f k a0 l1).bind fun t173 => ((spec_FormatInt.f k t173).bind fun t174 => (if (((⟨#[98, 97, 114, 115, 32]⟩ : ByteArray) ++ t172) ++ (⟨#[32, 98, 111, 117, 110, 100, 32]⟩ : ByteArray)).size + t174.size ≤ 9223372036854775807 then (if ((((⟨#[98, 97, 114, 115, 32]⟩ : ByteArray) ++ t172) ++ (⟨#[32, 98, 111, 117, 110, 100, 32]⟩ : ByteArray)) ++ t174).size + 6 ≤ 9223372036854775807 then ((spec_FormatNumbers.f k bt167.1).bind fun t175 => (if (((((⟨#[98, 97, 114, 115, 32]⟩ : ByteArray) ++ t172) ++ (⟨#[32, 98, 111, 117, 110, 100, 32]⟩ : ByteArray)) ++ t174) ++ (⟨#[32, 112, 108, 97, 110, 32]⟩ : ByteArray)).size + t175.size ≤ 9223372036854775807 then (some ((((((⟨#[98, 97, 114, 115, 32]⟩ : ByteArray) ++ t172) ++ (⟨#[32, 98, 111, 117, 110, 100, 32]⟩ : ByteArray)) ++ t174) ++ (⟨#[32, 112, 108, 97, 110, 32]⟩ : ByteArray)) ++ t175)) else (none))) else (none)) else (none)))) else (none)) else (none)))) else (some (⟨#[110, 111, 110, 101]⟩ : ByteArray)))
theorem spec_BarLine.mono : ∀ a0 a1 k, LeO (spec_BarLine.f k a0 a1) (spec_BarLine.f (k + 1) a0 a1) := by
  intro a0 a1 k
  unfold spec_BarLine.f
  repeat' first
      | (with_reducible exact spec_BarBound.mono _ _ _)
      | (with_reducible exact spec_BestBars.mono _ _ _)
      | (with_reducible exact spec_CountBars.mono _ _)
      | (with_reducible exact spec_FormatInt.mono _ _)
      | (with_reducible exact spec_FormatNumbers.mono _ _)
      | (with_reducible exact LeO.refl _)
      | (with_reducible exact LeO.none _)
      | (with_reducible refine LeO.ite ?_ ?_)
      | (with_reducible refine LeO.bind ?_ (fun _ => ?_))
      | exact spec_BarBound.mono _ _ _
      | exact spec_BestBars.mono _ _ _
      | exact spec_CountBars.mono _ _
      | exact spec_FormatInt.mono _ _
      | exact spec_FormatNumbers.mono _ _
      | exact LeO.none _
      | refine LeO.ite ?_ ?_
      | refine LeO.bind ?_ (fun _ => ?_)
set_option maxHeartbeats 8000000 in
set_option maxRecDepth 100000 in
theorem spec_BarLine.calls (k : Nat) (a0 : Int) (A1 : Option Addr) (c1 : Nat) (l1 : List Int) (r : ByteArray) (w : World) (hr1 : Kd.C (Kd.int .i64) w A1 l1.length l1) (hc1 : l1.length ≤ c1) (h : spec_BarLine.f k a0 l1 = some r) :
    Calls Tryd.prog 7 #[.int .i64 a0, .slice A1 l1.length c1] w fun e w' => e = .returned (.string r) ∧ Below w.heap.size w w' := by
  have HR1 := Aside0.mk hr1
  have HC1 := Aside0.mk hc1
  clear hr1 hc1
  have HB := Aside0.mk (Below.refl w.heap.size w)
  have H : ((spec_BestBars.f k a0 l1).bind fun bt167 => (if bt167.2 = true then ((spec_CountBars.f k bt167.1).bind fun t171 => ((spec_FormatInt.f k t171).bind fun t172 => (if 5 + t172.size ≤ 9223372036854775807 then (if ((⟨#[98, 97, 114, 115, 32]⟩ : ByteArray) ++ t172).size + 7 ≤ 9223372036854775807 then ((spec_BarBound.f k a0 l1).bind fun t173 => ((spec_FormatInt.f k t173).bind fun t174 => (if (((⟨#[98, 97, 114, 115, 32]⟩ : ByteArray) ++ t172) ++ (⟨#[32, 98, 111, 117, 110, 100, 32]⟩ : ByteArray)).size + t174.size ≤ 9223372036854775807 then (if ((((⟨#[98, 97, 114, 115, 32]⟩ : ByteArray) ++ t172) ++ (⟨#[32, 98, 111, 117, 110, 100, 32]⟩ : ByteArray)) ++ t174).size + 6 ≤ 9223372036854775807 then ((spec_FormatNumbers.f k bt167.1).bind fun t175 => (if (((((⟨#[98, 97, 114, 115, 32]⟩ : ByteArray) ++ t172) ++ (⟨#[32, 98, 111, 117, 110, 100, 32]⟩ : ByteArray)) ++ t174) ++ (⟨#[32, 112, 108, 97, 110, 32]⟩ : ByteArray)).size + t175.size ≤ 9223372036854775807 then (some ((((((⟨#[98, 97, 114, 115, 32]⟩ : ByteArray) ++ t172) ++ (⟨#[32, 98, 111, 117, 110, 100, 32]⟩ : ByteArray)) ++ t174) ++ (⟨#[32, 112, 108, 97, 110, 32]⟩ : ByteArray)) ++ t175)) else (none))) else (none)) else (none)))) else (none)) else (none)))) else (some (⟨#[110, 111, 110, 101]⟩ : ByteArray)))) = some r := h
  clear h
  replace H := Option.bind_eq_some_iff.mp H
  obtain ⟨⟨t167, t168⟩, A30, H⟩ := H
  replace H : (if t168 = true then ((spec_CountBars.f k t167).bind fun t171 => ((spec_FormatInt.f k t171).bind fun t172 => (if 5 + t172.size ≤ 9223372036854775807 then (if ((⟨#[98, 97, 114, 115, 32]⟩ : ByteArray) ++ t172).size + 7 ≤ 9223372036854775807 then ((spec_BarBound.f k a0 l1).bind fun t173 => ((spec_FormatInt.f k t173).bind fun t174 => (if (((⟨#[98, 97, 114, 115, 32]⟩ : ByteArray) ++ t172) ++ (⟨#[32, 98, 111, 117, 110, 100, 32]⟩ : ByteArray)).size + t174.size ≤ 9223372036854775807 then (if ((((⟨#[98, 97, 114, 115, 32]⟩ : ByteArray) ++ t172) ++ (⟨#[32, 98, 111, 117, 110, 100, 32]⟩ : ByteArray)) ++ t174).size + 6 ≤ 9223372036854775807 then ((spec_FormatNumbers.f k t167).bind fun t175 => (if (((((⟨#[98, 97, 114, 115, 32]⟩ : ByteArray) ++ t172) ++ (⟨#[32, 98, 111, 117, 110, 100, 32]⟩ : ByteArray)) ++ t174) ++ (⟨#[32, 112, 108, 97, 110, 32]⟩ : ByteArray)).size + t175.size ≤ 9223372036854775807 then (some ((((((⟨#[98, 97, 114, 115, 32]⟩ : ByteArray) ++ t172) ++ (⟨#[32, 98, 111, 117, 110, 100, 32]⟩ : ByteArray)) ++ t174) ++ (⟨#[32, 112, 108, 97, 110, 32]⟩ : ByteArray)) ++ t175)) else (none))) else (none)) else (none)))) else (none)) else (none)))) else (some (⟨#[110, 111, 110, 101]⟩ : ByteArray))) = some r := H
  have A3 := Aside0.mk A30
  clear A30
  by_cases c4 : t168 = true
  · subst c4
    have H1 : ((spec_CountBars.f k t167).bind fun t171 => ((spec_FormatInt.f k t171).bind fun t172 => (if 5 + t172.size ≤ 9223372036854775807 then (if ((⟨#[98, 97, 114, 115, 32]⟩ : ByteArray) ++ t172).size + 7 ≤ 9223372036854775807 then ((spec_BarBound.f k a0 l1).bind fun t173 => ((spec_FormatInt.f k t173).bind fun t174 => (if (((⟨#[98, 97, 114, 115, 32]⟩ : ByteArray) ++ t172) ++ (⟨#[32, 98, 111, 117, 110, 100, 32]⟩ : ByteArray)).size + t174.size ≤ 9223372036854775807 then (if ((((⟨#[98, 97, 114, 115, 32]⟩ : ByteArray) ++ t172) ++ (⟨#[32, 98, 111, 117, 110, 100, 32]⟩ : ByteArray)) ++ t174).size + 6 ≤ 9223372036854775807 then ((spec_FormatNumbers.f k t167).bind fun t175 => (if (((((⟨#[98, 97, 114, 115, 32]⟩ : ByteArray) ++ t172) ++ (⟨#[32, 98, 111, 117, 110, 100, 32]⟩ : ByteArray)) ++ t174) ++ (⟨#[32, 112, 108, 97, 110, 32]⟩ : ByteArray)).size + t175.size ≤ 9223372036854775807 then (some ((((((⟨#[98, 97, 114, 115, 32]⟩ : ByteArray) ++ t172) ++ (⟨#[32, 98, 111, 117, 110, 100, 32]⟩ : ByteArray)) ++ t174) ++ (⟨#[32, 112, 108, 97, 110, 32]⟩ : ByteArray)) ++ t175)) else (none))) else (none)) else (none)))) else (none)) else (none)))) = some r := by rw [if_pos rfl] at H; exact H
    clear H
    have H := H1
    clear H1
    replace H := Option.bind_eq_some_iff.mp H
    obtain ⟨t171, A50, H⟩ := H
    replace H : ((spec_FormatInt.f k t171).bind fun t172 => (if 5 + t172.size ≤ 9223372036854775807 then (if ((⟨#[98, 97, 114, 115, 32]⟩ : ByteArray) ++ t172).size + 7 ≤ 9223372036854775807 then ((spec_BarBound.f k a0 l1).bind fun t173 => ((spec_FormatInt.f k t173).bind fun t174 => (if (((⟨#[98, 97, 114, 115, 32]⟩ : ByteArray) ++ t172) ++ (⟨#[32, 98, 111, 117, 110, 100, 32]⟩ : ByteArray)).size + t174.size ≤ 9223372036854775807 then (if ((((⟨#[98, 97, 114, 115, 32]⟩ : ByteArray) ++ t172) ++ (⟨#[32, 98, 111, 117, 110, 100, 32]⟩ : ByteArray)) ++ t174).size + 6 ≤ 9223372036854775807 then ((spec_FormatNumbers.f k t167).bind fun t175 => (if (((((⟨#[98, 97, 114, 115, 32]⟩ : ByteArray) ++ t172) ++ (⟨#[32, 98, 111, 117, 110, 100, 32]⟩ : ByteArray)) ++ t174) ++ (⟨#[32, 112, 108, 97, 110, 32]⟩ : ByteArray)).size + t175.size ≤ 9223372036854775807 then (some ((((((⟨#[98, 97, 114, 115, 32]⟩ : ByteArray) ++ t172) ++ (⟨#[32, 98, 111, 117, 110, 100, 32]⟩ : ByteArray)) ++ t174) ++ (⟨#[32, 112, 108, 97, 110, 32]⟩ : ByteArray)) ++ t175)) else (none))) else (none)) else (none)))) else (none)) else (none))) = some r := H
    have A5 := Aside0.mk A50
    clear A50
    replace H := Option.bind_eq_some_iff.mp H
    obtain ⟨t172, A60, H⟩ := H
    replace H : (if 5 + t172.size ≤ 9223372036854775807 then (if ((⟨#[98, 97, 114, 115, 32]⟩ : ByteArray) ++ t172).size + 7 ≤ 9223372036854775807 then ((spec_BarBound.f k a0 l1).bind fun t173 => ((spec_FormatInt.f k t173).bind fun t174 => (if (((⟨#[98, 97, 114, 115, 32]⟩ : ByteArray) ++ t172) ++ (⟨#[32, 98, 111, 117, 110, 100, 32]⟩ : ByteArray)).size + t174.size ≤ 9223372036854775807 then (if ((((⟨#[98, 97, 114, 115, 32]⟩ : ByteArray) ++ t172) ++ (⟨#[32, 98, 111, 117, 110, 100, 32]⟩ : ByteArray)) ++ t174).size + 6 ≤ 9223372036854775807 then ((spec_FormatNumbers.f k t167).bind fun t175 => (if (((((⟨#[98, 97, 114, 115, 32]⟩ : ByteArray) ++ t172) ++ (⟨#[32, 98, 111, 117, 110, 100, 32]⟩ : ByteArray)) ++ t174) ++ (⟨#[32, 112, 108, 97, 110, 32]⟩ : ByteArray)).size + t175.size ≤ 9223372036854775807 then (some ((((((⟨#[98, 97, 114, 115, 32]⟩ : ByteArray) ++ t172) ++ (⟨#[32, 98, 111, 117, 110, 100, 32]⟩ : ByteArray)) ++ t174) ++ (⟨#[32, 112, 108, 97, 110, 32]⟩ : ByteArray)) ++ t175)) else (none))) else (none)) else (none)))) else (none)) else (none)) = some r := H
    have A6 := Aside0.mk A60
    clear A60
    by_cases c7 : 5 + t172.size ≤ 9223372036854775807
    · rw [if_pos c7] at H
      have c7b0 := eq_true c7
      have c7b1 : decide (5 + t172.size ≤ 9223372036854775807) = true := decide_eq_true c7
      try have c7b2 : (9223372036854775807 < 5 + t172.size) = False := eq_false (Nat.not_lt.2 c7)
      by_cases c8 : ((⟨#[98, 97, 114, 115, 32]⟩ : ByteArray) ++ t172).size + 7 ≤ 9223372036854775807
      · rw [if_pos c8] at H
        have c8b0 := eq_true c8
        have c8b1 : decide (((⟨#[98, 97, 114, 115, 32]⟩ : ByteArray) ++ t172).size + 7 ≤ 9223372036854775807) = true := decide_eq_true c8
        try have c8b2 : (9223372036854775807 < ((⟨#[98, 97, 114, 115, 32]⟩ : ByteArray) ++ t172).size + 7) = False := eq_false (Nat.not_lt.2 c8)
        try have c8b3 : (9223372036854775807 < 5 + t172.size + 7) = False := eq_false (by have h_ := c8; simp only [ByteArray.size_append, (show (⟨#[98, 97, 114, 115, 32]⟩ : ByteArray).size = 5 from rfl)] at h_; omega)
        replace H := Option.bind_eq_some_iff.mp H
        obtain ⟨t173, A90, H⟩ := H
        replace H : ((spec_FormatInt.f k t173).bind fun t174 => (if (((⟨#[98, 97, 114, 115, 32]⟩ : ByteArray) ++ t172) ++ (⟨#[32, 98, 111, 117, 110, 100, 32]⟩ : ByteArray)).size + t174.size ≤ 9223372036854775807 then (if ((((⟨#[98, 97, 114, 115, 32]⟩ : ByteArray) ++ t172) ++ (⟨#[32, 98, 111, 117, 110, 100, 32]⟩ : ByteArray)) ++ t174).size + 6 ≤ 9223372036854775807 then ((spec_FormatNumbers.f k t167).bind fun t175 => (if (((((⟨#[98, 97, 114, 115, 32]⟩ : ByteArray) ++ t172) ++ (⟨#[32, 98, 111, 117, 110, 100, 32]⟩ : ByteArray)) ++ t174) ++ (⟨#[32, 112, 108, 97, 110, 32]⟩ : ByteArray)).size + t175.size ≤ 9223372036854775807 then (some ((((((⟨#[98, 97, 114, 115, 32]⟩ : ByteArray) ++ t172) ++ (⟨#[32, 98, 111, 117, 110, 100, 32]⟩ : ByteArray)) ++ t174) ++ (⟨#[32, 112, 108, 97, 110, 32]⟩ : ByteArray)) ++ t175)) else (none))) else (none)) else (none))) = some r := H
        have A9 := Aside0.mk A90
        clear A90
        replace H := Option.bind_eq_some_iff.mp H
        obtain ⟨t174, A100, H⟩ := H
        replace H : (if (((⟨#[98, 97, 114, 115, 32]⟩ : ByteArray) ++ t172) ++ (⟨#[32, 98, 111, 117, 110, 100, 32]⟩ : ByteArray)).size + t174.size ≤ 9223372036854775807 then (if ((((⟨#[98, 97, 114, 115, 32]⟩ : ByteArray) ++ t172) ++ (⟨#[32, 98, 111, 117, 110, 100, 32]⟩ : ByteArray)) ++ t174).size + 6 ≤ 9223372036854775807 then ((spec_FormatNumbers.f k t167).bind fun t175 => (if (((((⟨#[98, 97, 114, 115, 32]⟩ : ByteArray) ++ t172) ++ (⟨#[32, 98, 111, 117, 110, 100, 32]⟩ : ByteArray)) ++ t174) ++ (⟨#[32, 112, 108, 97, 110, 32]⟩ : ByteArray)).size + t175.size ≤ 9223372036854775807 then (some ((((((⟨#[98, 97, 114, 115, 32]⟩ : ByteArray) ++ t172) ++ (⟨#[32, 98, 111, 117, 110, 100, 32]⟩ : ByteArray)) ++ t174) ++ (⟨#[32, 112, 108, 97, 110, 32]⟩ : ByteArray)) ++ t175)) else (none))) else (none)) else (none)) = some r := H
        have A10 := Aside0.mk A100
        clear A100
        by_cases c11 : (((⟨#[98, 97, 114, 115, 32]⟩ : ByteArray) ++ t172) ++ (⟨#[32, 98, 111, 117, 110, 100, 32]⟩ : ByteArray)).size + t174.size ≤ 9223372036854775807
        · rw [if_pos c11] at H
          have c11b0 := eq_true c11
          have c11b1 : decide ((((⟨#[98, 97, 114, 115, 32]⟩ : ByteArray) ++ t172) ++ (⟨#[32, 98, 111, 117, 110, 100, 32]⟩ : ByteArray)).size + t174.size ≤ 9223372036854775807) = true := decide_eq_true c11
          try have c11b2 : (9223372036854775807 < (((⟨#[98, 97, 114, 115, 32]⟩ : ByteArray) ++ t172) ++ (⟨#[32, 98, 111, 117, 110, 100, 32]⟩ : ByteArray)).size + t174.size) = False := eq_false (Nat.not_lt.2 c11)
          try have c11b3 : (9223372036854775807 < 5 + t172.size + 7 + t174.size) = False := eq_false (by have h_ := c11; simp only [ByteArray.size_append, (show (⟨#[32, 98, 111, 117, 110, 100, 32]⟩ : ByteArray).size = 7 from rfl), (show (⟨#[98, 97, 114, 115, 32]⟩ : ByteArray).size = 5 from rfl)] at h_; omega)
          by_cases c12 : ((((⟨#[98, 97, 114, 115, 32]⟩ : ByteArray) ++ t172) ++ (⟨#[32, 98, 111, 117, 110, 100, 32]⟩ : ByteArray)) ++ t174).size + 6 ≤ 9223372036854775807
          · rw [if_pos c12] at H
            have c12b0 := eq_true c12
            have c12b1 : decide (((((⟨#[98, 97, 114, 115, 32]⟩ : ByteArray) ++ t172) ++ (⟨#[32, 98, 111, 117, 110, 100, 32]⟩ : ByteArray)) ++ t174).size + 6 ≤ 9223372036854775807) = true := decide_eq_true c12
            try have c12b2 : (9223372036854775807 < ((((⟨#[98, 97, 114, 115, 32]⟩ : ByteArray) ++ t172) ++ (⟨#[32, 98, 111, 117, 110, 100, 32]⟩ : ByteArray)) ++ t174).size + 6) = False := eq_false (Nat.not_lt.2 c12)
            try have c12b3 : (9223372036854775807 < 5 + t172.size + 7 + t174.size + 6) = False := eq_false (by have h_ := c12; simp only [ByteArray.size_append, (show (⟨#[32, 98, 111, 117, 110, 100, 32]⟩ : ByteArray).size = 7 from rfl), (show (⟨#[98, 97, 114, 115, 32]⟩ : ByteArray).size = 5 from rfl)] at h_; omega)
            replace H := Option.bind_eq_some_iff.mp H
            obtain ⟨t175, A130, H⟩ := H
            replace H : (if (((((⟨#[98, 97, 114, 115, 32]⟩ : ByteArray) ++ t172) ++ (⟨#[32, 98, 111, 117, 110, 100, 32]⟩ : ByteArray)) ++ t174) ++ (⟨#[32, 112, 108, 97, 110, 32]⟩ : ByteArray)).size + t175.size ≤ 9223372036854775807 then (some ((((((⟨#[98, 97, 114, 115, 32]⟩ : ByteArray) ++ t172) ++ (⟨#[32, 98, 111, 117, 110, 100, 32]⟩ : ByteArray)) ++ t174) ++ (⟨#[32, 112, 108, 97, 110, 32]⟩ : ByteArray)) ++ t175)) else (none)) = some r := H
            have A13 := Aside0.mk A130
            clear A130
            by_cases c14 : (((((⟨#[98, 97, 114, 115, 32]⟩ : ByteArray) ++ t172) ++ (⟨#[32, 98, 111, 117, 110, 100, 32]⟩ : ByteArray)) ++ t174) ++ (⟨#[32, 112, 108, 97, 110, 32]⟩ : ByteArray)).size + t175.size ≤ 9223372036854775807
            · rw [if_pos c14] at H
              have c14b0 := eq_true c14
              have c14b1 : decide ((((((⟨#[98, 97, 114, 115, 32]⟩ : ByteArray) ++ t172) ++ (⟨#[32, 98, 111, 117, 110, 100, 32]⟩ : ByteArray)) ++ t174) ++ (⟨#[32, 112, 108, 97, 110, 32]⟩ : ByteArray)).size + t175.size ≤ 9223372036854775807) = true := decide_eq_true c14
              try have c14b2 : (9223372036854775807 < (((((⟨#[98, 97, 114, 115, 32]⟩ : ByteArray) ++ t172) ++ (⟨#[32, 98, 111, 117, 110, 100, 32]⟩ : ByteArray)) ++ t174) ++ (⟨#[32, 112, 108, 97, 110, 32]⟩ : ByteArray)).size + t175.size) = False := eq_false (Nat.not_lt.2 c14)
              try have c14b3 : (9223372036854775807 < 5 + t172.size + 7 + t174.size + 6 + t175.size) = False := eq_false (by have h_ := c14; simp only [ByteArray.size_append, (show (⟨#[32, 112, 108, 97, 110, 32]⟩ : ByteArray).size = 6 from rfl), (show (⟨#[32, 98, 111, 117, 110, 100, 32]⟩ : ByteArray).size = 7 from rfl), (show (⟨#[98, 97, 114, 115, 32]⟩ : ByteArray).size = 5 from rfl)] at h_; omega)
              obtain rfl := Option.some.inj H
              go_enter Tryd.func7, Tryd.ntmps7
              go_wp2_with (first | ((with_reducible refine gate_callee (f := 23) rfl ?_); refine goesL_ (some 10) rfl rfl Tryd.func23 (by kernel_rfl) rfl #[.int .i64 a0, .slice A1 l1.length c1] rfl (by (try simp only [List.map_toArray, List.map_cons, List.map_nil]); first | done | rfl | (simp only [List.length_drop, List.length_take]; rfl)) ?_; (with_reducible refine (spec_BestBars.calls k a0 _ _ l1 t167 true _ ?side1 ?side2 A3.out).mono ?_); (case side1 => repeat (first | exact HR1.out | (with_reducible refine Kd.C_alloc ?_ _) | (with_reducible refine Kd.C_drewN ?_ _) | (with_reducible refine Kd.C_drew ?_))); (case side2 => exact HC1.out); rintro e w15 ⟨v169, rfl, ho0, hb⟩; refine ⟨_, rfl, ?_⟩; have n0_ := Aside0.mk (Kd.R_lower ho0 (below_size (by repeat (first | (with_reducible first | exact HB.out | apply below_alloc | apply pw_below_drewN | apply below_drew1) | exact HB.out)))); have n1_ := Aside0.mk (below_step (by repeat (first | (with_reducible first | exact HB.out | apply below_alloc | apply pw_below_drewN | apply below_drew1) | exact HB.out)) hb); clear HB; have HO170 := n0_; have HB := n1_; clear n0_ n1_; (try clear hb); (try clear hb2); (try clear hk); (try clear hi); (try clear ho0); obtain ⟨Ao16, co16, eo16⟩ := Kd.R_slice HO170.out; subst eo16) | ((with_reducible refine gate_callee (f := 25) rfl ?_); refine goesL_ (some 16) rfl rfl Tryd.func25 (by kernel_rfl) rfl #[.slice Ao16 t167.length co16] rfl (by (try simp only [List.map_toArray, List.map_cons, List.map_nil]); first | done | rfl | (simp only [List.length_drop, List.length_take]; rfl)) ?_; (with_reducible refine (spec_CountBars.calls k _ _ t167 t171 _ ?side1 ?side2 A5.out).mono ?_); (case side1 => repeat (first | exact (Kd.R_reads' HO170.out).2.2 | (with_reducible refine Kd.C_alloc ?_ _) | (with_reducible refine Kd.C_drewN ?_ _) | (with_reducible refine Kd.C_drew ?_))); (case side2 => exact (Kd.R_reads' HO170.out).2.1); rintro e w17 ⟨rfl, hb⟩; refine ⟨_, rfl, ?_⟩; have n0_ := Aside0.mk (Kd.R_below (by (with_reducible repeat (first | apply Kd.R_alloc | apply Kd.R_drewN | apply Kd.R_drew)); exact HO170.out) hb); have n1_ := Aside0.mk (below_step (by repeat (first | (with_reducible first | exact HB.out | apply below_alloc | apply pw_below_drewN | apply below_drew1) | exact HB.out)) hb); clear HO170; clear HB; have HO170 := n0_; have HB := n1_; clear n0_ n1_; (try clear hb); (try clear hb2); (try clear hk); (try clear hi)) | ((with_reducible refine gate_callee (f := 24) rfl ?_); refine goesL_ (some 17) rfl rfl Tryd.func24 (by kernel_rfl) rfl #[.int .i64 t171] rfl (by (try simp only [List.map_toArray, List.map_cons, List.map_nil]); first | done | rfl | (simp only [List.length_drop, List.length_take]; rfl)) ?_; (with_reducible refine (spec_FormatInt.calls k t171 t172 _ A6.out).mono ?_); rintro e w18 ⟨rfl, hb⟩; refine ⟨_, rfl, ?_⟩; have n0_ := Aside0.mk (Kd.R_below (by (with_reducible repeat (first | apply Kd.R_alloc | apply Kd.R_drewN | apply Kd.R_drew)); exact HO170.out) hb); have n1_ := Aside0.mk (below_step (by repeat (first | (with_reducible first | exact HB.out | apply below_alloc | apply pw_below_drewN | apply below_drew1) | exact HB.out)) hb); clear HO170; clear HB; have HO170 := n0_; have HB := n1_; clear n0_ n1_; (try clear hb); (try clear hb2); (try clear hk); (try clear hi)) | ((with_reducible refine gate_callee (f := 26) rfl ?_); refine goesL_ (some 22) rfl rfl Tryd.func26 (by kernel_rfl) rfl #[.int .i64 a0, .slice A1 l1.length c1] rfl (by (try simp only [List.map_toArray, List.map_cons, List.map_nil]); first | done | rfl | (simp only [List.length_drop, List.length_take]; rfl)) ?_; (with_reducible refine (spec_BarBound.calls k a0 _ _ l1 t173 _ ?side1 ?side2 A9.out).mono ?_); (case side1 => repeat (first | exact (Kd.C_below HR1.out HB.out) | (with_reducible refine Kd.C_alloc ?_ _) | (with_reducible refine Kd.C_drewN ?_ _) | (with_reducible refine Kd.C_drew ?_))); (case side2 => exact HC1.out); rintro e w' ⟨rfl, ⟨nd, rfl⟩⟩; refine ⟨_, rfl, ?_⟩) | ((with_reducible refine gate_callee (f := 24) rfl ?_); refine goesL_ (some 23) rfl rfl Tryd.func24 (by kernel_rfl) rfl #[.int .i64 t173] rfl (by (try simp only [List.map_toArray, List.map_cons, List.map_nil]); first | done | rfl | (simp only [List.length_drop, List.length_take]; rfl)) ?_; (with_reducible refine (spec_FormatInt.calls k t173 t174 _ A10.out).mono ?_); rintro e w19 ⟨rfl, hb⟩; refine ⟨_, rfl, ?_⟩; have n0_ := Aside0.mk (Kd.R_below (by (with_reducible repeat (first | apply Kd.R_alloc | apply Kd.R_drewN | apply Kd.R_drew)); exact HO170.out) hb); have n1_ := Aside0.mk (below_step (by repeat (first | (with_reducible first | exact HB.out | apply below_alloc | apply pw_below_drewN | apply below_drew1) | exact HB.out)) hb); clear HO170; clear HB; have HO170 := n0_; have HB := n1_; clear n0_ n1_; (try clear hb); (try clear hb2); (try clear hk); (try clear hi)) | ((with_reducible refine gate_callee (f := 27) rfl ?_); refine goesL_ (some 27) rfl rfl Tryd.func27 (by kernel_rfl) rfl #[.slice Ao16 t167.length co16] rfl (by (try simp only [List.map_toArray, List.map_cons, List.map_nil]); first | done | rfl | (simp only [List.length_drop, List.length_take]; rfl)) ?_; (with_reducible refine (spec_FormatNumbers.calls k _ _ t167 t175 _ ?side1 ?side2 A13.out).mono ?_); (case side1 => repeat (first | exact (Kd.R_reads' HO170.out).2.2 | (with_reducible refine Kd.C_alloc ?_ _) | (with_reducible refine Kd.C_drewN ?_ _) | (with_reducible refine Kd.C_drew ?_))); (case side2 => exact (Kd.R_reads' HO170.out).2.1); rintro e w20 ⟨rfl, hb⟩; refine ⟨_, rfl, ?_⟩; have n0_ := Aside0.mk (Kd.R_below (by (with_reducible repeat (first | apply Kd.R_alloc | apply Kd.R_drewN | apply Kd.R_drew)); exact HO170.out) hb); have n1_ := Aside0.mk (below_step (by repeat (first | (with_reducible first | exact HB.out | apply below_alloc | apply pw_below_drewN | apply below_drew1) | exact HB.out)) hb); clear HO170; clear HB; have HO170 := n0_; have HB := n1_; clear n0_ n1_; (try clear hb); (try clear hb2); (try clear hk); (try clear hi)))
              go_ret
              exact ⟨by first | rfl | (simp [errW_none, errW_some] <;> rfl) | (simp [*, errW_none, errW_some] <;> rfl), by repeat (first | (with_reducible first | exact HB.out | apply below_alloc | apply pw_below_drewN | apply below_drew1) | exact HB.out)⟩
            · rw [if_neg c14] at H
              exact absurd H (by simp)
          · rw [if_neg c12] at H
            exact absurd H (by simp)
        · rw [if_neg c11] at H
          exact absurd H (by simp)
      · rw [if_neg c8] at H
        exact absurd H (by simp)
    · rw [if_neg c7] at H
      exact absurd H (by simp)
  · replace c4 := Bool.eq_false_iff.mpr c4
    subst c4
    have H1 : (some (⟨#[110, 111, 110, 101]⟩ : ByteArray)) = some r := by rw [if_neg (show ¬ (false = true) by decide)] at H; exact H
    clear H
    have H := H1
    clear H1
    obtain rfl := Option.some.inj H
    go_enter Tryd.func7, Tryd.ntmps7
    go_wp2_with (first | ((with_reducible refine gate_callee (f := 23) rfl ?_); refine goesL_ (some 10) rfl rfl Tryd.func23 (by kernel_rfl) rfl #[.int .i64 a0, .slice A1 l1.length c1] rfl (by (try simp only [List.map_toArray, List.map_cons, List.map_nil]); first | done | rfl | (simp only [List.length_drop, List.length_take]; rfl)) ?_; (with_reducible refine (spec_BestBars.calls k a0 _ _ l1 t167 false _ ?side1 ?side2 A3.out).mono ?_); (case side1 => repeat (first | exact HR1.out | (with_reducible refine Kd.C_alloc ?_ _) | (with_reducible refine Kd.C_drewN ?_ _) | (with_reducible refine Kd.C_drew ?_))); (case side2 => exact HC1.out); rintro e w21 ⟨v169, rfl, ho0, hb⟩; refine ⟨_, rfl, ?_⟩; have n0_ := Aside0.mk (Kd.R_lower ho0 (below_size (by repeat (first | (with_reducible first | exact HB.out | apply below_alloc | apply pw_below_drewN | apply below_drew1) | exact HB.out)))); have n1_ := Aside0.mk (below_step (by repeat (first | (with_reducible first | exact HB.out | apply below_alloc | apply pw_below_drewN | apply below_drew1) | exact HB.out)) hb); clear HB; have HO170 := n0_; have HB := n1_; clear n0_ n1_; (try clear hb); (try clear hb2); (try clear hk); (try clear hi); (try clear ho0)))
    go_ret
    exact ⟨by first | rfl | (simp [errW_none, errW_some] <;> rfl) | (simp [*, errW_none, errW_some] <;> rfl), by repeat (first | (with_reducible first | exact HB.out | apply below_alloc | apply pw_below_drewN | apply below_drew1) | exact HB.out)⟩

/-! ### laws_toIntS: function 8 -/
def laws_toIntS.l0 : Nat → List Int → List Int → Int → Option (List Int)
  | 0, _, _, _ => none
  | k + 1, x0, x3, x4 => if x4 < (x0.length : Int) then (if 0 ≤ x4 then (if x4 < (x3.length : Int) then (laws_toIntS.l0 k x0 (x3.set (x4 : Int).toNat (rd x0 x4)) (wrap64 (x4 + 1))) else (none)) else (none)) else (some x3)
def laws_toIntS.f (k : Nat) (l0 : List Int) : Option (List Int) := if 0 ≤ (l0.length : Int) then (if ((l0.length : Int) : Int).toNat ≤ 35184372088832 then (laws_toIntS.l0 k l0 (List.replicate ((l0.length : Int) : Int).toNat 0) 0) else (none)) else (none)
theorem laws_toIntS.mono_l : ∀ k, (∀ y0 y1 y2, LeO (laws_toIntS.l0 k y0 y1 y2) (laws_toIntS.l0 (k + 1) y0 y1 y2))
  | 0 => fun _ _ _ r h => by simp [laws_toIntS.l0] at h
  | k + 1 => by
    have ih0 := laws_toIntS.mono_l k
    · intro y0 y1 y2
      unfold laws_toIntS.l0
      repeat' first
      | (with_reducible exact ih0 _ _ _)
      | (with_reducible exact LeO.refl _)
      | (with_reducible exact LeO.none _)
      | (with_reducible refine LeO.ite ?_ ?_)
      | (with_reducible refine LeO.bind ?_ (fun _ => ?_))
      | exact ih0 _ _ _
      | exact LeO.none _
      | refine LeO.ite ?_ ?_
      | refine LeO.bind ?_ (fun _ => ?_)
theorem laws_toIntS.mono : ∀ a0 k, LeO (laws_toIntS.f k a0) (laws_toIntS.f (k + 1) a0) := by
  intro a0 k
  have ih0 := laws_toIntS.mono_l k
  unfold laws_toIntS.f
  repeat' first
      | (with_reducible exact ih0 _ _ _)
      | (with_reducible exact LeO.refl _)
      | (with_reducible exact LeO.none _)
      | (with_reducible refine LeO.ite ?_ ?_)
      | (with_reducible refine LeO.bind ?_ (fun _ => ?_))
      | exact ih0 _ _ _
      | exact LeO.none _
      | refine LeO.ite ?_ ?_
      | refine LeO.bind ?_ (fun _ => ?_)
set_option maxHeartbeats 8000000 in
set_option maxRecDepth 100000 in
theorem laws_toIntS.calls (k : Nat) (A0 : Option Addr) (c0 : Nat) (l0 : List Int) (r : List Int) (w : World) (hr0 : Kd.C (Kd.int .i64) w A0 l0.length l0) (hc0 : l0.length ≤ c0) (h : laws_toIntS.f k l0 = some r) :
    Calls Tryd.prog 8 #[.slice A0 l0.length c0] w fun e w' => ∃ v0_ : Value, e = .returned (v0_) ∧ Kd.R (Kd.int .i64) 3 w' w.heap.size (fun _ => True) v0_ r ∧ Below w.heap.size w w' := by
  have HR0 := Aside0.mk hr0
  have HC0 := Aside0.mk hc0
  clear hr0 hc0
  have HB := Aside0.mk (Below.refl w.heap.size w)
  have H : (if 0 ≤ (l0.length : Int) then (if ((l0.length : Int) : Int).toNat ≤ 35184372088832 then (laws_toIntS.l0 k l0 (List.replicate ((l0.length : Int) : Int).toNat 0) 0) else (none)) else (none)) = some r := h
  clear h
  by_cases c2 : 0 ≤ (l0.length : Int)
  · rw [if_pos c2] at H
    have c2b0 := eq_true c2
    have c2b1 : decide (0 ≤ (l0.length : Int)) = true := decide_eq_true c2
    clear c2
    by_cases c3 : ((l0.length : Int) : Int).toNat ≤ 35184372088832
    · rw [if_pos c3] at H
      have c3b0 := eq_true c3
      have c3b1 : decide (((l0.length : Int) : Int).toNat ≤ 35184372088832) = true := decide_eq_true c3
      clear c3
      obtain ⟨y176, hy176⟩ : ∃ y_ : List Int, y_ = (List.replicate ((l0.length : Int) : Int).toNat 0) := ⟨_, rfl⟩
      replace H : (laws_toIntS.l0 k l0 y176 0) = some r := by first | (rw [hy176]; with_reducible exact H) | (have H2_ := (Option.bind_some _ _).symm.trans H; rw [hy176]; with_reducible exact H2_) | (have H2_ := (Option.bind_some _ _).symm.trans H; with_reducible exact H2_) | with_reducible exact H | (rw [hy176]; exact H) | exact H
      have Ny176 := Aside0.mk hy176
      clear hy176
      have H' := Aside0.mk H
      clear H
      go_enter Tryd.func8, Tryd.ntmps8
      go_wp2_with (first | ((with_reducible refine gate_dst (N := 7) rfl ?_); refine Kd.R_make (Kd.int .i64) _ 3 rfl (N := 7) rfl 22 _ _ rfl (l0.length : Int) rfl rfl Tryd.underlying22 (.int .i64 0) 8 info3 rfl (by decide) (by omega) 0 (ok := fun _ => True) (okp := fun _ => True) rfl (fun _ hk => hk) trivial (of_decide_eq_true (by first | (with_reducible assumption) | assumption)) (Nat.le_trans (Nat.mul_le_mul_right _ (of_decide_eq_true (by first | (with_reducible assumption) | assumption) : (l0.length : Int).toNat ≤ 35184372088832)) (by omega)) (Below.refl _ _) (Nat.le_refl _) ?_; intro v177 w4 ho5 hb hg_ hnew_; clear hg_ hnew_; (first | rw [← Ny176.out] at ho5 | (simp only [Int.reduceToNat] at ho5; rw [← Ny176.out] at ho5)); have n0_ := Aside0.mk (Kd.R_lower ho5 (below_size (by repeat (first | (with_reducible first | exact HB.out | apply below_alloc | apply pw_below_drewN | apply below_drew1) | exact HB.out)))); have n1_ := Aside0.mk (below_step (by repeat (first | (with_reducible first | exact HB.out | apply below_alloc | apply pw_below_drewN | apply below_drew1) | exact HB.out)) hb); clear HB; have HO178 := n0_; have HB := n1_; clear n0_ n1_; clear hb ho5))
      go_loopg [4] k (fun kq v4 w' => ∃ (x3_1 : List Int) (x4_1 : Int), v4 = .int .i64 x4_1 ∧ Aside0 (laws_toIntS.l0 kq l0 x3_1 x4_1 = some r) ∧ Aside0 (kq ≤ k) ∧ Aside0 (Kd.R (Kd.int .i64) 3 w' w.heap.size (fun _ => True) v177 x3_1) ∧ Aside0 (Below w.heap.size w w'))
      case atStart => exact ⟨(y176), (0), (by first | rfl | (simp; done) | (simp [*]; done)), H', ⟨Nat.le_refl _⟩, ⟨by (with_reducible repeat (first | apply Kd.R_alloc | apply Kd.R_drewN | apply Kd.R_drew)); exact HO178.out⟩, ⟨by repeat (first | (with_reducible first | exact HB.out | apply below_alloc | apply pw_below_drewN | apply below_drew1) | exact HB.out)⟩⟩
      case round =>
        clear H'
        try clear c2
        try clear c2b0
        try clear c2b1
        try clear p2
        try clear c3
        try clear c3b0
        try clear c3b1
        obtain ⟨x3_1, x4_1, rfl, HA, HK1, HO_3, HB⟩ := hrel
        cases gk with
        | zero => exact absurd HA.out (by simp [laws_toIntS.l0])
        | succ k1 =>
          have H := HA.out
          clear HA
          simp only [laws_toIntS.l0] at H
          by_cases c6 : x4_1 < (l0.length : Int)
          · rw [if_pos c6] at H
            have c6b0 : decide (x4_1 < (l0.length : Int)) = true := decide_eq_true c6
            clear c6
            by_cases c7 : 0 ≤ x4_1
            · rw [if_pos c7] at H
              have c7b0 : decide (0 ≤ x4_1) = true := decide_eq_true c7
              clear c7
              by_cases c8 : x4_1 < (x3_1.length : Int)
              · rw [if_pos c8] at H
                have c8b0 : decide (x4_1 < (x3_1.length : Int)) = true := decide_eq_true c8
                clear c8
                obtain ⟨y180, hy180⟩ : ∃ y_ : List Int, y_ = (x3_1.set (x4_1 : Int).toNat (rd l0 x4_1)) := ⟨_, rfl⟩
                replace H : (laws_toIntS.l0 k1 l0 y180 (wrap64 (x4_1 + 1))) = some r := by first | (rw [hy180]; with_reducible exact H) | (have H2_ := (Option.bind_some _ _).symm.trans H; rw [hy180]; with_reducible exact H2_) | (have H2_ := (Option.bind_some _ _).symm.trans H; with_reducible exact H2_) | with_reducible exact H | (rw [hy180]; exact H) | exact H
                have Ny180 := Aside0.mk hy180
                clear hy180
                have H' := Aside0.mk H
                clear H
                have p179 : 0 ≤ (x4_1 : Int) := of_decide_eq_true (by first | (with_reducible assumption) | assumption)
                have q179 : x4_1 < (l0.length : Int) := of_decide_eq_true (by first | (with_reducible assumption) | assumption)
                obtain ⟨ad179, e179, hx179_0⟩ := Kd.at_int HR0.out x4_1 p179 q179
                cases e179
                (try replace hx179_0 := (HB.out.cell (World.block_lt_of_cell? w _ hx179_0)).trans hx179_0)
                replace p179 := eq_true p179
                replace q179 := eq_true q179
                have p9 : 0 ≤ (x4_1 : Int) := of_decide_eq_true (by first | (with_reducible assumption) | assumption)
                have q9 : (x4_1 : Int) < ((x3_1.length : Int) : Int) := of_decide_eq_true (by first | (with_reducible assumption) | assumption)
                obtain ⟨go9, co9, eo9, gb9, gl9, cl9, HG9⟩ := Kd.R_form HO_3.out (by omega)
                (first | cases eo9 | (injection eo9 with ea_ en_ ec_; (first | subst ea_ | (injection ea_ with ea_; subst ea_)); subst ec_; clear en_))
                have GB9 := Aside0.mk gb9
                have GG9 := Aside0.mk HG9
                clear gb9 gl9 HG9
                obtain ⟨hx9_0, hf9_0⟩ := Kd.R_celln 0 HO_3.out (x4_1 : Int) p9 q9
                replace p9 := eq_true p9
                replace q9 := eq_true q9
                have HP10 := Kd.R_putg HO_3.out (x4_1 : Int) (rd l0 x4_1)
                go_wp2_with (first | ((with_reducible refine gate_store (t := 3) (p := 20) rfl ?_); refine store_event (t := 3) (p := 20) (v := ?vo_w11) (w1 := (wr.setCell ⟨go9, (x4_1 : Int).toNat, none⟩ (.int .i64 (rd l0 x4_1)))) ?hg ?ho ?hn ?hr ?_; (case ho => rfl); (case hg => rfl); (case hn => rfl); (case hr => first | (go_simp; done) | (go_simp; rfl)); intro w11 hw; have hg : wr.grownBy w11 (some go9) := (by rw [hw]; exact HP10.2); have hp_ : Kd.R (Kd.int .i64) 3 w11 w.heap.size (fun _ => True) (.slice (some ⟨go9, 0, none⟩) x3_1.length co9) y180 := (by rw [hw, Ny180.out]; exact HP10.1); clear HP10; have n0_ := Aside0.mk (hp_); have n1_ := Aside0.mk ((by rw [hw]; exact below_set (HB.out) GB9.out : Below w.heap.size w w11)); clear HO_3; clear HB; have HO_3 := n0_; have HB := n1_; clear n0_ n1_; clear hg hw hp_))
                go_roundg k1
                case measure => have := HK1.out; omega
                case rel => exact ⟨(y180), (wrap64 (x4_1 + 1)), (by first | rfl | (simp; done) | (simp [*]; done)), H', ⟨by have := HK1.out; omega⟩, ⟨by (with_reducible repeat (first | apply Kd.R_alloc | apply Kd.R_drewN | apply Kd.R_drew)); exact HO_3.out⟩, ⟨by repeat (first | (with_reducible first | exact HB.out | apply below_alloc | apply pw_below_drewN | apply below_drew1) | exact HB.out)⟩⟩
              · rw [if_neg c8] at H
                exact absurd H (by simp)
            · rw [if_neg c7] at H
              exact absurd H (by simp)
          · rw [if_neg c6] at H
            have c6b0 : decide (x4_1 < (l0.length : Int)) = false := decide_eq_false c6
            clear c6
            obtain rfl := Option.some.inj H
            go_wp2
            go_ret
            exact ⟨_, by first | rfl | (simp [errW_none, errW_some] <;> rfl) | (simp [*, errW_none, errW_some] <;> rfl), by (with_reducible repeat (first | apply Kd.R_alloc | apply Kd.R_drewN | apply Kd.R_drew)); exact HO_3.out, by repeat (first | (with_reducible first | exact HB.out | apply below_alloc | apply pw_below_drewN | apply below_drew1) | exact HB.out)⟩
    · rw [if_neg c3] at H
      exact absurd H (by simp)
  · rw [if_neg c2] at H
    exact absurd H (by simp)

/-! ### impl_within: function 55 -/
def impl_within.f (a0 : Int) (a1 : Int) (a2 : Int) : Option (Bool) := if a0 ≥ a1 then (some (decide (a0 ≤ a2))) else (some false)
set_option maxHeartbeats 8000000 in
set_option maxRecDepth 100000 in
theorem impl_within.calls (a0 : Int) (a1 : Int) (a2 : Int) (r : Bool) (w : World) (h : impl_within.f a0 a1 a2 = some r) :
    Calls Tryd.prog 55 #[.int .i64 a0, .int .i64 a1, .int .i64 a2] w fun e w' => e = .returned (.bool r) ∧ Drawn0 w w' := by
  have H : (if a0 ≥ a1 then (some (decide (a0 ≤ a2))) else (some false)) = some r := h
  clear h
  by_cases c4 : a0 ≥ a1
  · rw [if_pos c4] at H
    have c4b0 : decide (a1 ≤ a0) = true := decide_eq_true c4
    clear c4
    obtain rfl := Option.some.inj H
    go_enter Tryd.func55, Tryd.ntmps55
    go_wp2
    go_ret
    exact ⟨by first | rfl | (simp; done) | (simp [*]; done), by repeat (first | exact Drawn0.refl _ | apply Drawn0.step)⟩
  · rw [if_neg c4] at H
    have c4b0 : decide (a1 ≤ a0) = false := decide_eq_false c4
    clear c4
    obtain rfl := Option.some.inj H
    go_enter Tryd.func55, Tryd.ntmps55
    go_wp2
    go_ret
    exact ⟨by first | rfl | (simp; done) | (simp [*]; done), by repeat (first | exact Drawn0.refl _ | apply Drawn0.step)⟩

-- NOT PRINTED: function 113 (slices_IndexFunc_int)

-- NOT PRINTED: function 83 (slices_ContainsFunc_int)

/-! ### impl_BarsOk: function 52 -/
--import Derived.WalkSpells
--import Derived.Deep.QuietTactic
--import Derived.BigQuiet
def impl_BarsOk.ok (lo hi x : Int) : Bool := decide (lo ≤ x) && decide (x ≤ hi)
def impl_BarsOk.f (a0 : Int) (l0 : List Int) : Option Bool := some (impl_BarsOk.ok 1 1000 a0 && (decide (l0.length ≤ 8) && l0.all (impl_BarsOk.ok 1 a0)))
theorem impl_BarsOk.within (a0 : Int) (a1 : Int) (a2 : Int) (t : Bool) (w : World) (ht : impl_BarsOk.ok a1 a2 a0 = t) :
    Calls Tryd.prog 55 #[.int .i64 a0, .int .i64 a1, .int .i64 a2] w fun e w' => e = .returned (.bool t) ∧ Drawn0 w w' := by
  subst ht
  unfold impl_BarsOk.ok
  by_cases c4 : a1 ≤ a0
  · have c4b0 : decide (a1 ≤ a0) = true := decide_eq_true c4
    rw [c4b0, Bool.true_and]
    clear c4
    go_enter Tryd.func55, Tryd.ntmps55
    go_wp2
    go_ret
    exact ⟨by first | rfl | (simp; done) | (simp [*]; done), by repeat (first | exact Drawn0.refl _ | apply Drawn0.step)⟩
  · have c4b0 : decide (a1 ≤ a0) = false := decide_eq_false c4
    rw [c4b0, Bool.false_and]
    clear c4
    go_enter Tryd.func55, Tryd.ntmps55
    go_wp2
    go_ret
    exact ⟨by first | rfl | (simp; done) | (simp [*]; done), by repeat (first | exact Drawn0.refl _ | apply Drawn0.step)⟩
theorem impl_BarsOk.cellN {w : World} {p : Addr} {v : Value} (h : w.cell? p = some v) (m : Nat) : (w.drewN m).cell? p = some v := by simpa using h
set_option maxHeartbeats 4000000 in
theorem impl_BarsOk.pred (n hi : Int) (b1 : Nat) (t : Bool) (w : World) (h1 : w.cell? ⟨b1, 0, none⟩ = some (.int .i64 hi)) (ht : impl_BarsOk.ok 1 hi n = t) :
    Calls Tryd.prog 84 #[.int .i64 n, .pointer (some ⟨b1, 0, none⟩)] w fun e w' => e = .returned (.bool (!t)) ∧ ∃ m, w' = w.drewN m := by
  have HW := Aside0.mk ht
  clear ht
  go_enter Tryd.func84, Tryd.ntmps84
  go_wp2_with (first | (go_at_call 55; (with_reducible refine (impl_BarsOk.within n 1 hi t _ HW.out).mono ?_); rintro e w1 ⟨rfl, ⟨m1, rfl⟩⟩))
  go_ret
  exact ⟨rfl, by first | exact ⟨_, rfl⟩ | simp⟩
def impl_BarsOk.IxPost (l : List Int) (hi : Int) (w : World) (e : Ending) (w' : World) : Prop := ∃ i : Int, e = .returned (.int .i64 i) ∧ (if l.all (impl_BarsOk.ok 1 hi) = true then i = -1 else 0 ≤ i) ∧ Drawn0 w w'
theorem impl_BarsOk.all_of {l : List Int} {hi : Int} (h : ∀ j : Nat, j < l.length → impl_BarsOk.ok 1 hi (l.getD j 0) = true) : l.all (impl_BarsOk.ok 1 hi) = true := by
  rw [List.all_eq_true]
  intro x hx
  obtain ⟨j, hj, rfl⟩ := List.getElem_of_mem hx
  have := h j hj
  rwa [List.getD_eq_getElem?_getD, List.getElem?_eq_getElem hj] at this
theorem impl_BarsOk.all_not {l : List Int} {hi : Int} {j : Nat} (hj : j < l.length) (h : impl_BarsOk.ok 1 hi (l.getD j 0) = false) : ¬ l.all (impl_BarsOk.ok 1 hi) = true := by
  rw [List.all_eq_true]
  intro h2
  rw [List.getD_eq_getElem?_getD, List.getElem?_eq_getElem hj] at h
  have h3 := h2 _ (List.getElem_mem hj)
  rw [Option.getD_some] at h
  rw [h] at h3
  cases h3
set_option maxHeartbeats 4000000 in
theorem impl_BarsOk.index (A0 : Option Addr) (c0 : Nat) (l : List Int) (hi : Int) (b1 : Nat) (w : World) (hr : Kd.C (Kd.int .i64) w A0 l.length l) (h1 : w.cell? ⟨b1, 0, none⟩ = some (.int .i64 hi)) :
    Calls Tryd.prog 113 #[.slice A0 l.length c0, .func (.func 84) #[] #[.pointer (some ⟨b1, 0, none⟩)]] w (impl_BarsOk.IxPost l hi w) := by
  have HR := Aside0.mk hr
  have hm := Kd.C_max hr
  have HM := Aside0.mk hm
  have H1 := Aside0.mk h1
  clear hr hm h1
  go_enter Tryd.func113, Tryd.ntmps113
  go_wp2
  go_loopg [8] l.length (fun kq v8 w' => ∃ i : Int, v8 = .int .i64 i ∧ Aside0 (0 ≤ i ∧ i + kq = (l.length : Int)) ∧ Aside0 (∀ j : Nat, (j : Int) < i → impl_BarsOk.ok 1 hi (l.getD j 0) = true) ∧ Drawn0 w w')
  case atStart => exact ⟨0, (by first | rfl | (simp; done) | (simp [*]; done)), ⟨by omega⟩, ⟨fun j hj => by omega⟩, by repeat (first | exact Drawn0.refl _ | apply Drawn0.step)⟩
  case round =>
    obtain ⟨i, rfl, HI, HJ, ⟨m1, rfl⟩⟩ := hrel
    have hI := HI.out
    by_cases c : i < (l.length : Int)
    · have c1 : decide (i < (l.length : Int)) = true := decide_eq_true c
      have c2 : 0 ≤ i := hI.1
      obtain ⟨ad, e, hx⟩ := Kd.at_int (Kd.C_drewN HR.out m1) i c2 c
      cases e
      have hxe : rd l i = l.getD i.toNat 0 := rfl
      rw [hxe] at hx
      generalize hxi : l.getD i.toNat 0 = x at hx
      have HX := Aside0.mk hxi
      have HCI := Aside0.mk c
      clear hxi hI hxe
      replace c := eq_true c
      replace c2 := eq_true c2
      cases hb : impl_BarsOk.ok 1 hi x with
      | true =>
        have HB := Aside0.mk hb
        clear hb
        go_wp2_with (first | (go_at_call 84; (with_reducible refine (impl_BarsOk.pred x hi b1 true _ (impl_BarsOk.cellN H1.out m1) HB.out).mono ?_); rintro e w1 ⟨rfl, ⟨m2, rfl⟩⟩))
        go_roundg (l.length - (i.toNat + 1))
        case measure => have := HI.out; have := HCI.out; omega
        case rel => exact ⟨i + 1, (by have := HI.out; have := HM.out; have := HCI.out; rw [show wrap64 (i + 1) = i + 1 by unfold wrap64; omega]), ⟨by have := HI.out; have := HCI.out; omega⟩, ⟨fun j hj => by
          by_cases e : (j : Int) = i
          · rw [show j = i.toNat by omega, HX.out]; exact HB.out
          · exact HJ.out j (by omega)⟩, by repeat (first | exact Drawn0.refl _ | apply Drawn0.step)⟩
      | false =>
        have HB := Aside0.mk hb
        clear hb
        go_wp2_with (first | (go_at_call 84; (with_reducible refine (impl_BarsOk.pred x hi b1 false _ (impl_BarsOk.cellN H1.out m1) HB.out).mono ?_); rintro e w1 ⟨rfl, ⟨m2, rfl⟩⟩))
        go_ret
        refine ⟨i, rfl, ?_, by repeat (first | exact Drawn0.refl _ | apply Drawn0.step)⟩
        rw [if_neg (impl_BarsOk.all_not (j := i.toNat) (by have := HI.out; have := HCI.out; omega) (by rw [HX.out]; exact HB.out))]
        exact HI.out.1
    · have c1 : decide (i < (l.length : Int)) = false := decide_eq_false c
      have HCI := Aside0.mk c
      clear hI c
      go_wp2
      go_ret
      refine ⟨-1, rfl, ?_, by repeat (first | exact Drawn0.refl _ | apply Drawn0.step)⟩
      rw [if_pos (impl_BarsOk.all_of (fun j hj => HJ.out j (by have := HI.out; have := HCI.out; omega)))]
set_option maxHeartbeats 4000000 in
theorem impl_BarsOk.contains (A0 : Option Addr) (c0 : Nat) (l : List Int) (hi : Int) (b1 : Nat) (t : Bool) (w : World) (hr : Kd.C (Kd.int .i64) w A0 l.length l) (h1 : w.cell? ⟨b1, 0, none⟩ = some (.int .i64 hi)) (ht : l.all (impl_BarsOk.ok 1 hi) = t) :
    Calls Tryd.prog 83 #[.slice A0 l.length c0, .func (.func 84) #[] #[.pointer (some ⟨b1, 0, none⟩)]] w fun e w' => e = .returned (.bool (!t)) ∧ Drawn0 w w' := by
  have HR := Aside0.mk hr
  have HT := Aside0.mk ht
  have H1 := Aside0.mk h1
  clear hr ht h1
  go_enter Tryd.func83, Tryd.ntmps83
  go_wp2_with fail
  go_at_call 113
  (with_reducible refine (impl_BarsOk.index _ _ l hi b1 _ HR.out H1.out).mono ?_)
  rintro e w1 ⟨i, rfl, hi, ⟨m, rfl⟩⟩
  rw [HT.out] at hi
  cases t with
  | true =>
    rw [if_pos rfl] at hi
    subst hi
    go_wp2
    go_ret
    exact ⟨rfl, by repeat (first | exact Drawn0.refl _ | apply Drawn0.step)⟩
  | false =>
    rw [if_neg (by decide)] at hi
    have b : decide (0 ≤ i) = true := decide_eq_true hi
    clear hi
    go_wp2
    go_ret
    exact ⟨rfl, by repeat (first | exact Drawn0.refl _ | apply Drawn0.step)⟩
set_option maxHeartbeats 4000000 in
theorem impl_BarsOk.calls (a0 : Int) (A0 : Option Addr) (c0 : Nat) (l0 : List Int) (r : Bool) (w : World) (hr0 : Kd.C (Kd.int .i64) w A0 l0.length l0) (hc0 : l0.length ≤ c0) (h : impl_BarsOk.f a0 l0 = some r) :
    Calls Tryd.prog 52 #[.int .i64 a0, .slice A0 l0.length c0] w fun e w' => e = .returned (.bool r) ∧ Below w.heap.size w w' := by
  unfold impl_BarsOk.f at h
  have HT := Aside0.mk (Option.some.inj h)
  have HR := Aside0.mk hr0
  have HB := Aside0.mk (Below.refl w.heap.size w)
  clear hr0 hc0 h
  cases hk : impl_BarsOk.ok 1 1000 a0 with
  | false =>
    have HK := Aside0.mk hk
    clear hk
    go_enter Tryd.func52, Tryd.ntmps52
    go_upto_region 1 with (first | ((with_reducible refine gate_dst (N := 2) rfl ?_); refine box_event ?hg (N := 2) ?hd (cs := #[.int .i64 a0]) (t := 3) ?hr ?_; (case hd => rfl); (case hg => rfl); (case hr => first | (go_simp; done) | (go_simp; rfl)); intro g1 hg w4 hbox hb; have B1 := Aside0.mk hbox; have n0_ := Aside0.mk (below_step (by repeat (first | (with_reducible first | exact HB.out | apply below_alloc | apply pw_below_drewN | apply below_drew1) | exact HB.out)) hb); clear HB hg hbox hb; have HB := n0_; clear n0_))
    have hc1 := (blk_cell B1.out 0).trans (rfl : _ = some (Value.int .i64 a0))
    go_wp2_with (first | (go_at_call 55; (with_reducible refine (impl_BarsOk.within a0 1 1000 false _ HK.out).mono ?_); rintro e w1 ⟨rfl, ⟨m1, rfl⟩⟩))
    go_ret
    exact ⟨by rw [← HT.out, HK.out]; rfl, by repeat (first | exact HB.out | apply pw_below_drewN | apply below_drew1)⟩
  | true =>
    have HK := Aside0.mk hk
    have HT2 : Aside0 ((decide (l0.length ≤ 8) && l0.all (impl_BarsOk.ok 1 a0)) = r) := ⟨by rw [← HT.out, hk, Bool.true_and]⟩
    clear hk HT
    by_cases c : l0.length ≤ 8
    · have b0 : decide ((l0.length : Int) ≤ 8) = true := decide_eq_true (by omega)
      have b1 : decide (l0.length ≤ 8) = true := decide_eq_true c
      have HT3 : Aside0 (l0.all (impl_BarsOk.ok 1 a0) = r) := ⟨by rw [← HT2.out, b1, Bool.true_and]⟩
      clear HT2 c
      go_enter Tryd.func52, Tryd.ntmps52
      go_upto_region 1 with (first | ((with_reducible refine gate_dst (N := 2) rfl ?_); refine box_event ?hg (N := 2) ?hd (cs := #[.int .i64 a0]) (t := 3) ?hr ?_; (case hd => rfl); (case hg => rfl); (case hr => first | (go_simp; done) | (go_simp; rfl)); intro g1 hg w4 hbox hb; have B1 := Aside0.mk hbox; have n0_ := Aside0.mk (below_step (by repeat (first | (with_reducible first | exact HB.out | apply below_alloc | apply pw_below_drewN | apply below_drew1) | exact HB.out)) hb); clear HB hg hbox hb; have HB := n0_; clear n0_))
      have hc1 := (blk_cell B1.out 0).trans (rfl : _ = some (Value.int .i64 a0))
      go_wp2_with (first | (go_at_call 55; (with_reducible refine (impl_BarsOk.within a0 1 1000 true _ HK.out).mono ?_); rintro e w1 ⟨rfl, ⟨m1, rfl⟩⟩) | (go_at_call 83; (with_reducible refine (impl_BarsOk.contains A0 c0 l0 a0 g1 r _ (Kd.C_below HR.out (by repeat (first | exact HB.out | apply pw_below_drewN | apply below_drew1))) (by simpa using hc1) HT3.out).mono ?_); rintro e w1 ⟨rfl, ⟨m, rfl⟩⟩))
      go_ret
      exact ⟨by cases r <;> rfl, by repeat (first | exact HB.out | apply pw_below_drewN | apply below_drew1)⟩
    · have b0 : decide ((l0.length : Int) ≤ 8) = false := decide_eq_false (by omega)
      have b1 : decide (l0.length ≤ 8) = false := decide_eq_false c
      have HT3 : Aside0 (false = r) := ⟨by rw [← HT2.out, b1, Bool.false_and]⟩
      clear HT2 c
      go_enter Tryd.func52, Tryd.ntmps52
      go_upto_region 1 with (first | ((with_reducible refine gate_dst (N := 2) rfl ?_); refine box_event ?hg (N := 2) ?hd (cs := #[.int .i64 a0]) (t := 3) ?hr ?_; (case hd => rfl); (case hg => rfl); (case hr => first | (go_simp; done) | (go_simp; rfl)); intro g1 hg w4 hbox hb; have B1 := Aside0.mk hbox; have n0_ := Aside0.mk (below_step (by repeat (first | (with_reducible first | exact HB.out | apply below_alloc | apply pw_below_drewN | apply below_drew1) | exact HB.out)) hb); clear HB hg hbox hb; have HB := n0_; clear n0_))
      have hc1 := (blk_cell B1.out 0).trans (rfl : _ = some (Value.int .i64 a0))
      go_wp2_with (first | (go_at_call 55; (with_reducible refine (impl_BarsOk.within a0 1 1000 true _ HK.out).mono ?_); rintro e w1 ⟨rfl, ⟨m1, rfl⟩⟩))
      go_ret
      exact ⟨by first | rfl | (rw [← HT3.out]; rfl), by repeat (first | exact HB.out | apply pw_below_drewN | apply below_drew1)⟩

end Go.Proofs.YtelhjgkjnlcomaaDoor.QFnExactBarLine
