-- Printed for this claim by a changed copy of the kit's print (the session's own; own contracts in place of some functions).
import Derived.Test.YtndlmckfacegeaaDoorQFnExactSquareLinex0
import Derived.Test.YtndlmckfacegeaaDoorQFnExactSquareLinex3
import Derived.Test.YtndlmckfacegeaaDoorQFnExactSquareLinex4
namespace Go.Proofs.YtndlmckfacegeaaDoor.QFnExactSquareLine
open Go.RowKit Go.Proofs.YtndlmckfacegeaaDoorW.PrintWords Go.Proofs.YtndlmckfacegeaaDoorW.PrintLast Go.Proofs.YtndlmckfacegeaaDoorW.PrintMore
attribute [local go_sem] max2_int min2_int max_two min_two max_three min_three max_four min_four   -- for this text's walks alone
set_option linter.unusedVariables false
set_option linter.unusedSimpArgs false

/-! ### impl_FormatNumbers: function 40 -/
def impl_FormatNumbers.l0 : Nat → List ByteArray → List Int → Int → Int → Option (ByteArray)
  | 0, _, _, _, _ => none
  | k + 1, x3, x10, x11, x12 => if x12 < x11 then (if 0 ≤ x12 then (if x12 < (x10.length : Int) then ((impl_FormatInt.f (rd x10 x12)).bind fun t163 => (if x3.length < 8796093022208 then (impl_FormatNumbers.l0 k (x3 ++ [t163]) x10 x11 (wrap64 (x12 + 1))) else (none))) else (none)) else (none)) else ((impl_orDash.f x3 (⟨#[44]⟩ : ByteArray)).bind fun t167 => (some t167))
def impl_FormatNumbers.f (k : Nat) (l0 : List Int) : Option (ByteArray) := if (l0.length : Int) > 40 then (some (⟨#[]⟩ : ByteArray)) else (impl_FormatNumbers.l0 k (([] : List ByteArray)) l0 (l0.length : Int) 0)
theorem impl_FormatNumbers.mono_l : ∀ k, (∀ y0 y1 y2 y3, LeO (impl_FormatNumbers.l0 k y0 y1 y2 y3) (impl_FormatNumbers.l0 (k + 1) y0 y1 y2 y3))
  | 0 => fun _ _ _ _ r h => by simp [impl_FormatNumbers.l0] at h
  | k + 1 => by
    have ih0 := impl_FormatNumbers.mono_l k
    · intro y0 y1 y2 y3
      unfold impl_FormatNumbers.l0
      repeat' first
      | (with_reducible exact ih0 _ _ _ _)
      | (with_reducible exact LeO.refl _)
      | (with_reducible exact LeO.none _)
      | (with_reducible refine LeO.ite ?_ ?_)
      | (with_reducible refine LeO.bind ?_ (fun _ => ?_))
      | exact ih0 _ _ _ _
      | exact LeO.none _
      | refine LeO.ite ?_ ?_
      | refine LeO.bind ?_ (fun _ => ?_)
theorem impl_FormatNumbers.mono : ∀ a0 k, LeO (impl_FormatNumbers.f k a0) (impl_FormatNumbers.f (k + 1) a0) := by
  intro a0 k
  have ih0 := impl_FormatNumbers.mono_l k
  unfold impl_FormatNumbers.f
  repeat' first
      | (with_reducible exact ih0 _ _ _ _)
      | (with_reducible exact LeO.refl _)
      | (with_reducible exact LeO.none _)
      | (with_reducible refine LeO.ite ?_ ?_)
      | (with_reducible refine LeO.bind ?_ (fun _ => ?_))
      | exact ih0 _ _ _ _
      | exact LeO.none _
      | refine LeO.ite ?_ ?_
      | refine LeO.bind ?_ (fun _ => ?_)
set_option maxHeartbeats 8000000 in
set_option maxRecDepth 100000 in
theorem impl_FormatNumbers.calls (k : Nat) (A0 : Option Addr) (c0 : Nat) (l0 : List Int) (r : ByteArray) (w : World) (hr0 : Kd.C (Kd.int .i64) w A0 l0.length l0) (hc0 : l0.length ≤ c0) (h : impl_FormatNumbers.f k l0 = some r) (hG : GT w) :
    Calls Tryd.prog 40 #[.slice A0 l0.length c0] w fun e w' => e = .returned (.string r) ∧ Below w.heap.size w w' := by
  have HR0 := Aside0.mk hr0
  have HC0 := Aside0.mk hc0
  clear hr0 hc0
  have HG := Aside0.mk hG; clear hG; have HB := Aside0.mk (Below.refl w.heap.size w)
  have H : (if (l0.length : Int) > 40 then (some (⟨#[]⟩ : ByteArray)) else (impl_FormatNumbers.l0 k (([] : List ByteArray)) l0 (l0.length : Int) 0)) = some r := h
  clear h
  by_cases c2 : (l0.length : Int) > 40
  · rw [if_pos c2] at H
    have c2b0 : decide (40 < (l0.length : Int)) = true := decide_eq_true c2
    have c2b1 : decide (40 < l0.length) = true := decide_eq_true (by omega)
    clear c2
    obtain rfl := Option.some.inj H
    go_enter Tryd.func40, Tryd.ntmps40
    go_wp2
    go_ret
    exact ⟨by first | rfl | (simp [errW_none, errW_some] <;> rfl) | (simp [*, errW_none, errW_some] <;> rfl), by repeat (first | (with_reducible first | exact HB.out | apply below_alloc | apply pw_below_drewN | apply below_drew1) | exact HB.out)⟩
  · rw [if_neg c2] at H
    have c2b0 : decide (40 < (l0.length : Int)) = false := decide_eq_false c2
    have c2b1 : decide (40 < l0.length) = false := decide_eq_false (by omega)
    clear c2
    obtain ⟨y159, hy159⟩ : ∃ y_ : List ByteArray, y_ = (([] : List ByteArray)) := ⟨_, rfl⟩
    replace H : (impl_FormatNumbers.l0 k y159 l0 (l0.length : Int) 0) = some r := by first | (rw [hy159]; with_reducible exact H) | (have H2_ := (Option.bind_some _ _).symm.trans H; rw [hy159]; with_reducible exact H2_) | (have H2_ := (Option.bind_some _ _).symm.trans H; with_reducible exact H2_) | with_reducible exact H | (rw [hy159]; exact H) | exact H
    have Ny159 := Aside0.mk hy159
    clear hy159
    have H' := Aside0.mk H
    clear H
    go_enter Tryd.func40, Tryd.ntmps40
    go_wp2_with (first | ((with_reducible refine gate_dst (N := 9) rfl ?_); refine Kd.R_lit Kd.string _ 9 ?hg (N := 9) ?hd (xs := ([] : List ByteArray)) (inner := []) (ok := fun _ => True) (okp := fun _ => True) ?hr ?hp (fun _ hk => hk) trivial (Below.refl _ _) (Nat.le_refl _) (by simp) ?_; (case hd => rfl); (case hg => rfl); (case hr => first | (go_simp; done) | (go_simp; rfl)); (case hp => exact (Reps.none _ _)); intro v160 w3 ho4 hb hg_ hnew_; clear hg_ hnew_; (first | rw [← Ny159.out] at ho4 | (simp only [Int.reduceToNat] at ho4; rw [← Ny159.out] at ho4)); have n0_ := Aside0.mk (Kd.R_lower ho4 (below_size (by repeat (first | (with_reducible first | exact HB.out | apply below_alloc | apply pw_below_drewN | apply below_drew1) | exact HB.out)))); have n1_ := Aside0.mk (below_step (by repeat (first | (with_reducible first | exact HB.out | apply below_alloc | apply pw_below_drewN | apply below_drew1) | exact HB.out)) hb); clear HB; have HO161 := n0_; have HB := n1_; clear n0_ n1_; clear hb ho4))
    go_loopg [3, 12] k (fun kq v3 v12 w' => ∃ (x3_1 : List ByteArray) (x12_1 : Int), v12 = .int .i64 x12_1 ∧ Aside0 (impl_FormatNumbers.l0 kq x3_1 l0 (l0.length : Int) x12_1 = some r) ∧ Aside0 (kq ≤ k) ∧ Aside0 (Kd.R Kd.string 9 w' w.heap.size (fun _ => True) v3 x3_1) ∧ Aside0 (Below w.heap.size w w'))
    case atStart => exact ⟨(y159), (0), (by first | rfl | (simp; done) | (simp [*]; done)), H', ⟨Nat.le_refl _⟩, ⟨by (with_reducible repeat (first | apply Kd.R_alloc | apply Kd.R_drewN | apply Kd.R_drew)); exact HO161.out⟩, ⟨by repeat (first | (with_reducible first | exact HB.out | apply below_alloc | apply pw_below_drewN | apply below_drew1) | exact HB.out)⟩⟩
    case round =>
      clear H'
      try clear c2
      try clear c2b0
      try clear c2b1
      try clear p2
      try clear c4
      obtain ⟨x3_1, x12_1, rfl, HA, HK1, HO_3, HB⟩ := hrel
      cases gk with
      | zero => exact absurd HA.out (by simp [impl_FormatNumbers.l0])
      | succ k1 =>
        have H := HA.out
        clear HA
        simp only [impl_FormatNumbers.l0] at H
        by_cases c5 : x12_1 < (l0.length : Int)
        · rw [if_pos c5] at H
          have c5b0 : decide (x12_1 < (l0.length : Int)) = true := decide_eq_true c5
          clear c5
          by_cases c6 : 0 ≤ x12_1
          · rw [if_pos c6] at H
            have c6b0 : decide (0 ≤ x12_1) = true := decide_eq_true c6
            clear c6
            by_cases c7 : x12_1 < (l0.length : Int)
            · rw [if_pos c7] at H
              have c7b0 : decide (x12_1 < (l0.length : Int)) = true := decide_eq_true c7
              clear c7
              replace H := Option.bind_eq_some_iff.mp H
              obtain ⟨t163, A80, H⟩ := H
              replace H : (if x3_1.length < 8796093022208 then (impl_FormatNumbers.l0 k1 (x3_1 ++ [t163]) l0 (l0.length : Int) (wrap64 (x12_1 + 1))) else (none)) = some r := H
              have A8 := Aside0.mk A80
              clear A80
              by_cases c9 : x3_1.length < 8796093022208
              · rw [if_pos c9] at H
                have LMc9 := Aside0.mk c9
                clear c9
                obtain ⟨y164, hy164⟩ : ∃ y_ : List ByteArray, y_ = (x3_1 ++ [t163]) := ⟨_, rfl⟩
                replace H : (impl_FormatNumbers.l0 k1 y164 l0 (l0.length : Int) (wrap64 (x12_1 + 1))) = some r := by first | (rw [hy164]; with_reducible exact H) | (have H2_ := (Option.bind_some _ _).symm.trans H; rw [hy164]; with_reducible exact H2_) | (have H2_ := (Option.bind_some _ _).symm.trans H; with_reducible exact H2_) | with_reducible exact H | (rw [hy164]; exact H) | exact H
                have Ny164 := Aside0.mk hy164
                clear hy164
                have H' := Aside0.mk H
                clear H
                have p162 : 0 ≤ (x12_1 : Int) := of_decide_eq_true (by first | (with_reducible assumption) | assumption)
                have q162 : x12_1 < (l0.length : Int) := of_decide_eq_true (by first | (with_reducible assumption) | assumption)
                obtain ⟨ad162, e162, hx162_0⟩ := Kd.at_int HR0.out x12_1 p162 q162
                cases e162
                (try replace hx162_0 := (HB.out.cell (World.block_lt_of_cell? w _ hx162_0)).trans hx162_0)
                replace p162 := eq_true p162
                replace q162 := eq_true q162
                go_wp2_with (first | ((with_reducible refine gate_callee (f := 34) rfl ?_); refine goesL_ (some 18) rfl rfl Tryd.func34 (by kernel_rfl) rfl #[.int .i64 (rd l0 x12_1)] rfl (by (try simp only [List.map_toArray, List.map_cons, List.map_nil]); first | done | rfl | (simp only [List.length_drop, List.length_take]; rfl)) ?_; (with_reducible refine (impl_FormatInt.calls (rd l0 x12_1) t163 _ A8.out (HG.out.of (by repeat (first | (with_reducible first | exact HB.out | apply below_alloc | apply pw_below_drewN | apply below_drew1) | exact HB.out)))).mono ?_); rintro e w10 ⟨rfl, hb⟩; refine ⟨_, rfl, ?_⟩; have n0_ := Aside0.mk (Kd.R_below (by (with_reducible repeat (first | apply Kd.R_alloc | apply Kd.R_drewN | apply Kd.R_drew)); exact HO_3.out) hb); have n1_ := Aside0.mk (below_step (by repeat (first | (with_reducible first | exact HB.out | apply below_alloc | apply pw_below_drewN | apply below_drew1) | exact HB.out)) hb); clear HO_3; clear HB; have HO_3 := n0_; have HB := n1_; clear n0_ n1_; (try clear hb); (try clear hb2); (try clear hk); (try clear hi)) | ((with_reducible refine gate_builtin (b := .append) (xs := #[.tmp 16, .tmp 19]) rfl ?_); at_builtin; refine Kd.R_append Kd.string (w0 := w) w.heap.size rfl (.tmp 16) (.tmp 19) 57 9 (.string ⟨#[]⟩) 16 rfl Tryd.underlying57 info9 rfl (by decide) (by omega) u3 x3_1 t163 [.string t163] (fun _ => True) (fun _ => False) rfl rfl ?aP (fun _ hk => hk.elim) ?aF ?aO ?aB ?aS ?aL ?_; (case aP => exact rfl); (case aB => exact (by repeat (first | (with_reducible first | exact HB.out | apply below_alloc | apply pw_below_drewN | apply below_drew1) | exact HB.out))); (case aF => exact (fun _ _ => trivial)); (case aO => exact (by (with_reducible repeat (first | apply Kd.R_alloc | apply Kd.R_drewN | apply Kd.R_drew)); exact HO_3.out)); (case aS => exact (below_size (by repeat (first | (with_reducible first | exact HB.out | apply below_alloc | apply pw_below_drewN | apply below_drew1) | exact HB.out)))); (case aL => have := LMc9.out; omega); intro v165 w11 ho hb hg hat; rw [← Ny164.out] at ho; have n0_ := Aside0.mk (hb); have n1_ := Aside0.mk (ho); clear HB; clear HO_3; have HB := n0_; have HO166 := n1_; clear n0_ n1_; clear ho hb hg hat))
                go_roundg k1
                case measure => have := HK1.out; omega
                case rel => exact ⟨(y164), (wrap64 (x12_1 + 1)), (by first | rfl | (simp; done) | (simp [*]; done)), H', ⟨by have := HK1.out; omega⟩, ⟨by (with_reducible repeat (first | apply Kd.R_alloc | apply Kd.R_drewN | apply Kd.R_drew)); exact HO166.out⟩, ⟨by repeat (first | (with_reducible first | exact HB.out | apply below_alloc | apply pw_below_drewN | apply below_drew1) | exact HB.out)⟩⟩
              · rw [if_neg c9] at H
                exact absurd H (by simp)
            · rw [if_neg c7] at H
              exact absurd H (by simp)
          · rw [if_neg c6] at H
            exact absurd H (by simp)
        · rw [if_neg c5] at H
          have c5b0 : decide (x12_1 < (l0.length : Int)) = false := decide_eq_false c5
          clear c5
          replace H := Option.bind_eq_some_iff.mp H
          obtain ⟨t167, A120, H⟩ := H
          replace H : (some t167) = some r := H
          have A12 := Aside0.mk A120
          clear A120
          obtain rfl := Option.some.inj H
          obtain ⟨Ao13, co13, eo13⟩ := Kd.R_slice HO_3.out
          subst eo13
          go_wp2_with (first | ((with_reducible refine gate_callee (f := 73) rfl ?_); refine goesL_ (some 23) rfl rfl Tryd.func73 (by kernel_rfl) rfl #[.slice Ao13 x3_1.length co13, .string (⟨#[44]⟩ : ByteArray)] rfl (by (try simp only [List.map_toArray, List.map_cons, List.map_nil]); first | done | rfl | (simp only [List.length_drop, List.length_take]; rfl)) ?_; (with_reducible refine (impl_orDash.calls _ _ x3_1 (⟨#[44]⟩ : ByteArray) t167 _ ?side1 ?side2 A12.out).mono ?_); (case side1 => repeat (first | exact (Kd.R_reads' HO_3.out).2.2 | (with_reducible refine Kd.C_alloc ?_ _) | (with_reducible refine Kd.C_drewN ?_ _) | (with_reducible refine Kd.C_drew ?_))); (case side2 => exact (Kd.R_reads' HO_3.out).2.1); rintro e w14 ⟨rfl, hb⟩; refine ⟨_, rfl, ?_⟩; have n0_ := Aside0.mk (Kd.R_below (by (with_reducible repeat (first | apply Kd.R_alloc | apply Kd.R_drewN | apply Kd.R_drew)); exact HO_3.out) hb); have n1_ := Aside0.mk (below_step (by repeat (first | (with_reducible first | exact HB.out | apply below_alloc | apply pw_below_drewN | apply below_drew1) | exact HB.out)) hb); clear HO_3; clear HB; have HO_3 := n0_; have HB := n1_; clear n0_ n1_; (try clear hb); (try clear hb2); (try clear hk); (try clear hi)))
          go_ret
          exact ⟨by first | rfl | (simp [errW_none, errW_some] <;> rfl) | (simp [*, errW_none, errW_some] <;> rfl), by repeat (first | (with_reducible first | exact HB.out | apply below_alloc | apply pw_below_drewN | apply below_drew1) | exact HB.out)⟩

/-! ### impl_FewestSquares: function 41 -/
--import Derived.WalkSpells
--import Derived.RegionTactic
--import Derived.Deep.RegionLaw
--import Derived.Deep.DeepCutAuto
--import Derived.Deep.WholeRow
def impl_FewestSquares.ix (a b : Nat) : Nat := a * 31 + b
def impl_FewestSquares.g (xs : List Int) (a b : Nat) : Int := xs.getD (a * 31 + b) 0
def impl_FewestSquares.kA (xs : List Int) (a b : Nat) : Nat → List Int
  | 0 => xs
  | j + 1 => (impl_FewestSquares.kA xs a b j).set (a * 31 + b) (mn (impl_FewestSquares.g (impl_FewestSquares.kA xs a b j) a b) (wrap64 (impl_FewestSquares.g (impl_FewestSquares.kA xs a b j) (j + 1) b + impl_FewestSquares.g (impl_FewestSquares.kA xs a b j) (a - (j + 1)) b)))
def impl_FewestSquares.kB (xs : List Int) (a b : Nat) : Nat → List Int
  | 0 => xs
  | j + 1 => (impl_FewestSquares.kB xs a b j).set (a * 31 + b) (mn (impl_FewestSquares.g (impl_FewestSquares.kB xs a b j) a b) (wrap64 (impl_FewestSquares.g (impl_FewestSquares.kB xs a b j) a (j + 1) + impl_FewestSquares.g (impl_FewestSquares.kB xs a b j) a (b - (j + 1)))))
def impl_FewestSquares.first (xs : List Int) (a b : Nat) : List Int := if a = b then (xs.set (a * 31 + b) (wrap64 ((a : Int) * (b : Int)))).set (a * 31 + b) 1 else xs.set (a * 31 + b) (wrap64 ((a : Int) * (b : Int)))
def impl_FewestSquares.cell (xs : List Int) (a b : Nat) : List Int := impl_FewestSquares.kB (impl_FewestSquares.kA (impl_FewestSquares.first xs a b) a b (a - 1)) a b (b - 1)
def impl_FewestSquares.row (xs : List Int) (a : Nat) : Nat → List Int
  | 0 => xs
  | j + 1 => impl_FewestSquares.cell (impl_FewestSquares.row xs a j) a (j + 1)
def impl_FewestSquares.tab (h : Nat) : Nat → List Int
  | 0 => List.replicate 961 0
  | i + 1 => impl_FewestSquares.row (impl_FewestSquares.tab h i) (i + 1) h
def impl_FewestSquares.ok (a : Int) : Bool := decide (1 ≤ a) && decide (a ≤ 30)
def impl_FewestSquares.f (a0 a1 : Int) : Option Int := if impl_FewestSquares.ok a0 = true ∧ impl_FewestSquares.ok a1 = true then some (impl_FewestSquares.g (impl_FewestSquares.tab a1.toNat a0.toNat) a0.toNat a1.toNat) else some (-1)
theorem impl_FewestSquares.kA_len (xs : List Int) (a b : Nat) : ∀ j, (impl_FewestSquares.kA xs a b j).length = xs.length
  | 0 => rfl
  | j + 1 => by rw [impl_FewestSquares.kA, List.length_set, impl_FewestSquares.kA_len xs a b j]
theorem impl_FewestSquares.kB_len (xs : List Int) (a b : Nat) : ∀ j, (impl_FewestSquares.kB xs a b j).length = xs.length
  | 0 => rfl
  | j + 1 => by rw [impl_FewestSquares.kB, List.length_set, impl_FewestSquares.kB_len xs a b j]
theorem impl_FewestSquares.kA_step (xs : List Int) (a b l : Nat) (h : 1 ≤ l) : impl_FewestSquares.kA xs a b l = (impl_FewestSquares.kA xs a b (l - 1)).set (a * 31 + b) (mn ((impl_FewestSquares.kA xs a b (l - 1)).getD (a * 31 + b) 0) (wrap64 ((impl_FewestSquares.kA xs a b (l - 1)).getD (l * 31 + b) 0 + (impl_FewestSquares.kA xs a b (l - 1)).getD ((a - l) * 31 + b) 0))) := by
  obtain ⟨j, rfl⟩ : ∃ j, l = j + 1 := ⟨l - 1, by omega⟩
  rw [impl_FewestSquares.kA, Nat.add_sub_cancel]
  rfl
theorem impl_FewestSquares.kB_step (xs : List Int) (a b l : Nat) (h : 1 ≤ l) : impl_FewestSquares.kB xs a b l = (impl_FewestSquares.kB xs a b (l - 1)).set (a * 31 + b) (mn ((impl_FewestSquares.kB xs a b (l - 1)).getD (a * 31 + b) 0) (wrap64 ((impl_FewestSquares.kB xs a b (l - 1)).getD (a * 31 + l) 0 + (impl_FewestSquares.kB xs a b (l - 1)).getD (a * 31 + (b - l)) 0))) := by
  obtain ⟨j, rfl⟩ : ∃ j, l = j + 1 := ⟨l - 1, by omega⟩
  rw [impl_FewestSquares.kB, Nat.add_sub_cancel]
  rfl
theorem impl_FewestSquares.row_step (xs : List Int) (a b : Nat) (h : 1 ≤ b) : impl_FewestSquares.row xs a b = impl_FewestSquares.cell (impl_FewestSquares.row xs a (b - 1)) a b := by
  obtain ⟨j, rfl⟩ : ∃ j, b = j + 1 := ⟨b - 1, by omega⟩
  rw [impl_FewestSquares.row, Nat.add_sub_cancel]
theorem impl_FewestSquares.tab_step (m a : Nat) (h : 1 ≤ a) : impl_FewestSquares.tab m a = impl_FewestSquares.row (impl_FewestSquares.tab m (a - 1)) a m := by
  obtain ⟨j, rfl⟩ : ∃ j, a = j + 1 := ⟨a - 1, by omega⟩
  rw [impl_FewestSquares.tab, Nat.add_sub_cancel]
theorem impl_FewestSquares.mn_if (a b : Int) : (if b < a then b else a) = mn a b := rfl
structure impl_FewestSquares.FS (w0 w : World) (gb : Nat) (xs : List Int) : Prop where
  hb : w.heap[gb]? = some (.cells (xs.map (Value.int .i64)).toArray 76 (0, 0))
  len : xs.length = 961
  ge : w0.heap.size ≤ gb
  below : Below w0.heap.size w0 w
theorem impl_FewestSquares.FS.cell {w0 w : World} {gb : Nat} {xs : List Int} (h : impl_FewestSquares.FS w0 w gb xs) {o : Nat} (ho : o < 961) : w.cell? ⟨gb, o, none⟩ = some (.int .i64 (xs.getD o 0)) := by
  have e : o < xs.length := by rw [h.len]; exact ho
  rw [blk_cell h.hb o, List.getElem?_toArray, List.getElem?_map, List.getElem?_eq_getElem e, List.getD_eq_getElem?_getD, List.getElem?_eq_getElem e]
  rfl
theorem impl_FewestSquares.FS.put {w0 w : World} {gb : Nat} {xs : List Int} (h : impl_FewestSquares.FS w0 w gb xs) (o : Nat) (v : Int) : impl_FewestSquares.FS w0 (w.setCell ⟨gb, o, none⟩ (.int .i64 v)) gb (xs.set o v) :=
  ⟨blk_put h.hb o _ (by rw [List.setIfInBounds_toArray, List.map_set]), by rw [List.length_set]; exact h.len, h.ge, below_set h.below h.ge⟩
theorem impl_FewestSquares.FS.step {w0 w w1 : World} {gb : Nat} {xs : List Int} (h : impl_FewestSquares.FS w0 w gb xs) (hb : Below w.heap.size w w1) : impl_FewestSquares.FS w0 w1 gb xs :=
  ⟨blk_below h.hb hb, h.len, h.ge, below_step h.below hb⟩
theorem impl_FewestSquares.zero : Tryd.zeroCells76 = ((List.replicate 961 (0 : Int)).map (Value.int .i64)).toArray := by kernel_rfl
theorem impl_FewestSquares.within (a0 : Int) (t : Bool) (w : World) (ht : impl_FewestSquares.ok a0 = t) :
    Calls Tryd.prog 74 #[.int .i64 a0, .int .i64 1, .int .i64 30] w fun e w' => e = .returned (.bool t) ∧ ∃ m, w' = w.drewN m := by
  subst ht
  unfold impl_FewestSquares.ok
  by_cases c4 : 1 ≤ a0
  · have c4b0 : decide (1 ≤ a0) = true := decide_eq_true c4
    rw [c4b0, Bool.true_and]
    clear c4
    go_enter Tryd.func74, Tryd.ntmps74
    go_wp2
    go_ret
    exact ⟨by first | rfl | (simp; done) | (simp [*]; done), by first | exact ⟨0, rfl⟩ | exact ⟨_, rfl⟩⟩
  · have c4b0 : decide (1 ≤ a0) = false := decide_eq_false c4
    rw [c4b0, Bool.false_and]
    clear c4
    go_enter Tryd.func74, Tryd.ntmps74
    go_wp2
    go_ret
    exact ⟨by first | rfl | (simp; done) | (simp [*]; done), by first | exact ⟨0, rfl⟩ | exact ⟨_, rfl⟩⟩
set_option maxHeartbeats 16000000 in
set_option maxRecDepth 100000 in
theorem impl_FewestSquares.calls (a0 a1 : Int) (r : Int) (w : World) (h : impl_FewestSquares.f a0 a1 = some r) :
    Calls Tryd.prog 41 #[.int .i64 a0, .int .i64 a1] w fun e w' => e = .returned (.int .i64 r) ∧ Below w.heap.size w w' := by
  unfold impl_FewestSquares.f at h
  by_cases hk : impl_FewestSquares.ok a0 = true ∧ impl_FewestSquares.ok a1 = true
  case neg =>
    rw [if_neg hk] at h
    obtain rfl := Option.some.inj h
    clear h
    cases h0 : impl_FewestSquares.ok a0 with
    | false =>
      have H0 := Aside0.mk h0
      clear h0 hk
      go_enter Tryd.func41, Tryd.ntmps41
      go_wp2_with (first | (go_at_call 74; (with_reducible refine (impl_FewestSquares.within a0 false _ H0.out).mono ?_); rintro e w1 ⟨rfl, ⟨m, rfl⟩⟩))
      go_ret
      exact ⟨rfl, by repeat (first | exact Below.refl _ _ | apply pw_below_drewN | apply below_drew1)⟩
    | true =>
      have h1 : impl_FewestSquares.ok a1 = false := by cases h1 : impl_FewestSquares.ok a1 with
        | false => rfl
        | true => exact absurd ⟨h0, h1⟩ hk
      have H0 := Aside0.mk h0
      have H1 := Aside0.mk h1
      clear h0 h1 hk
      go_enter Tryd.func41, Tryd.ntmps41
      go_wp2_with (first | (go_at_call 74; (with_reducible refine (impl_FewestSquares.within a0 true _ H0.out).mono ?_); rintro e w1 ⟨rfl, ⟨m, rfl⟩⟩) | (go_at_call 74; (with_reducible refine (impl_FewestSquares.within a1 false _ H1.out).mono ?_); rintro e w1 ⟨rfl, ⟨m, rfl⟩⟩))
      go_ret
      exact ⟨rfl, by repeat (first | exact Below.refl _ _ | apply pw_below_drewN | apply below_drew1)⟩
  rw [if_pos hk] at h
  have H0 := Aside0.mk hk.1
  have H1 := Aside0.mk hk.2
  have HR := Aside0.mk (Option.some.inj h)
  unfold impl_FewestSquares.ok at hk
  rw [Bool.and_eq_true, Bool.and_eq_true, decide_eq_true_eq, decide_eq_true_eq, decide_eq_true_eq, decide_eq_true_eq] at hk
  obtain ⟨n, hn⟩ : ∃ n : Nat, a0 = (n : Int) := ⟨a0.toNat, by omega⟩
  obtain ⟨m, hm⟩ : ∃ m : Nat, a1 = (m : Int) := ⟨a1.toNat, by omega⟩
  subst hn
  subst hm
  have HN := Aside0.mk (show (1 ≤ n ∧ n ≤ 30) ∧ 1 ≤ m ∧ m ≤ 30 by omega)
  rw [Int.toNat_natCast, Int.toNat_natCast] at HR
  clear hk h
  have hst : ∀ k : Nat, Sem.run Tryd.prog (storeCells ⟨w.heap.size, 0, none⟩ Tryd.zeroCells76.toList) ((w.drewN k).alloc (.cells Tryd.zeroCells76 76)) = .ok () ((w.drewN k).alloc (.cells Tryd.zeroCells76 76)) := fun k => run_storeCells_new (P := Tryd.prog) (w.drewN k) 76 Tryd.zeroCells76 Tryd.zeroCells76 (by kernel_rfl) rfl (by kernel_rfl)
  go_enter Tryd.func41, Tryd.ntmps41
  go_upto_region 4 with (first | (go_at_call 74; (with_reducible refine (impl_FewestSquares.within n true _ H0.out).mono ?_); rintro e w1 ⟨rfl, ⟨m1, rfl⟩⟩) | (go_at_call 74; (with_reducible refine (impl_FewestSquares.within m true _ H1.out).mono ?_); rintro e w1 ⟨rfl, ⟨m2, rfl⟩⟩))
  have hF : impl_FewestSquares.FS w ((w.drewN (m1 + m2)).alloc (.cells Tryd.zeroCells76 76)) w.heap.size (List.replicate 961 0) :=
    ⟨by rw [← impl_FewestSquares.zero]; exact blk_new (w.drewN (m1 + m2)) _, List.length_replicate .., Nat.le_refl _, below_alloc (pw_below_drewN (Below.refl _ _) _) _⟩
  generalize ((w.drewN (m1 + m2)).alloc (.cells Tryd.zeroCells76 76)) = W at hF ⊢
  have HF := Aside0.mk hF
  clear hF hst H0 H1
  go_wp2_with fail
  go_loopg [6] n (fun kq v6 w' => ∃ a : Nat, v6 = .int .i64 (a : Int) ∧ Aside0 (1 ≤ a ∧ a + kq = n + 1) ∧ Aside0 (impl_FewestSquares.FS w w' w.heap.size (impl_FewestSquares.tab m (a - 1))))
  case atStart => exact ⟨1, rfl, ⟨by omega⟩, HF⟩
  case round => as_aux_lemma =>
    clear HF
    obtain ⟨a, rfl, HA, HF⟩ := hrel
    by_cases ca : a ≤ n
    · have cab : decide (a ≤ n) = true := decide_eq_true ca
      have HCA := Aside0.mk ca
      clear ca
      go_wp2_with fail
      go_loopg [7] m (fun kq v7 w' => ∃ b : Nat, v7 = .int .i64 (b : Int) ∧ Aside0 (1 ≤ b ∧ b + kq = m + 1) ∧ Aside0 (impl_FewestSquares.FS w w' w.heap.size (impl_FewestSquares.row (impl_FewestSquares.tab m (a - 1)) a (b - 1))))
      case atStart => exact ⟨1, rfl, ⟨by omega⟩, HF⟩
      case round => as_aux_lemma =>
        clear HF
        obtain ⟨b, rfl, HB, HF⟩ := hrel
        by_cases cb : b ≤ m
        · have cbb : decide (b ≤ m) = true := decide_eq_true cb
          have HCB := Aside0.mk cb
          obtain ⟨xs, hxs⟩ : ∃ xs, xs = impl_FewestSquares.row (impl_FewestSquares.tab m (a - 1)) a (b - 1) := ⟨_, rfl⟩
          rw [← hxs] at HF
          have EX := Aside0.mk hxs
          have h31 : a < 31 ∧ b < 31 ∧ 1 ≤ a ∧ 1 ≤ b := by have := HN.out; have := HA.out; have := HB.out; have := HCA.out; omega
          have H31 := Aside0.mk h31
          have hx := HF.out.cell (o := a * 31 + b) (by omega)
          have hf := blk_frozen HF.out.hb (a * 31 + b)
          have i1 : ((a : Int) < 31) = True := eq_true (by omega)
          have i2 : ((b : Int) < 31) = True := eq_true (by omega)
          have i3 : (0 ≤ (a : Int)) = True := eq_true (by omega)
          have i4 : (0 ≤ (b : Int)) = True := eq_true (by omega)
          have i5 : (a < 31) = True := eq_true h31.1
          have i6 : (b < 31) = True := eq_true h31.2.1
          clear hxs h31 cb
          go_upto_if 38 with (fail)
          have HFa := Aside0.mk (HF.out.put (a * 31 + b) (wrap64 ((a : Int) * (b : Int))))
          have hxa := HFa.out.cell (o := a * 31 + b) (by have := H31.out; omega)
          have hfa := blk_frozen HFa.out.hb (a * 31 + b)
          clear hx hf HF
          go_cut [36] (fun v36 wc => Aside0 (impl_FewestSquares.FS w wc w.heap.size (impl_FewestSquares.first xs a b)))
          case first =>
            by_cases ce : a = b
            · have ceb : ((a : Int) == (b : Int)) = true := by rw [beq_iff_eq]; omega
              have cec : (a == b) = true := by rw [beq_iff_eq]; exact ce
              have ced : decide (a = b) = true := decide_eq_true ce
              have HE := Aside0.mk ce
              clear ce
              go_wp2
              go_meet
              case rel => exact ⟨by unfold impl_FewestSquares.first; rw [if_pos HE.out]; exact HFa.out.put (a * 31 + b) 1⟩
            · have ceb : ((a : Int) == (b : Int)) = false := by rw [beq_eq_false_iff_ne]; omega
              have cec : (a == b) = false := by rw [beq_eq_false_iff_ne]; exact ce
              have ced : decide (a = b) = false := decide_eq_false ce
              have HE := Aside0.mk ce
              clear ce
              go_wp2
              go_meet
              case rel => exact ⟨by unfold impl_FewestSquares.first; rw [if_neg HE.out]; exact HFa.out⟩
          case rest =>
          clear HFa hxa hfa
          have HF := hcut
          clear hcut
          go_wp2_with fail
          go_loopg [8] (a - 1) (fun kq v8 w' => ∃ l : Nat, v8 = .int .i64 (l : Int) ∧ Aside0 (1 ≤ l ∧ l + kq = a) ∧ Aside0 (impl_FewestSquares.FS w w' w.heap.size (impl_FewestSquares.kA (impl_FewestSquares.first xs a b) a b (l - 1))))
          case atStart => exact ⟨1, rfl, ⟨by have := H31.out; omega⟩, HF⟩
          case round => as_aux_lemma =>
            clear HF
            obtain ⟨l, rfl, HL, HF⟩ := hrel
            by_cases cl : l < a
            · have clb : decide (l < a) = true := decide_eq_true cl
              obtain ⟨ys, hys⟩ : ∃ ys, ys = impl_FewestSquares.kA (impl_FewestSquares.first xs a b) a b (l - 1) := ⟨_, rfl⟩
              rw [← hys] at HF
              have EY := Aside0.mk hys
              have h31 := H31.out
              have hl1 := HL.out
              have HCL := Aside0.mk cl
              have hx := HF.out.cell (o := a * 31 + b) (by omega)
              have hx1 := HF.out.cell (o := l * 31 + b) (by omega)
              have hx2 := HF.out.cell (o := (a - l) * 31 + b) (by omega)
              have hf := blk_frozen HF.out.hb (a * 31 + b)
              have i7 : ((l : Int) < 31) = True := eq_true (by omega)
              have i8 : (0 ≤ (l : Int)) = True := eq_true (by omega)
              have i9 : (l < 31) = True := eq_true (by omega)
              have s1 : IntKind.i64.wrap ((a : Int) - (l : Int)) = ((a - l : Nat) : Int) := by rw [i64_w]; unfold wrap64; omega
              have s2 : wrap64 ((a : Int) - (l : Int)) = ((a - l : Nat) : Int) := by unfold wrap64; omega
              have j7 : (((a - l : Nat) : Int) < 31) = True := eq_true (by omega)
              have j8 : (0 ≤ ((a - l : Nat) : Int)) = True := eq_true (by omega)
              have j9 : (a - l < 31) = True := eq_true (by omega)
              obtain ⟨z1, hz1⟩ : ∃ z, z = ys.getD (l * 31 + b) 0 := ⟨_, rfl⟩
              obtain ⟨z2, hz2⟩ : ∃ z, z = ys.getD ((a - l) * 31 + b) 0 := ⟨_, rfl⟩
              obtain ⟨z0, hz0⟩ : ∃ z, z = ys.getD (a * 31 + b) 0 := ⟨_, rfl⟩
              rw [← hz1] at hx1
              rw [← hz2] at hx2
              rw [← hz0] at hx
              obtain ⟨z3, hz3⟩ : ∃ z, z = wrap64 (z1 + z2) := ⟨_, rfl⟩
              have hz3w : IntKind.i64.wrap (z1 + z2) = z3 := by rw [i64_w]; exact hz3.symm
              have EZ := Aside0.mk (show wrap64 (ys.getD (l * 31 + b) 0 + ys.getD ((a - l) * 31 + b) 0) = z3 by rw [← hz1, ← hz2]; exact hz3.symm)
              have EZ0 := Aside0.mk hz0
              obtain ⟨z4, hz4⟩ : ∃ z, (if z3 < z0 then z3 else z0) = z := ⟨_, rfl⟩
              have EZ4 := Aside0.mk hz4
              clear hys cl h31 hl1 hz1 hz2 hz0 hz3
              go_wp2_with fail
              go_region
              go_wp2_with fail
              go_roundg (a - (l + 1))
              case measure => have := HL.out; have := HCL.out; omega
              case rel =>
                refine ⟨l + 1, (by have := H31.out; have := HCL.out; rw [show wrap64 ((l : Int) + 1) = ((l + 1 : Nat) : Int) by unfold wrap64; omega]), ⟨by have := HL.out; have := HCL.out; omega⟩, ⟨?_⟩⟩
                rw [Nat.add_sub_cancel, impl_FewestSquares.kA_step _ _ _ _ HL.out.1, ← EY.out, EZ.out, ← EZ0.out, ← impl_FewestSquares.mn_if, EZ4.out]
                exact (HF.out.put _ _).step (below_drew1 (Below.refl _ _))
            · have clb : decide (l < a) = false := decide_eq_false cl
              have hle : l - 1 = a - 1 := by have := HL.out; omega
              rw [hle] at HF
              clear hle cl HL
              go_wp2_with fail
              go_loopg [9] (b - 1) (fun kq v9 w' => ∃ l : Nat, v9 = .int .i64 (l : Int) ∧ Aside0 (1 ≤ l ∧ l + kq = b) ∧ Aside0 (impl_FewestSquares.FS w w' w.heap.size (impl_FewestSquares.kB (impl_FewestSquares.kA (impl_FewestSquares.first xs a b) a b (a - 1)) a b (l - 1))))
              case atStart => exact ⟨1, rfl, ⟨by have := H31.out; omega⟩, HF⟩
              case round => as_aux_lemma =>
                clear HF
                obtain ⟨l, rfl, HL, HF⟩ := hrel
                by_cases cl : l < b
                · have clb : decide (l < b) = true := decide_eq_true cl
                  obtain ⟨ys, hys⟩ : ∃ ys, ys = impl_FewestSquares.kB (impl_FewestSquares.kA (impl_FewestSquares.first xs a b) a b (a - 1)) a b (l - 1) := ⟨_, rfl⟩
                  rw [← hys] at HF
                  have EY := Aside0.mk hys
                  have h31 := H31.out
                  have hl1 := HL.out
                  have HCL := Aside0.mk cl
                  have hx := HF.out.cell (o := a * 31 + b) (by omega)
                  have hx1 := HF.out.cell (o := a * 31 + l) (by omega)
                  have hx2 := HF.out.cell (o := a * 31 + (b - l)) (by omega)
                  have hf := blk_frozen HF.out.hb (a * 31 + b)
                  have i7 : ((l : Int) < 31) = True := eq_true (by omega)
                  have i8 : (0 ≤ (l : Int)) = True := eq_true (by omega)
                  have i9 : (l < 31) = True := eq_true (by omega)
                  have s1 : IntKind.i64.wrap ((b : Int) - (l : Int)) = ((b - l : Nat) : Int) := by rw [i64_w]; unfold wrap64; omega
                  have s2 : wrap64 ((b : Int) - (l : Int)) = ((b - l : Nat) : Int) := by unfold wrap64; omega
                  have j7 : (((b - l : Nat) : Int) < 31) = True := eq_true (by omega)
                  have j8 : (0 ≤ ((b - l : Nat) : Int)) = True := eq_true (by omega)
                  have j9 : (b - l < 31) = True := eq_true (by omega)
                  obtain ⟨z1, hz1⟩ : ∃ z, z = ys.getD (a * 31 + l) 0 := ⟨_, rfl⟩
                  obtain ⟨z2, hz2⟩ : ∃ z, z = ys.getD (a * 31 + (b - l)) 0 := ⟨_, rfl⟩
                  obtain ⟨z0, hz0⟩ : ∃ z, z = ys.getD (a * 31 + b) 0 := ⟨_, rfl⟩
                  rw [← hz1] at hx1
                  rw [← hz2] at hx2
                  rw [← hz0] at hx
                  obtain ⟨z3, hz3⟩ : ∃ z, z = wrap64 (z1 + z2) := ⟨_, rfl⟩
                  have hz3w : IntKind.i64.wrap (z1 + z2) = z3 := by rw [i64_w]; exact hz3.symm
                  have EZ := Aside0.mk (show wrap64 (ys.getD (a * 31 + l) 0 + ys.getD (a * 31 + (b - l)) 0) = z3 by rw [← hz1, ← hz2]; exact hz3.symm)
                  have EZ0 := Aside0.mk hz0
                  obtain ⟨z4, hz4⟩ : ∃ z, (if z3 < z0 then z3 else z0) = z := ⟨_, rfl⟩
                  have EZ4 := Aside0.mk hz4
                  clear hys cl h31 hl1 hz1 hz2 hz0 hz3
                  go_wp2_with fail
                  go_region
                  go_wp2_with fail
                  go_roundg (b - (l + 1))
                  case measure => have := HL.out; have := HCL.out; omega
                  case rel =>
                    refine ⟨l + 1, (by have := H31.out; have := HCL.out; rw [show wrap64 ((l : Int) + 1) = ((l + 1 : Nat) : Int) by unfold wrap64; omega]), ⟨by have := HL.out; have := HCL.out; omega⟩, ⟨?_⟩⟩
                    rw [Nat.add_sub_cancel, impl_FewestSquares.kB_step _ _ _ _ HL.out.1, ← EY.out, EZ.out, ← EZ0.out, ← impl_FewestSquares.mn_if, EZ4.out]
                    exact (HF.out.put _ _).step (below_drew1 (Below.refl _ _))
                · have clb : decide (l < b) = false := decide_eq_false cl
                  have hle : l - 1 = b - 1 := by have := HL.out; omega
                  rw [hle] at HF
                  clear hle cl HL
                  go_wp2_with fail
                  go_roundg (m - b)
                  case measure => have := HB.out; have := HCB.out; omega
                  case rel =>
                    refine ⟨b + 1, (by have := H31.out; rw [show wrap64 ((b : Int) + 1) = ((b + 1 : Nat) : Int) by unfold wrap64; omega]), ⟨by have := HB.out; have := HCB.out; omega⟩, ⟨?_⟩⟩
                    rw [Nat.add_sub_cancel, impl_FewestSquares.row_step _ _ _ H31.out.2.2.2, ← EX.out]
                    exact HF.out
        · have cbb : decide (b ≤ m) = false := decide_eq_false cb
          have hbm : b - 1 = m := by have := HB.out; omega
          rw [hbm, ← impl_FewestSquares.tab_step m a HA.out.1] at HF
          clear hbm cb HB
          go_wp2_with fail
          go_roundg (n - a)
          case measure => have := HA.out; have := HCA.out; omega
          case rel => exact ⟨a + 1, (by have := HN.out; have := HCA.out; rw [show wrap64 ((a : Int) + 1) = ((a + 1 : Nat) : Int) by unfold wrap64; omega]), ⟨by have := HA.out; have := HCA.out; omega⟩, ⟨by rw [Nat.add_sub_cancel]; exact HF.out⟩⟩
    · have cab : decide (a ≤ n) = false := decide_eq_false ca
      have han : a - 1 = n := by have := HA.out; omega
      rw [han] at HF
      have h31 := HN.out
      have hx := HF.out.cell (o := n * 31 + m) (by omega)
      rw [show (impl_FewestSquares.tab m n).getD (n * 31 + m) 0 = r from HR.out] at hx
      have HB := Aside0.mk HF.out.below
      have i1 : ((n : Int) < 31) = True := eq_true (by omega)
      have i2 : ((m : Int) < 31) = True := eq_true (by omega)
      have i3 : (0 ≤ (n : Int)) = True := eq_true (by omega)
      have i4 : (0 ≤ (m : Int)) = True := eq_true (by omega)
      have i5 : (n < 31) = True := eq_true (by omega)
      have i6 : (m < 31) = True := eq_true (by omega)
      clear han ca HA h31 HF
      go_wp2
      go_ret
      exact ⟨rfl, HB.out⟩

/-! ### impl_SquareLine: function 15 -/
def impl_SquareLine.f (k : Nat) (a0 : Int) (a1 : Int) : Option (ByteArray) := (impl_QuotientsOf.f k a0 a1).bind fun t168 => (if (t168.length : Int) = 0 then (some (⟨#[110, 111, 110, 101]⟩ : ByteArray)) else ((impl_FormatNumbers.f k t168).bind fun t171 => (if 7 + t171.size ≤ 9223372036854775807 then ((impl_FewestSquares.f a0 a1).bind fun t172 => (if t172 ≥ 0 then ((impl_FormatInt.f t172).bind fun t173 => (if 8 + t173.size ≤ 9223372036854775807 then (if ((⟨#[103, 114, 101, 101, 100, 121, 32]⟩ : ByteArray) ++ t171).size + ((⟨#[32, 102, 101, 119, 101, 115, 116, 32]⟩ : ByteArray) ++ t173).size ≤ 9223372036854775807 then (some (((⟨#[103, 114, 101, 101, 100, 121, 32]⟩ : ByteArray) ++ t171) ++ ((⟨#[32, 102, 101, 119, 101, 115, 116, 32]⟩ : ByteArray) ++ t173))) else (none)) else (none))) else (some ((⟨#[103, 114, 101, 101, 100, 121, 32]⟩ : ByteArray) ++ t171)))) else (none))))
theorem impl_SquareLine.mono : ∀ a0 a1 k, LeO (impl_SquareLine.f k a0 a1) (impl_SquareLine.f (k + 1) a0 a1) := by
  intro a0 a1 k
  unfold impl_SquareLine.f
  repeat' first
      | (with_reducible exact impl_FormatNumbers.mono _ _)
      | (with_reducible exact impl_QuotientsOf.mono _ _ _)
      | (with_reducible exact LeO.refl _)
      | (with_reducible exact LeO.none _)
      | (with_reducible refine LeO.ite ?_ ?_)
      | (with_reducible refine LeO.bind ?_ (fun _ => ?_))
      | exact impl_FormatNumbers.mono _ _
      | exact impl_QuotientsOf.mono _ _ _
      | exact LeO.none _
      | refine LeO.ite ?_ ?_
      | refine LeO.bind ?_ (fun _ => ?_)
set_option maxHeartbeats 8000000 in
set_option maxRecDepth 100000 in
theorem impl_SquareLine.calls (k : Nat) (a0 : Int) (a1 : Int) (r : ByteArray) (w : World) (h : impl_SquareLine.f k a0 a1 = some r) (hG : GT w) :
    Calls Tryd.prog 15 #[.int .i64 a0, .int .i64 a1] w fun e w' => e = .returned (.string r) ∧ Below w.heap.size w w' := by
  have HG := Aside0.mk hG; clear hG; have HB := Aside0.mk (Below.refl w.heap.size w)
  have H : ((impl_QuotientsOf.f k a0 a1).bind fun t168 => (if (t168.length : Int) = 0 then (some (⟨#[110, 111, 110, 101]⟩ : ByteArray)) else ((impl_FormatNumbers.f k t168).bind fun t171 => (if 7 + t171.size ≤ 9223372036854775807 then ((impl_FewestSquares.f a0 a1).bind fun t172 => (if t172 ≥ 0 then ((impl_FormatInt.f t172).bind fun t173 => (if 8 + t173.size ≤ 9223372036854775807 then (if ((⟨#[103, 114, 101, 101, 100, 121, 32]⟩ : ByteArray) ++ t171).size + ((⟨#[32, 102, 101, 119, 101, 115, 116, 32]⟩ : ByteArray) ++ t173).size ≤ 9223372036854775807 then (some (((⟨#[103, 114, 101, 101, 100, 121, 32]⟩ : ByteArray) ++ t171) ++ ((⟨#[32, 102, 101, 119, 101, 115, 116, 32]⟩ : ByteArray) ++ t173))) else (none)) else (none))) else (some ((⟨#[103, 114, 101, 101, 100, 121, 32]⟩ : ByteArray) ++ t171)))) else (none))))) = some r := h
  clear h
  replace H := Option.bind_eq_some_iff.mp H
  obtain ⟨t168, A30, H⟩ := H
  replace H : (if (t168.length : Int) = 0 then (some (⟨#[110, 111, 110, 101]⟩ : ByteArray)) else ((impl_FormatNumbers.f k t168).bind fun t171 => (if 7 + t171.size ≤ 9223372036854775807 then ((impl_FewestSquares.f a0 a1).bind fun t172 => (if t172 ≥ 0 then ((impl_FormatInt.f t172).bind fun t173 => (if 8 + t173.size ≤ 9223372036854775807 then (if ((⟨#[103, 114, 101, 101, 100, 121, 32]⟩ : ByteArray) ++ t171).size + ((⟨#[32, 102, 101, 119, 101, 115, 116, 32]⟩ : ByteArray) ++ t173).size ≤ 9223372036854775807 then (some (((⟨#[103, 114, 101, 101, 100, 121, 32]⟩ : ByteArray) ++ t171) ++ ((⟨#[32, 102, 101, 119, 101, 115, 116, 32]⟩ : ByteArray) ++ t173))) else (none)) else (none))) else (some ((⟨#[103, 114, 101, 101, 100, 121, 32]⟩ : ByteArray) ++ t171)))) else (none)))) = some r := H
  have A3 := Aside0.mk A30
  clear A30
  by_cases c4 : (t168.length : Int) = 0
  · rw [if_pos c4] at H
    have c4b0 : ((t168.length : Int) == 0) = true := beq_iff_eq.mpr c4
    have c4b1 : ((t168.length : Int) != 0) = false := bne_eq_false_iff_eq.mpr c4
    clear c4
    obtain rfl := Option.some.inj H
    go_enter Tryd.func15, Tryd.ntmps15
    go_wp2_with (first | ((with_reducible refine gate_callee (f := 39) rfl ?_); refine goesL_ (some 10) rfl rfl Tryd.func39 (by kernel_rfl) rfl #[.int .i64 a0, .int .i64 a1] rfl (by (try simp only [List.map_toArray, List.map_cons, List.map_nil]); first | done | rfl | (simp only [List.length_drop, List.length_take]; rfl)) ?_; (with_reducible refine (impl_QuotientsOf.calls k a0 a1 t168 _ A3.out).mono ?_); rintro e w5 ⟨v169, rfl, ho0, hb⟩; refine ⟨_, rfl, ?_⟩; have n0_ := Aside0.mk (Kd.R_lower ho0 (below_size (by repeat (first | (with_reducible first | exact HB.out | apply below_alloc | apply pw_below_drewN | apply below_drew1) | exact HB.out)))); have n1_ := Aside0.mk (below_step (by repeat (first | (with_reducible first | exact HB.out | apply below_alloc | apply pw_below_drewN | apply below_drew1) | exact HB.out)) hb); clear HB; have HO170 := n0_; have HB := n1_; clear n0_ n1_; (try clear hb); (try clear hb2); (try clear hk); (try clear hi); (try clear ho0); obtain ⟨Ao6, co6, eo6⟩ := Kd.R_slice HO170.out; subst eo6))
    go_ret
    exact ⟨by first | rfl | (simp [errW_none, errW_some] <;> rfl) | (simp [*, errW_none, errW_some] <;> rfl), by repeat (first | (with_reducible first | exact HB.out | apply below_alloc | apply pw_below_drewN | apply below_drew1) | exact HB.out)⟩
  · rw [if_neg c4] at H
    have c4b0 : ((t168.length : Int) == 0) = false := beq_eq_false_iff_ne.mpr c4
    have c4b1 : ((t168.length : Int) != 0) = true := bne_iff_ne.mpr c4
    have c4b2 : ¬ (t168 = []) := fun h_ => c4 (by rw [h_]; rfl)
    replace H := Option.bind_eq_some_iff.mp H
    obtain ⟨t171, A70, H⟩ := H
    replace H : (if 7 + t171.size ≤ 9223372036854775807 then ((impl_FewestSquares.f a0 a1).bind fun t172 => (if t172 ≥ 0 then ((impl_FormatInt.f t172).bind fun t173 => (if 8 + t173.size ≤ 9223372036854775807 then (if ((⟨#[103, 114, 101, 101, 100, 121, 32]⟩ : ByteArray) ++ t171).size + ((⟨#[32, 102, 101, 119, 101, 115, 116, 32]⟩ : ByteArray) ++ t173).size ≤ 9223372036854775807 then (some (((⟨#[103, 114, 101, 101, 100, 121, 32]⟩ : ByteArray) ++ t171) ++ ((⟨#[32, 102, 101, 119, 101, 115, 116, 32]⟩ : ByteArray) ++ t173))) else (none)) else (none))) else (some ((⟨#[103, 114, 101, 101, 100, 121, 32]⟩ : ByteArray) ++ t171)))) else (none)) = some r := H
    have A7 := Aside0.mk A70
    clear A70
    by_cases c8 : 7 + t171.size ≤ 9223372036854775807
    · rw [if_pos c8] at H
      have c8b0 := eq_true c8
      have c8b1 : decide (7 + t171.size ≤ 9223372036854775807) = true := decide_eq_true c8
      try have c8b2 : (9223372036854775807 < 7 + t171.size) = False := eq_false (Nat.not_lt.2 c8)
      replace H := Option.bind_eq_some_iff.mp H
      obtain ⟨t172, A90, H⟩ := H
      replace H : (if t172 ≥ 0 then ((impl_FormatInt.f t172).bind fun t173 => (if 8 + t173.size ≤ 9223372036854775807 then (if ((⟨#[103, 114, 101, 101, 100, 121, 32]⟩ : ByteArray) ++ t171).size + ((⟨#[32, 102, 101, 119, 101, 115, 116, 32]⟩ : ByteArray) ++ t173).size ≤ 9223372036854775807 then (some (((⟨#[103, 114, 101, 101, 100, 121, 32]⟩ : ByteArray) ++ t171) ++ ((⟨#[32, 102, 101, 119, 101, 115, 116, 32]⟩ : ByteArray) ++ t173))) else (none)) else (none))) else (some ((⟨#[103, 114, 101, 101, 100, 121, 32]⟩ : ByteArray) ++ t171))) = some r := H
      have A9 := Aside0.mk A90
      clear A90
      by_cases c10 : t172 ≥ 0
      · rw [if_pos c10] at H
        have c10b0 : decide (0 ≤ t172) = true := decide_eq_true c10
        clear c10
        replace H := Option.bind_eq_some_iff.mp H
        obtain ⟨t173, A110, H⟩ := H
        replace H : (if 8 + t173.size ≤ 9223372036854775807 then (if ((⟨#[103, 114, 101, 101, 100, 121, 32]⟩ : ByteArray) ++ t171).size + ((⟨#[32, 102, 101, 119, 101, 115, 116, 32]⟩ : ByteArray) ++ t173).size ≤ 9223372036854775807 then (some (((⟨#[103, 114, 101, 101, 100, 121, 32]⟩ : ByteArray) ++ t171) ++ ((⟨#[32, 102, 101, 119, 101, 115, 116, 32]⟩ : ByteArray) ++ t173))) else (none)) else (none)) = some r := H
        have A11 := Aside0.mk A110
        clear A110
        by_cases c12 : 8 + t173.size ≤ 9223372036854775807
        · rw [if_pos c12] at H
          have c12b0 := eq_true c12
          have c12b1 : decide (8 + t173.size ≤ 9223372036854775807) = true := decide_eq_true c12
          try have c12b2 : (9223372036854775807 < 8 + t173.size) = False := eq_false (Nat.not_lt.2 c12)
          by_cases c13 : ((⟨#[103, 114, 101, 101, 100, 121, 32]⟩ : ByteArray) ++ t171).size + ((⟨#[32, 102, 101, 119, 101, 115, 116, 32]⟩ : ByteArray) ++ t173).size ≤ 9223372036854775807
          · rw [if_pos c13] at H
            have c13b0 := eq_true c13
            have c13b1 : decide (((⟨#[103, 114, 101, 101, 100, 121, 32]⟩ : ByteArray) ++ t171).size + ((⟨#[32, 102, 101, 119, 101, 115, 116, 32]⟩ : ByteArray) ++ t173).size ≤ 9223372036854775807) = true := decide_eq_true c13
            try have c13b2 : (9223372036854775807 < ((⟨#[103, 114, 101, 101, 100, 121, 32]⟩ : ByteArray) ++ t171).size + ((⟨#[32, 102, 101, 119, 101, 115, 116, 32]⟩ : ByteArray) ++ t173).size) = False := eq_false (Nat.not_lt.2 c13)
            try have c13b3 : (9223372036854775807 < 7 + t171.size + 8 + t173.size) = False := eq_false (by have h_ := c13; simp only [ByteArray.size_append, (show (⟨#[103, 114, 101, 101, 100, 121, 32]⟩ : ByteArray).size = 7 from rfl), (show (⟨#[32, 102, 101, 119, 101, 115, 116, 32]⟩ : ByteArray).size = 8 from rfl)] at h_; omega)
            obtain rfl := Option.some.inj H
            go_enter Tryd.func15, Tryd.ntmps15
            go_wp2_with (first | ((with_reducible refine gate_callee (f := 39) rfl ?_); refine goesL_ (some 10) rfl rfl Tryd.func39 (by kernel_rfl) rfl #[.int .i64 a0, .int .i64 a1] rfl (by (try simp only [List.map_toArray, List.map_cons, List.map_nil]); first | done | rfl | (simp only [List.length_drop, List.length_take]; rfl)) ?_; (with_reducible refine (impl_QuotientsOf.calls k a0 a1 t168 _ A3.out).mono ?_); rintro e w14 ⟨v169, rfl, ho0, hb⟩; refine ⟨_, rfl, ?_⟩; have n0_ := Aside0.mk (Kd.R_lower ho0 (below_size (by repeat (first | (with_reducible first | exact HB.out | apply below_alloc | apply pw_below_drewN | apply below_drew1) | exact HB.out)))); have n1_ := Aside0.mk (below_step (by repeat (first | (with_reducible first | exact HB.out | apply below_alloc | apply pw_below_drewN | apply below_drew1) | exact HB.out)) hb); clear HB; have HO170 := n0_; have HB := n1_; clear n0_ n1_; (try clear hb); (try clear hb2); (try clear hk); (try clear hi); (try clear ho0); obtain ⟨Ao15, co15, eo15⟩ := Kd.R_slice HO170.out; subst eo15) | ((with_reducible refine gate_callee (f := 40) rfl ?_); refine goesL_ (some 15) rfl rfl Tryd.func40 (by kernel_rfl) rfl #[.slice Ao15 t168.length co15] rfl (by (try simp only [List.map_toArray, List.map_cons, List.map_nil]); first | done | rfl | (simp only [List.length_drop, List.length_take]; rfl)) ?_; (with_reducible refine (impl_FormatNumbers.calls k _ _ t168 t171 _ ?side1 ?side2 A7.out (HG.out.of (by repeat (first | (with_reducible first | exact HB.out | apply below_alloc | apply pw_below_drewN | apply below_drew1) | exact HB.out)))).mono ?_); (case side1 => repeat (first | exact (Kd.R_reads' HO170.out).2.2 | (with_reducible refine Kd.C_alloc ?_ _) | (with_reducible refine Kd.C_drewN ?_ _) | (with_reducible refine Kd.C_drew ?_))); (case side2 => exact (Kd.R_reads' HO170.out).2.1); rintro e w16 ⟨rfl, hb⟩; refine ⟨_, rfl, ?_⟩; have n0_ := Aside0.mk (Kd.R_below (by (with_reducible repeat (first | apply Kd.R_alloc | apply Kd.R_drewN | apply Kd.R_drew)); exact HO170.out) hb); have n1_ := Aside0.mk (below_step (by repeat (first | (with_reducible first | exact HB.out | apply below_alloc | apply pw_below_drewN | apply below_drew1) | exact HB.out)) hb); clear HO170; clear HB; have HO170 := n0_; have HB := n1_; clear n0_ n1_; (try clear hb); (try clear hb2); (try clear hk); (try clear hi)) | ((with_reducible refine gate_callee (f := 41) rfl ?_); refine goesL_ (some 19) rfl rfl Tryd.func41 (by kernel_rfl) rfl #[.int .i64 a0, .int .i64 a1] rfl (by (try simp only [List.map_toArray, List.map_cons, List.map_nil]); first | done | rfl | (simp only [List.length_drop, List.length_take]; rfl)) ?_; (with_reducible refine (impl_FewestSquares.calls a0 a1 t172 _ A9.out).mono ?_); rintro e w17 ⟨rfl, hb⟩; refine ⟨_, rfl, ?_⟩; have n0_ := Aside0.mk (Kd.R_below (by (with_reducible repeat (first | apply Kd.R_alloc | apply Kd.R_drewN | apply Kd.R_drew)); exact HO170.out) hb); have n1_ := Aside0.mk (below_step (by repeat (first | (with_reducible first | exact HB.out | apply below_alloc | apply pw_below_drewN | apply below_drew1) | exact HB.out)) hb); clear HO170; clear HB; have HO170 := n0_; have HB := n1_; clear n0_ n1_; (try clear hb); (try clear hb2); (try clear hk); (try clear hi)) | ((with_reducible refine gate_callee (f := 34) rfl ?_); refine goesL_ (some 24) rfl rfl Tryd.func34 (by kernel_rfl) rfl #[.int .i64 t172] rfl (by (try simp only [List.map_toArray, List.map_cons, List.map_nil]); first | done | rfl | (simp only [List.length_drop, List.length_take]; rfl)) ?_; (with_reducible refine (impl_FormatInt.calls t172 t173 _ A11.out (HG.out.of (by repeat (first | (with_reducible first | exact HB.out | apply below_alloc | apply pw_below_drewN | apply below_drew1) | exact HB.out)))).mono ?_); rintro e w18 ⟨rfl, hb⟩; refine ⟨_, rfl, ?_⟩; have n0_ := Aside0.mk (Kd.R_below (by (with_reducible repeat (first | apply Kd.R_alloc | apply Kd.R_drewN | apply Kd.R_drew)); exact HO170.out) hb); have n1_ := Aside0.mk (below_step (by repeat (first | (with_reducible first | exact HB.out | apply below_alloc | apply pw_below_drewN | apply below_drew1) | exact HB.out)) hb); clear HO170; clear HB; have HO170 := n0_; have HB := n1_; clear n0_ n1_; (try clear hb); (try clear hb2); (try clear hk); (try clear hi)))
            go_ret
            exact ⟨by first | rfl | (simp [errW_none, errW_some] <;> rfl) | (simp [*, errW_none, errW_some] <;> rfl), by repeat (first | (with_reducible first | exact HB.out | apply below_alloc | apply pw_below_drewN | apply below_drew1) | exact HB.out)⟩
          · rw [if_neg c13] at H
            exact absurd H (by simp)
        · rw [if_neg c12] at H
          exact absurd H (by simp)
      · rw [if_neg c10] at H
        have c10b0 : decide (0 ≤ t172) = false := decide_eq_false c10
        clear c10
        obtain rfl := Option.some.inj H
        go_enter Tryd.func15, Tryd.ntmps15
        go_wp2_with (first | ((with_reducible refine gate_callee (f := 39) rfl ?_); refine goesL_ (some 10) rfl rfl Tryd.func39 (by kernel_rfl) rfl #[.int .i64 a0, .int .i64 a1] rfl (by (try simp only [List.map_toArray, List.map_cons, List.map_nil]); first | done | rfl | (simp only [List.length_drop, List.length_take]; rfl)) ?_; (with_reducible refine (impl_QuotientsOf.calls k a0 a1 t168 _ A3.out).mono ?_); rintro e w19 ⟨v169, rfl, ho0, hb⟩; refine ⟨_, rfl, ?_⟩; have n0_ := Aside0.mk (Kd.R_lower ho0 (below_size (by repeat (first | (with_reducible first | exact HB.out | apply below_alloc | apply pw_below_drewN | apply below_drew1) | exact HB.out)))); have n1_ := Aside0.mk (below_step (by repeat (first | (with_reducible first | exact HB.out | apply below_alloc | apply pw_below_drewN | apply below_drew1) | exact HB.out)) hb); clear HB; have HO170 := n0_; have HB := n1_; clear n0_ n1_; (try clear hb); (try clear hb2); (try clear hk); (try clear hi); (try clear ho0); obtain ⟨Ao20, co20, eo20⟩ := Kd.R_slice HO170.out; subst eo20) | ((with_reducible refine gate_callee (f := 40) rfl ?_); refine goesL_ (some 15) rfl rfl Tryd.func40 (by kernel_rfl) rfl #[.slice Ao20 t168.length co20] rfl (by (try simp only [List.map_toArray, List.map_cons, List.map_nil]); first | done | rfl | (simp only [List.length_drop, List.length_take]; rfl)) ?_; (with_reducible refine (impl_FormatNumbers.calls k _ _ t168 t171 _ ?side1 ?side2 A7.out (HG.out.of (by repeat (first | (with_reducible first | exact HB.out | apply below_alloc | apply pw_below_drewN | apply below_drew1) | exact HB.out)))).mono ?_); (case side1 => repeat (first | exact (Kd.R_reads' HO170.out).2.2 | (with_reducible refine Kd.C_alloc ?_ _) | (with_reducible refine Kd.C_drewN ?_ _) | (with_reducible refine Kd.C_drew ?_))); (case side2 => exact (Kd.R_reads' HO170.out).2.1); rintro e w21 ⟨rfl, hb⟩; refine ⟨_, rfl, ?_⟩; have n0_ := Aside0.mk (Kd.R_below (by (with_reducible repeat (first | apply Kd.R_alloc | apply Kd.R_drewN | apply Kd.R_drew)); exact HO170.out) hb); have n1_ := Aside0.mk (below_step (by repeat (first | (with_reducible first | exact HB.out | apply below_alloc | apply pw_below_drewN | apply below_drew1) | exact HB.out)) hb); clear HO170; clear HB; have HO170 := n0_; have HB := n1_; clear n0_ n1_; (try clear hb); (try clear hb2); (try clear hk); (try clear hi)) | ((with_reducible refine gate_callee (f := 41) rfl ?_); refine goesL_ (some 19) rfl rfl Tryd.func41 (by kernel_rfl) rfl #[.int .i64 a0, .int .i64 a1] rfl (by (try simp only [List.map_toArray, List.map_cons, List.map_nil]); first | done | rfl | (simp only [List.length_drop, List.length_take]; rfl)) ?_; (with_reducible refine (impl_FewestSquares.calls a0 a1 t172 _ A9.out).mono ?_); rintro e w22 ⟨rfl, hb⟩; refine ⟨_, rfl, ?_⟩; have n0_ := Aside0.mk (Kd.R_below (by (with_reducible repeat (first | apply Kd.R_alloc | apply Kd.R_drewN | apply Kd.R_drew)); exact HO170.out) hb); have n1_ := Aside0.mk (below_step (by repeat (first | (with_reducible first | exact HB.out | apply below_alloc | apply pw_below_drewN | apply below_drew1) | exact HB.out)) hb); clear HO170; clear HB; have HO170 := n0_; have HB := n1_; clear n0_ n1_; (try clear hb); (try clear hb2); (try clear hk); (try clear hi)))
        go_ret
        exact ⟨by first | rfl | (simp [errW_none, errW_some] <;> rfl) | (simp [*, errW_none, errW_some] <;> rfl), by repeat (first | (with_reducible first | exact HB.out | apply below_alloc | apply pw_below_drewN | apply below_drew1) | exact HB.out)⟩
    · rw [if_neg c8] at H
      exact absurd H (by simp)

/-! ### laws_FnExactSquareLine: function 4 -/
def laws_FnExactSquareLine.f (k : Nat) (a0 : Int) (a1 : Int) : Option (Bool) := (spec_SquareLine.f k a0 a1).bind fun t174 => ((impl_SquareLine.f k a0 a1).bind fun t175 => (if t175.toList = t174.toList then (some true) else (some false)))
theorem laws_FnExactSquareLine.mono : ∀ a0 a1 k, LeO (laws_FnExactSquareLine.f k a0 a1) (laws_FnExactSquareLine.f (k + 1) a0 a1) := by
  intro a0 a1 k
  unfold laws_FnExactSquareLine.f
  repeat' first
      | (with_reducible exact impl_SquareLine.mono _ _ _)
      | (with_reducible exact spec_SquareLine.mono _ _ _)
      | (with_reducible exact LeO.refl _)
      | (with_reducible exact LeO.none _)
      | (with_reducible refine LeO.ite ?_ ?_)
      | (with_reducible refine LeO.bind ?_ (fun _ => ?_))
      | exact impl_SquareLine.mono _ _ _
      | exact spec_SquareLine.mono _ _ _
      | exact LeO.none _
      | refine LeO.ite ?_ ?_
      | refine LeO.bind ?_ (fun _ => ?_)
set_option maxHeartbeats 8000000 in
set_option maxRecDepth 100000 in
theorem laws_FnExactSquareLine.calls (k : Nat) (a0 : Int) (a1 : Int) (r : Bool) (w : World) (h : laws_FnExactSquareLine.f k a0 a1 = some r) (hG : GT w) :
    Calls Tryd.prog 4 #[.int .i64 a0, .int .i64 a1] w fun e w' => e = .returned (.bool r) ∧ Below w.heap.size w w' := by
  have HG := Aside0.mk hG; clear hG; have HB := Aside0.mk (Below.refl w.heap.size w)
  have H : ((spec_SquareLine.f k a0 a1).bind fun t174 => ((impl_SquareLine.f k a0 a1).bind fun t175 => (if t175.toList = t174.toList then (some true) else (some false)))) = some r := h
  clear h
  replace H := Option.bind_eq_some_iff.mp H
  obtain ⟨t174, A30, H⟩ := H
  replace H : ((impl_SquareLine.f k a0 a1).bind fun t175 => (if t175.toList = t174.toList then (some true) else (some false))) = some r := H
  have A3 := Aside0.mk A30
  clear A30
  replace H := Option.bind_eq_some_iff.mp H
  obtain ⟨t175, A40, H⟩ := H
  replace H : (if t175.toList = t174.toList then (some true) else (some false)) = some r := H
  have A4 := Aside0.mk A40
  clear A40
  by_cases c5 : t175.toList = t174.toList
  · rw [if_pos c5] at H
    have c5b0 : (t175.toList == t174.toList) = true := beq_iff_eq.mpr c5
    have c5b1 : (t175.toList != t174.toList) = false := bne_eq_false_iff_eq.mpr c5
    clear c5
    obtain rfl := Option.some.inj H
    go_enter Tryd.func4, Tryd.ntmps4
    go_wp2_with (first | ((with_reducible refine gate_callee (f := 14) rfl ?_); refine goesL_ (some 9) rfl rfl Tryd.func14 (by kernel_rfl) rfl #[.int .i64 a0, .int .i64 a1] rfl (by (try simp only [List.map_toArray, List.map_cons, List.map_nil]); first | done | rfl | (simp only [List.length_drop, List.length_take]; rfl)) ?_; (with_reducible refine (spec_SquareLine.calls k a0 a1 t174 _ A3.out).mono ?_); rintro e w6 ⟨rfl, hb⟩; refine ⟨_, rfl, ?_⟩; have n0_ := Aside0.mk (below_step (by repeat (first | (with_reducible first | exact HB.out | apply below_alloc | apply pw_below_drewN | apply below_drew1) | exact HB.out)) hb); clear HB; have HB := n0_; clear n0_; (try clear hb); (try clear hb2); (try clear hk); (try clear hi)) | ((with_reducible refine gate_callee (f := 15) rfl ?_); refine goesL_ (some 12) rfl rfl Tryd.func15 (by kernel_rfl) rfl #[.int .i64 a0, .int .i64 a1] rfl (by (try simp only [List.map_toArray, List.map_cons, List.map_nil]); first | done | rfl | (simp only [List.length_drop, List.length_take]; rfl)) ?_; (with_reducible refine (impl_SquareLine.calls k a0 a1 t175 _ A4.out (HG.out.of (by repeat (first | (with_reducible first | exact HB.out | apply below_alloc | apply pw_below_drewN | apply below_drew1) | exact HB.out)))).mono ?_); rintro e w7 ⟨rfl, hb⟩; refine ⟨_, rfl, ?_⟩; have n0_ := Aside0.mk (below_step (by repeat (first | (with_reducible first | exact HB.out | apply below_alloc | apply pw_below_drewN | apply below_drew1) | exact HB.out)) hb); clear HB; have HB := n0_; clear n0_; (try clear hb); (try clear hb2); (try clear hk); (try clear hi)))
    go_ret
    exact ⟨by first | rfl | (simp [errW_none, errW_some] <;> rfl) | (simp [*, errW_none, errW_some] <;> rfl), by repeat (first | (with_reducible first | exact HB.out | apply below_alloc | apply pw_below_drewN | apply below_drew1) | exact HB.out)⟩
  · rw [if_neg c5] at H
    have c5b0 : (t175.toList == t174.toList) = false := beq_eq_false_iff_ne.mpr c5
    have c5b1 : (t175.toList != t174.toList) = true := bne_iff_ne.mpr c5
    obtain rfl := Option.some.inj H
    go_enter Tryd.func4, Tryd.ntmps4
    go_wp2_with (first | ((with_reducible refine gate_callee (f := 14) rfl ?_); refine goesL_ (some 9) rfl rfl Tryd.func14 (by kernel_rfl) rfl #[.int .i64 a0, .int .i64 a1] rfl (by (try simp only [List.map_toArray, List.map_cons, List.map_nil]); first | done | rfl | (simp only [List.length_drop, List.length_take]; rfl)) ?_; (with_reducible refine (spec_SquareLine.calls k a0 a1 t174 _ A3.out).mono ?_); rintro e w8 ⟨rfl, hb⟩; refine ⟨_, rfl, ?_⟩; have n0_ := Aside0.mk (below_step (by repeat (first | (with_reducible first | exact HB.out | apply below_alloc | apply pw_below_drewN | apply below_drew1) | exact HB.out)) hb); clear HB; have HB := n0_; clear n0_; (try clear hb); (try clear hb2); (try clear hk); (try clear hi)) | ((with_reducible refine gate_callee (f := 15) rfl ?_); refine goesL_ (some 12) rfl rfl Tryd.func15 (by kernel_rfl) rfl #[.int .i64 a0, .int .i64 a1] rfl (by (try simp only [List.map_toArray, List.map_cons, List.map_nil]); first | done | rfl | (simp only [List.length_drop, List.length_take]; rfl)) ?_; (with_reducible refine (impl_SquareLine.calls k a0 a1 t175 _ A4.out (HG.out.of (by repeat (first | (with_reducible first | exact HB.out | apply below_alloc | apply pw_below_drewN | apply below_drew1) | exact HB.out)))).mono ?_); rintro e w9 ⟨rfl, hb⟩; refine ⟨_, rfl, ?_⟩; have n0_ := Aside0.mk (below_step (by repeat (first | (with_reducible first | exact HB.out | apply below_alloc | apply pw_below_drewN | apply below_drew1) | exact HB.out)) hb); clear HB; have HB := n0_; clear n0_; (try clear hb); (try clear hb2); (try clear hk); (try clear hi)))
    go_ret
    exact ⟨by first | rfl | (simp [errW_none, errW_some] <;> rfl) | (simp [*, errW_none, errW_some] <;> rfl), by repeat (first | (with_reducible first | exact HB.out | apply below_alloc | apply pw_below_drewN | apply below_drew1) | exact HB.out)⟩

end Go.Proofs.YtndlmckfacegeaaDoor.QFnExactSquareLine
