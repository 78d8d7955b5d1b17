-- Printed for this claim by a changed copy of the kit's print (the session's own; own contracts in place of some functions).
import Derived.Test.YtndlmckfacegeaaDoorQFnExactSquareLinex0
namespace Go.Proofs.YtndlmckfacegeaaDoor.QFnExactSquareLine
open Go.RowKit Go.Proofs.YtndlmckfacegeaaDoorW.PrintWords Go.Proofs.YtndlmckfacegeaaDoorW.PrintLast Go.Proofs.YtndlmckfacegeaaDoorW.PrintMore
attribute [local go_sem] max2_int min2_int max_two min_two max_three min_three max_four min_four   -- for this text's walks alone
set_option linter.unusedVariables false
set_option linter.unusedSimpArgs false

/-! ### impl_FormatInt: function 34 -/
/-- What the library's package-level variables hold. -/
structure GT (w : World) : Prop where
  tab : Lib.TabIs Tryd.prog w "internal/strconv.uint64pow10" .u64 Lib.pow10Tab
theorem GT.var {w w1 : World} {n : String} {cs : Array Value} (hb : Below w.heap.size w w1) (h : w.var? Tryd.prog n = some cs) : w1.var? Tryd.prog n = some cs := by
  unfold World.var? at h ⊢
  cases hg : Tryd.prog.globalNamed n with
  | none => rw [hg] at h; cases h
  | some g =>
    rw [hg] at h
    simp only [Option.bind_some] at h ⊢
    have hlt : g < w.heap.size := by
      apply Nat.lt_of_not_le
      intro hle
      rw [Array.getElem?_eq_none hle] at h
      cases h
    rw [hb.block g hlt]
    exact h
theorem GT.of {w w1 : World} (h : GT w) (hb : Below w.heap.size w w1) : GT w1 := ⟨GT.var hb h.tab⟩
--import Derived.Shelf.Strconv.Itoa3
def Tryd.laysM171_ren : Go.Shelf.Ren := ⟨fun | 171 => 68 | 243 => 104 | 246 => 144 | 283 => 174 | 284 => 175 | 285 => 176 | 286 => 177 | 129 => 171 | 317 => 204 | 318 => 205 | 319 => 206 | 320 => 207 | 337 => 226 | 338 => 227 | n => n, fun | 3 => 3 | 9 => 9 | 2 => 2 | 4 => 4 | 171 => 184 | 0 => 0 | 53 => 182 | 37 => 69 | 5 => 5 | 173 => 186 | 212 => 218 | 51 => 83 | 20 => 20 | 213 => 219 | 46 => 145 | 232 => 245 | 233 => 246 | n => n, fun | 17 => 0 | 18 => 4 | 19 => 5 | n => n⟩
theorem Tryd.laysM171 : Go.Proofs.LaysM.n171 Tryd.prog Tryd.laysM171_ren := {
  mixed := by kernel_rfl
  f129 := Tryd.func171.trans (congrArg some (by kernel_rfl))
  f171 := Tryd.func68.trans (congrArg some (by kernel_rfl))
  f243 := Tryd.func104.trans (congrArg some (by kernel_rfl))
  f246 := Tryd.func144.trans (congrArg some (by kernel_rfl))
  f283 := Tryd.func174.trans (congrArg some (by kernel_rfl))
  f284 := Tryd.func175.trans (congrArg some (by kernel_rfl))
  f285 := Tryd.func176.trans (congrArg some (by kernel_rfl))
  f286 := Tryd.func177.trans (congrArg some (by kernel_rfl))
  f317 := Tryd.func204.trans (congrArg some (by kernel_rfl))
  f318 := Tryd.func205.trans (congrArg some (by kernel_rfl))
  f319 := Tryd.func206.trans (congrArg some (by kernel_rfl))
  f320 := Tryd.func207.trans (congrArg some (by kernel_rfl))
  f337 := Tryd.func226.trans (congrArg some (by kernel_rfl))
  f338 := Tryd.func227.trans (congrArg some (by kernel_rfl))
  t0 := Tryd.underlying0
  a0 := Tryd.isAgg0
  z0 := Tryd.sizeOf0
  v0 := Tryd.zeroValue0
  t2 := Tryd.underlying2
  a2 := Tryd.isAgg2
  z2 := Tryd.sizeOf2
  v2 := Tryd.zeroValue2
  t3 := Tryd.underlying3
  a3 := Tryd.isAgg3
  z3 := Tryd.sizeOf3
  v3 := Tryd.zeroValue3
  t4 := Tryd.underlying4
  a4 := Tryd.isAgg4
  z4 := Tryd.sizeOf4
  v4 := Tryd.zeroValue4
  t5 := Tryd.underlying5
  a5 := Tryd.isAgg5
  z5 := Tryd.sizeOf5
  v5 := Tryd.zeroValue5
  t9 := Tryd.underlying9
  a9 := Tryd.isAgg9
  z9 := Tryd.sizeOf9
  v9 := Tryd.zeroValue9
  t20 := Tryd.underlying20
  a20 := Tryd.isAgg20
  z20 := Tryd.sizeOf20
  v20 := Tryd.zeroValue20
  t37 := Tryd.underlying69
  a37 := Tryd.isAgg69
  z37 := Tryd.sizeOf69
  v37 := Tryd.zeroValue69
  t46 := Tryd.underlying145
  a46 := Tryd.isAgg145
  z46 := Tryd.sizeOf145
  v46 := Tryd.zeroValue145
  t51 := Tryd.underlying83
  a51 := Tryd.isAgg83
  z51 := Tryd.sizeOf83
  v51 := Tryd.zeroValue83
  t53 := Tryd.underlying182
  a53 := Tryd.isAgg182
  z53 := Tryd.sizeOf182
  v53 := Tryd.zeroValue182
  t171 := Tryd.underlying184
  a171 := Tryd.isAgg184
  z171 := Tryd.sizeOf184
  v171 := Tryd.zeroValue184
  t173 := Tryd.underlying186
  a173 := Tryd.isAgg186
  z173 := Tryd.sizeOf186
  v173 := Tryd.zeroValue186
  t212 := Tryd.underlying218
  a212 := Tryd.isAgg218
  z212 := Tryd.sizeOf218
  v212 := Tryd.zeroValue218
  t213 := Tryd.underlying219
  a213 := Tryd.isAgg219
  z213 := Tryd.sizeOf219
  t232 := Tryd.underlying245
  a232 := Tryd.isAgg245
  z232 := Tryd.sizeOf245
  v232 := Tryd.zeroValue245
  t233 := Tryd.underlying246
  a233 := Tryd.isAgg246
  z233 := Tryd.sizeOf246
  v233 := Tryd.zeroValue246
  g17 := by kernel_rfl
  g18 := by kernel_rfl
  g19 := by kernel_rfl
  i0 := by kernel_rfl
  i2 := by kernel_rfl
  i3 := by kernel_rfl
  i4 := by kernel_rfl
  i5 := by kernel_rfl
  i9 := by kernel_rfl
  i20 := by kernel_rfl
  i37 := by kernel_rfl
  i46 := by kernel_rfl
  i51 := by kernel_rfl
  i53 := by kernel_rfl
  i171 := by kernel_rfl
  i173 := by kernel_rfl
  i212 := by kernel_rfl
  i232 := by kernel_rfl
  i233 := by kernel_rfl
  m17 := by kernel_rfl
  m18 := by kernel_rfl
  m19 := by kernel_rfl }
def impl_FormatInt.f (a0 : Int) : Option (ByteArray) := if -9223372036854775808 ≤ a0 ∧ a0 ≤ 9223372036854775807 then some ⟨(Lib.itoa a0).toArray⟩ else none
theorem impl_FormatInt.itoa (a0 : Int) (h0 : -9223372036854775808 ≤ a0) (h1 : a0 ≤ 9223372036854775807) (w : World) (hG : GT w) :
    Calls Tryd.prog 68 #[.int .i64 a0] w fun e w' => e = .returned (.string ⟨(Lib.itoa a0).toArray⟩) ∧ Below w.heap.size w w' := by
  refine (Any.strconv_Itoa Tryd.laysM171 a0 h0 h1 w hG.tab).mono ?_
  rintro e w' ⟨rfl, k, os, rfl⟩
  exact ⟨rfl, ⟨rfl, rfl, rfl, by show w.heap.size ≤ (w.heap ++ os).size; rw [Array.size_append]; omega, fun j hj => by show (w.heap ++ os)[j]? = w.heap[j]?; rw [Array.getElem?_append_left hj]⟩⟩
theorem impl_FormatInt.calls (a0 : Int) (r : ByteArray) (w : World) (h : impl_FormatInt.f a0 = some r) (hG : GT w) :
    Calls Tryd.prog 34 #[.int .i64 a0] w fun e w' => e = .returned (.string r) ∧ Below w.heap.size w w' := by
  unfold impl_FormatInt.f at h
  split at h
  · rename_i c
    obtain rfl := Option.some.inj h
    have hc := impl_FormatInt.itoa a0 c.1 c.2 w hG
    have HG := Aside0.mk hG
    clear hG h c
    go_enter Tryd.func34, Tryd.ntmps34
    go_wp2_with (go_at_call 68; refine hc.mono ?_; rintro e w' ⟨rfl, hb⟩)
    go_ret
    exact ⟨rfl, hb⟩
  · cases h

/-! ### impl_within: function 74 -/
def impl_within.f (a0 : Int) (a1 : Int) (a2 : Int) : Option (Bool) := if a0 ≥ a1 then (some (decide (a0 ≤ a2))) else (some false)
set_option maxHeartbeats 8000000 in
set_option maxRecDepth 100000 in
theorem impl_within.calls (a0 : Int) (a1 : Int) (a2 : Int) (r : Bool) (w : World) (h : impl_within.f a0 a1 a2 = some r) :
    Calls Tryd.prog 74 #[.int .i64 a0, .int .i64 a1, .int .i64 a2] w fun e w' => e = .returned (.bool r) ∧ Drawn0 w w' := by
  have H : (if a0 ≥ a1 then (some (decide (a0 ≤ a2))) else (some false)) = some r := h
  clear h
  by_cases c4 : a0 ≥ a1
  · rw [if_pos c4] at H
    have c4b0 : decide (a1 ≤ a0) = true := decide_eq_true c4
    clear c4
    obtain rfl := Option.some.inj H
    go_enter Tryd.func74, Tryd.ntmps74
    go_wp2
    go_ret
    exact ⟨by first | rfl | (simp; done) | (simp [*]; done), by repeat (first | exact Drawn0.refl _ | apply Drawn0.step)⟩
  · rw [if_neg c4] at H
    have c4b0 : decide (a1 ≤ a0) = false := decide_eq_false c4
    clear c4
    obtain rfl := Option.some.inj H
    go_enter Tryd.func74, Tryd.ntmps74
    go_wp2
    go_ret
    exact ⟨by first | rfl | (simp; done) | (simp [*]; done), by repeat (first | exact Drawn0.refl _ | apply Drawn0.step)⟩

/-! ### impl_GreedySquares: function 72 -/
mutual
def impl_GreedySquares.j0 : Nat → Int → Int → Bool → Option (List Int)
  | 0, _, _, _ => none
  | k + 1, x0, x1, x14 => if x14 = true then (some ([] : List Int)) else (impl_GreedySquares.l0 k x0 x1 (([] : List Int)))
def impl_GreedySquares.l0 : Nat → Int → Int → List Int → Option (List Int)
  | 0, _, _, _ => none
  | k + 1, x0, x1, x5 => if x0 > 0 then (impl_GreedySquares.j2 k x0 x1 x5 (decide (x1 > 0))) else (impl_GreedySquares.j2 k x0 x1 x5 false)
def impl_GreedySquares.j2 : Nat → Int → Int → List Int → Bool → Option (List Int)
  | 0, _, _, _, _ => none
  | k + 1, x0, x1, x5, x21 => if x21 = true then (if x5.length < 17592186044416 then ((some (x5 ++ [mn x0 x1] : List Int)).bind fun y154 => (if x0 ≥ x1 then (impl_GreedySquares.l0 k (wrap64 (x0 - (mn x0 x1))) x1 y154) else (impl_GreedySquares.l0 k x0 (wrap64 (x1 - (mn x0 x1))) y154))) else (none)) else (some x5)
end
def impl_GreedySquares.f (k : Nat) (a0 : Int) (a1 : Int) : Option (List Int) := (impl_within.f a0 1 1000).bind fun t149 => (if t149 = true then ((impl_within.f a1 1 1000).bind fun t150 => (impl_GreedySquares.j0 k a0 a1 (!t150))) else (impl_GreedySquares.j0 k a0 a1 true))
theorem impl_GreedySquares.mono_l : ∀ k, (∀ y0 y1 y2, LeO (impl_GreedySquares.j0 k y0 y1 y2) (impl_GreedySquares.j0 (k + 1) y0 y1 y2)) ∧ (∀ y0 y1 y2, LeO (impl_GreedySquares.l0 k y0 y1 y2) (impl_GreedySquares.l0 (k + 1) y0 y1 y2)) ∧ (∀ y0 y1 y2 y3, LeO (impl_GreedySquares.j2 k y0 y1 y2 y3) (impl_GreedySquares.j2 (k + 1) y0 y1 y2 y3))
  | 0 => ⟨fun _ _ _ r h => by simp [impl_GreedySquares.j0] at h, fun _ _ _ r h => by simp [impl_GreedySquares.l0] at h, fun _ _ _ _ r h => by simp [impl_GreedySquares.j2] at h⟩
  | k + 1 => by
    obtain ⟨ih0, ih1, ih2⟩ := impl_GreedySquares.mono_l k
    refine ⟨?_, ?_, ?_⟩
    · intro y0 y1 y2
      unfold impl_GreedySquares.j0
      repeat' first
      | (with_reducible exact ih0 _ _ _)
      | (with_reducible exact ih1 _ _ _)
      | (with_reducible exact ih2 _ _ _ _)
      | (with_reducible exact LeO.refl _)
      | (with_reducible exact LeO.none _)
      | (with_reducible refine LeO.ite ?_ ?_)
      | (with_reducible refine LeO.bind ?_ (fun _ => ?_))
      | exact ih0 _ _ _
      | exact ih1 _ _ _
      | exact ih2 _ _ _ _
      | exact LeO.none _
      | refine LeO.ite ?_ ?_
      | refine LeO.bind ?_ (fun _ => ?_)
    · intro y0 y1 y2
      unfold impl_GreedySquares.l0
      repeat' first
      | (with_reducible exact ih0 _ _ _)
      | (with_reducible exact ih1 _ _ _)
      | (with_reducible exact ih2 _ _ _ _)
      | (with_reducible exact LeO.refl _)
      | (with_reducible exact LeO.none _)
      | (with_reducible refine LeO.ite ?_ ?_)
      | (with_reducible refine LeO.bind ?_ (fun _ => ?_))
      | exact ih0 _ _ _
      | exact ih1 _ _ _
      | exact ih2 _ _ _ _
      | exact LeO.none _
      | refine LeO.ite ?_ ?_
      | refine LeO.bind ?_ (fun _ => ?_)
    · intro y0 y1 y2 y3
      unfold impl_GreedySquares.j2
      repeat' first
      | (with_reducible exact ih0 _ _ _)
      | (with_reducible exact ih1 _ _ _)
      | (with_reducible exact ih2 _ _ _ _)
      | (with_reducible exact LeO.refl _)
      | (with_reducible exact LeO.none _)
      | (with_reducible refine LeO.ite ?_ ?_)
      | (with_reducible refine LeO.bind ?_ (fun _ => ?_))
      | exact ih0 _ _ _
      | exact ih1 _ _ _
      | exact ih2 _ _ _ _
      | exact LeO.none _
      | refine LeO.ite ?_ ?_
      | refine LeO.bind ?_ (fun _ => ?_)
theorem impl_GreedySquares.mono : ∀ a0 a1 k, LeO (impl_GreedySquares.f k a0 a1) (impl_GreedySquares.f (k + 1) a0 a1) := by
  intro a0 a1 k
  obtain ⟨ih0, ih1, ih2⟩ := impl_GreedySquares.mono_l k
  unfold impl_GreedySquares.f
  repeat' first
      | (with_reducible exact ih0 _ _ _)
      | (with_reducible exact ih1 _ _ _)
      | (with_reducible exact ih2 _ _ _ _)
      | (with_reducible exact LeO.refl _)
      | (with_reducible exact LeO.none _)
      | (with_reducible refine LeO.ite ?_ ?_)
      | (with_reducible refine LeO.bind ?_ (fun _ => ?_))
      | exact ih0 _ _ _
      | exact ih1 _ _ _
      | exact ih2 _ _ _ _
      | exact LeO.none _
      | refine LeO.ite ?_ ?_
      | refine LeO.bind ?_ (fun _ => ?_)
set_option maxHeartbeats 8000000 in
set_option maxRecDepth 100000 in
theorem impl_GreedySquares.calls (k : Nat) (a0 : Int) (a1 : Int) (r : List Int) (w : World) (h : impl_GreedySquares.f k a0 a1 = some r) :
    Calls Tryd.prog 72 #[.int .i64 a0, .int .i64 a1] w fun e w' => ∃ v0_ : Value, e = .returned (v0_) ∧ Kd.R (Kd.int .i64) 3 w' w.heap.size (fun _ => True) v0_ r ∧ Below w.heap.size w w' := by
  have HB := Aside0.mk (Below.refl w.heap.size w)
  have H : ((impl_within.f a0 1 1000).bind fun t149 => (if t149 = true then ((impl_within.f a1 1 1000).bind fun t150 => (impl_GreedySquares.j0 k a0 a1 (!t150))) else (impl_GreedySquares.j0 k a0 a1 true))) = some r := h
  clear h
  have HC3 := Aside0.mk H
  clear H
  go_enter Tryd.func72, Tryd.ntmps72
  go_upto_region 1 with (fail)
  go_cut [14] (fun v14 wc => ∃ (kq : Nat) (x14_2 : Bool), v14 = .bool x14_2 ∧ Aside0 (impl_GreedySquares.j0 kq a0 a1 x14_2 = some r) ∧ Aside0 (kq ≤ k) ∧ Aside0 (Below w.heap.size w wc))
  case first =>
    have H := HC3.out
    clear HC3
    replace H := Option.bind_eq_some_iff.mp H
    obtain ⟨t149, A40, H⟩ := H
    replace H : (if t149 = true then ((impl_within.f a1 1 1000).bind fun t150 => (impl_GreedySquares.j0 k a0 a1 (!t150))) else (impl_GreedySquares.j0 k a0 a1 true)) = some r := H
    have A4 := Aside0.mk A40
    clear A40
    by_cases c5 : t149 = true
    · subst c5
      have H1 : ((impl_within.f a1 1 1000).bind fun t150 => (impl_GreedySquares.j0 k a0 a1 (!t150))) = some r := by rw [if_pos rfl] at H; exact H
      clear H
      have H := H1
      clear H1
      replace H := Option.bind_eq_some_iff.mp H
      obtain ⟨t150, A60, H⟩ := H
      replace H : (impl_GreedySquares.j0 k a0 a1 (!t150)) = some r := H
      have A6 := Aside0.mk A60
      clear A60
      have H' := Aside0.mk H
      clear H
      go_wp2_with (first | ((with_reducible refine gate_callee (f := 74) rfl ?_); refine goesL_ (some 8) rfl rfl Tryd.func74 (by kernel_rfl) rfl #[.int .i64 a0, .int .i64 1, .int .i64 1000] rfl (by (try simp only [List.map_toArray, List.map_cons, List.map_nil]); first | done | rfl | (simp only [List.length_drop, List.length_take]; rfl)) ?_; (with_reducible refine (impl_within.calls a0 1 1000 true _ A4.out).mono ?_); rintro e w' ⟨rfl, ⟨nd, rfl⟩⟩; refine ⟨_, rfl, ?_⟩) | (go_at_call 74; (with_reducible refine (impl_within.calls a1 1 1000 t150 _ A6.out).mono ?_); rintro e w' ⟨rfl, ⟨nd, rfl⟩⟩))
      go_meet
      case rel => exact ⟨_, (!t150), (by first | rfl | (simp; done) | (simp [*]; done)), H', ⟨by first | omega | exact Nat.le_refl _⟩, ⟨by repeat (first | (with_reducible first | exact HB.out | apply below_alloc | apply pw_below_drewN | apply below_drew1) | exact HB.out)⟩⟩
    · replace c5 := Bool.eq_false_iff.mpr c5
      subst c5
      have H1 : (impl_GreedySquares.j0 k a0 a1 true) = some r := by rw [if_neg (show ¬ (false = true) by decide)] at H; exact H
      clear H
      have H := H1
      clear H1
      have H' := Aside0.mk H
      clear H
      go_wp2_with (first | ((with_reducible refine gate_callee (f := 74) rfl ?_); refine goesL_ (some 8) rfl rfl Tryd.func74 (by kernel_rfl) rfl #[.int .i64 a0, .int .i64 1, .int .i64 1000] rfl (by (try simp only [List.map_toArray, List.map_cons, List.map_nil]); first | done | rfl | (simp only [List.length_drop, List.length_take]; rfl)) ?_; (with_reducible refine (impl_within.calls a0 1 1000 false _ A4.out).mono ?_); rintro e w' ⟨rfl, ⟨nd, rfl⟩⟩; refine ⟨_, rfl, ?_⟩))
      go_meet
      case rel => exact ⟨_, (true), (by first | rfl | (simp; done) | (simp [*]; done)), H', ⟨by first | omega | exact Nat.le_refl _⟩, ⟨by repeat (first | (with_reducible first | exact HB.out | apply below_alloc | apply pw_below_drewN | apply below_drew1) | exact HB.out)⟩⟩
  case rest =>
    clear HC3
    try clear p2
    try clear c5
    obtain ⟨kq, x14_2, rfl, HA, HJ2, HB⟩ := hcut
    cases kq with
    | zero => exact absurd HA.out (by simp [impl_GreedySquares.j0])
    | succ kj2 =>
      have H := HA.out
      clear HA
      simp only [impl_GreedySquares.j0] at H
      by_cases c7 : x14_2 = true
      · subst c7
        have H1 : (some ([] : List Int)) = some r := by rw [if_pos rfl] at H; exact H
        clear H
        have H := H1
        clear H1
        obtain rfl := Option.some.inj H
        go_wp2
        go_ret
        exact ⟨_, by first | rfl | (simp [errW_none, errW_some] <;> rfl) | (simp [*, errW_none, errW_some] <;> rfl), by first | exact Kd.R_nil _ _ _ _ _ | exact Kd.N_nil _ _ _ _ _ | exact Kd.V_nil _ _ _ _ _ | exact Kd.Q_nil _ _ _ _ _ | exact Kd.S_nil _ _ _ _ _, by repeat (first | (with_reducible first | exact HB.out | apply below_alloc | apply pw_below_drewN | apply below_drew1) | exact HB.out)⟩
      · replace c7 := Bool.eq_false_iff.mpr c7
        subst c7
        have H1 : (impl_GreedySquares.l0 kj2 a0 a1 (([] : List Int))) = some r := by rw [if_neg (show ¬ (false = true) by decide)] at H; exact H
        clear H
        have H := H1
        clear H1
        obtain ⟨y151, hy151⟩ : ∃ y_ : List Int, y_ = (([] : List Int)) := ⟨_, rfl⟩
        replace H : (impl_GreedySquares.l0 kj2 a0 a1 y151) = some r := by first | (rw [hy151]; with_reducible exact H) | (have H2_ := (Option.bind_some _ _).symm.trans H; rw [hy151]; with_reducible exact H2_) | (have H2_ := (Option.bind_some _ _).symm.trans H; with_reducible exact H2_) | with_reducible exact H | (rw [hy151]; exact H) | exact H
        have Ny151 := Aside0.mk hy151
        clear hy151
        have H' := Aside0.mk H
        clear H
        go_wp2_with (first | ((with_reducible refine gate_dst (N := 15) rfl ?_); refine Kd.R_lit (Kd.int .i64) _ 3 ?hg (N := 15) ?hd (xs := ([] : List Int)) (inner := []) (ok := fun _ => True) (okp := fun _ => True) ?hr ?hp (fun _ hk => hk) trivial (Below.refl _ _) (Nat.le_refl _) (by simp) ?_; (case hd => rfl); (case hg => rfl); (case hr => first | (go_simp; done) | (go_simp; rfl)); (case hp => exact (Reps.none _ _)); intro v152 w8 ho9 hb hg_ hnew_; clear hg_ hnew_; (first | rw [← Ny151.out] at ho9 | (simp only [Int.reduceToNat] at ho9; rw [← Ny151.out] at ho9)); have n0_ := Aside0.mk (Kd.R_lower ho9 (below_size (by repeat (first | (with_reducible first | exact HB.out | apply below_alloc | apply pw_below_drewN | apply below_drew1) | exact HB.out)))); have n1_ := Aside0.mk (below_step (by repeat (first | (with_reducible first | exact HB.out | apply below_alloc | apply pw_below_drewN | apply below_drew1) | exact HB.out)) hb); clear HB; have HO153 := n0_; have HB := n1_; clear n0_ n1_; clear hb ho9))
        go_loopg [0, 1, 5] kj2 (fun kq v0 v1 v5 w' => ∃ (x0_2 : Int) (x1_2 : Int) (x5_2 : List Int), v0 = .int .i64 x0_2 ∧ v1 = .int .i64 x1_2 ∧ Aside0 (impl_GreedySquares.l0 kq x0_2 x1_2 x5_2 = some r) ∧ Aside0 (kq ≤ kj2) ∧ Aside0 (Kd.R (Kd.int .i64) 3 w' w.heap.size (fun _ => True) v5 x5_2) ∧ Aside0 (Below w.heap.size w w'))
        case atStart => exact ⟨(a0), (a1), (y151), (by first | rfl | (simp; done) | (simp [*]; done)), (by first | rfl | (simp; done) | (simp [*]; done)), H', ⟨Nat.le_refl _⟩, ⟨by (with_reducible repeat (first | apply Kd.R_alloc | apply Kd.R_drewN | apply Kd.R_drew)); exact HO153.out⟩, ⟨by repeat (first | (with_reducible first | exact HB.out | apply below_alloc | apply pw_below_drewN | apply below_drew1) | exact HB.out)⟩⟩
        case round =>
          clear H'
          try clear p2
          try clear c5
          try clear c7
          try clear p2
          obtain ⟨x0_2, x1_2, x5_2, rfl, rfl, HA, HK2, HO_5, HB⟩ := hrel
          cases gk with
          | zero => exact absurd HA.out (by simp [impl_GreedySquares.l0])
          | succ k2 =>
            have H := HA.out
            clear HA
            simp only [impl_GreedySquares.l0] at H
            have HC10 := Aside0.mk H
            clear H
            go_upto_region 4 with (fail)
            go_cut [21] (fun v21 wc => ∃ (kq : Nat) (x21_9 : Bool), v21 = .bool x21_9 ∧ Aside0 (impl_GreedySquares.j2 kq x0_2 x1_2 x5_2 x21_9 = some r) ∧ Aside0 (kq ≤ k2) ∧ Aside0 (Kd.R (Kd.int .i64) 3 wc w.heap.size (fun _ => True) u5 x5_2) ∧ Aside0 (Below w.heap.size w wc))
            case first =>
              have H := HC10.out
              clear HC10
              by_cases c11 : x0_2 > 0
              · rw [if_pos c11] at H
                have c11b0 : decide (0 < x0_2) = true := decide_eq_true c11
                clear c11
                (first | rw [c11b0] | (simp only [i64_w, i32_w]; rw [c11b0]) | skip)
                have H' := Aside0.mk H
                clear H
                go_wp2
                go_meet
                case rel => exact ⟨_, (decide (x1_2 > 0)), (by first | rfl | (simp; done) | (simp [*]; done)), H', ⟨by have := HJ2.out; have := HK2.out; first | omega | exact Nat.le_refl _⟩, ⟨by (with_reducible repeat (first | apply Kd.R_alloc | apply Kd.R_drewN | apply Kd.R_drew)); exact HO_5.out⟩, ⟨by repeat (first | (with_reducible first | exact HB.out | apply below_alloc | apply pw_below_drewN | apply below_drew1) | exact HB.out)⟩⟩
              · rw [if_neg c11] at H
                have c11b0 : decide (0 < x0_2) = false := decide_eq_false c11
                clear c11
                (first | rw [c11b0] | (simp only [i64_w, i32_w]; rw [c11b0]) | skip)
                have H' := Aside0.mk H
                clear H
                go_wp2
                go_meet
                case rel => exact ⟨_, (false), (by first | rfl | (simp; done) | (simp [*]; done)), H', ⟨by have := HJ2.out; have := HK2.out; first | omega | exact Nat.le_refl _⟩, ⟨by (with_reducible repeat (first | apply Kd.R_alloc | apply Kd.R_drewN | apply Kd.R_drew)); exact HO_5.out⟩, ⟨by repeat (first | (with_reducible first | exact HB.out | apply below_alloc | apply pw_below_drewN | apply below_drew1) | exact HB.out)⟩⟩
            case rest =>
              clear HC10
              try clear c1
              try clear p2
              try clear c5
              try clear c7
              try clear c11
              try clear c11b0
              try clear p2
              obtain ⟨kq, x21_9, rfl, HA, HJ9, HO_5, HB⟩ := hcut
              cases kq with
              | zero => exact absurd HA.out (by simp [impl_GreedySquares.j2])
              | succ kj9 =>
                have H := HA.out
                clear HA
                simp only [impl_GreedySquares.j2] at H
                by_cases c12 : x21_9 = true
                · subst c12
                  have H1 : (if x5_2.length < 17592186044416 then ((some (x5_2 ++ [mn x0_2 x1_2] : List Int)).bind fun y154 => (if x0_2 ≥ x1_2 then (impl_GreedySquares.l0 kj9 (wrap64 (x0_2 - (mn x0_2 x1_2))) x1_2 y154) else (impl_GreedySquares.l0 kj9 x0_2 (wrap64 (x1_2 - (mn x0_2 x1_2))) y154))) else (none)) = some r := by rw [if_pos rfl] at H; exact H
                  clear H
                  have H := H1
                  clear H1
                  obtain ⟨ji13, hji13⟩ : ∃ j_ : Int, (mn x0_2 x1_2) = j_ := ⟨_, rfl⟩
                  replace H : (if x5_2.length < 17592186044416 then ((some (x5_2 ++ [ji13] : List Int)).bind fun y154 => (if x0_2 ≥ x1_2 then (impl_GreedySquares.l0 kj9 (wrap64 (x0_2 - (ji13))) x1_2 y154) else (impl_GreedySquares.l0 kj9 x0_2 (wrap64 (x1_2 - (ji13))) y154))) else (none)) = some r := by first | (rw [hji13] at H; exact H) | (simp only [hji13] at H ⊢; exact H)
                  have hji13_ : (if x1_2 < x0_2 then x1_2 else x0_2) = ji13 := hji13
                  by_cases c14 : x5_2.length < 17592186044416
                  · rw [if_pos c14] at H
                    have LMc14 := Aside0.mk c14
                    clear c14
                    obtain ⟨y154, hy154⟩ : ∃ y_ : List Int, y_ = (x5_2 ++ [ji13]) := ⟨_, rfl⟩
                    replace H : (if x0_2 ≥ x1_2 then (impl_GreedySquares.l0 kj9 (wrap64 (x0_2 - (ji13))) x1_2 y154) else (impl_GreedySquares.l0 kj9 x0_2 (wrap64 (x1_2 - (ji13))) y154)) = some r := by first | (rw [hy154]; with_reducible exact H) | (have H2_ := (Option.bind_some _ _).symm.trans H; rw [hy154]; with_reducible exact H2_) | (have H2_ := (Option.bind_some _ _).symm.trans H; with_reducible exact H2_) | with_reducible exact H | (rw [hy154]; exact H) | exact H
                    have Ny154 := Aside0.mk hy154
                    clear hy154
                    by_cases c15 : x0_2 ≥ x1_2
                    · rw [if_pos c15] at H
                      have c15b0 : decide (x1_2 ≤ x0_2) = true := decide_eq_true c15
                      clear c15
                      have H' := Aside0.mk H
                      clear H
                      go_wp2_with (first | ((with_reducible refine gate_builtin (b := .append) (xs := #[.tmp 25, .tmp 27]) rfl ?_); at_builtin; refine Kd.R_append (Kd.int .i64) (w0 := w) w.heap.size rfl (.tmp 25) (.tmp 27) 30 3 (.int .i64 0) 8 rfl Tryd.underlying30 info3 rfl (by decide) (by omega) u5 x5_2 ji13 [.int .i64 ji13] (fun _ => True) (fun _ => False) rfl rfl ?aP (fun _ hk => hk.elim) ?aF ?aO ?aB ?aS ?aL ?_; (case aP => exact rfl); (case aB => exact (by repeat (first | (with_reducible first | exact HB.out | apply below_alloc | apply pw_below_drewN | apply below_drew1) | exact HB.out))); (case aF => exact (fun _ _ => trivial)); (case aO => exact (by (with_reducible repeat (first | apply Kd.R_alloc | apply Kd.R_drewN | apply Kd.R_drew)); exact HO_5.out)); (case aS => exact (below_size (by repeat (first | (with_reducible first | exact HB.out | apply below_alloc | apply pw_below_drewN | apply below_drew1) | exact HB.out)))); (case aL => have := LMc14.out; omega); intro v155 w16 ho hb hg hat; rw [← Ny154.out] at ho; have n0_ := Aside0.mk (hb); have n1_ := Aside0.mk (ho); clear HB; clear HO_5; have HB := n0_; have HO156 := n1_; clear n0_ n1_; clear ho hb hg hat))
                      go_roundg kj9
                      case measure => have := HJ2.out; have := HK2.out; have := HJ9.out; omega
                      case rel => exact ⟨(wrap64 (x0_2 - (ji13))), (x1_2), (y154), (by first | rfl | (simp; done) | ((simp only [← hji13] <;> (first | rfl | simp)); done) | (simp [*]; done)), (by first | rfl | (simp; done) | (simp [*]; done)), H', ⟨by have := HJ2.out; have := HK2.out; have := HJ9.out; omega⟩, ⟨by (with_reducible repeat (first | apply Kd.R_alloc | apply Kd.R_drewN | apply Kd.R_drew)); exact HO156.out⟩, ⟨by repeat (first | (with_reducible first | exact HB.out | apply below_alloc | apply pw_below_drewN | apply below_drew1) | exact HB.out)⟩⟩
                    · rw [if_neg c15] at H
                      have c15b0 : decide (x1_2 ≤ x0_2) = false := decide_eq_false c15
                      clear c15
                      have H' := Aside0.mk H
                      clear H
                      go_wp2_with (first | ((with_reducible refine gate_builtin (b := .append) (xs := #[.tmp 25, .tmp 27]) rfl ?_); at_builtin; refine Kd.R_append (Kd.int .i64) (w0 := w) w.heap.size rfl (.tmp 25) (.tmp 27) 30 3 (.int .i64 0) 8 rfl Tryd.underlying30 info3 rfl (by decide) (by omega) u5 x5_2 ji13 [.int .i64 ji13] (fun _ => True) (fun _ => False) rfl rfl ?aP (fun _ hk => hk.elim) ?aF ?aO ?aB ?aS ?aL ?_; (case aP => exact rfl); (case aB => exact (by repeat (first | (with_reducible first | exact HB.out | apply below_alloc | apply pw_below_drewN | apply below_drew1) | exact HB.out))); (case aF => exact (fun _ _ => trivial)); (case aO => exact (by (with_reducible repeat (first | apply Kd.R_alloc | apply Kd.R_drewN | apply Kd.R_drew)); exact HO_5.out)); (case aS => exact (below_size (by repeat (first | (with_reducible first | exact HB.out | apply below_alloc | apply pw_below_drewN | apply below_drew1) | exact HB.out)))); (case aL => have := LMc14.out; omega); intro v155 w17 ho hb hg hat; rw [← Ny154.out] at ho; have n0_ := Aside0.mk (hb); have n1_ := Aside0.mk (ho); clear HB; clear HO_5; have HB := n0_; have HO156 := n1_; clear n0_ n1_; clear ho hb hg hat))
                      go_roundg kj9
                      case measure => have := HJ2.out; have := HK2.out; have := HJ9.out; omega
                      case rel => exact ⟨(x0_2), (wrap64 (x1_2 - (ji13))), (y154), (by first | rfl | (simp; done) | (simp [*]; done)), (by first | rfl | (simp; done) | ((simp only [← hji13] <;> (first | rfl | simp)); done) | (simp [*]; done)), H', ⟨by have := HJ2.out; have := HK2.out; have := HJ9.out; omega⟩, ⟨by (with_reducible repeat (first | apply Kd.R_alloc | apply Kd.R_drewN | apply Kd.R_drew)); exact HO156.out⟩, ⟨by repeat (first | (with_reducible first | exact HB.out | apply below_alloc | apply pw_below_drewN | apply below_drew1) | exact HB.out)⟩⟩
                  · rw [if_neg c14] at H
                    exact absurd H (by simp)
                · replace c12 := Bool.eq_false_iff.mpr c12
                  subst c12
                  have H1 : (some x5_2) = some r := by rw [if_neg (show ¬ (false = true) by decide)] at H; exact H
                  clear H
                  have H := H1
                  clear H1
                  obtain rfl := Option.some.inj H
                  go_wp2
                  go_ret
                  exact ⟨_, by first | rfl | (simp [errW_none, errW_some] <;> rfl) | (simp [*, errW_none, errW_some] <;> rfl), by (with_reducible repeat (first | apply Kd.R_alloc | apply Kd.R_drewN | apply Kd.R_drew)); exact HO_5.out, by repeat (first | (with_reducible first | exact HB.out | apply below_alloc | apply pw_below_drewN | apply below_drew1) | exact HB.out)⟩

/-! ### impl_QuotientsOf: function 39 -/
--import Derived.WalkSpells
def impl_QuotientsOf.go (t : List Int) : Nat → List Int
  | 0 => []
  | i + 1 => if 0 < i ∧ rd t (i : Int) = rd t ((i : Int) - 1) then (impl_QuotientsOf.go t i).set ((impl_QuotientsOf.go t i).length - 1) (wrap64 (rd (impl_QuotientsOf.go t i) (((impl_QuotientsOf.go t i).length : Int) - 1) + 1)) else impl_QuotientsOf.go t i ++ [1]
theorem impl_QuotientsOf.go_len (t : List Int) : ∀ i, (impl_QuotientsOf.go t i).length ≤ i ∧ (0 < i → 0 < (impl_QuotientsOf.go t i).length)
  | 0 => ⟨Nat.le_refl _, fun h => absurd h (Nat.lt_irrefl 0)⟩
  | i + 1 => by
    have ih := impl_QuotientsOf.go_len t i
    rw [impl_QuotientsOf.go]
    split
    · rename_i h
      rw [List.length_set]
      exact ⟨by omega, fun _ => ih.2 h.1⟩
    · rw [List.length_append, List.length_singleton]
      exact ⟨by omega, fun _ => by omega⟩
theorem impl_QuotientsOf.add0 (g n : Nat) : (⟨g, 0, none⟩ : Addr).add n = ⟨g, n, none⟩ := by cases n <;> simp [Addr.add]
def impl_QuotientsOf.ok (a : Int) : Bool := decide (1 ≤ a) && decide (a ≤ 1000)
def impl_QuotientsOf.f (k : Nat) (a0 a1 : Int) : Option (List Int) := if impl_QuotientsOf.ok a0 = true ∧ impl_QuotientsOf.ok a1 = true then ((impl_GreedySquares.f k a0 a1).bind fun t => if 0 < t.length ∧ t.length ≤ 1048576 then some (impl_QuotientsOf.go t t.length) else none) else some []
theorem impl_QuotientsOf.mono : ∀ a0 a1 k, LeO (impl_QuotientsOf.f k a0 a1) (impl_QuotientsOf.f (k + 1) a0 a1) := fun a0 a1 k => LeO.ite (LeO.bind (impl_GreedySquares.mono _ _ _) (fun _ => LeO.refl _)) (LeO.refl _)
theorem impl_QuotientsOf.within (a0 : Int) (t : Bool) (w : World) (ht : impl_QuotientsOf.ok a0 = t) :
    Calls Tryd.prog 74 #[.int .i64 a0, .int .i64 1, .int .i64 1000] w fun e w' => e = .returned (.bool t) ∧ ∃ m, w' = w.drewN m := by
  subst ht
  unfold impl_QuotientsOf.ok
  by_cases c4 : 1 ≤ a0
  · have c4b0 : decide (1 ≤ a0) = true := decide_eq_true c4
    rw [c4b0, Bool.true_and]
    clear c4
    go_enter Tryd.func74, Tryd.ntmps74
    go_wp2
    go_ret
    exact ⟨by first | rfl | (simp; done) | (simp [*]; done), by first | exact ⟨0, rfl⟩ | exact ⟨_, rfl⟩⟩
  · have c4b0 : decide (1 ≤ a0) = false := decide_eq_false c4
    rw [c4b0, Bool.false_and]
    clear c4
    go_enter Tryd.func74, Tryd.ntmps74
    go_wp2
    go_ret
    exact ⟨by first | rfl | (simp; done) | (simp [*]; done), by first | exact ⟨0, rfl⟩ | exact ⟨_, rfl⟩⟩
set_option maxHeartbeats 4000000 in
theorem impl_QuotientsOf.nil (a0 a1 : Int) (w : World) (h : ¬ (impl_QuotientsOf.ok a0 = true ∧ impl_QuotientsOf.ok a1 = true)) : Calls Tryd.prog 72 #[.int .i64 a0, .int .i64 a1] w fun e w' => e = .returned (.slice none 0 0) ∧ Below w.heap.size w w' := by
  cases h0 : impl_QuotientsOf.ok a0 with
  | false =>
    have H0 := Aside0.mk h0
    clear h0 h
    go_enter Tryd.func72, Tryd.ntmps72
    go_wp2_with (first | (go_at_call 74; (with_reducible refine (impl_QuotientsOf.within a0 false _ H0.out).mono ?_); rintro e w1 ⟨rfl, ⟨m, rfl⟩⟩))
    go_ret
    exact ⟨rfl, by repeat (first | exact Below.refl _ _ | apply pw_below_drewN | apply below_drew1)⟩
  | true =>
    have h1 : impl_QuotientsOf.ok a1 = false := by cases h1 : impl_QuotientsOf.ok a1 with
      | false => rfl
      | true => exact absurd ⟨h0, h1⟩ h
    have H0 := Aside0.mk h0
    have H1 := Aside0.mk h1
    clear h0 h1 h
    go_enter Tryd.func72, Tryd.ntmps72
    go_wp2_with (first | (go_at_call 74; (with_reducible refine (impl_QuotientsOf.within a0 true _ H0.out).mono ?_); rintro e w1 ⟨rfl, ⟨m, rfl⟩⟩) | (go_at_call 74; (with_reducible refine (impl_QuotientsOf.within a1 false _ H1.out).mono ?_); rintro e w1 ⟨rfl, ⟨m, rfl⟩⟩))
    go_ret
    exact ⟨rfl, by repeat (first | exact Below.refl _ _ | apply pw_below_drewN | apply below_drew1)⟩
set_option maxHeartbeats 16000000 in
set_option maxRecDepth 100000 in
theorem impl_QuotientsOf.calls (k : Nat) (a0 a1 : Int) (r : List Int) (w : World) (h : impl_QuotientsOf.f k a0 a1 = some r) :
    Calls Tryd.prog 39 #[.int .i64 a0, .int .i64 a1] w fun e w' => ∃ v0_ : Value, e = .returned v0_ ∧ Kd.R (Kd.int .i64) 3 w' w.heap.size (fun _ => True) v0_ r ∧ Below w.heap.size w w' := by
  unfold impl_QuotientsOf.f at h
  have hn := fun (w : World) (a : Option Addr) (n c : Nat) => Lib.run_eql_slice_nil (P := Tryd.prog) w 30 3 a n c 0 0 Tryd.underlying30
  by_cases hk : impl_QuotientsOf.ok a0 = true ∧ impl_QuotientsOf.ok a1 = true
  case neg =>
    rw [if_neg hk] at h
    obtain rfl := Option.some.inj h
    have HK := Aside0.mk hk
    clear h hk
    go_enter Tryd.func39, Tryd.ntmps39
    go_wp2_with (first | (go_at_call 72; (with_reducible refine (impl_QuotientsOf.nil a0 a1 _ HK.out).mono ?_); rintro e w1 ⟨rfl, hb⟩; have HB := Aside0.mk hb; clear hb))
    go_ret
    exact ⟨.slice none 0 0, rfl, Kd.R_nil _ _ _ _ _, (by repeat (first | (with_reducible first | exact HB.out | apply below_alloc | apply pw_below_drewN | apply below_drew1) | exact HB.out))⟩
  rw [if_pos hk] at h
  rw [Option.bind_eq_some_iff] at h
  obtain ⟨t, ht, h⟩ := h
  by_cases hl : 0 < t.length ∧ t.length ≤ 1048576
  case neg => rw [if_neg hl] at h; cases h
  rw [if_pos hl] at h
  have HT := Aside0.mk ht
  have HN := Aside0.mk hl
  have HL := Aside0.mk (show t.length ≤ 1048576 by omega)
  have HR := Aside0.mk (Option.some.inj h)
  clear ht hl h
  go_enter Tryd.func39, Tryd.ntmps39
  go_wp2_with (first | (go_at_call 72; (with_reducible refine (impl_GreedySquares.calls k a0 a1 t _ HT.out).mono ?_); rintro e w1 ⟨v, rfl, ho, hb⟩; obtain ⟨As, cs, es⟩ := Kd.R_slice ho; subst es; have HS := Aside0.mk (Kd.R_reads' ho).2.2; have HW := Aside0.mk hb; obtain ⟨gs, cs2, es2, _, _, _⟩ := Kd.R_form ho HN.out.1; injection es2 with ea _ _; subst ea; clear ho hb) | ((with_reducible refine gate_dst (N := 14) rfl ?_); refine Kd.R_lit (Kd.int .i64) _ 3 ?hg (N := 14) ?hd (xs := ([] : List Int)) (inner := []) (ok := fun _ => True) (okp := fun _ => True) ?hr ?hp (fun _ hk => hk) trivial (Below.refl _ _) (Nat.le_refl _) (by simp) ?_; (case hd => rfl); (case hg => rfl); (case hr => first | (go_simp; done) | (go_simp; rfl)); (case hp => exact (Reps.none _ _)); intro vo w8 ho9 hb hg_ hnew_; clear hg_ hnew_; obtain ⟨Ao, co, eo⟩ := Kd.R_slice ho9; subst eo; have HO := Aside0.mk ho9; have HB := Aside0.mk hb; clear hb ho9))
  go_loopg [6, 17] t.length (fun kq v6 v17 w' => ∃ (i : Int) (Ao : Option Addr) (co : Nat) (o : List Int), v6 = .slice Ao o.length co ∧ v17 = .int .i64 i ∧ Aside0 (0 ≤ i ∧ i + kq = (t.length : Int)) ∧ Aside0 (o = impl_QuotientsOf.go t i.toNat) ∧ Aside0 (Kd.R (Kd.int .i64) 3 w' w1.heap.size (fun _ => True) (.slice Ao o.length co) o) ∧ Aside0 (Below w1.heap.size w1 w'))
  case atStart => exact ⟨0, _, _, [], rfl, rfl, ⟨by omega⟩, ⟨rfl⟩, HO, HB⟩
  case round =>
    clear HO HB
    obtain ⟨i, Ao, co, o, rfl, rfl, HI, EO, HO, HB⟩ := hrel
    by_cases c1 : i < (t.length : Int)
    · have c1b : decide (i < (t.length : Int)) = true := decide_eq_true c1
      have HC1 := Aside0.mk c1
      have p1 : 0 ≤ i := HI.out.1
      have gl := impl_QuotientsOf.go_len t i.toNat
      rw [← EO.out] at gl
      have LO := Aside0.mk gl
      obtain ⟨ad, ead, hx⟩ := Kd.at_int (Kd.C_below HS.out HB.out) i p1 c1
      cases ead
      rw [impl_QuotientsOf.add0] at hx
      obtain ⟨u, hu⟩ : ∃ u, u = rd t i := ⟨_, rfl⟩
      rw [← hu] at hx
      have EU := Aside0.mk hu
      clear hu gl
      have e1 := Aside0.mk (show i = ((i.toNat : Nat) : Int) by omega)
      have iw : wrap64 (i + 1) = i + 1 := by have := HL.out; unfold wrap64; omega
      by_cases c0 : 0 < i
      · have c0b : decide (0 < i) = true := decide_eq_true c0
        have c0c : (i == 0) = false := by rw [beq_eq_false_iff_ne]; omega
        have HC0 := Aside0.mk c0
        obtain ⟨j, hj⟩ : ∃ j : Int, wrap64 (i - 1) = j := ⟨_, rfl⟩
        have hjw : IntKind.i64.wrap (i - 1) = j := (i64_w _).trans hj
        have EJ := Aside0.mk (show j = i - 1 by have := HL.out; rw [← hj]; unfold wrap64; omega)
        have p2 : 0 ≤ j := by have := EJ.out; omega
        have q2 : j < (t.length : Int) := by have := EJ.out; omega
        obtain ⟨ad2, ead2, hx2⟩ := Kd.at_int (Kd.C_below HS.out HB.out) j p2 q2
        cases ead2
        rw [impl_QuotientsOf.add0] at hx2
        obtain ⟨v, hv⟩ : ∃ v, v = rd t j := ⟨_, rfl⟩
        rw [← hv] at hx2
        have EV := Aside0.mk hv
        clear hv c0
        replace p1 := eq_true p1
        replace c1 := eq_true c1
        replace p2 := eq_true p2
        replace q2 := eq_true q2
        by_cases c3 : u = v
        · have c3b : (u == v) = true := by rw [beq_iff_eq]; exact c3
          have c3c : (u != v) = false := by rw [bne_eq_false_iff_eq]; exact c3
          have HC3 := Aside0.mk c3
          clear c3
          have hlp : 0 < o.length := LO.out.2 (by have := HC0.out; omega)
          have HLP := Aside0.mk hlp
          obtain ⟨L, hL⟩ : ∃ j : Int, wrap64 ((o.length : Int) - 1) = j := ⟨_, rfl⟩
          have hLw : IntKind.i64.wrap ((o.length : Int) - 1) = L := (i64_w _).trans hL
          have EL := Aside0.mk (show L = (o.length : Int) - 1 by have := LO.out; have := HL.out; have := HC1.out; rw [← hL]; unfold wrap64; omega)
          have p3 : 0 ≤ L := by have := EL.out; omega
          have q3 : L < (o.length : Int) := by have := EL.out; omega
          obtain ⟨go, co2, eo, hg0, _, _⟩ := Kd.R_form HO.out hlp
          injection eo with ea _ ec
          subst ea
          subst ec
          obtain ⟨hy, hyf⟩ := Kd.R_celln 0 HO.out L p3 q3
          obtain ⟨z, hz⟩ : ∃ z, z = rdOf 0 o L := ⟨_, rfl⟩
          rw [← hz] at hy
          obtain ⟨z1, hz1⟩ : ∃ x, x = wrap64 (z + 1) := ⟨_, rfl⟩
          have hzw : IntKind.i64.wrap (z + 1) = z1 := by rw [i64_w]; exact hz1.symm
          have EZ := Aside0.mk (show z1 = wrap64 (rd o ((o.length : Int) - 1) + 1) by rw [hz1, hz, EL.out]; rfl)
          obtain ⟨hP, hg⟩ := Kd.R_putg HO.out L z1
          have HP := Aside0.mk hP
          have HBn := Aside0.mk (below_set (j := L.toNat) (v := .int .i64 z1) HB.out hg0)
          clear hP hg hg0 hz hz1 hL hlp
          replace p3 := eq_true p3
          replace q3 := eq_true q3
          go_wp2
          go_roundg (t.length - (i.toNat + 1))
          case measure => have := HI.out; have := HC1.out; omega
          case rel =>
            refine ⟨i + 1, _, _, o.set L.toNat z1, (by rw [List.length_set]), (by first | rfl | rw [iw]), ⟨by have := HI.out; have := HC1.out; omega⟩, ⟨?_⟩, ⟨by rw [List.length_set]; exact HP.out⟩, HBn⟩
            rw [show (i + 1).toNat = i.toNat + 1 by have := HI.out; omega, impl_QuotientsOf.go, ← EO.out, ← e1.out, if_pos ⟨by have := HC0.out; omega, by rw [← EU.out, ← EJ.out, ← EV.out]; exact HC3.out⟩, EZ.out, show L.toNat = o.length - 1 by have := EL.out; omega]
        · have c3b : (u == v) = false := by rw [beq_eq_false_iff_ne]; exact c3
          have c3c : (u != v) = true := by rw [bne_iff_ne]; exact c3
          have HC3 := Aside0.mk c3
          clear c3
          go_wp2_with (first | ((with_reducible refine gate_builtin (b := .append) (xs := #[.tmp 41, .tmp 42]) rfl ?_); at_builtin; refine Kd.R_append (Kd.int .i64) (w0 := w1) w1.heap.size rfl (.tmp 41) (.tmp 42) 30 3 (.int .i64 0) 8 rfl Tryd.underlying30 info3 rfl (by decide) (by omega) (.slice Ao o.length co) o 1 [.int .i64 1] (fun _ => True) (fun _ => False) rfl rfl ?aP (fun _ hk => hk.elim) ?aF ?aO ?aB ?aS ?aL ?_; (case aP => exact rfl); (case aB => exact (by repeat (first | (with_reducible first | exact HB.out | apply below_alloc | apply pw_below_drewN | apply below_drew1) | exact HB.out))); (case aF => exact (fun _ _ => trivial)); (case aO => exact (by (with_reducible repeat (first | apply Kd.R_alloc | apply Kd.R_drewN | apply Kd.R_drew)); exact HO.out)); (case aS => exact (below_size (by repeat (first | (with_reducible first | exact HB.out | apply below_alloc | apply pw_below_drewN | apply below_drew1) | exact HB.out)))); (case aL => have := LO.out; have := HL.out; have := HC1.out; omega); intro v120 w15 ho hb hg hat; obtain ⟨A2, c2, e2⟩ := Kd.R_slice ho; subst e2; clear HB HO; have HB := Aside0.mk hb; have HO := Aside0.mk ho; clear ho hb hg hat))
          go_roundg (t.length - (i.toNat + 1))
          case measure => have := HI.out; have := HC1.out; omega
          case rel =>
            refine ⟨i + 1, _, _, o ++ [1], (by first | rfl | (simp; done)), (by first | rfl | rw [iw]), ⟨by have := HI.out; have := HC1.out; omega⟩, ⟨?_⟩, HO, HB⟩
            rw [show (i + 1).toNat = i.toNat + 1 by have := HI.out; omega, impl_QuotientsOf.go, ← EO.out, ← e1.out, if_neg (fun h => HC3.out (by rw [EU.out, EV.out, EJ.out]; exact h.2))]
      · have c0b : decide (0 < i) = false := decide_eq_false c0
        have i0 : i = 0 := by omega
        have c0c : (i == 0) = true := by rw [beq_iff_eq]; exact i0
        have I0 := Aside0.mk i0
        clear i0
        clear c0
        replace p1 := eq_true p1
        replace c1 := eq_true c1
        go_wp2_with (first | ((with_reducible refine gate_builtin (b := .append) (xs := #[.tmp 41, .tmp 42]) rfl ?_); at_builtin; refine Kd.R_append (Kd.int .i64) (w0 := w1) w1.heap.size rfl (.tmp 41) (.tmp 42) 30 3 (.int .i64 0) 8 rfl Tryd.underlying30 info3 rfl (by decide) (by omega) (.slice Ao o.length co) o 1 [.int .i64 1] (fun _ => True) (fun _ => False) rfl rfl ?aP (fun _ hk => hk.elim) ?aF ?aO ?aB ?aS ?aL ?_; (case aP => exact rfl); (case aB => exact (by repeat (first | (with_reducible first | exact HB.out | apply below_alloc | apply pw_below_drewN | apply below_drew1) | exact HB.out))); (case aF => exact (fun _ _ => trivial)); (case aO => exact (by (with_reducible repeat (first | apply Kd.R_alloc | apply Kd.R_drewN | apply Kd.R_drew)); exact HO.out)); (case aS => exact (below_size (by repeat (first | (with_reducible first | exact HB.out | apply below_alloc | apply pw_below_drewN | apply below_drew1) | exact HB.out)))); (case aL => have := LO.out; have := HL.out; have := HC1.out; omega); intro v120 w15 ho hb hg hat; obtain ⟨A2, c2, e2⟩ := Kd.R_slice ho; subst e2; clear HB HO; have HB := Aside0.mk hb; have HO := Aside0.mk ho; clear ho hb hg hat))
        go_roundg (t.length - (i.toNat + 1))
        case measure => have := HI.out; have := HC1.out; omega
        case rel =>
          refine ⟨i + 1, _, _, o ++ [1], (by first | rfl | (simp; done)), (by first | rfl | rw [iw]), ⟨by have := HI.out; have := HC1.out; omega⟩, ⟨?_⟩, HO, HB⟩
          rw [show (i + 1).toNat = i.toNat + 1 by have := HI.out; omega, impl_QuotientsOf.go, ← EO.out, if_neg (fun h => by have := I0.out; have := h.1; omega)]
    · have c1b : decide (i < (t.length : Int)) = false := decide_eq_false c1
      have hi : i.toNat = t.length := by have := HI.out; omega
      rw [hi] at EO
      have er : o = r := EO.out.trans HR.out
      subst er
      clear hi c1 EO HI
      go_wp2
      go_ret
      exact ⟨_, rfl, Kd.R_lower HO.out HW.out.size, below_step HW.out HB.out⟩

-- NOT PRINTED: function 195 (abi_NoEscape)

-- NOT PRINTED: function 157 (strings_Builder_copyCheck)

-- NOT PRINTED: function 158 (strings_Builder_grow)

-- NOT PRINTED: function 135 (strings_Builder_Grow)

-- NOT PRINTED: function 136 (strings_Builder_WriteString)

-- NOT PRINTED: function 137 (strings_Builder_String)

/-! ### strings_Join: function 95 -/
--import Derived.Shelf.Strings.OnBuilder
def Tryd.lays156_ren : Go.Shelf.Ren := ⟨fun | 156 => 95 | 165 => 135 | 166 => 136 | 169 => 137 | 240 => 157 | 241 => 158 | 276 => 195 | 277 => 196 | n => n, fun | 31 => 57 | 9 => 9 | 3 => 3 | 4 => 4 | 0 => 0 | 20 => 20 | 72 => 135 | 76 => 139 | 70 => 133 | 37 => 69 | 75 => 138 | 127 => 170 | 164 => 208 | 5 => 5 | 80 => 141 | n => n, fun | n => n⟩
theorem Tryd.lays156 : Go.Proofs.Lays.n156 Tryd.prog Tryd.lays156_ren := {
  mixed := by kernel_rfl
  f156 := Tryd.func95.trans (congrArg some (by kernel_rfl))
  f165 := Tryd.func135.trans (congrArg some (by kernel_rfl))
  f166 := Tryd.func136.trans (congrArg some (by kernel_rfl))
  f169 := Tryd.func137.trans (congrArg some (by kernel_rfl))
  f240 := Tryd.func157.trans (congrArg some (by kernel_rfl))
  f241 := Tryd.func158.trans (congrArg some (by kernel_rfl))
  f276 := Tryd.func195.trans (congrArg some (by kernel_rfl))
  f277 := Tryd.func196.trans (congrArg some (by kernel_rfl))
  t0 := Tryd.underlying0
  a0 := Tryd.isAgg0
  z0 := Tryd.sizeOf0
  v0 := Tryd.zeroValue0
  t3 := Tryd.underlying3
  a3 := Tryd.isAgg3
  z3 := Tryd.sizeOf3
  v3 := Tryd.zeroValue3
  t4 := Tryd.underlying4
  a4 := Tryd.isAgg4
  z4 := Tryd.sizeOf4
  v4 := Tryd.zeroValue4
  t9 := Tryd.underlying9
  a9 := Tryd.isAgg9
  z9 := Tryd.sizeOf9
  v9 := Tryd.zeroValue9
  t20 := Tryd.underlying20
  a20 := Tryd.isAgg20
  z20 := Tryd.sizeOf20
  v20 := Tryd.zeroValue20
  t31 := Tryd.underlying57
  a31 := Tryd.isAgg57
  z31 := Tryd.sizeOf57
  v31 := Tryd.zeroValue57
  t37 := Tryd.underlying69
  a37 := Tryd.isAgg69
  z37 := Tryd.sizeOf69
  v37 := Tryd.zeroValue69
  t70 := Tryd.underlying133
  a70 := Tryd.isAgg133
  z70 := Tryd.sizeOf133
  v70 := Tryd.zeroValue133
  t72 := Tryd.underlying135
  a72 := Tryd.isAgg135
  z72 := Tryd.sizeOf135
  v72 := Tryd.zeroValue135
  t75 := Tryd.underlying138
  a75 := Tryd.isAgg138
  z75 := Tryd.sizeOf138
  v75 := Tryd.zeroValue138
  t76 := Tryd.underlying139
  a76 := Tryd.isAgg139
  z76 := Tryd.sizeOf139
  v76 := Tryd.zeroValue139
  t127 := Tryd.underlying170
  a127 := Tryd.isAgg170
  z127 := Tryd.sizeOf170
  v127 := Tryd.zeroValue170
  t164 := Tryd.underlying208
  a164 := Tryd.isAgg208
  z164 := Tryd.sizeOf208
  v164 := Tryd.zeroValue208 }
theorem Tryd.Builder_Extra_156 : Builder.Extra Tryd.prog Tryd.lays156_ren := {
  sizeBuilder := by kernel_rfl
  liesBuilder := by kernel_rfl
  t5 := Tryd.underlying5
  a5 := Tryd.isAgg5
  z5 := Tryd.sizeOf5
  v5 := Tryd.zeroValue5
  infoByte := by kernel_rfl
  cellsByte := by kernel_rfl
  sizeByte := by kernel_rfl
  neB5 := by decide }
def strings_Join.f (l0 : List ByteArray) (a1 : ByteArray) : Option (ByteArray) := if (Lib.join (l0.map (·.data.toList)) a1.data.toList).length ≤ 140737488355328 ∧ l0.length ≤ 140737488355328 then some ⟨(Lib.join (l0.map (·.data.toList)) a1.data.toList).toArray⟩ else none
theorem strings_Join.cell {w : World} {ad : Addr} {v : Value} (h : w.cell? ad = some v) : ad.spot = none := by
  unfold World.cell? at h
  split at h
  · split at h
    · cases h
    · rename_i hs
      cases e : ad.spot with
      | none => rfl
      | some x => rw [e] at hs; exact absurd rfl hs
  · cases h
theorem strings_Join.add (b o j : Nat) : (⟨b, o, none⟩ : Addr).add j = ⟨b, o + j, none⟩ := by
  unfold Addr.add
  split
  · rename_i e; rw [e]; rfl
  · rfl
theorem strings_Join.calls (A0 : Option Addr) (c0 : Nat) (l0 : List ByteArray) (a1 : ByteArray) (r : ByteArray) (w : World) (hr0 : Kd.C Kd.string w A0 l0.length l0) (hc0 : l0.length ≤ c0) (h : strings_Join.f l0 a1 = some r) :
    Calls Tryd.prog 95 #[.slice A0 l0.length c0, .string a1] w fun e w' => e = .returned (.string r) ∧ Below w.heap.size w w' := by
  unfold strings_Join.f at h
  split at h
  · rename_i c
    obtain rfl := Option.some.inj h
    by_cases h0 : l0 = []
    · subst h0
      exact (Any.strings_Join_none Tryd.lays156 Tryd.Builder_Extra_156 A0 c0 a1 w).mono fun e w' ⟨he, hw⟩ => ⟨he, hw ▸ Below.refl _ _⟩
    · have hp : 0 < l0.length := List.length_pos_iff.2 h0
      obtain ⟨ad, e, hcells⟩ := hr0.2.2 hp
      subst e
      have hall : ∀ (j : Nat) x, l0[j]? = some x → w.cell? (ad.add j) = some (.string x) := by
        intro j x hx
        obtain ⟨cs, _, hk, hc⟩ := hcells j x hx
        have hk' : cs = [Value.string x] := hk
        subst hk'
        have := hc 0 _ rfl
        have e1 : j * Kd.string.sz + 0 = j := Nat.mul_one j
        rwa [e1] at this
      have h00 := hall 0 _ (List.getElem?_eq_getElem hp)
      have hs : ad.spot = none := strings_Join.cell (ad := ad) h00
      obtain ⟨bk, o, sp⟩ := ad
      obtain rfl : sp = none := hs
      have hbk : bk < w.heap.size := World.block_lt_of_cell? w (⟨bk, o, none⟩ : Addr) h00
      exact Any.strings_Join Tryd.lays156 Tryd.Builder_Extra_156 bk o c0 l0 a1 w (fun j x hx => by rw [← strings_Join.add]; exact hall j x hx) hbk c.2 hc0 c.1
  · cases h

/-! ### impl_Join: function 59 -/
def impl_Join.f (l0 : List ByteArray) (a1 : ByteArray) : Option (ByteArray) := (strings_Join.f l0 a1).bind fun t157 => (some t157)
set_option maxHeartbeats 8000000 in
set_option maxRecDepth 100000 in
theorem impl_Join.calls (A0 : Option Addr) (c0 : Nat) (l0 : List ByteArray) (a1 : ByteArray) (r : ByteArray) (w : World) (hr0 : Kd.C Kd.string w A0 l0.length l0) (hc0 : l0.length ≤ c0) (h : impl_Join.f l0 a1 = some r) :
    Calls Tryd.prog 59 #[.slice A0 l0.length c0, .string a1] w fun e w' => e = .returned (.string r) ∧ Below w.heap.size w w' := by
  have HR0 := Aside0.mk hr0
  have HC0 := Aside0.mk hc0
  clear hr0 hc0
  have HB := Aside0.mk (Below.refl w.heap.size w)
  have H : ((strings_Join.f l0 a1).bind fun t157 => (some t157)) = some r := h
  clear h
  replace H := Option.bind_eq_some_iff.mp H
  obtain ⟨t157, A30, H⟩ := H
  replace H : (some t157) = some r := H
  have A3 := Aside0.mk A30
  clear A30
  obtain rfl := Option.some.inj H
  go_enter Tryd.func59, Tryd.ntmps59
  go_wp2_with (first | ((with_reducible refine gate_callee (f := 95) rfl ?_); refine goesL_ (some 7) rfl rfl Tryd.func95 (by kernel_rfl) rfl #[.slice A0 l0.length c0, .string a1] rfl (by (try simp only [List.map_toArray, List.map_cons, List.map_nil]); first | done | rfl | (simp only [List.length_drop, List.length_take]; rfl)) ?_; (with_reducible refine (strings_Join.calls _ _ l0 a1 t157 _ ?side1 ?side2 A3.out).mono ?_); (case side1 => repeat (first | exact HR0.out | (with_reducible refine Kd.C_alloc ?_ _) | (with_reducible refine Kd.C_drewN ?_ _) | (with_reducible refine Kd.C_drew ?_))); (case side2 => exact HC0.out); rintro e w4 ⟨rfl, hb⟩; refine ⟨_, rfl, ?_⟩; have n0_ := Aside0.mk (below_step (by repeat (first | (with_reducible first | exact HB.out | apply below_alloc | apply pw_below_drewN | apply below_drew1) | exact HB.out)) hb); clear HB; have HB := n0_; clear n0_; (try clear hb); (try clear hb2); (try clear hk); (try clear hi)))
  go_ret
  exact ⟨by first | rfl | (simp [errW_none, errW_some] <;> rfl) | (simp [*, errW_none, errW_some] <;> rfl), by repeat (first | (with_reducible first | exact HB.out | apply below_alloc | apply pw_below_drewN | apply below_drew1) | exact HB.out)⟩

/-! ### impl_orDash: function 73 -/
def impl_orDash.f (l0 : List ByteArray) (a1 : ByteArray) : Option (ByteArray) := if (l0.length : Int) = 0 then (some (⟨#[45]⟩ : ByteArray)) else ((impl_Join.f l0 a1).bind fun t158 => (some t158))
set_option maxHeartbeats 8000000 in
set_option maxRecDepth 100000 in
theorem impl_orDash.calls (A0 : Option Addr) (c0 : Nat) (l0 : List ByteArray) (a1 : ByteArray) (r : ByteArray) (w : World) (hr0 : Kd.C Kd.string w A0 l0.length l0) (hc0 : l0.length ≤ c0) (h : impl_orDash.f l0 a1 = some r) :
    Calls Tryd.prog 73 #[.slice A0 l0.length c0, .string a1] w fun e w' => e = .returned (.string r) ∧ Below w.heap.size w w' := by
  have HR0 := Aside0.mk hr0
  have HC0 := Aside0.mk hc0
  clear hr0 hc0
  have HB := Aside0.mk (Below.refl w.heap.size w)
  have H : (if (l0.length : Int) = 0 then (some (⟨#[45]⟩ : ByteArray)) else ((impl_Join.f l0 a1).bind fun t158 => (some t158))) = some r := h
  clear h
  by_cases c3 : (l0.length : Int) = 0
  · rw [if_pos c3] at H
    have c3b0 : ((l0.length : Int) == 0) = true := beq_iff_eq.mpr c3
    have c3b1 : ((l0.length : Int) != 0) = false := bne_eq_false_iff_eq.mpr c3
    clear c3
    obtain rfl := Option.some.inj H
    go_enter Tryd.func73, Tryd.ntmps73
    go_wp2
    go_ret
    exact ⟨by first | rfl | (simp [errW_none, errW_some] <;> rfl) | (simp [*, errW_none, errW_some] <;> rfl), by repeat (first | (with_reducible first | exact HB.out | apply below_alloc | apply pw_below_drewN | apply below_drew1) | exact HB.out)⟩
  · rw [if_neg c3] at H
    have c3b0 : ((l0.length : Int) == 0) = false := beq_eq_false_iff_ne.mpr c3
    have c3b1 : ((l0.length : Int) != 0) = true := bne_iff_ne.mpr c3
    have c3b2 : ¬ (l0 = []) := fun h_ => c3 (by rw [h_]; rfl)
    replace H := Option.bind_eq_some_iff.mp H
    obtain ⟨t158, A40, H⟩ := H
    replace H : (some t158) = some r := H
    have A4 := Aside0.mk A40
    clear A40
    obtain rfl := Option.some.inj H
    go_enter Tryd.func73, Tryd.ntmps73
    go_wp2_with (first | ((with_reducible refine gate_callee (f := 59) rfl ?_); refine goesL_ (some 10) rfl rfl Tryd.func59 (by kernel_rfl) rfl #[.slice A0 l0.length c0, .string a1] rfl (by (try simp only [List.map_toArray, List.map_cons, List.map_nil]); first | done | rfl | (simp only [List.length_drop, List.length_take]; rfl)) ?_; (with_reducible refine (impl_Join.calls _ _ l0 a1 t158 _ ?side1 ?side2 A4.out).mono ?_); (case side1 => repeat (first | exact HR0.out | (with_reducible refine Kd.C_alloc ?_ _) | (with_reducible refine Kd.C_drewN ?_ _) | (with_reducible refine Kd.C_drew ?_))); (case side2 => exact HC0.out); rintro e w5 ⟨rfl, hb⟩; refine ⟨_, rfl, ?_⟩; have n0_ := Aside0.mk (below_step (by repeat (first | (with_reducible first | exact HB.out | apply below_alloc | apply pw_below_drewN | apply below_drew1) | exact HB.out)) hb); clear HB; have HB := n0_; clear n0_; (try clear hb); (try clear hb2); (try clear hk); (try clear hi)))
    go_ret
    exact ⟨by first | rfl | (simp [errW_none, errW_some] <;> rfl) | (simp [*, errW_none, errW_some] <;> rfl), by repeat (first | (with_reducible first | exact HB.out | apply below_alloc | apply pw_below_drewN | apply below_drew1) | exact HB.out)⟩

end Go.Proofs.YtndlmckfacegeaaDoor.QFnExactSquareLine
