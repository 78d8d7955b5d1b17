-- Printed for this claim by a changed copy of the kit's print (the session's own; own contracts in place of some functions).
import Derived.Test.YtdiphnkkomfmdaaQFnExactSheetsAfterx0
import Derived.Test.YtdiphnkkomfmdaaQFnExactSheetsAfterx1
import Derived.Test.YtdiphnkkomfmdaaQFnExactSheetsAfterx2
import Derived.Test.YtdiphnkkomfmdaaQFnExactSheetsAfterx4
import Derived.Test.YtdiphnkkomfmdaaQFnExactSheetsAfterx5
namespace Go.Proofs.Ytdiphnkkomfmdaa.QFnExactSheetsAfter
open Go.RowKit Go.Proofs.YtdiphnkkomfmdaaW.PrintWords Go.Proofs.YtdiphnkkomfmdaaW.PrintLast Go.Proofs.YtdiphnkkomfmdaaW.PrintMore
attribute [local go_sem] max2_int min2_int max_two min_two max_three min_three max_four min_four   -- for this text's walks alone
set_option linter.unusedVariables false
set_option linter.unusedSimpArgs false

/-! ### laws_heldIntSS: function 55 -/
def laws_heldIntSS.l0 : Nat → List (List Int) → Int → Int → Option (Int)
  | 0, _, _, _ => none
  | k + 1, x0, x1, x5 => if x5 < (x0.length : Int) then (if 0 ≤ x5 then ((laws_heldIntS.f k (rd_L1 x0 x5) x1).bind fun t187 => (if t187 < 0 then (some (-1)) else (laws_heldIntSS.l0 k x0 t187 (wrap64 (x5 + 1))))) else (none)) else (some x1)
def laws_heldIntSS.f (k : Nat) (l0 : List (List Int)) (a1 : Int) : Option (Int) := laws_heldIntSS.l0 k l0 a1 0
theorem laws_heldIntSS.mono_l : ∀ k, (∀ y0 y1 y2, LeO (laws_heldIntSS.l0 k y0 y1 y2) (laws_heldIntSS.l0 (k + 1) y0 y1 y2))
  | 0 => fun _ _ _ r h => by simp [laws_heldIntSS.l0] at h
  | k + 1 => by
    have ih0 := laws_heldIntSS.mono_l k
    · intro y0 y1 y2
      unfold laws_heldIntSS.l0
      repeat' first
      | (with_reducible exact ih0 _ _ _)
      | (with_reducible exact laws_heldIntS.mono _ _ _)
      | (with_reducible exact LeO.refl _)
      | (with_reducible exact LeO.none _)
      | (with_reducible refine LeO.ite ?_ ?_)
      | (with_reducible refine LeO.bind ?_ (fun _ => ?_))
      | exact ih0 _ _ _
      | exact laws_heldIntS.mono _ _ _
      | exact LeO.none _
      | refine LeO.ite ?_ ?_
      | refine LeO.bind ?_ (fun _ => ?_)
theorem laws_heldIntSS.mono : ∀ a0 a1 k, LeO (laws_heldIntSS.f k a0 a1) (laws_heldIntSS.f (k + 1) a0 a1) := by
  intro a0 a1 k
  have ih0 := laws_heldIntSS.mono_l k
  unfold laws_heldIntSS.f
  repeat' first
      | (with_reducible exact ih0 _ _ _)
      | (with_reducible exact laws_heldIntS.mono _ _ _)
      | (with_reducible exact LeO.refl _)
      | (with_reducible exact LeO.none _)
      | (with_reducible refine LeO.ite ?_ ?_)
      | (with_reducible refine LeO.bind ?_ (fun _ => ?_))
      | exact ih0 _ _ _
      | exact laws_heldIntS.mono _ _ _
      | exact LeO.none _
      | refine LeO.ite ?_ ?_
      | refine LeO.bind ?_ (fun _ => ?_)
set_option maxHeartbeats 8000000 in
set_option maxRecDepth 100000 in
theorem laws_heldIntSS.calls (k : Nat) (A0 : Option Addr) (c0 : Nat) (l0 : List (List Int)) (a1 : Int) (r : Int) (w : World) (hr0 : Kd.C (Kd.slice 3 (Kd.int .i64)) w A0 l0.length l0) (hc0 : l0.length ≤ c0) (h : laws_heldIntSS.f k l0 a1 = some r) :
    Calls Try.prog 55 #[.slice A0 l0.length c0, .int .i64 a1] w fun e w' => e = .returned (.int .i64 r) ∧ Drawn0 w w' := by
  have HR0 := Aside0.mk hr0
  have HC0 := Aside0.mk hc0
  clear hr0 hc0
  have H : (laws_heldIntSS.l0 k l0 a1 0) = some r := h
  clear h
  have H' := Aside0.mk H
  clear H
  go_enter Try.func55, Try.ntmps55
  go_wp2
  go_loopg [1, 5] k (fun kq v1 v5 w' => ∃ (x1_1 : Int) (x5_1 : Int), v1 = .int .i64 x1_1 ∧ v5 = .int .i64 x5_1 ∧ Aside0 (laws_heldIntSS.l0 kq l0 x1_1 x5_1 = some r) ∧ Aside0 (kq ≤ k) ∧ Drawn0 w w')
  case atStart => exact ⟨(a1), (0), (by first | rfl | (simp; done) | (simp [*]; done)), (by first | rfl | (simp; done) | (simp [*]; done)), H', ⟨Nat.le_refl _⟩, by repeat (first | exact Drawn0.refl _ | apply Drawn0.step)⟩
  case round =>
    clear H'
    try clear p2
    obtain ⟨x1_1, x5_1, rfl, rfl, HA, HK1, ⟨m1, rfl⟩⟩ := hrel
    cases gk with
    | zero => exact absurd HA.out (by simp [laws_heldIntSS.l0])
    | succ k1 =>
      have H := HA.out
      clear HA
      simp only [laws_heldIntSS.l0] at H
      by_cases c3 : x5_1 < (l0.length : Int)
      · rw [if_pos c3] at H
        have c3b0 : decide (x5_1 < (l0.length : Int)) = true := decide_eq_true c3
        clear c3
        by_cases c4 : 0 ≤ x5_1
        · rw [if_pos c4] at H
          have c4b0 : decide (0 ≤ x5_1) = true := decide_eq_true c4
          clear c4
          replace H := Option.bind_eq_some_iff.mp H
          obtain ⟨t187, A50, H⟩ := H
          replace H : (if t187 < 0 then (some (-1)) else (laws_heldIntSS.l0 k1 l0 t187 (wrap64 (x5_1 + 1)))) = some r := H
          have A5 := Aside0.mk A50
          clear A50
          by_cases c6 : t187 < 0
          · rw [if_pos c6] at H
            have c6b0 : decide (t187 < 0) = true := decide_eq_true c6
            clear c6
            obtain rfl := Option.some.inj H
            have p186 : 0 ≤ (x5_1 : Int) := of_decide_eq_true (by first | (with_reducible assumption) | assumption)
            have q186 : x5_1 < (l0.length : Int) := of_decide_eq_true (by first | (with_reducible assumption) | assumption)
            obtain ⟨ad186, A186_0, c186_0, e186, hx186_0, hl186_0, hi186_0⟩ := at_L1 HR0.out x5_1 p186 q186
            cases e186
            have HR186_0 := Aside0.mk hi186_0
            have HC186_0 := Aside0.mk hl186_0
            clear hi186_0 hl186_0
            replace p186 := eq_true p186
            replace q186 := eq_true q186
            go_wp2_with (first | ((with_reducible refine gate_callee (f := 24) rfl ?_); refine goesL_ (some 17) rfl rfl Try.func24 (by kernel_rfl) rfl #[.slice A186_0 (rd_L1 l0 x5_1).length c186_0, .int .i64 x1_1] rfl (by (try simp only [List.map_toArray, List.map_cons, List.map_nil]); first | done | rfl | (simp only [List.length_drop, List.length_take]; rfl)) ?_; (with_reducible refine (laws_heldIntS.calls k1 _ _ (rd_L1 l0 x5_1) x1_1 t187 _ ?side1 ?side2 A5.out).mono ?_); (case side1 => repeat (first | exact HR186_0.out | (with_reducible refine Kd.C_alloc ?_ _) | (with_reducible refine Kd.C_drewN ?_ _) | (with_reducible refine Kd.C_drew ?_))); (case side2 => exact HC186_0.out); rintro e w' ⟨rfl, ⟨nd, rfl⟩⟩; refine ⟨_, rfl, ?_⟩))
            go_ret
            exact ⟨by first | rfl | (simp; done) | (simp [*]; done), by repeat (first | exact Drawn0.refl _ | apply Drawn0.step)⟩
          · rw [if_neg c6] at H
            have c6b0 : decide (t187 < 0) = false := decide_eq_false c6
            clear c6
            have H' := Aside0.mk H
            clear H
            have p186 : 0 ≤ (x5_1 : Int) := of_decide_eq_true (by first | (with_reducible assumption) | assumption)
            have q186 : x5_1 < (l0.length : Int) := of_decide_eq_true (by first | (with_reducible assumption) | assumption)
            obtain ⟨ad186, A186_0, c186_0, e186, hx186_0, hl186_0, hi186_0⟩ := at_L1 HR0.out x5_1 p186 q186
            cases e186
            have HR186_0 := Aside0.mk hi186_0
            have HC186_0 := Aside0.mk hl186_0
            clear hi186_0 hl186_0
            replace p186 := eq_true p186
            replace q186 := eq_true q186
            go_wp2_with (first | ((with_reducible refine gate_callee (f := 24) rfl ?_); refine goesL_ (some 17) rfl rfl Try.func24 (by kernel_rfl) rfl #[.slice A186_0 (rd_L1 l0 x5_1).length c186_0, .int .i64 x1_1] rfl (by (try simp only [List.map_toArray, List.map_cons, List.map_nil]); first | done | rfl | (simp only [List.length_drop, List.length_take]; rfl)) ?_; (with_reducible refine (laws_heldIntS.calls k1 _ _ (rd_L1 l0 x5_1) x1_1 t187 _ ?side1 ?side2 A5.out).mono ?_); (case side1 => repeat (first | exact HR186_0.out | (with_reducible refine Kd.C_alloc ?_ _) | (with_reducible refine Kd.C_drewN ?_ _) | (with_reducible refine Kd.C_drew ?_))); (case side2 => exact HC186_0.out); rintro e w' ⟨rfl, ⟨nd, rfl⟩⟩; refine ⟨_, rfl, ?_⟩))
            go_roundg k1
            case measure => have := HK1.out; omega
            case rel => exact ⟨(t187), (wrap64 (x5_1 + 1)), (by first | rfl | (simp; done) | (simp [*]; done)), (by first | rfl | (simp; done) | (simp [*]; done)), H', ⟨by have := HK1.out; omega⟩, by repeat (first | exact Drawn0.refl _ | apply Drawn0.step)⟩
        · rw [if_neg c4] at H
          exact absurd H (by simp)
      · rw [if_neg c3] at H
        have c3b0 : decide (x5_1 < (l0.length : Int)) = false := decide_eq_false c3
        clear c3
        obtain rfl := Option.some.inj H
        go_wp2
        go_ret
        exact ⟨by first | rfl | (simp; done) | (simp [*]; done), by repeat (first | exact Drawn0.refl _ | apply Drawn0.step)⟩

/-! ### laws_FnExactSheetsAfter: function 9 -/
--import Derived.WalkSpells
def lw_In (lo hi k : Nat) : Prop := lo ≤ k ∧ k < hi
theorem lw_offS {α : Type} {d : Kd α} {e base lo hi lo2 hi2 : Nat} {w w1 : World} {v : Value} {xs : List α} (h : Kd.S d e w base (lw_In lo hi) v xs) (hk : Kept w w1 (lw_In lo2 hi2)) (hd : hi ≤ lo2 ∨ hi2 ≤ lo) : Kd.S d e w1 base (lw_In lo hi) v xs :=
  Kd.S_step h (fun k ho hlt => hk.2 k hlt (fun h2 => by unfold lw_In at *; omega))
theorem lw_offR {α : Type} {d : Kd α} {e base lo hi lo2 hi2 : Nat} {w w1 : World} {v : Value} {xs : List α} (h : Kd.R d e w base (lw_In lo hi) v xs) (hk : Kept w w1 (lw_In lo2 hi2)) (hd : hi ≤ lo2 ∨ hi2 ≤ lo) : Kd.R d e w1 base (lw_In lo hi) v xs :=
  Kd.R_step h (fun k ho hlt => hk.2 k hlt (fun h2 => by unfold lw_In at *; omega))
structure laws_FnExactSheetsAfter.Ok (k : Nat) (l0 : List (List Int)) (left : Int) (X0 : List (List Int)) (R0 : List (List Int)) (R1 : Bool) (mx0 : Int) (MX0 : List (List Int)) (m0 : Int) (M0 : List (List Int)) : Prop where
  sz : laws_szIntSS.f k l0 1048576 = some left
  left0 : 0 ≤ left
  to0 : laws_toIntSS.f k l0 = some X0
  sp : spec_SheetsAfter.f k X0 = some (R0, R1)
  im : impl_SheetsAfter.f k X0 = some (R0, R1)
  eqR0 : laws_eqIntSS.f k R0 R0 = some true
  eqX0 : laws_eqIntSS.f k X0 X0 = some true
  mkX0 : laws_markIntSS.f k X0 1 = some (mx0, MX0)
  mx : 0 ≤ mx0
  mkR0 : laws_markIntSS.f k R0 1 = some (m0, M0)
  hd0 : laws_heldIntSS.f k M0 1 = some m0
  pos0 : 0 ≤ m0
def laws_FnExactSheetsAfter.Good (k : Nat) (l0 : List (List Int)) : Prop := (∃ left, laws_szIntSS.f k l0 1048576 = some left ∧ left < 0) ∨ ∃ (left : Int) (X0 : List (List Int)) (R0 : List (List Int)) (R1 : Bool) (mx0 : Int) (MX0 : List (List Int)) (m0 : Int) (M0 : List (List Int)), laws_FnExactSheetsAfter.Ok k l0 left X0 R0 R1 mx0 MX0 m0 M0
set_option maxHeartbeats 8000000 in
set_option maxRecDepth 100000 in
theorem laws_FnExactSheetsAfter.calls (k : Nat) (A0 : Option Addr) (c0 : Nat) (l0 : List (List Int)) (w : World) (hr0 : Kd.C (Kd.slice 3 (Kd.int .i64)) w A0 l0.length l0) (hc0 : l0.length ≤ c0) (h : laws_FnExactSheetsAfter.Good k l0) :
    Calls Try.prog 9 #[.slice A0 l0.length c0] w fun e w' => e = .returned (.bool true) ∧ Below w.heap.size w w' := by
  have HA0 := Aside0.mk hr0
  have HC0 := Aside0.mk hc0
  clear hr0 hc0
  rcases h with ⟨left, hs, hl⟩ | ⟨left, X0, R0, R1, mx0, MX0, m0, M0, hok⟩
  · have HS := Aside0.mk hs
    have tl : decide (left < 0) = true := decide_eq_true hl
    clear hs hl
    go_enter Try.func9, Try.ntmps9
    go_wp2_with fail
    go_at_call 16
    (with_reducible refine (laws_szIntSS.calls k _ _ l0 1048576 left _ HA0.out HC0.out HS.out).mono ?_)
    rintro e w11 ⟨rfl, hb⟩
    replace hb := hb.below
    have HB := Aside0.mk hb
    clear hb
    go_wp2
    go_ret
    exact ⟨rfl, by repeat (first | exact HB.out | apply pw_below_drewN | apply below_drew1)⟩
  · have tmx : decide (mx0 < 0) = false := decide_eq_false (by have := hok.mx; omega)
    have tm0 : decide (m0 < 0) = false := decide_eq_false (by have := hok.pos0; omega)
    have tl : decide (left < 0) = false := decide_eq_false (by have := hok.left0; omega)
    have HOK := Aside0.mk hok
    clear hok
    have HB := Aside0.mk (Below.refl w.heap.size w)
    go_enter Try.func9, Try.ntmps9
    go_wp2_with fail
    go_at_call 16
    (with_reducible refine (laws_szIntSS.calls k _ _ l0 1048576 left _ (Kd.C_below HA0.out HB.out) HC0.out HOK.out.sz).mono ?_)
    rintro e w11 ⟨rfl, hb⟩
    replace hb := hb.below
    have nHB := Aside0.mk (below_step HB.out hb)
    have Z11 := Aside0.mk (show w.heap.size ≤ w11.heap.size from hb.size)
    clear  HB hb
    have HB := nHB
    clear nHB 
    go_wp2_with fail
    go_at_call 18
    (with_reducible refine (laws_toIntSS.calls k _ _ l0 X0 _ (Kd.C_below HA0.out HB.out) HC0.out HOK.out.to0).mono ?_)
    rintro e w12 ⟨vT0_, rfl, hT0_, hb⟩
    have HT0 := Aside0.mk (show Kd.S (Kd.slice 3 (Kd.int .i64)) 30 w12 w.heap.size (lw_In w11.heap.size w12.heap.size) vT0_ X0 from Kd.S_mono (Kd.S_lower (Kd.S_bound hT0_) HB.out.size) (fun k hk => ⟨hk.2.1, hk.2.2.1⟩))
    clear hT0_
    have nHB := Aside0.mk (below_step HB.out hb)
    have Z12 := Aside0.mk (show w11.heap.size ≤ w12.heap.size from hb.size)
    clear  HB hb
    have HB := nHB
    clear nHB 
    obtain ⟨AT0, cT0, eT0⟩ := Kd.S_slice HT0.out
    subst eT0
    go_wp2_with fail
    go_at_call 53
    (with_reducible refine (spec_SheetsAfter.calls k _ _ X0 R0 R1 _ (Kd.S_reads' HT0.out).2.2 (by rw [← (Kd.S_reads' HT0.out).1]; exact (Kd.S_reads' HT0.out).2.1) HOK.out.sp).mono ?_)
    rintro e w13 ⟨vS0_, rfl, hS0_, hb⟩
    have HS0 := Aside0.mk (show Kd.S (Kd.slice 3 (Kd.int .i64)) 30 w13 w.heap.size (lw_In w12.heap.size w13.heap.size) vS0_ R0 from Kd.S_mono (Kd.S_lower (Kd.S_bound hS0_) HB.out.size) (fun k hk => ⟨hk.2.1, hk.2.2.1⟩))
    clear hS0_
    have nHT0 := Aside0.mk (Kd.S_below HT0.out hb)
    have nHB := Aside0.mk (below_step HB.out hb)
    have Z13 := Aside0.mk (show w12.heap.size ≤ w13.heap.size from hb.size)
    clear HT0 HB hb
    have HT0 := nHT0
    have HB := nHB
    clear nHB nHT0
    obtain ⟨AS0, cS0, eS0⟩ := Kd.S_slice HS0.out
    subst eS0
    clear HT0
    go_wp2_with fail
    go_at_call 18
    (with_reducible refine (laws_toIntSS.calls k _ _ l0 X0 _ (Kd.C_below HA0.out HB.out) HC0.out HOK.out.to0).mono ?_)
    rintro e w14 ⟨vX0_, rfl, hX0_, hb⟩
    have HX0 := Aside0.mk (show Kd.S (Kd.slice 3 (Kd.int .i64)) 30 w14 w.heap.size (lw_In w13.heap.size w14.heap.size) vX0_ X0 from Kd.S_mono (Kd.S_lower (Kd.S_bound hX0_) HB.out.size) (fun k hk => ⟨hk.2.1, hk.2.2.1⟩))
    clear hX0_
    have nHS0 := Aside0.mk (Kd.S_below HS0.out hb)
    have nHB := Aside0.mk (below_step HB.out hb)
    have Z14 := Aside0.mk (show w13.heap.size ≤ w14.heap.size from hb.size)
    clear HS0 HB hb
    have HS0 := nHS0
    have HB := nHB
    clear nHB nHS0
    obtain ⟨AX0, cX0, eX0⟩ := Kd.S_slice HX0.out
    subst eX0
    go_wp2_with fail
    go_at_call 54
    (with_reducible refine (impl_SheetsAfter.calls k _ _ X0 R0 R1 _ (Kd.S_reads' HX0.out).2.2 (by rw [← (Kd.S_reads' HX0.out).1]; exact (Kd.S_reads' HX0.out).2.1) HOK.out.im).mono ?_)
    rintro e w15 ⟨vG0_, rfl, hG0_, hb⟩
    have HG0 := Aside0.mk (show Kd.S (Kd.slice 3 (Kd.int .i64)) 30 w15 w.heap.size (lw_In w14.heap.size w15.heap.size) vG0_ R0 from Kd.S_mono (Kd.S_lower (Kd.S_bound hG0_) HB.out.size) (fun k hk => ⟨hk.2.1, hk.2.2.1⟩))
    clear hG0_
    have nHS0 := Aside0.mk (Kd.S_below HS0.out hb)
    have nHX0 := Aside0.mk (Kd.S_below HX0.out hb)
    have nHB := Aside0.mk (below_step HB.out hb)
    have Z15 := Aside0.mk (show w14.heap.size ≤ w15.heap.size from hb.size)
    clear HS0 HX0 HB hb
    have HS0 := nHS0
    have HX0 := nHX0
    have HB := nHB
    clear nHB nHS0 nHX0
    obtain ⟨AG0, cG0, eG0⟩ := Kd.S_slice HG0.out
    subst eG0
    go_wp2_with fail
    go_at_call 21
    (with_reducible refine (laws_eqIntSS.calls k _ _ _ _ _ _ true _ (Kd.S_reads' HG0.out).2.2 (by rw [← (Kd.S_reads' HG0.out).1]; exact (Kd.S_reads' HG0.out).2.1) (Kd.S_reads' HS0.out).2.2 (by rw [← (Kd.S_reads' HS0.out).1]; exact (Kd.S_reads' HS0.out).2.1) HOK.out.eqR0).mono ?_)
    rintro e w16 ⟨rfl, hb⟩
    replace hb := hb.below
    have nHS0 := Aside0.mk (Kd.S_below HS0.out hb)
    have nHX0 := Aside0.mk (Kd.S_below HX0.out hb)
    have nHG0 := Aside0.mk (Kd.S_below HG0.out hb)
    have nHB := Aside0.mk (below_step HB.out hb)
    have Z16 := Aside0.mk (show w15.heap.size ≤ w16.heap.size from hb.size)
    clear HS0 HX0 HG0 HB hb
    have HS0 := nHS0
    have HX0 := nHX0
    have HG0 := nHG0
    have HB := nHB
    clear nHB nHS0 nHX0 nHG0
    go_wp2_with fail
    go_at_call 18
    (with_reducible refine (laws_toIntSS.calls k _ _ l0 X0 _ (Kd.C_below HA0.out HB.out) HC0.out HOK.out.to0).mono ?_)
    rintro e w17 ⟨vT0_, rfl, hT0_, hb⟩
    have HT0 := Aside0.mk (show Kd.S (Kd.slice 3 (Kd.int .i64)) 30 w17 w.heap.size (lw_In w16.heap.size w17.heap.size) vT0_ X0 from Kd.S_mono (Kd.S_lower (Kd.S_bound hT0_) HB.out.size) (fun k hk => ⟨hk.2.1, hk.2.2.1⟩))
    clear hT0_
    have nHS0 := Aside0.mk (Kd.S_below HS0.out hb)
    have nHX0 := Aside0.mk (Kd.S_below HX0.out hb)
    have nHG0 := Aside0.mk (Kd.S_below HG0.out hb)
    have nHB := Aside0.mk (below_step HB.out hb)
    have Z17 := Aside0.mk (show w16.heap.size ≤ w17.heap.size from hb.size)
    clear HS0 HX0 HG0 HB hb
    have HS0 := nHS0
    have HX0 := nHX0
    have HG0 := nHG0
    have HB := nHB
    clear nHB nHS0 nHX0 nHG0
    obtain ⟨AT0, cT0, eT0⟩ := Kd.S_slice HT0.out
    subst eT0
    go_wp2_with fail
    go_at_call 21
    (with_reducible refine (laws_eqIntSS.calls k _ _ _ _ _ _ true _ (Kd.S_reads' HX0.out).2.2 (by rw [← (Kd.S_reads' HX0.out).1]; exact (Kd.S_reads' HX0.out).2.1) (Kd.S_reads' HT0.out).2.2 (by rw [← (Kd.S_reads' HT0.out).1]; exact (Kd.S_reads' HT0.out).2.1) HOK.out.eqX0).mono ?_)
    rintro e w18 ⟨rfl, hb⟩
    replace hb := hb.below
    have nHS0 := Aside0.mk (Kd.S_below HS0.out hb)
    have nHX0 := Aside0.mk (Kd.S_below HX0.out hb)
    have nHG0 := Aside0.mk (Kd.S_below HG0.out hb)
    have nHT0 := Aside0.mk (Kd.S_below HT0.out hb)
    have nHB := Aside0.mk (below_step HB.out hb)
    have Z18 := Aside0.mk (show w17.heap.size ≤ w18.heap.size from hb.size)
    clear HS0 HX0 HG0 HT0 HB hb
    have HS0 := nHS0
    have HX0 := nHX0
    have HG0 := nHG0
    have HT0 := nHT0
    have HB := nHB
    clear nHB nHS0 nHX0 nHG0 nHT0
    clear HT0
    go_wp2_with fail
    go_at_call 22
    (with_reducible refine (laws_markIntSS.calls k (lw_In w13.heap.size w14.heap.size) _ _ 1 mx0 MX0 w _ HB.out HX0.out HOK.out.mkX0).mono ?_)
    rintro e w19 ⟨rfl, hs, hb, hk⟩
    have nHS0 := Aside0.mk (lw_offS HS0.out hk (by have := Z11.out; have := Z12.out; have := Z13.out; have := Z14.out; have := Z15.out; have := Z16.out; have := Z17.out; have := Z18.out; omega))
    have nHG0 := Aside0.mk (lw_offS HG0.out hk (by have := Z11.out; have := Z12.out; have := Z13.out; have := Z14.out; have := Z15.out; have := Z16.out; have := Z17.out; have := Z18.out; omega))
    have Z19 := Aside0.mk (show w18.heap.size ≤ w19.heap.size from hk.1)
    have nHX0 := Aside0.mk (show Kd.S (Kd.slice 3 (Kd.int .i64)) 30 w19 w.heap.size (fun _ => True) _ MX0 from Kd.S_mono hs (fun _ _ => trivial))
    have nHB := Aside0.mk hb
    clear HS0 HX0 HG0 HB hs hb hk
    have HS0 := nHS0
    have HX0 := nHX0
    have HG0 := nHG0
    have HB := nHB
    clear nHB nHS0 nHX0 nHG0
    clear HX0
    go_wp2_with fail
    go_at_call 21
    (with_reducible refine (laws_eqIntSS.calls k _ _ _ _ _ _ true _ (Kd.S_reads' HG0.out).2.2 (by rw [← (Kd.S_reads' HG0.out).1]; exact (Kd.S_reads' HG0.out).2.1) (Kd.S_reads' HS0.out).2.2 (by rw [← (Kd.S_reads' HS0.out).1]; exact (Kd.S_reads' HS0.out).2.1) HOK.out.eqR0).mono ?_)
    rintro e w20 ⟨rfl, hb⟩
    replace hb := hb.below
    have nHS0 := Aside0.mk (Kd.S_below HS0.out hb)
    have nHG0 := Aside0.mk (Kd.S_below HG0.out hb)
    have nHB := Aside0.mk (below_step HB.out hb)
    have Z20 := Aside0.mk (show w19.heap.size ≤ w20.heap.size from hb.size)
    clear HS0 HG0 HB hb
    have HS0 := nHS0
    have HG0 := nHG0
    have HB := nHB
    clear nHB nHS0 nHG0
    go_wp2_with fail
    go_at_call 22
    (with_reducible refine (laws_markIntSS.calls k (lw_In w14.heap.size w15.heap.size) _ _ 1 m0 M0 w _ HB.out HG0.out HOK.out.mkR0).mono ?_)
    rintro e w21 ⟨rfl, hs, hb, hk⟩
    have nHS0 := Aside0.mk (lw_offS HS0.out hk (by have := Z11.out; have := Z12.out; have := Z13.out; have := Z14.out; have := Z15.out; have := Z16.out; have := Z17.out; have := Z18.out; have := Z19.out; have := Z20.out; omega))
    have Z21 := Aside0.mk (show w20.heap.size ≤ w21.heap.size from hk.1)
    have nHG0 := Aside0.mk (show Kd.S (Kd.slice 3 (Kd.int .i64)) 30 w21 w.heap.size (fun _ => True) _ M0 from Kd.S_mono hs (fun _ _ => trivial))
    have nHB := Aside0.mk hb
    clear HS0 HG0 HB hs hb hk
    have HS0 := nHS0
    have HG0 := nHG0
    have HB := nHB
    clear nHB nHS0 nHG0
    have cc := laws_heldIntSS.calls k AG0 cG0 M0 1 m0 w21 (Kd.S_reads' HG0.out).2.2 (by rw [← (Kd.S_reads' HG0.out).1]; exact (Kd.S_reads' HG0.out).2.1) HOK.out.hd0
    rw [← (Kd.S_reads' HG0.out).1] at cc
    have CC := Aside0.mk cc
    clear cc
    go_wp2_with fail
    go_at_call 55
    (with_reducible refine (CC.out).mono ?_)
    rintro e w22 ⟨rfl, hb⟩
    replace hb := hb.below
    have nHS0 := Aside0.mk (Kd.S_below HS0.out hb)
    have nHG0 := Aside0.mk (Kd.S_below HG0.out hb)
    have nHB := Aside0.mk (below_step HB.out hb)
    have Z22 := Aside0.mk (show w21.heap.size ≤ w22.heap.size from hb.size)
    clear HS0 HG0 HB hb
    have HS0 := nHS0
    have HG0 := nHG0
    have HB := nHB
    clear nHB nHS0 nHG0
    clear CC
    go_wp2_with fail
    go_at_call 18
    (with_reducible refine (laws_toIntSS.calls k _ _ l0 X0 _ (Kd.C_below HA0.out HB.out) HC0.out HOK.out.to0).mono ?_)
    rintro e w23 ⟨vT0_, rfl, hT0_, hb⟩
    have HT0 := Aside0.mk (show Kd.S (Kd.slice 3 (Kd.int .i64)) 30 w23 w.heap.size (lw_In w22.heap.size w23.heap.size) vT0_ X0 from Kd.S_mono (Kd.S_lower (Kd.S_bound hT0_) HB.out.size) (fun k hk => ⟨hk.2.1, hk.2.2.1⟩))
    clear hT0_
    have nHS0 := Aside0.mk (Kd.S_below HS0.out hb)
    have nHG0 := Aside0.mk (Kd.S_below HG0.out hb)
    have nHB := Aside0.mk (below_step HB.out hb)
    have Z23 := Aside0.mk (show w22.heap.size ≤ w23.heap.size from hb.size)
    clear HS0 HG0 HB hb
    have HS0 := nHS0
    have HG0 := nHG0
    have HB := nHB
    clear nHB nHS0 nHG0
    obtain ⟨AT0, cT0, eT0⟩ := Kd.S_slice HT0.out
    subst eT0
    go_wp2_with fail
    go_at_call 54
    (with_reducible refine (impl_SheetsAfter.calls k _ _ X0 R0 R1 _ (Kd.S_reads' HT0.out).2.2 (by rw [← (Kd.S_reads' HT0.out).1]; exact (Kd.S_reads' HT0.out).2.1) HOK.out.im).mono ?_)
    rintro e w24 ⟨vH0_, rfl, hH0_, hb⟩
    have HH0 := Aside0.mk (show Kd.S (Kd.slice 3 (Kd.int .i64)) 30 w24 w.heap.size (lw_In w23.heap.size w24.heap.size) vH0_ R0 from Kd.S_mono (Kd.S_lower (Kd.S_bound hH0_) HB.out.size) (fun k hk => ⟨hk.2.1, hk.2.2.1⟩))
    clear hH0_
    have nHS0 := Aside0.mk (Kd.S_below HS0.out hb)
    have nHG0 := Aside0.mk (Kd.S_below HG0.out hb)
    have nHT0 := Aside0.mk (Kd.S_below HT0.out hb)
    have nHB := Aside0.mk (below_step HB.out hb)
    have Z24 := Aside0.mk (show w23.heap.size ≤ w24.heap.size from hb.size)
    clear HS0 HG0 HT0 HB hb
    have HS0 := nHS0
    have HG0 := nHG0
    have HT0 := nHT0
    have HB := nHB
    clear nHB nHS0 nHG0 nHT0
    obtain ⟨AH0, cH0, eH0⟩ := Kd.S_slice HH0.out
    subst eH0
    clear HT0
    go_wp2_with fail
    go_at_call 21
    (with_reducible refine (laws_eqIntSS.calls k _ _ _ _ _ _ true _ (Kd.S_reads' HH0.out).2.2 (by rw [← (Kd.S_reads' HH0.out).1]; exact (Kd.S_reads' HH0.out).2.1) (Kd.S_reads' HS0.out).2.2 (by rw [← (Kd.S_reads' HS0.out).1]; exact (Kd.S_reads' HS0.out).2.1) HOK.out.eqR0).mono ?_)
    rintro e w25 ⟨rfl, hb⟩
    replace hb := hb.below
    have nHS0 := Aside0.mk (Kd.S_below HS0.out hb)
    have nHG0 := Aside0.mk (Kd.S_below HG0.out hb)
    have nHH0 := Aside0.mk (Kd.S_below HH0.out hb)
    have nHB := Aside0.mk (below_step HB.out hb)
    have Z25 := Aside0.mk (show w24.heap.size ≤ w25.heap.size from hb.size)
    clear HS0 HG0 HH0 HB hb
    have HS0 := nHS0
    have HG0 := nHG0
    have HH0 := nHH0
    have HB := nHB
    clear nHB nHS0 nHG0 nHH0
    have cc := laws_heldIntSS.calls k AG0 cG0 M0 1 m0 w25 (Kd.S_reads' HG0.out).2.2 (by rw [← (Kd.S_reads' HG0.out).1]; exact (Kd.S_reads' HG0.out).2.1) HOK.out.hd0
    rw [← (Kd.S_reads' HG0.out).1] at cc
    have CC := Aside0.mk cc
    clear cc
    go_wp2_with fail
    go_at_call 55
    (with_reducible refine (CC.out).mono ?_)
    rintro e w26 ⟨rfl, hb⟩
    replace hb := hb.below
    have nHS0 := Aside0.mk (Kd.S_below HS0.out hb)
    have nHG0 := Aside0.mk (Kd.S_below HG0.out hb)
    have nHH0 := Aside0.mk (Kd.S_below HH0.out hb)
    have nHB := Aside0.mk (below_step HB.out hb)
    have Z26 := Aside0.mk (show w25.heap.size ≤ w26.heap.size from hb.size)
    clear HS0 HG0 HH0 HB hb
    have HS0 := nHS0
    have HG0 := nHG0
    have HH0 := nHH0
    have HB := nHB
    clear nHB nHS0 nHG0 nHH0
    clear CC
    go_wp2
    go_ret
    exact ⟨rfl, by repeat (first | exact HB.out | apply pw_below_drewN | apply below_drew1)⟩

end Go.Proofs.Ytdiphnkkomfmdaa.QFnExactSheetsAfter
