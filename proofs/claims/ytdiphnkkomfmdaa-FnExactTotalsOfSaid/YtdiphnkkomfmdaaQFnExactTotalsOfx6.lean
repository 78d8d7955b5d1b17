-- Printed for this claim by a changed copy of the kit's print (the session's own; own contracts in place of some functions).
import Derived.Test.YtdiphnkkomfmdaaQFnExactTotalsOfx0
import Derived.Test.YtdiphnkkomfmdaaQFnExactTotalsOfx1
import Derived.Test.YtdiphnkkomfmdaaQFnExactTotalsOfx4
import Derived.Test.YtdiphnkkomfmdaaQFnExactTotalsOfx5
namespace Go.Proofs.Ytdiphnkkomfmdaa.QFnExactTotalsOf
open Go.RowKit Go.Proofs.YtdiphnkkomfmdaaW.PrintWords Go.Proofs.YtdiphnkkomfmdaaW.PrintLast Go.Proofs.YtdiphnkkomfmdaaW.PrintMore
attribute [local go_sem] max2_int min2_int max_two min_two max_three min_three max_four min_four   -- for this text's walks alone
set_option linter.unusedVariables false
set_option linter.unusedSimpArgs false

/-! ### laws_markIntS: function 23 -/
def laws_markIntS.l0 : Nat → List Int → Int → Int → Option (Int × List Int)
  | 0, _, _, _ => none
  | k + 1, x0, x1, x5 => if x5 < (x0.length : Int) then (if 0 ≤ x5 then (laws_markIntS.l0 k (x0.set (x5 : Int).toNat x1) (wrap64 (x1 + 1)) (wrap64 (x5 + 1))) else (none)) else (some (x1, x0))
def laws_markIntS.f (k : Nat) (l0 : List Int) (a1 : Int) : Option (Int × List Int) := laws_markIntS.l0 k l0 a1 0
theorem laws_markIntS.mono_l : ∀ k, (∀ y0 y1 y2, LeO (laws_markIntS.l0 k y0 y1 y2) (laws_markIntS.l0 (k + 1) y0 y1 y2))
  | 0 => fun _ _ _ r h => by simp [laws_markIntS.l0] at h
  | k + 1 => by
    have ih0 := laws_markIntS.mono_l k
    · intro y0 y1 y2
      unfold laws_markIntS.l0
      repeat' first
      | (with_reducible exact ih0 _ _ _)
      | (with_reducible exact LeO.refl _)
      | (with_reducible exact LeO.none _)
      | (with_reducible refine LeO.ite ?_ ?_)
      | (with_reducible refine LeO.bind ?_ (fun _ => ?_))
      | exact ih0 _ _ _
      | exact LeO.none _
      | refine LeO.ite ?_ ?_
      | refine LeO.bind ?_ (fun _ => ?_)
theorem laws_markIntS.mono : ∀ a0 a1 k, LeO (laws_markIntS.f k a0 a1) (laws_markIntS.f (k + 1) a0 a1) := by
  intro a0 a1 k
  have ih0 := laws_markIntS.mono_l k
  unfold laws_markIntS.f
  repeat' first
      | (with_reducible exact ih0 _ _ _)
      | (with_reducible exact LeO.refl _)
      | (with_reducible exact LeO.none _)
      | (with_reducible refine LeO.ite ?_ ?_)
      | (with_reducible refine LeO.bind ?_ (fun _ => ?_))
      | exact ih0 _ _ _
      | exact LeO.none _
      | refine LeO.ite ?_ ?_
      | refine LeO.bind ?_ (fun _ => ?_)
set_option maxHeartbeats 8000000 in
set_option maxRecDepth 100000 in
theorem laws_markIntS.calls (k : Nat) (P0_ : Nat → Prop) (u9000_ : Value) (l0 : List Int) (a1 : Int) (r1 : Int) (r2 : List Int) (w0 w : World) (hB : Below w0.heap.size w0 w) (ho0 : Kd.R (Kd.int .i64) 3 w w0.heap.size P0_ u9000_ l0) (h : laws_markIntS.f k l0 a1 = some (r1, r2)) :
    Calls Try.prog 23 #[u9000_, .int .i64 a1] w fun e w' => e = .returned (.int .i64 r1) ∧ Kd.R (Kd.int .i64) 3 w' w0.heap.size (fun k_ => (P0_ k_ ∨ w.heap.size ≤ k_)) u9000_ r2 ∧ Below w0.heap.size w0 w' ∧ Kept w w' (fun k_ => P0_ k_) := by
  have HO0 := Aside0.mk (show Kd.R (Kd.int .i64) 3 w w0.heap.size (fun k_ => (P0_ k_ ∨ w.heap.size ≤ k_)) u9000_ l0 from Kd.R_mono ho0 (fun k_ hk => (.inl hk)))
  have HK := Aside0.mk (Kept.refl w (fun k_ => P0_ k_))
  have HW0 := Aside0.mk hB.size
  have HB := Aside0.mk hB
  clear hB
  have H : (laws_markIntS.l0 k l0 a1 0) = some (r1, r2) := h
  clear h
  have H' := Aside0.mk H
  clear H
  go_enter Try.func23, Try.ntmps23
  go_wp2
  go_loopg [1, 5] k (fun kq v1 v5 w' => ∃ (x0_1 : List Int) (x1_1 : Int) (x5_1 : Int), v1 = .int .i64 x1_1 ∧ v5 = .int .i64 x5_1 ∧ Aside0 (laws_markIntS.l0 kq x0_1 x1_1 x5_1 = some (r1, r2)) ∧ Aside0 (kq ≤ k) ∧ Aside0 (Kd.R (Kd.int .i64) 3 w' w0.heap.size (fun k_ => (P0_ k_ ∨ w.heap.size ≤ k_)) u9000_ x0_1) ∧ Aside0 (Kept w w' (fun k_ => P0_ k_)) ∧ Aside0 (Below w0.heap.size w0 w'))
  case atStart => exact ⟨(l0), (a1), (0), (by first | rfl | (simp; done) | (simp [*]; done)), (by first | rfl | (simp; done) | (simp [*]; done)), H', ⟨Nat.le_refl _⟩, ⟨by (with_reducible repeat (first | apply Kd.R_alloc | apply Kd.R_drewN | apply Kd.R_drew)); exact HO0.out⟩, ⟨by repeat (first | (with_reducible first | exact HK.out | apply Kept.alloc | apply Kept.drewN | apply Kept.drew) | exact HK.out)⟩, ⟨by repeat (first | (with_reducible first | exact HB.out | apply below_alloc | apply pw_below_drewN | apply below_drew1) | exact HB.out)⟩⟩
  case round =>
    clear H'
    try clear c2
    try clear p2
    obtain ⟨x0_1, x1_1, x5_1, rfl, rfl, HA, HK1, HO_0, HK, HB⟩ := hrel
    cases gk with
    | zero => exact absurd HA.out (by simp [laws_markIntS.l0])
    | succ k1 =>
      have H := HA.out
      clear HA
      simp only [laws_markIntS.l0] at H
      by_cases c3 : x5_1 < (x0_1.length : Int)
      · rw [if_pos c3] at H
        have c3b0 : decide (x5_1 < (x0_1.length : Int)) = true := decide_eq_true c3
        clear c3
        by_cases c4 : 0 ≤ x5_1
        · rw [if_pos c4] at H
          have c4b0 : decide (0 ≤ x5_1) = true := decide_eq_true c4
          clear c4
          obtain ⟨y191, hy191⟩ : ∃ y_ : List Int, y_ = (x0_1.set (x5_1 : Int).toNat x1_1) := ⟨_, rfl⟩
          replace H : (laws_markIntS.l0 k1 y191 (wrap64 (x1_1 + 1)) (wrap64 (x5_1 + 1))) = some (r1, r2) := by first | (rw [hy191]; with_reducible exact H) | (have H2_ := (Option.bind_some _ _).symm.trans H; rw [hy191]; with_reducible exact H2_) | (have H2_ := (Option.bind_some _ _).symm.trans H; with_reducible exact H2_) | with_reducible exact H | (rw [hy191]; exact H) | exact H
          have Ny191 := Aside0.mk hy191
          clear hy191
          have H' := Aside0.mk H
          clear H
          obtain ⟨Ao6, co6, eo6⟩ := Kd.R_slice HO_0.out
          subst eo6
          have p5 : 0 ≤ (x5_1 : Int) := of_decide_eq_true (by first | (with_reducible assumption) | assumption)
          have q5 : (x5_1 : Int) < ((x0_1.length : Int) : Int) := of_decide_eq_true (by first | (with_reducible assumption) | assumption)
          obtain ⟨go5, co5, eo5, gb5, gl5, cl5, HG5⟩ := Kd.R_form HO_0.out (by omega)
          (first | cases eo5 | (injection eo5 with ea_ en_ ec_; (first | subst ea_ | (injection ea_ with ea_; subst ea_)); subst ec_; clear en_))
          have GB5 := Aside0.mk gb5
          have GG5 := Aside0.mk HG5
          clear gb5 gl5 HG5
          have HMgo5 := Aside0.mk (show (P0_ go5 ∨ w.heap.size ≤ go5) from (HO_0.out.1 _ rfl))
          obtain ⟨hx5_0, hf5_0⟩ := Kd.R_celln 0 HO_0.out (x5_1 : Int) p5 q5
          replace p5 := eq_true p5
          replace q5 := eq_true q5
          have HP7 := Kd.R_putg HO_0.out (x5_1 : Int) x1_1
          go_wp2_with (first | ((with_reducible refine gate_store (t := 3) (p := 15) rfl ?_); refine store_event (t := 3) (p := 15) (v := ?vo_w8) (w1 := (wr.setCell ⟨go5, (x5_1 : Int).toNat, none⟩ (.int .i64 x1_1))) ?hg ?ho ?hn ?hr ?_; (case ho => rfl); (case hg => rfl); (case hn => rfl); (case hr => first | (go_simp; done) | (go_simp; rfl)); intro w8 hw; have hg : wr.grownBy w8 (some go5) := (by rw [hw]; exact HP7.2); have hp_ : Kd.R (Kd.int .i64) 3 w8 w0.heap.size (fun k_ => (P0_ k_ ∨ w.heap.size ≤ k_)) (.slice (some ⟨go5, 0, none⟩) x0_1.length co6) y191 := (by rw [hw, Ny191.out]; exact HP7.1); clear HP7; have n0_ := Aside0.mk (hp_); have n1_ := Aside0.mk ((by rw [hw]; exact below_set (HB.out) GB5.out : Below w0.heap.size w0 w8)); have n2_ := Aside0.mk (Kept.of_grown (S := (fun k_ => P0_ k_)) hg (by repeat (first | (with_reducible first | exact HK.out | apply Kept.alloc | apply Kept.drewN | apply Kept.drew) | exact HK.out)) (fun k_ e_ => (HO_0.out.1 k_ e_))); clear HO_0; clear HB; clear HK; have HO_0 := n0_; have HB := n1_; have HK := n2_; clear n0_ n1_ n2_; clear hg hw hp_))
          go_roundg k1
          case measure => have := HK1.out; omega
          case rel => exact ⟨(y191), (wrap64 (x1_1 + 1)), (wrap64 (x5_1 + 1)), (by first | rfl | (simp; done) | (simp [*]; done)), (by first | rfl | (simp; done) | (simp [*]; done)), H', ⟨by have := HK1.out; omega⟩, ⟨by (with_reducible repeat (first | apply Kd.R_alloc | apply Kd.R_drewN | apply Kd.R_drew)); exact HO_0.out⟩, ⟨by repeat (first | (with_reducible first | exact HK.out | apply Kept.alloc | apply Kept.drewN | apply Kept.drew) | exact HK.out)⟩, ⟨by repeat (first | (with_reducible first | exact HB.out | apply below_alloc | apply pw_below_drewN | apply below_drew1) | exact HB.out)⟩⟩
        · rw [if_neg c4] at H
          exact absurd H (by simp)
      · rw [if_neg c3] at H
        have c3b0 : decide (x5_1 < (x0_1.length : Int)) = false := decide_eq_false c3
        clear c3
        simp only [Option.some.injEq, Prod.mk.injEq] at H
        obtain ⟨rfl, rfl⟩ := H
        obtain ⟨Ao9, co9, eo9⟩ := Kd.R_slice HO_0.out
        subst eo9
        go_wp2
        go_ret
        exact ⟨by first | rfl | (simp [errW_none, errW_some] <;> rfl) | (simp [*, errW_none, errW_some] <;> rfl), by (with_reducible repeat (first | apply Kd.R_alloc | apply Kd.R_drewN | apply Kd.R_drew)); exact HO_0.out, by repeat (first | (with_reducible first | exact HB.out | apply below_alloc | apply pw_below_drewN | apply below_drew1) | exact HB.out), by repeat (first | (with_reducible first | exact HK.out | apply Kept.alloc | apply Kept.drewN | apply Kept.drew) | exact HK.out)⟩

/-! ### laws_markIntSS: function 22 -/
--import Derived.WalkSpells
def laws_markIntSS.l0 : Nat → List (List Int) → Int → Int → Option (Int × List (List Int))
  | 0, _, _, _ => none
  | k + 1, x0, x1, x5 => if x5 < (x0.length : Int) then (if 0 ≤ x5 then ((laws_markIntS.f k (x0.getD x5.toNat []) x1).bind fun bt => laws_markIntSS.l0 k (x0.set x5.toNat bt.2) bt.1 (wrap64 (x5 + 1))) else none) else some (x1, x0)
def laws_markIntSS.f (k : Nat) (l0 : List (List Int)) (a1 : Int) : Option (Int × List (List Int)) := laws_markIntSS.l0 k l0 a1 0
theorem laws_markIntSS.mono_l : ∀ k, (∀ y0 y1 y2, LeO (laws_markIntSS.l0 k y0 y1 y2) (laws_markIntSS.l0 (k + 1) y0 y1 y2))
  | 0 => fun _ _ _ r h => by simp [laws_markIntSS.l0] at h
  | k + 1 => by
    have ih0 := laws_markIntSS.mono_l k
    intro y0 y1 y2
    rw [laws_markIntSS.l0, laws_markIntSS.l0]
    exact LeO.ite (LeO.ite (LeO.bind (laws_markIntS.mono _ _ _) (fun _ => ih0 _ _ _)) (LeO.refl _)) (LeO.refl _)
theorem laws_markIntSS.mono : ∀ a0 a1 k, LeO (laws_markIntSS.f k a0 a1) (laws_markIntSS.f (k + 1) a0 a1) := fun _ _ _ => laws_markIntSS.mono_l _ _ _ _
set_option maxHeartbeats 8000000 in
set_option maxRecDepth 100000 in
theorem laws_markIntSS.calls (k : Nat) (P0_ : Nat → Prop) (u9000_ : Value) (l0 : List (List Int)) (a1 : Int) (r1 : Int) (r2 : List (List Int)) (w0 w : World) (hB : Below w0.heap.size w0 w) (ho0 : Kd.S (Kd.slice 3 (Kd.int .i64)) 30 w w0.heap.size P0_ u9000_ l0) (h : laws_markIntSS.f k l0 a1 = some (r1, r2)) :
    Calls Try.prog 22 #[u9000_, .int .i64 a1] w fun e w' => e = .returned (.int .i64 r1) ∧ Kd.S (Kd.slice 3 (Kd.int .i64)) 30 w' w0.heap.size (fun k_ => (P0_ k_ ∨ w.heap.size ≤ k_)) u9000_ r2 ∧ Below w0.heap.size w0 w' ∧ Kept w w' (fun k_ => P0_ k_) := by
  have HO0 := Aside0.mk (show Kd.S (Kd.slice 3 (Kd.int .i64)) 30 w w0.heap.size (fun k_ => (P0_ k_ ∨ w.heap.size ≤ k_)) u9000_ l0 from Kd.S_mono ho0 (fun k_ hk => (.inl hk)))
  have HK := Aside0.mk (Kept.refl w (fun k_ => P0_ k_))
  have HB := Aside0.mk hB
  clear hB ho0
  have H : (laws_markIntSS.l0 k l0 a1 0) = some (r1, r2) := h
  clear h
  have H' := Aside0.mk H
  clear H
  go_enter Try.func22, Try.ntmps22
  go_wp2
  go_loopg [1, 5] k (fun kq v1 v5 w' => ∃ (x0_1 : List (List Int)) (x1_1 : Int) (x5_1 : Int), v1 = .int .i64 x1_1 ∧ v5 = .int .i64 x5_1 ∧ Aside0 (laws_markIntSS.l0 kq x0_1 x1_1 x5_1 = some (r1, r2)) ∧ Aside0 (kq ≤ k) ∧ Aside0 (Kd.S (Kd.slice 3 (Kd.int .i64)) 30 w' w0.heap.size (fun k_ => (P0_ k_ ∨ w.heap.size ≤ k_)) u9000_ x0_1) ∧ Aside0 (Kept w w' (fun k_ => P0_ k_)) ∧ Aside0 (Below w0.heap.size w0 w'))
  case atStart => exact ⟨(l0), (a1), (0), (by first | rfl | (simp; done) | (simp [*]; done)), (by first | rfl | (simp; done) | (simp [*]; done)), H', ⟨Nat.le_refl _⟩, ⟨by (with_reducible repeat (first | apply Kd.S_alloc | apply Kd.S_drewN | apply Kd.S_drew)); exact HO0.out⟩, ⟨by repeat (first | (with_reducible first | exact HK.out | apply Kept.alloc | apply Kept.drewN | apply Kept.drew) | exact HK.out)⟩, ⟨by repeat (first | (with_reducible first | exact HB.out | apply below_alloc | apply pw_below_drewN | apply below_drew1) | exact HB.out)⟩⟩
  case round =>
    clear H'
    obtain ⟨x0_1, x1_1, x5_1, rfl, rfl, HA, HK1, HO_0, HK, HB⟩ := hrel
    cases gk with
    | zero => exact absurd HA.out (by simp [laws_markIntSS.l0])
    | succ k1 =>
      have H := HA.out
      clear HA
      simp only [laws_markIntSS.l0] at H
      by_cases c3 : x5_1 < (x0_1.length : Int)
      · rw [if_pos c3] at H
        have c3b0 : decide (x5_1 < (x0_1.length : Int)) = true := decide_eq_true c3
        by_cases c4 : 0 ≤ x5_1
        · rw [if_pos c4, Option.bind_eq_some_iff] at H
          have c4b0 : decide (0 ≤ x5_1) = true := decide_eq_true c4
          obtain ⟨⟨s1, s2⟩, hcall, H⟩ := H
          obtain ⟨go5, co5, eo5, gb5, gl5, cl5, HG5⟩ := Kd.S_form HO_0.out (by omega)
          subst eo5
          obtain ⟨oki, cc, hcl, hM, hcc, hok, hH⟩ := Kd.S_lend HO_0.out [] x5_1 c4 c3
          generalize x0_1.getD x5_1.toNat [] = xi at hM hcall
          have H' := Aside0.mk H
          have HC := Aside0.mk hcall
          clear H hcall
          obtain ⟨vi, rfl, hR⟩ := hM
          have hx0 : wr.cell? ⟨go5, x5_1.toNat, none⟩ = some vi := by
            have := hcc 0 vi rfl
            simpa [Kd.slice] using this
          obtain ⟨Ai, ci, ei⟩ := Kd.R_slice hR
          subst ei
          have HRI := Aside0.mk hR
          have HH := Aside0.mk (Kd.H_widen hH)
          have HOKI := Aside0.mk hok
          clear hR hH hok hcc hcl gb5 gl5 HG5 HO_0
          replace c3 := eq_true c3
          replace c4 := eq_true c4
          go_wp2_with (first | (go_at_call 23; (with_reducible refine (laws_markIntS.calls k1 oki _ _ _ s1 s2 w0 _ HB.out HRI.out HC.out).mono ?_); rintro e w5 ⟨rfl, hr5, hb5, hk5⟩; have HR5 := Aside0.mk hr5; have HB5 := Aside0.mk hb5; have HK5 := Aside0.mk hk5; clear hr5 hb5 hk5))
          have hS : Kd.S (Kd.slice 3 (Kd.int .i64)) 30 w5 w0.heap.size (fun k_ => (P0_ k_ ∨ w.heap.size ≤ k_)) (.slice (some ⟨go5, 0, none⟩) x0_1.length co5) (x0_1.set x5_1.toNat s2) := by
            refine Kd.H_back (Kd.H_step HH.out (fun k _ hn hlt => HK5.out.2 k hlt (fun h2 => hn (.inl h2)))) (okp := fun k => oki k ∨ wr.heap.size ≤ k) ⟨_, rfl, HR5.out⟩ (fun k hk => ?_)
            rcases hk with hk | hk
            · exact .inl hk
            · exact .inr ⟨.inr (Nat.le_trans HK.out.1 hk), hk⟩
          have HS := Aside0.mk hS
          clear hS
          go_roundg k1
          case measure => have := HK1.out; omega
          case rel => exact ⟨x0_1.set x5_1.toNat s2, s1, (wrap64 (x5_1 + 1)), (by first | rfl | (simp; done) | (simp [*]; done)), (by first | rfl | (simp; done) | (simp [*]; done)), H', ⟨by have := HK1.out; omega⟩, HS, ⟨HK.out.then_ HK5.out (fun k hk => (HOKI.out k hk).1)⟩, HB5⟩
        · rw [if_neg c4] at H
          exact absurd H (by simp)
      · rw [if_neg c3] at H
        have c3b0 : decide (x5_1 < (x0_1.length : Int)) = false := decide_eq_false c3
        clear c3
        simp only [Option.some.injEq, Prod.mk.injEq] at H
        obtain ⟨rfl, rfl⟩ := H
        obtain ⟨Ao9, co9, eo9⟩ := Kd.S_slice HO_0.out
        subst eo9
        go_wp2
        go_ret
        exact ⟨by first | rfl | (simp [errW_none, errW_some] <;> rfl) | (simp [*, errW_none, errW_some] <;> rfl), by (with_reducible repeat (first | apply Kd.S_alloc | apply Kd.S_drewN | apply Kd.S_drew)); exact HO_0.out, by repeat (first | (with_reducible first | exact HB.out | apply below_alloc | apply pw_below_drewN | apply below_drew1) | exact HB.out), by repeat (first | (with_reducible first | exact HK.out | apply Kept.alloc | apply Kept.drewN | apply Kept.drew) | exact HK.out)⟩

/-! ### laws_heldIntS: function 24 -/
def laws_heldIntS.l0 : Nat → List Int → Int → Int → Option (Int)
  | 0, _, _, _ => none
  | k + 1, x0, x1, x5 => if x5 < (x0.length : Int) then (if 0 ≤ x5 then (if (rd x0 x5) = x1 then (laws_heldIntS.l0 k x0 (wrap64 (x1 + 1)) (wrap64 (x5 + 1))) else (some (-1))) else (none)) else (some x1)
def laws_heldIntS.f (k : Nat) (l0 : List Int) (a1 : Int) : Option (Int) := laws_heldIntS.l0 k l0 a1 0
theorem laws_heldIntS.mono_l : ∀ k, (∀ y0 y1 y2, LeO (laws_heldIntS.l0 k y0 y1 y2) (laws_heldIntS.l0 (k + 1) y0 y1 y2))
  | 0 => fun _ _ _ r h => by simp [laws_heldIntS.l0] at h
  | k + 1 => by
    have ih0 := laws_heldIntS.mono_l k
    · intro y0 y1 y2
      unfold laws_heldIntS.l0
      repeat' first
      | (with_reducible exact ih0 _ _ _)
      | (with_reducible exact LeO.refl _)
      | (with_reducible exact LeO.none _)
      | (with_reducible refine LeO.ite ?_ ?_)
      | (with_reducible refine LeO.bind ?_ (fun _ => ?_))
      | exact ih0 _ _ _
      | exact LeO.none _
      | refine LeO.ite ?_ ?_
      | refine LeO.bind ?_ (fun _ => ?_)
theorem laws_heldIntS.mono : ∀ a0 a1 k, LeO (laws_heldIntS.f k a0 a1) (laws_heldIntS.f (k + 1) a0 a1) := by
  intro a0 a1 k
  have ih0 := laws_heldIntS.mono_l k
  unfold laws_heldIntS.f
  repeat' first
      | (with_reducible exact ih0 _ _ _)
      | (with_reducible exact LeO.refl _)
      | (with_reducible exact LeO.none _)
      | (with_reducible refine LeO.ite ?_ ?_)
      | (with_reducible refine LeO.bind ?_ (fun _ => ?_))
      | exact ih0 _ _ _
      | exact LeO.none _
      | refine LeO.ite ?_ ?_
      | refine LeO.bind ?_ (fun _ => ?_)
set_option maxHeartbeats 8000000 in
set_option maxRecDepth 100000 in
theorem laws_heldIntS.calls (k : Nat) (A0 : Option Addr) (c0 : Nat) (l0 : List Int) (a1 : Int) (r : Int) (w : World) (hr0 : Kd.C (Kd.int .i64) w A0 l0.length l0) (hc0 : l0.length ≤ c0) (h : laws_heldIntS.f k l0 a1 = some r) :
    Calls Try.prog 24 #[.slice A0 l0.length c0, .int .i64 a1] w fun e w' => e = .returned (.int .i64 r) ∧ Drawn0 w w' := by
  have HR0 := Aside0.mk hr0
  have HC0 := Aside0.mk hc0
  clear hr0 hc0
  have H : (laws_heldIntS.l0 k l0 a1 0) = some r := h
  clear h
  have H' := Aside0.mk H
  clear H
  go_enter Try.func24, Try.ntmps24
  go_wp2
  go_loopg [1, 5] k (fun kq v1 v5 w' => ∃ (x1_1 : Int) (x5_1 : Int), v1 = .int .i64 x1_1 ∧ v5 = .int .i64 x5_1 ∧ Aside0 (laws_heldIntS.l0 kq l0 x1_1 x5_1 = some r) ∧ Aside0 (kq ≤ k) ∧ Drawn0 w w')
  case atStart => exact ⟨(a1), (0), (by first | rfl | (simp; done) | (simp [*]; done)), (by first | rfl | (simp; done) | (simp [*]; done)), H', ⟨Nat.le_refl _⟩, by repeat (first | exact Drawn0.refl _ | apply Drawn0.step)⟩
  case round =>
    clear H'
    try clear c2
    try clear p2
    obtain ⟨x1_1, x5_1, rfl, rfl, HA, HK1, ⟨m1, rfl⟩⟩ := hrel
    cases gk with
    | zero => exact absurd HA.out (by simp [laws_heldIntS.l0])
    | succ k1 =>
      have H := HA.out
      clear HA
      simp only [laws_heldIntS.l0] at H
      by_cases c3 : x5_1 < (l0.length : Int)
      · rw [if_pos c3] at H
        have c3b0 : decide (x5_1 < (l0.length : Int)) = true := decide_eq_true c3
        clear c3
        by_cases c4 : 0 ≤ x5_1
        · rw [if_pos c4] at H
          have c4b0 : decide (0 ≤ x5_1) = true := decide_eq_true c4
          clear c4
          by_cases c5 : (rd l0 x5_1) = x1_1
          · rw [if_pos c5] at H
            have c5b0 : ((rd l0 x5_1) == x1_1) = true := beq_iff_eq.mpr c5
            have c5b1 : ((rd l0 x5_1) != x1_1) = false := bne_eq_false_iff_eq.mpr c5
            clear c5
            have H' := Aside0.mk H
            clear H
            have p192 : 0 ≤ (x5_1 : Int) := of_decide_eq_true (by first | (with_reducible assumption) | assumption)
            have q192 : x5_1 < (l0.length : Int) := of_decide_eq_true (by first | (with_reducible assumption) | assumption)
            obtain ⟨ad192, e192, hx192_0⟩ := Kd.at_int HR0.out x5_1 p192 q192
            cases e192
            replace p192 := eq_true p192
            replace q192 := eq_true q192
            go_wp2
            go_roundg k1
            case measure => have := HK1.out; omega
            case rel => exact ⟨(wrap64 (x1_1 + 1)), (wrap64 (x5_1 + 1)), (by first | rfl | (simp; done) | (simp [*]; done)), (by first | rfl | (simp; done) | (simp [*]; done)), H', ⟨by have := HK1.out; omega⟩, by repeat (first | exact Drawn0.refl _ | apply Drawn0.step)⟩
          · rw [if_neg c5] at H
            have c5b0 : ((rd l0 x5_1) == x1_1) = false := beq_eq_false_iff_ne.mpr c5
            have c5b1 : ((rd l0 x5_1) != x1_1) = true := bne_iff_ne.mpr c5
            obtain rfl := Option.some.inj H
            have p192 : 0 ≤ (x5_1 : Int) := of_decide_eq_true (by first | (with_reducible assumption) | assumption)
            have q192 : x5_1 < (l0.length : Int) := of_decide_eq_true (by first | (with_reducible assumption) | assumption)
            obtain ⟨ad192, e192, hx192_0⟩ := Kd.at_int HR0.out x5_1 p192 q192
            cases e192
            replace p192 := eq_true p192
            replace q192 := eq_true q192
            go_wp2
            go_ret
            exact ⟨by first | rfl | (simp; done) | (simp [*]; done), by repeat (first | exact Drawn0.refl _ | apply Drawn0.step)⟩
        · rw [if_neg c4] at H
          exact absurd H (by simp)
      · rw [if_neg c3] at H
        have c3b0 : decide (x5_1 < (l0.length : Int)) = false := decide_eq_false c3
        clear c3
        obtain rfl := Option.some.inj H
        go_wp2
        go_ret
        exact ⟨by first | rfl | (simp; done) | (simp [*]; done), by repeat (first | exact Drawn0.refl _ | apply Drawn0.step)⟩

/-! ### laws_FnExactTotalsOf: function 4 -/
--import Derived.WalkSpells
def lw_In (lo hi k : Nat) : Prop := lo ≤ k ∧ k < hi
theorem lw_offS {α : Type} {d : Kd α} {e base lo hi lo2 hi2 : Nat} {w w1 : World} {v : Value} {xs : List α} (h : Kd.S d e w base (lw_In lo hi) v xs) (hk : Kept w w1 (lw_In lo2 hi2)) (hd : hi ≤ lo2 ∨ hi2 ≤ lo) : Kd.S d e w1 base (lw_In lo hi) v xs :=
  Kd.S_step h (fun k ho hlt => hk.2 k hlt (fun h2 => by unfold lw_In at *; omega))
theorem lw_offR {α : Type} {d : Kd α} {e base lo hi lo2 hi2 : Nat} {w w1 : World} {v : Value} {xs : List α} (h : Kd.R d e w base (lw_In lo hi) v xs) (hk : Kept w w1 (lw_In lo2 hi2)) (hd : hi ≤ lo2 ∨ hi2 ≤ lo) : Kd.R d e w1 base (lw_In lo hi) v xs :=
  Kd.R_step h (fun k ho hlt => hk.2 k hlt (fun h2 => by unfold lw_In at *; omega))
structure laws_FnExactTotalsOf.Ok (k : Nat) (l0 : List (List Int)) (left : Int) (X0 : List (List Int)) (R0 : List Int) (mx0 : Int) (MX0 : List (List Int)) (m0 : Int) (M0 : List Int) : Prop where
  sz : laws_szIntSS.f k l0 1048576 = some left
  left0 : 0 ≤ left
  to0 : laws_toIntSS.f k l0 = some X0
  sp : spec_TotalsOf.f k X0 = some R0
  im : impl_TotalsOf.f k X0 = some R0
  eqR0 : laws_eqIntS.f k R0 R0 = some true
  eqX0 : laws_eqIntSS.f k X0 X0 = some true
  mkX0 : laws_markIntSS.f k X0 1 = some (mx0, MX0)
  mx : 0 ≤ mx0
  mkR0 : laws_markIntS.f k R0 1 = some (m0, M0)
  hd0 : laws_heldIntS.f k M0 1 = some m0
  pos0 : 0 ≤ m0
def laws_FnExactTotalsOf.Good (k : Nat) (l0 : List (List Int)) : Prop := (∃ left, laws_szIntSS.f k l0 1048576 = some left ∧ left < 0) ∨ ∃ (left : Int) (X0 : List (List Int)) (R0 : List Int) (mx0 : Int) (MX0 : List (List Int)) (m0 : Int) (M0 : List Int), laws_FnExactTotalsOf.Ok k l0 left X0 R0 mx0 MX0 m0 M0
set_option maxHeartbeats 8000000 in
set_option maxRecDepth 100000 in
theorem laws_FnExactTotalsOf.calls (k : Nat) (A0 : Option Addr) (c0 : Nat) (l0 : List (List Int)) (w : World) (hr0 : Kd.C (Kd.slice 3 (Kd.int .i64)) w A0 l0.length l0) (hc0 : l0.length ≤ c0) (h : laws_FnExactTotalsOf.Good k l0) :
    Calls Try.prog 4 #[.slice A0 l0.length c0] w fun e w' => e = .returned (.bool true) ∧ Below w.heap.size w w' := by
  have HA0 := Aside0.mk hr0
  have HC0 := Aside0.mk hc0
  clear hr0 hc0
  rcases h with ⟨left, hs, hl⟩ | ⟨left, X0, R0, mx0, MX0, m0, M0, hok⟩
  · have HS := Aside0.mk hs
    have tl : decide (left < 0) = true := decide_eq_true hl
    clear hs hl
    go_enter Try.func4, Try.ntmps4
    go_wp2_with fail
    go_at_call 16
    (with_reducible refine (laws_szIntSS.calls k _ _ l0 1048576 left _ HA0.out HC0.out HS.out).mono ?_)
    rintro e w11 ⟨rfl, hb⟩
    replace hb := hb.below
    have HB := Aside0.mk hb
    clear hb
    go_wp2
    go_ret
    exact ⟨rfl, by repeat (first | exact HB.out | apply pw_below_drewN | apply below_drew1)⟩
  · have tmx : decide (mx0 < 0) = false := decide_eq_false (by have := hok.mx; omega)
    have tm0 : decide (m0 < 0) = false := decide_eq_false (by have := hok.pos0; omega)
    have tl : decide (left < 0) = false := decide_eq_false (by have := hok.left0; omega)
    have HOK := Aside0.mk hok
    clear hok
    have HB := Aside0.mk (Below.refl w.heap.size w)
    go_enter Try.func4, Try.ntmps4
    go_wp2_with fail
    go_at_call 16
    (with_reducible refine (laws_szIntSS.calls k _ _ l0 1048576 left _ (Kd.C_below HA0.out HB.out) HC0.out HOK.out.sz).mono ?_)
    rintro e w11 ⟨rfl, hb⟩
    replace hb := hb.below
    have nHB := Aside0.mk (below_step HB.out hb)
    have Z11 := Aside0.mk (show w.heap.size ≤ w11.heap.size from hb.size)
    clear  HB hb
    have HB := nHB
    clear nHB 
    go_wp2_with fail
    go_at_call 18
    (with_reducible refine (laws_toIntSS.calls k _ _ l0 X0 _ (Kd.C_below HA0.out HB.out) HC0.out HOK.out.to0).mono ?_)
    rintro e w12 ⟨vT0_, rfl, hT0_, hb⟩
    have HT0 := Aside0.mk (show Kd.S (Kd.slice 3 (Kd.int .i64)) 30 w12 w.heap.size (lw_In w11.heap.size w12.heap.size) vT0_ X0 from Kd.S_mono (Kd.S_lower (Kd.S_bound hT0_) HB.out.size) (fun k hk => ⟨hk.2.1, hk.2.2.1⟩))
    clear hT0_
    have nHB := Aside0.mk (below_step HB.out hb)
    have Z12 := Aside0.mk (show w11.heap.size ≤ w12.heap.size from hb.size)
    clear  HB hb
    have HB := nHB
    clear nHB 
    obtain ⟨AT0, cT0, eT0⟩ := Kd.S_slice HT0.out
    subst eT0
    go_wp2_with fail
    go_at_call 17
    (with_reducible refine (spec_TotalsOf.calls k _ _ X0 R0 _ (Kd.S_reads' HT0.out).2.2 (by rw [← (Kd.S_reads' HT0.out).1]; exact (Kd.S_reads' HT0.out).2.1) HOK.out.sp).mono ?_)
    rintro e w13 ⟨vS0_, rfl, hS0_, hb⟩
    have HS0 := Aside0.mk (show Kd.R (Kd.int .i64) 3 w13 w.heap.size (lw_In w12.heap.size w13.heap.size) vS0_ R0 from Kd.R_mono (Kd.R_lower (Kd.R_bound hS0_) HB.out.size) (fun k hk => ⟨hk.2.1, hk.2.2.1⟩))
    clear hS0_
    have nHT0 := Aside0.mk (Kd.S_below HT0.out hb)
    have nHB := Aside0.mk (below_step HB.out hb)
    have Z13 := Aside0.mk (show w12.heap.size ≤ w13.heap.size from hb.size)
    clear HT0 HB hb
    have HT0 := nHT0
    have HB := nHB
    clear nHB nHT0
    obtain ⟨AS0, cS0, eS0⟩ := Kd.R_slice HS0.out
    subst eS0
    clear HT0
    go_wp2_with fail
    go_at_call 18
    (with_reducible refine (laws_toIntSS.calls k _ _ l0 X0 _ (Kd.C_below HA0.out HB.out) HC0.out HOK.out.to0).mono ?_)
    rintro e w14 ⟨vX0_, rfl, hX0_, hb⟩
    have HX0 := Aside0.mk (show Kd.S (Kd.slice 3 (Kd.int .i64)) 30 w14 w.heap.size (lw_In w13.heap.size w14.heap.size) vX0_ X0 from Kd.S_mono (Kd.S_lower (Kd.S_bound hX0_) HB.out.size) (fun k hk => ⟨hk.2.1, hk.2.2.1⟩))
    clear hX0_
    have nHS0 := Aside0.mk (Kd.R_below HS0.out hb)
    have nHB := Aside0.mk (below_step HB.out hb)
    have Z14 := Aside0.mk (show w13.heap.size ≤ w14.heap.size from hb.size)
    clear HS0 HB hb
    have HS0 := nHS0
    have HB := nHB
    clear nHB nHS0
    obtain ⟨AX0, cX0, eX0⟩ := Kd.S_slice HX0.out
    subst eX0
    go_wp2_with fail
    go_at_call 19
    (with_reducible refine (impl_TotalsOf.calls k _ _ X0 R0 _ (Kd.S_reads' HX0.out).2.2 (by rw [← (Kd.S_reads' HX0.out).1]; exact (Kd.S_reads' HX0.out).2.1) HOK.out.im).mono ?_)
    rintro e w15 ⟨vG0_, rfl, hG0_, hb⟩
    have HG0 := Aside0.mk (show Kd.R (Kd.int .i64) 3 w15 w.heap.size (lw_In w14.heap.size w15.heap.size) vG0_ R0 from Kd.R_mono (Kd.R_lower (Kd.R_bound hG0_) HB.out.size) (fun k hk => ⟨hk.2.1, hk.2.2.1⟩))
    clear hG0_
    have nHS0 := Aside0.mk (Kd.R_below HS0.out hb)
    have nHX0 := Aside0.mk (Kd.S_below HX0.out hb)
    have nHB := Aside0.mk (below_step HB.out hb)
    have Z15 := Aside0.mk (show w14.heap.size ≤ w15.heap.size from hb.size)
    clear HS0 HX0 HB hb
    have HS0 := nHS0
    have HX0 := nHX0
    have HB := nHB
    clear nHB nHS0 nHX0
    obtain ⟨AG0, cG0, eG0⟩ := Kd.R_slice HG0.out
    subst eG0
    go_wp2_with fail
    go_at_call 20
    (with_reducible refine (laws_eqIntS.calls k _ _ _ _ _ _ true _ (Kd.R_reads' HG0.out).2.2 (by rw [← (Kd.R_reads' HG0.out).1]; exact (Kd.R_reads' HG0.out).2.1) (Kd.R_reads' HS0.out).2.2 (by rw [← (Kd.R_reads' HS0.out).1]; exact (Kd.R_reads' HS0.out).2.1) HOK.out.eqR0).mono ?_)
    rintro e w16 ⟨rfl, hb⟩
    replace hb := hb.below
    have nHS0 := Aside0.mk (Kd.R_below HS0.out hb)
    have nHX0 := Aside0.mk (Kd.S_below HX0.out hb)
    have nHG0 := Aside0.mk (Kd.R_below HG0.out hb)
    have nHB := Aside0.mk (below_step HB.out hb)
    have Z16 := Aside0.mk (show w15.heap.size ≤ w16.heap.size from hb.size)
    clear HS0 HX0 HG0 HB hb
    have HS0 := nHS0
    have HX0 := nHX0
    have HG0 := nHG0
    have HB := nHB
    clear nHB nHS0 nHX0 nHG0
    go_wp2_with fail
    go_at_call 18
    (with_reducible refine (laws_toIntSS.calls k _ _ l0 X0 _ (Kd.C_below HA0.out HB.out) HC0.out HOK.out.to0).mono ?_)
    rintro e w17 ⟨vT0_, rfl, hT0_, hb⟩
    have HT0 := Aside0.mk (show Kd.S (Kd.slice 3 (Kd.int .i64)) 30 w17 w.heap.size (lw_In w16.heap.size w17.heap.size) vT0_ X0 from Kd.S_mono (Kd.S_lower (Kd.S_bound hT0_) HB.out.size) (fun k hk => ⟨hk.2.1, hk.2.2.1⟩))
    clear hT0_
    have nHS0 := Aside0.mk (Kd.R_below HS0.out hb)
    have nHX0 := Aside0.mk (Kd.S_below HX0.out hb)
    have nHG0 := Aside0.mk (Kd.R_below HG0.out hb)
    have nHB := Aside0.mk (below_step HB.out hb)
    have Z17 := Aside0.mk (show w16.heap.size ≤ w17.heap.size from hb.size)
    clear HS0 HX0 HG0 HB hb
    have HS0 := nHS0
    have HX0 := nHX0
    have HG0 := nHG0
    have HB := nHB
    clear nHB nHS0 nHX0 nHG0
    obtain ⟨AT0, cT0, eT0⟩ := Kd.S_slice HT0.out
    subst eT0
    go_wp2_with fail
    go_at_call 21
    (with_reducible refine (laws_eqIntSS.calls k _ _ _ _ _ _ true _ (Kd.S_reads' HX0.out).2.2 (by rw [← (Kd.S_reads' HX0.out).1]; exact (Kd.S_reads' HX0.out).2.1) (Kd.S_reads' HT0.out).2.2 (by rw [← (Kd.S_reads' HT0.out).1]; exact (Kd.S_reads' HT0.out).2.1) HOK.out.eqX0).mono ?_)
    rintro e w18 ⟨rfl, hb⟩
    replace hb := hb.below
    have nHS0 := Aside0.mk (Kd.R_below HS0.out hb)
    have nHX0 := Aside0.mk (Kd.S_below HX0.out hb)
    have nHG0 := Aside0.mk (Kd.R_below HG0.out hb)
    have nHT0 := Aside0.mk (Kd.S_below HT0.out hb)
    have nHB := Aside0.mk (below_step HB.out hb)
    have Z18 := Aside0.mk (show w17.heap.size ≤ w18.heap.size from hb.size)
    clear HS0 HX0 HG0 HT0 HB hb
    have HS0 := nHS0
    have HX0 := nHX0
    have HG0 := nHG0
    have HT0 := nHT0
    have HB := nHB
    clear nHB nHS0 nHX0 nHG0 nHT0
    clear HT0
    go_wp2_with fail
    go_at_call 22
    (with_reducible refine (laws_markIntSS.calls k (lw_In w13.heap.size w14.heap.size) _ _ 1 mx0 MX0 w _ HB.out HX0.out HOK.out.mkX0).mono ?_)
    rintro e w19 ⟨rfl, hs, hb, hk⟩
    have nHS0 := Aside0.mk (lw_offR HS0.out hk (by have := Z11.out; have := Z12.out; have := Z13.out; have := Z14.out; have := Z15.out; have := Z16.out; have := Z17.out; have := Z18.out; omega))
    have nHG0 := Aside0.mk (lw_offR HG0.out hk (by have := Z11.out; have := Z12.out; have := Z13.out; have := Z14.out; have := Z15.out; have := Z16.out; have := Z17.out; have := Z18.out; omega))
    have Z19 := Aside0.mk (show w18.heap.size ≤ w19.heap.size from hk.1)
    have nHX0 := Aside0.mk (show Kd.S (Kd.slice 3 (Kd.int .i64)) 30 w19 w.heap.size (fun _ => True) _ MX0 from Kd.S_mono hs (fun _ _ => trivial))
    have nHB := Aside0.mk hb
    clear HS0 HX0 HG0 HB hs hb hk
    have HS0 := nHS0
    have HX0 := nHX0
    have HG0 := nHG0
    have HB := nHB
    clear nHB nHS0 nHX0 nHG0
    clear HX0
    go_wp2_with fail
    go_at_call 20
    (with_reducible refine (laws_eqIntS.calls k _ _ _ _ _ _ true _ (Kd.R_reads' HG0.out).2.2 (by rw [← (Kd.R_reads' HG0.out).1]; exact (Kd.R_reads' HG0.out).2.1) (Kd.R_reads' HS0.out).2.2 (by rw [← (Kd.R_reads' HS0.out).1]; exact (Kd.R_reads' HS0.out).2.1) HOK.out.eqR0).mono ?_)
    rintro e w20 ⟨rfl, hb⟩
    replace hb := hb.below
    have nHS0 := Aside0.mk (Kd.R_below HS0.out hb)
    have nHG0 := Aside0.mk (Kd.R_below HG0.out hb)
    have nHB := Aside0.mk (below_step HB.out hb)
    have Z20 := Aside0.mk (show w19.heap.size ≤ w20.heap.size from hb.size)
    clear HS0 HG0 HB hb
    have HS0 := nHS0
    have HG0 := nHG0
    have HB := nHB
    clear nHB nHS0 nHG0
    go_wp2_with fail
    go_at_call 23
    (with_reducible refine (laws_markIntS.calls k (lw_In w14.heap.size w15.heap.size) _ _ 1 m0 M0 w _ HB.out HG0.out HOK.out.mkR0).mono ?_)
    rintro e w21 ⟨rfl, hs, hb, hk⟩
    have nHS0 := Aside0.mk (lw_offR HS0.out hk (by have := Z11.out; have := Z12.out; have := Z13.out; have := Z14.out; have := Z15.out; have := Z16.out; have := Z17.out; have := Z18.out; have := Z19.out; have := Z20.out; omega))
    have Z21 := Aside0.mk (show w20.heap.size ≤ w21.heap.size from hk.1)
    have nHG0 := Aside0.mk (show Kd.R (Kd.int .i64) 3 w21 w.heap.size (fun _ => True) _ M0 from Kd.R_mono hs (fun _ _ => trivial))
    have nHB := Aside0.mk hb
    clear HS0 HG0 HB hs hb hk
    have HS0 := nHS0
    have HG0 := nHG0
    have HB := nHB
    clear nHB nHS0 nHG0
    have cc := laws_heldIntS.calls k AG0 cG0 M0 1 m0 w21 (Kd.R_reads' HG0.out).2.2 (by rw [← (Kd.R_reads' HG0.out).1]; exact (Kd.R_reads' HG0.out).2.1) HOK.out.hd0
    rw [← (Kd.R_reads' HG0.out).1] at cc
    have CC := Aside0.mk cc
    clear cc
    go_wp2_with fail
    go_at_call 24
    (with_reducible refine (CC.out).mono ?_)
    rintro e w22 ⟨rfl, hb⟩
    replace hb := hb.below
    have nHS0 := Aside0.mk (Kd.R_below HS0.out hb)
    have nHG0 := Aside0.mk (Kd.R_below HG0.out hb)
    have nHB := Aside0.mk (below_step HB.out hb)
    have Z22 := Aside0.mk (show w21.heap.size ≤ w22.heap.size from hb.size)
    clear HS0 HG0 HB hb
    have HS0 := nHS0
    have HG0 := nHG0
    have HB := nHB
    clear nHB nHS0 nHG0
    clear CC
    go_wp2_with fail
    go_at_call 18
    (with_reducible refine (laws_toIntSS.calls k _ _ l0 X0 _ (Kd.C_below HA0.out HB.out) HC0.out HOK.out.to0).mono ?_)
    rintro e w23 ⟨vT0_, rfl, hT0_, hb⟩
    have HT0 := Aside0.mk (show Kd.S (Kd.slice 3 (Kd.int .i64)) 30 w23 w.heap.size (lw_In w22.heap.size w23.heap.size) vT0_ X0 from Kd.S_mono (Kd.S_lower (Kd.S_bound hT0_) HB.out.size) (fun k hk => ⟨hk.2.1, hk.2.2.1⟩))
    clear hT0_
    have nHS0 := Aside0.mk (Kd.R_below HS0.out hb)
    have nHG0 := Aside0.mk (Kd.R_below HG0.out hb)
    have nHB := Aside0.mk (below_step HB.out hb)
    have Z23 := Aside0.mk (show w22.heap.size ≤ w23.heap.size from hb.size)
    clear HS0 HG0 HB hb
    have HS0 := nHS0
    have HG0 := nHG0
    have HB := nHB
    clear nHB nHS0 nHG0
    obtain ⟨AT0, cT0, eT0⟩ := Kd.S_slice HT0.out
    subst eT0
    go_wp2_with fail
    go_at_call 19
    (with_reducible refine (impl_TotalsOf.calls k _ _ X0 R0 _ (Kd.S_reads' HT0.out).2.2 (by rw [← (Kd.S_reads' HT0.out).1]; exact (Kd.S_reads' HT0.out).2.1) HOK.out.im).mono ?_)
    rintro e w24 ⟨vH0_, rfl, hH0_, hb⟩
    have HH0 := Aside0.mk (show Kd.R (Kd.int .i64) 3 w24 w.heap.size (lw_In w23.heap.size w24.heap.size) vH0_ R0 from Kd.R_mono (Kd.R_lower (Kd.R_bound hH0_) HB.out.size) (fun k hk => ⟨hk.2.1, hk.2.2.1⟩))
    clear hH0_
    have nHS0 := Aside0.mk (Kd.R_below HS0.out hb)
    have nHG0 := Aside0.mk (Kd.R_below HG0.out hb)
    have nHT0 := Aside0.mk (Kd.S_below HT0.out hb)
    have nHB := Aside0.mk (below_step HB.out hb)
    have Z24 := Aside0.mk (show w23.heap.size ≤ w24.heap.size from hb.size)
    clear HS0 HG0 HT0 HB hb
    have HS0 := nHS0
    have HG0 := nHG0
    have HT0 := nHT0
    have HB := nHB
    clear nHB nHS0 nHG0 nHT0
    obtain ⟨AH0, cH0, eH0⟩ := Kd.R_slice HH0.out
    subst eH0
    clear HT0
    go_wp2_with fail
    go_at_call 20
    (with_reducible refine (laws_eqIntS.calls k _ _ _ _ _ _ true _ (Kd.R_reads' HH0.out).2.2 (by rw [← (Kd.R_reads' HH0.out).1]; exact (Kd.R_reads' HH0.out).2.1) (Kd.R_reads' HS0.out).2.2 (by rw [← (Kd.R_reads' HS0.out).1]; exact (Kd.R_reads' HS0.out).2.1) HOK.out.eqR0).mono ?_)
    rintro e w25 ⟨rfl, hb⟩
    replace hb := hb.below
    have nHS0 := Aside0.mk (Kd.R_below HS0.out hb)
    have nHG0 := Aside0.mk (Kd.R_below HG0.out hb)
    have nHH0 := Aside0.mk (Kd.R_below HH0.out hb)
    have nHB := Aside0.mk (below_step HB.out hb)
    have Z25 := Aside0.mk (show w24.heap.size ≤ w25.heap.size from hb.size)
    clear HS0 HG0 HH0 HB hb
    have HS0 := nHS0
    have HG0 := nHG0
    have HH0 := nHH0
    have HB := nHB
    clear nHB nHS0 nHG0 nHH0
    have cc := laws_heldIntS.calls k AG0 cG0 M0 1 m0 w25 (Kd.R_reads' HG0.out).2.2 (by rw [← (Kd.R_reads' HG0.out).1]; exact (Kd.R_reads' HG0.out).2.1) HOK.out.hd0
    rw [← (Kd.R_reads' HG0.out).1] at cc
    have CC := Aside0.mk cc
    clear cc
    go_wp2_with fail
    go_at_call 24
    (with_reducible refine (CC.out).mono ?_)
    rintro e w26 ⟨rfl, hb⟩
    replace hb := hb.below
    have nHS0 := Aside0.mk (Kd.R_below HS0.out hb)
    have nHG0 := Aside0.mk (Kd.R_below HG0.out hb)
    have nHH0 := Aside0.mk (Kd.R_below HH0.out hb)
    have nHB := Aside0.mk (below_step HB.out hb)
    have Z26 := Aside0.mk (show w25.heap.size ≤ w26.heap.size from hb.size)
    clear HS0 HG0 HH0 HB hb
    have HS0 := nHS0
    have HG0 := nHG0
    have HH0 := nHH0
    have HB := nHB
    clear nHB nHS0 nHG0 nHH0
    clear CC
    go_wp2
    go_ret
    exact ⟨rfl, by repeat (first | exact HB.out | apply pw_below_drewN | apply below_drew1)⟩

end Go.Proofs.Ytdiphnkkomfmdaa.QFnExactTotalsOf
