-- Printed for this claim by a changed copy of the kit's print (the session's own; own contracts in place of some functions).
import Derived.Test.YtelhjgkjnlcomaaDoorQFnExactMeasureLinex0
import Derived.Test.YtelhjgkjnlcomaaDoorQFnExactMeasureLinex1
import Derived.Test.YtelhjgkjnlcomaaDoorQFnExactMeasureLinex2
import Derived.Test.YtelhjgkjnlcomaaDoorQFnExactMeasureLinex3
namespace Go.Proofs.YtelhjgkjnlcomaaDoor.QFnExactMeasureLine
open Go.RowKit Go.Proofs.YtelhjgkjnlcomaaDoorW.PrintWords Go.Proofs.YtelhjgkjnlcomaaDoorW.PrintLast Go.Proofs.YtelhjgkjnlcomaaDoorW.PrintMore
attribute [local go_sem] max2_int min2_int max_two min_two max_three min_three max_four min_four   -- for this text's walks alone
set_option linter.unusedVariables false
set_option linter.unusedSimpArgs false

/-! ### spec_l02Meet: function 65 -/
--import Derived.WalkSpells
def spec_l02Meet.appif (t : Bool) (xs : List (S53)) (p0 p1 : Int) : List (S53) := if t = true then xs ++ [⟨p0, p1⟩] else xs
theorem spec_l02Meet.appif_len (t : Bool) (xs : List (S53)) (p0 p1 : Int) : (spec_l02Meet.appif t xs p0 p1).length ≤ xs.length + 1 := by
 unfold spec_l02Meet.appif
 split <;> simp
def spec_l02Meet.far (xs : List (S53)) : Bool := xs.any (fun q => !(q.f0 == (rd_T53 xs 0).f0 && q.f1 == (rd_T53 xs 0).f1))
structure spec_l02Meet.Bx (w : World) (g0 g1 g2 g3 g4 : Nat) (o4 : Obj) (a0 a1 b0 b1 c0 c1 d0 d1 : Int) : Prop where
 k0 : w.heap[g0]? = some (.cells #[.int .i64 a0, .int .i64 a1] 53 (0, 0))
 k1 : w.heap[g1]? = some (.cells #[.int .i64 b0, .int .i64 b1] 53 (0, 0))
 k2 : w.heap[g2]? = some (.cells #[.int .i64 c0, .int .i64 c1] 53 (0, 0))
 k3 : w.heap[g3]? = some (.cells #[.int .i64 d0, .int .i64 d1] 53 (0, 0))
 k4 : w.heap[g4]? = some o4
theorem spec_l02Meet.Bx.step {w w1 : World} {g0 g1 g2 g3 g4 : Nat} {o4 : Obj} {a0 a1 b0 b1 c0 c1 d0 d1 : Int} (h : spec_l02Meet.Bx w g0 g1 g2 g3 g4 o4 a0 a1 b0 b1 c0 c1 d0 d1) (hb : Below w.heap.size w w1) : spec_l02Meet.Bx w1 g0 g1 g2 g3 g4 o4 a0 a1 b0 b1 c0 c1 d0 d1 :=
 ⟨blk_below h.k0 hb, blk_below h.k1 hb, blk_below h.k2 hb, blk_below h.k3 hb, blk_below h.k4 hb⟩
theorem spec_l02Meet.Bx.made (w : World) (a0 a1 b0 b1 c0 c1 d0 d1 : Int) : spec_l02Meet.Bx ((((w.alloc (.cells #[.int .i64 a0, .int .i64 a1] 53 (0, 0))).alloc (.cells #[.int .i64 b0, .int .i64 b1] 53 (0, 0))).alloc (.cells #[.int .i64 c0, .int .i64 c1] 53 (0, 0))).alloc (.cells #[.int .i64 d0, .int .i64 d1] 53 (0, 0)))
  w.heap.size (w.heap.size + 1) (w.heap.size + 1 + 1) (w.heap.size + 1 + 1 + 1) w.heap.size (.cells #[.int .i64 a0, .int .i64 a1] 53 (0, 0)) a0 a1 b0 b1 c0 c1 d0 d1 := by
 refine ⟨blk_alloc (blk_alloc (blk_alloc (blk_new _ _) _) _) _, blk_alloc (blk_alloc ?_ _) _, blk_alloc ?_ _, ?_, blk_alloc (blk_alloc (blk_alloc (blk_new _ _) _) _) _⟩
 ·have := blk_new (w.alloc (.cells #[.int .i64 a0, .int .i64 a1] 53 (0, 0))) (.cells #[.int .i64 b0, .int .i64 b1] 53 (0, 0))
  simpa using this
 ·have := blk_new ((w.alloc (.cells #[.int .i64 a0, .int .i64 a1] 53 (0, 0))).alloc (.cells #[.int .i64 b0, .int .i64 b1] 53 (0, 0))) (.cells #[.int .i64 c0, .int .i64 c1] 53 (0, 0))
  simpa using this
 ·have := blk_new (((w.alloc (.cells #[.int .i64 a0, .int .i64 a1] 53 (0, 0))).alloc (.cells #[.int .i64 b0, .int .i64 b1] 53 (0, 0))).alloc (.cells #[.int .i64 c0, .int .i64 c1] 53 (0, 0))) (.cells #[.int .i64 d0, .int .i64 d1] 53 (0, 0))
  simpa using this
def spec_l02Meet.NotB (g0 g1 g2 g3 g4 : Nat) : Nat → Prop := fun k => k ≠ g0 ∧ k ≠ g1 ∧ k ≠ g2 ∧ k ≠ g3 ∧ k ≠ g4
structure spec_l02Meet.MSt (w0 w : World) (g0 g1 g2 g3 g4 : Nat) (o4 : Obj) (a0 a1 b0 b1 c0 c1 d0 d1 : Int) (v : Value) (xs : List (S53)) : Prop where
 b : spec_l02Meet.Bx w g0 g1 g2 g3 g4 o4 a0 a1 b0 b1 c0 c1 d0 d1
 r : Kd.R k53 53 w w0.heap.size (spec_l02Meet.NotB g0 g1 g2 g3 g4) v xs
 below : Below w0.heap.size w0 w
section
variable {w0 w w1 : World} {g0 g1 g2 g3 g4 : Nat} {o4 : Obj} {a0 a1 b0 b1 c0 c1 d0 d1 : Int} {v v1 : Value} {xs ys : List (S53)}
theorem spec_l02Meet.Bx.fresh (h : spec_l02Meet.Bx w g0 g1 g2 g3 g4 o4 a0 a1 b0 b1 c0 c1 d0 d1) : ∀ k, w.heap.size ≤ k → spec_l02Meet.NotB g0 g1 g2 g3 g4 k := fun k hk => by
 have h0 := blk_lt h.k0
 have h1 := blk_lt h.k1
 have h2 := blk_lt h.k2
 have h3 := blk_lt h.k3
 have h4 := blk_lt h.k4
 exact ⟨by omega, by omega, by omega, by omega, by omega⟩
theorem spec_l02Meet.Bx.z0 (h : spec_l02Meet.Bx w g0 g1 g2 g3 g4 o4 a0 a1 b0 b1 c0 c1 d0 d1) : w.cell? ⟨g0, 0, none⟩ = some (.int .i64 a0) ∧ w.cell? ⟨g0, 1, none⟩ = some (.int .i64 a1) := ⟨(blk_cell h.k0 0).trans rfl, (blk_cell h.k0 1).trans rfl⟩
theorem spec_l02Meet.Bx.z1 (h : spec_l02Meet.Bx w g0 g1 g2 g3 g4 o4 a0 a1 b0 b1 c0 c1 d0 d1) : w.cell? ⟨g1, 0, none⟩ = some (.int .i64 b0) ∧ w.cell? ⟨g1, 1, none⟩ = some (.int .i64 b1) := ⟨(blk_cell h.k1 0).trans rfl, (blk_cell h.k1 1).trans rfl⟩
theorem spec_l02Meet.Bx.z2 (h : spec_l02Meet.Bx w g0 g1 g2 g3 g4 o4 a0 a1 b0 b1 c0 c1 d0 d1) : w.cell? ⟨g2, 0, none⟩ = some (.int .i64 c0) ∧ w.cell? ⟨g2, 1, none⟩ = some (.int .i64 c1) := ⟨(blk_cell h.k2 0).trans rfl, (blk_cell h.k2 1).trans rfl⟩
theorem spec_l02Meet.Bx.z3 (h : spec_l02Meet.Bx w g0 g1 g2 g3 g4 o4 a0 a1 b0 b1 c0 c1 d0 d1) : w.cell? ⟨g3, 0, none⟩ = some (.int .i64 d0) ∧ w.cell? ⟨g3, 1, none⟩ = some (.int .i64 d1) := ⟨(blk_cell h.k3 0).trans rfl, (blk_cell h.k3 1).trans rfl⟩
theorem spec_l02Meet.Bx.z4 {e0 e1 e2 e3 : Int} (h : spec_l02Meet.Bx w g0 g1 g2 g3 g4 (.cells #[.int .i64 e0, .int .i64 e1, .int .i64 e2, .int .i64 e3] 53 (0, 0)) a0 a1 b0 b1 c0 c1 d0 d1) : w.cell? ⟨g4, 0, none⟩ = some (.int .i64 e0) ∧ w.cell? ⟨g4, 1, none⟩ = some (.int .i64 e1) ∧ w.cell? ⟨g4, 2, none⟩ = some (.int .i64 e2) ∧ w.cell? ⟨g4, 3, none⟩ = some (.int .i64 e3) :=
 ⟨(blk_cell h.k4 0).trans rfl, (blk_cell h.k4 1).trans rfl, (blk_cell h.k4 2).trans rfl, (blk_cell h.k4 3).trans rfl⟩
theorem spec_l02Meet.MSt.step (h : spec_l02Meet.MSt w0 w g0 g1 g2 g3 g4 o4 a0 a1 b0 b1 c0 c1 d0 d1 v xs) (hb : Below w.heap.size w w1) : spec_l02Meet.MSt w0 w1 g0 g1 g2 g3 g4 o4 a0 a1 b0 b1 c0 c1 d0 d1 v xs := ⟨h.b.step hb, Kd.R_below h.r hb, below_step h.below hb⟩
theorem spec_l02Meet.MSt.add (h : spec_l02Meet.MSt w0 w g0 g1 g2 g3 g4 o4 a0 a1 b0 b1 c0 c1 d0 d1 v xs) (hr : Kd.R k53 53 w1 w0.heap.size (spec_l02Meet.NotB g0 g1 g2 g3 g4) v1 ys) (hb : Below w0.heap.size w0 w1) (hg : w.grownBy w1 v.ownBlock) : spec_l02Meet.MSt w0 w1 g0 g1 g2 g3 g4 o4 a0 a1 b0 b1 c0 c1 d0 d1 v1 ys := by
 obtain ⟨⟨k0, k1, k2, k3, k4⟩, r, _⟩ := h
 have hk : ∀ k, k < w.heap.size → ¬ spec_l02Meet.NotB g0 g1 g2 g3 g4 k → w1.heap[k]? = w.heap[k]? := fun k h1 h2 => hg.block k h1 (fun e => h2 (r.1 k e.symm))
 exact ⟨⟨(hk _ (blk_lt k0) (fun h => h.1 rfl)).trans k0, (hk _ (blk_lt k1) (fun h => h.2.1 rfl)).trans k1, (hk _ (blk_lt k2) (fun h => h.2.2.1 rfl)).trans k2, (hk _ (blk_lt k3) (fun h => h.2.2.2.1 rfl)).trans k3, (hk _ (blk_lt k4) (fun h => h.2.2.2.2 rfl)).trans k4⟩, hr, hb⟩
theorem spec_l02Meet.MSt.lit (h : spec_l02Meet.MSt w0 w g0 g1 g2 g3 g4 o4 a0 a1 b0 b1 c0 c1 d0 d1 v xs) (o : Obj) : spec_l02Meet.MSt w0 (w.alloc o) g0 g1 g2 g3 w.heap.size o a0 a1 b0 b1 c0 c1 d0 d1 v xs := by
 obtain ⟨⟨k0, k1, k2, k3, k4⟩, hR, hB⟩ := h
 refine ⟨⟨blk_alloc k0 _, blk_alloc k1 _, blk_alloc k2 _, blk_alloc k3 _, blk_new _ _⟩, ?_, below_alloc hB _⟩
 exact Kd.R_alloc (Kd.R_mono (Kd.R_elderB hR w.heap.size (Nat.le_refl _)) (fun k hk => ⟨hk.1.1, hk.1.2.1, hk.1.2.2.1, hk.1.2.2.2.1, hk.2⟩)) _
end
theorem spec_l02Meet.R_empty {W : World} {base : Nat} (hb : base ≤ W.heap.size) : Kd.R k53 53 (W.alloc (.cells #[] 53 (0, 0))) base (fun k => k = W.heap.size) (.slice (some ⟨W.heap.size, 0, none⟩) 0 0) ([] : List (S53)) := by
 refine ⟨fun k hk => by simpa [Value.ownBlock] using hk.symm, [], ?_, Reps.none _ _⟩
 have h2 := World.ownsRow_lit (base := base) (e := 53) (size := (k53).sz) W #[] 0 hb (by simp [maxLen]) (by simp)
 simpa using h2
theorem spec_l02Meet.MSt.made {w W : World} {g0 g1 g2 g3 g4 : Nat} {o4 : Obj} {a0 a1 b0 b1 c0 c1 d0 d1 : Int} (h : spec_l02Meet.Bx W g0 g1 g2 g3 g4 o4 a0 a1 b0 b1 c0 c1 d0 d1) (hb : Below w.heap.size w W) :
  spec_l02Meet.MSt w (W.alloc (.cells #[] 53 (0, 0))) g0 g1 g2 g3 g4 o4 a0 a1 b0 b1 c0 c1 d0 d1 (.slice (some ⟨W.heap.size, 0, none⟩) 0 0) [] :=
 ⟨h.step (below_alloc (Below.refl _ _) _), Kd.R_mono (spec_l02Meet.R_empty hb.size) (fun k hk => by rw [hk]; exact h.fresh _ (Nat.le_refl _)), below_alloc hb _⟩
theorem spec_l02Meet.forget {P : Program} {c : Code} {Q : Exit → Act → World → Prop} {a : Act} {I : World → Prop} {W0 : World} (h0 : I W0) (h : ∀ W : World, I W → Code.wp P c Q a W) : Code.wp P c Q a W0 := h W0 h0
def spec_l02Meet.f (a0 a1 b0 b1 c0 c1 d0 d1 : Int) : Option Int :=
 (spec_l02Cross.f a0 a1 b0 b1 c0 c1).bind fun u1 => (spec_l02Sign.f u1).bind fun s1 => (spec_l02Cross.f a0 a1 b0 b1 d0 d1).bind fun u2 => (spec_l02Sign.f u2).bind fun s2 =>
 (spec_l02Cross.f c0 c1 d0 d1 a0 a1).bind fun u3 => (spec_l02Sign.f u3).bind fun s3 => (spec_l02Cross.f c0 c1 d0 d1 b0 b1).bind fun u4 => (spec_l02Sign.f u4).bind fun s4 =>
 if (decide (wrap64 (s1 * s2) < 0) && decide (wrap64 (s3 * s4) < 0)) = true then some 2 else
 (spec_l02On.f c0 c1 d0 d1 a0 a1).bind fun t1 => (spec_l02On.f c0 c1 d0 d1 b0 b1).bind fun t2 => (spec_l02On.f a0 a1 b0 b1 c0 c1).bind fun t3 => (spec_l02On.f a0 a1 b0 b1 d0 d1).bind fun t4 =>
  (if (spec_l02Meet.appif t4 (spec_l02Meet.appif t3 (spec_l02Meet.appif t2 (spec_l02Meet.appif t1 [] a0 a1) b0 b1) c0 c1) d0 d1).length = 0 then some 0 else if spec_l02Meet.far (spec_l02Meet.appif t4 (spec_l02Meet.appif t3 (spec_l02Meet.appif t2 (spec_l02Meet.appif t1 [] a0 a1) b0 b1) c0 c1) d0 d1) = true then some 3 else some 1)
section
attribute [local go_sem high] eqA53
set_option maxHeartbeats 8000000 in
set_option maxRecDepth 100000 in
theorem spec_l02Meet.calls (a0_0 a0_1 a1_0 a1_1 a2_0 a2_1 a3_0 a3_1 : Int) (r : Int) (w : World) (h : spec_l02Meet.f a0_0 a0_1 a1_0 a1_1 a2_0 a2_1 a3_0 a3_1 = some r) :
  Calls Tryd.prog 65 #[.agg #[.int .i64 a0_0, .int .i64 a0_1], .agg #[.int .i64 a1_0, .int .i64 a1_1], .agg #[.int .i64 a2_0, .int .i64 a2_1], .agg #[.int .i64 a3_0, .int .i64 a3_1]] w fun e w' => e = .returned (.int .i64 r) ∧ Below w.heap.size w w' := by
 have hu53 := Tryd.underlying53
 unfold spec_l02Meet.f at h
 rw [Option.bind_eq_some_iff] at h
 obtain ⟨u1, U1_, h⟩ := h
 have HU1 := zm1 U1_
 clear U1_
 rw [Option.bind_eq_some_iff] at h
 obtain ⟨s1, S1_, h⟩ := h
 have HS1 := zm1 S1_
 clear S1_
 rw [Option.bind_eq_some_iff] at h
 obtain ⟨u2, U2_, h⟩ := h
 have HU2 := zm1 U2_
 clear U2_
 rw [Option.bind_eq_some_iff] at h
 obtain ⟨s2, S2_, h⟩ := h
 have HS2 := zm1 S2_
 clear S2_
 rw [Option.bind_eq_some_iff] at h
 obtain ⟨u3, U3_, h⟩ := h
 have HU3 := zm1 U3_
 clear U3_
 rw [Option.bind_eq_some_iff] at h
 obtain ⟨s3, S3_, h⟩ := h
 have HS3 := zm1 S3_
 clear S3_
 rw [Option.bind_eq_some_iff] at h
 obtain ⟨u4, U4_, h⟩ := h
 have HU4 := zm1 U4_
 clear U4_
 rw [Option.bind_eq_some_iff] at h
 obtain ⟨s4, S4_, h⟩ := h
 have HS4 := zm1 S4_
 clear S4_
 have H := zm1 h
 clear h
 go_enter Tryd.func65, Tryd.ntmps65
 go_upto_region 1 with (fail)
 refine spec_l02Meet.forget (I := fun W => spec_l02Meet.Bx W w.heap.size (w.heap.size + 1) (w.heap.size + 1 + 1) (w.heap.size + 1 + 1 + 1) w.heap.size (.cells #[.int .i64 a0_0, .int .i64 a0_1] 53 (0, 0)) a0_0 a0_1 a1_0 a1_1 a2_0 a2_1 a3_0 a3_1 ∧ Below w.heap.size w W) ⟨spec_l02Meet.Bx.made w _ _ _ _ _ _ _ _, below_alloc (below_alloc (below_alloc (below_alloc (Below.refl _ _) _) _) _) _⟩ ?_
 rintro W1 ⟨hb1, hB1⟩
 obtain ⟨g0, hg0⟩ : ∃ g, g = w.heap.size := ⟨_, rfl⟩
 obtain ⟨g1, hg1⟩ : ∃ g, g = w.heap.size + 1 := ⟨_, rfl⟩
 obtain ⟨g2, hg2⟩ : ∃ g, g = w.heap.size + 1 + 1 := ⟨_, rfl⟩
 obtain ⟨g3, hg3⟩ : ∃ g, g = w.heap.size + 1 + 1 + 1 := ⟨_, rfl⟩
 rw [← hg3, ← hg2, ← hg1, ← hg0] at hb1
 rw [← hg3, ← hg2, ← hg1, ← hg0]
 clear hg0 hg1 hg2 hg3
 obtain ⟨hy00, hy01⟩ := hb1.z0
 obtain ⟨hy10, hy11⟩ := hb1.z1
 obtain ⟨hy20, hy21⟩ := hb1.z2
 obtain ⟨hy30, hy31⟩ := hb1.z3
 have HX := zm1 hb1
 have HB1 := zm1 hB1
 clear hb1 hB1
 go_upto_region 2 with (first | (go_at_call 93; (with_reducible refine (spec_l02Cross.calls a0_0 a0_1 a1_0 a1_1 a2_0 a2_1 u1 _ HU1.out).mono ?_); rintro e w4 ⟨rfl, hb4⟩; have HX4 := zm1 (HX.out.step hb4); have HB4 := zm1 (below_step HB1.out hb4); clear hb4 hy00 hy01 hy10 hy11 hy20 hy21 hy30 hy31 HX HB1) | (go_at_call 92; (with_reducible refine (spec_l02Sign.calls u1 s1 _ HS1.out).mono ?_); rintro e w5 ⟨rfl, ⟨m, rfl⟩⟩))
 refine spec_l02Meet.forget (I := fun W => spec_l02Meet.Bx W g0 g1 g2 g3 g0 (.cells #[.int .i64 a0_0, .int .i64 a0_1] 53 (0, 0)) a0_0 a0_1 a1_0 a1_1 a2_0 a2_1 a3_0 a3_1 ∧ Below w.heap.size w W) ⟨HX4.out.step (pw_below_drewN (Below.refl _ _) _), pw_below_drewN HB4.out _⟩ ?_
 clear HX4 HB4
 rintro W2 ⟨hb1, hB1⟩
 obtain ⟨hy00, hy01⟩ := hb1.z0
 obtain ⟨hy10, hy11⟩ := hb1.z1
 obtain ⟨hy20, hy21⟩ := hb1.z2
 obtain ⟨hy30, hy31⟩ := hb1.z3
 have HX := zm1 hb1
 have HB1 := zm1 hB1
 clear hb1 hB1
 go_upto_region 3 with (first | (go_at_call 93; (with_reducible refine (spec_l02Cross.calls a0_0 a0_1 a1_0 a1_1 a3_0 a3_1 u2 _ HU2.out).mono ?_); rintro e w4 ⟨rfl, hb4⟩; have HX4 := zm1 (HX.out.step hb4); have HB4 := zm1 (below_step HB1.out hb4); clear hb4 hy00 hy01 hy10 hy11 hy20 hy21 hy30 hy31 HX HB1) | (go_at_call 92; (with_reducible refine (spec_l02Sign.calls u2 s2 _ HS2.out).mono ?_); rintro e w5 ⟨rfl, ⟨m, rfl⟩⟩))
 refine spec_l02Meet.forget (I := fun W => spec_l02Meet.Bx W g0 g1 g2 g3 g0 (.cells #[.int .i64 a0_0, .int .i64 a0_1] 53 (0, 0)) a0_0 a0_1 a1_0 a1_1 a2_0 a2_1 a3_0 a3_1 ∧ Below w.heap.size w W) ⟨HX4.out.step (pw_below_drewN (Below.refl _ _) _), pw_below_drewN HB4.out _⟩ ?_
 clear HX4 HB4
 rintro W3 ⟨hb1, hB1⟩
 obtain ⟨hy00, hy01⟩ := hb1.z0
 obtain ⟨hy10, hy11⟩ := hb1.z1
 obtain ⟨hy20, hy21⟩ := hb1.z2
 obtain ⟨hy30, hy31⟩ := hb1.z3
 have HX := zm1 hb1
 have HB1 := zm1 hB1
 clear hb1 hB1
 go_upto_region 4 with (first | (go_at_call 93; (with_reducible refine (spec_l02Cross.calls a2_0 a2_1 a3_0 a3_1 a0_0 a0_1 u3 _ HU3.out).mono ?_); rintro e w4 ⟨rfl, hb4⟩; have HX4 := zm1 (HX.out.step hb4); have HB4 := zm1 (below_step HB1.out hb4); clear hb4 hy00 hy01 hy10 hy11 hy20 hy21 hy30 hy31 HX HB1) | (go_at_call 92; (with_reducible refine (spec_l02Sign.calls u3 s3 _ HS3.out).mono ?_); rintro e w5 ⟨rfl, ⟨m, rfl⟩⟩))
 refine spec_l02Meet.forget (I := fun W => spec_l02Meet.Bx W g0 g1 g2 g3 g0 (.cells #[.int .i64 a0_0, .int .i64 a0_1] 53 (0, 0)) a0_0 a0_1 a1_0 a1_1 a2_0 a2_1 a3_0 a3_1 ∧ Below w.heap.size w W) ⟨HX4.out.step (pw_below_drewN (Below.refl _ _) _), pw_below_drewN HB4.out _⟩ ?_
 clear HX4 HB4
 rintro W4 ⟨hb1, hB1⟩
 obtain ⟨hy00, hy01⟩ := hb1.z0
 obtain ⟨hy10, hy11⟩ := hb1.z1
 obtain ⟨hy20, hy21⟩ := hb1.z2
 obtain ⟨hy30, hy31⟩ := hb1.z3
 have HX := zm1 hb1
 have HB1 := zm1 hB1
 clear hb1 hB1
 go_upto_region 5 with (first | (go_at_call 93; (with_reducible refine (spec_l02Cross.calls a2_0 a2_1 a3_0 a3_1 a1_0 a1_1 u4 _ HU4.out).mono ?_); rintro e w4 ⟨rfl, hb4⟩; have HX4 := zm1 (HX.out.step hb4); have HB4 := zm1 (below_step HB1.out hb4); clear hb4 hy00 hy01 hy10 hy11 hy20 hy21 hy30 hy31 HX HB1) | (go_at_call 92; (with_reducible refine (spec_l02Sign.calls u4 s4 _ HS4.out).mono ?_); rintro e w5 ⟨rfl, ⟨m, rfl⟩⟩))
 refine spec_l02Meet.forget (I := fun W => spec_l02Meet.Bx W g0 g1 g2 g3 g0 (.cells #[.int .i64 a0_0, .int .i64 a0_1] 53 (0, 0)) a0_0 a0_1 a1_0 a1_1 a2_0 a2_1 a3_0 a3_1 ∧ Below w.heap.size w W) ⟨HX4.out.step (pw_below_drewN (Below.refl _ _) _), pw_below_drewN HB4.out _⟩ ?_
 clear HX4 HB4
 rintro W5 ⟨hb1, hB1⟩
 have HX := zm1 hb1
 have HB1 := zm1 hB1
 clear hb1 hB1
 have hH := H.out
 clear H
 clear HU1 HU2 HU3 HU4 HS1 HS2 HS3 HS4
 by_cases q1 : wrap64 (s1 * s2) < 0
 ·have q1b : decide (wrap64 (s1 * s2) < 0) = true := decide_eq_true q1
  by_cases q2 : wrap64 (s3 * s4) < 0
  ·have q2b : decide (wrap64 (s3 * s4) < 0) = true := decide_eq_true q2
   rw [q1b, q2b, if_pos (by rfl)] at hH
   obtain rfl := Option.some.inj hH
   clear q1 q2 hH
   go_wp2
   go_ret
   exact ⟨rfl, by repeat (first | exact HB1.out | apply pw_below_drewN | apply below_drew1)⟩
  ·have q2b : decide (wrap64 (s3 * s4) < 0) = false := decide_eq_false q2
   rw [q1b, q2b, if_neg (by simp)] at hH
   clear q1 q2
   rw [Option.bind_eq_some_iff] at hH
   obtain ⟨t1, T1_, hH⟩ := hH
   have HA1 := zm1 T1_
   clear T1_
   rw [Option.bind_eq_some_iff] at hH
   obtain ⟨t2, T2_, hH⟩ := hH
   have HA2 := zm1 T2_
   clear T2_
   rw [Option.bind_eq_some_iff] at hH
   obtain ⟨t3, T3_, hH⟩ := hH
   have HA3 := zm1 T3_
   clear T3_
   rw [Option.bind_eq_some_iff] at hH
   obtain ⟨t4, T4_, hH⟩ := hH
   have HA4 := zm1 T4_
   clear T4_
   obtain ⟨E1, hE1⟩ : ∃ E, E = spec_l02Meet.appif t1 [] a0_0 a0_1 := ⟨_, rfl⟩
   obtain ⟨E2, hE2⟩ : ∃ E, E = spec_l02Meet.appif t2 E1 a1_0 a1_1 := ⟨_, rfl⟩
   obtain ⟨E3, hE3⟩ : ∃ E, E = spec_l02Meet.appif t3 E2 a2_0 a2_1 := ⟨_, rfl⟩
   obtain ⟨E4, hE4⟩ : ∃ E, E = spec_l02Meet.appif t4 E3 a3_0 a3_1 := ⟨_, rfl⟩
   rw [← hE1, ← hE2, ← hE3, ← hE4] at hH
   have e1t : t1 = true → E1 = [] ++ [⟨a0_0, a0_1⟩] := fun h => by rw [hE1, h]; rfl
   have e1f : t1 = false → E1 = [] := fun h => by rw [hE1, h]; rfl
   have e2t : t2 = true → E2 = E1 ++ [⟨a1_0, a1_1⟩] := fun h => by rw [hE2, h]; rfl
   have e2f : t2 = false → E2 = E1 := fun h => by rw [hE2, h]; rfl
   have e3t : t3 = true → E3 = E2 ++ [⟨a2_0, a2_1⟩] := fun h => by rw [hE3, h]; rfl
   have e3f : t3 = false → E3 = E2 := fun h => by rw [hE3, h]; rfl
   have e4t : t4 = true → E4 = E3 ++ [⟨a3_0, a3_1⟩] := fun h => by rw [hE4, h]; rfl
   have e4f : t4 = false → E4 = E3 := fun h => by rw [hE4, h]; rfl
   have hL1 : E1.length ≤ 1 := by rw [hE1]; exact spec_l02Meet.appif_len _ _ _ _
   have hL2 : E2.length ≤ 2 := by rw [hE2]; have := spec_l02Meet.appif_len t2 E1 a1_0 a1_1; omega
   have hL3 : E3.length ≤ 3 := by rw [hE3]; have := spec_l02Meet.appif_len t3 E2 a2_0 a2_1; omega
   have hL4 : E4.length ≤ 4 := by rw [hE4]; have := spec_l02Meet.appif_len t4 E3 a3_0 a3_1; omega
   have L0 := zm1 (show ([] : List (S53)).length ≤ 0 from Nat.le_refl 0)
   have L1 := zm1 hL1
   have L2 := zm1 hL2
   have L3 := zm1 hL3
   have L4 := zm1 hL4
   have H := zm1 hH
   clear hE1 hE2 hE3 hE4 hL1 hL2 hL3 hL4 hH
   go_upto_region 7 with (fail)
   (try clear q1b)
   (try clear q2b)
   refine spec_l02Meet.forget (I := fun W => spec_l02Meet.Bx W g0 g1 g2 g3 g0 (.cells #[.int .i64 a0_0, .int .i64 a0_1] 53 (0, 0)) a0_0 a0_1 a1_0 a1_1 a2_0 a2_1 a3_0 a3_1 ∧ Below w.heap.size w W) ⟨HX.out.step (by repeat (first | exact Below.refl _ _ | apply pw_below_drewN | apply below_drew1)), by repeat (first | exact HB1.out | apply pw_below_drewN | apply below_drew1)⟩ ?_
   clear HX HB1
   rintro W6 ⟨hb1, hB1⟩
   have X6 := zm1 hb1
   have B6 := zm1 hB1
   clear hb1 hB1
   go_upto_region 8 with (fail)
   refine spec_l02Meet.forget (I := fun W => spec_l02Meet.MSt w W g0 g1 g2 g3 g0 (.cells #[.int .i64 a0_0, .int .i64 a0_1] 53 (0, 0)) a0_0 a0_1 a1_0 a1_1 a2_0 a2_1 a3_0 a3_1 (.slice (some ⟨W6.heap.size, 0, none⟩) 0 0) []) (spec_l02Meet.MSt.made X6.out B6.out) ?_
   intro W7 hM7
   generalize W6.heap.size = gs at hM7 ⊢
   clear X6 B6
   obtain ⟨hy00, hy01⟩ := hM7.b.z0
   obtain ⟨hy10, hy11⟩ := hM7.b.z1
   have M7 := zm1 hM7
   clear hM7
   go_wp2
   clear hy00 hy01 hy10 hy11
   have M8 := zm1 (M7.out.lit (.cells #[.int .i64 a0_0, .int .i64 a0_1, .int .i64 a1_0, .int .i64 a1_1] 53 (0, 0)))
   clear M7
   generalize W7.heap.size = g4 at M8 ⊢
   refine spec_l02Meet.forget (I := fun W => spec_l02Meet.MSt w W g0 g1 g2 g3 g4 (.cells #[.int .i64 a0_0, .int .i64 a0_1, .int .i64 a1_0, .int .i64 a1_1] 53 (0, 0)) a0_0 a0_1 a1_0 a1_1 a2_0 a2_1 a3_0 a3_1 (.slice (some ⟨gs, 0, none⟩) 0 0) []) M8.out ?_
   intro W8_ hM_
   have N_ := zm1 hM_
   clear hM_ M8
   go_loopg [13, 55] 2 (fun kq v13 v55 w' => ∃ (i : Int) (xs : List (S53)), v55 = .int .i64 i ∧ Aside0 (spec_l02Meet.MSt w w' g0 g1 g2 g3 g4 (.cells #[.int .i64 a0_0, .int .i64 a0_1, .int .i64 a1_0, .int .i64 a1_1] 53 (0, 0)) a0_0 a0_1 a1_0 a1_1 a2_0 a2_1 a3_0 a3_1 v13 xs) ∧ Aside0 ((i = 0 ∧ kq = 2 ∧ xs = []) ∨ (i = 1 ∧ kq = 1 ∧ xs = E1) ∨ (i = 2 ∧ kq = 0 ∧ xs = E2)))
   case atStart => exact ⟨0, [], (by first | rfl | (simp; done) | (simp [*]; done)), N_, ⟨.inl ⟨rfl, rfl, rfl⟩⟩⟩
   case round =>
    clear N_
    obtain ⟨i, xs, rfl, M, HI⟩ := hrel
    obtain ⟨hq0, hq1, hq2, hq3⟩ := M.out.b.z4
    have hb20 := fun o => (M.out.b.step (below_alloc (Below.refl _ _) o)).z2.1
    have hb21 := fun o => (M.out.b.step (below_alloc (Below.refl _ _) o)).z2.2
    have hb30 := fun o => (M.out.b.step (below_alloc (Below.refl _ _) o)).z3.1
    have hb31 := fun o => (M.out.b.step (below_alloc (Below.refl _ _) o)).z3.2
    rcases HI.out with hI | hI | hI
    ·obtain ⟨rfl, rfl, hxs⟩ := hI
     rw [hxs] at M
     clear hxs HI
     clear hq2 hq3
     cases ht : t1 with
     | true =>
      have A_ := zm1 (HA1.out)
      rw [ht] at A_
      have HE := zm1 (e1t ht)
      clear ht
      go_wp2_with (first | (go_at_call 94; (with_reducible refine (spec_l02On.calls _ _ _ _ _ _ true _ A_.out).mono ?_); rintro e w4 ⟨rfl, hb4⟩; have M4 := zm1 ((M.out.step (below_alloc (Below.refl _ _) (.cells #[.int .i64 a0_0, .int .i64 a0_1] 53 (0, 0)))).step hb4); have hx0 : w4.cell? ⟨wr.heap.size, 0, none⟩ = some (.int .i64 a0_0) := (blk_cell (blk_below (blk_new wr (.cells #[.int .i64 a0_0, .int .i64 a0_1] 53 (0, 0))) hb4) 0).trans rfl; have hx1 : w4.cell? ⟨wr.heap.size, 1, none⟩ = some (.int .i64 a0_1) := (blk_cell (blk_below (blk_new wr (.cells #[.int .i64 a0_0, .int .i64 a0_1] 53 (0, 0))) hb4) 1).trans rfl; clear hb4) | ((with_reducible refine gate_builtin (b := .append) (xs := #[.tmp 63, .tmp 65]) rfl ?_); at_builtin; refine Kd.R_append k53 (w0 := w) w.heap.size rfl (.tmp 63) (.tmp 65) 36 53 (.agg #[(.int .i64 0), (.int .i64 0)]) 16 rfl Tryd.underlying36 info53 rfl (by decide) (by omega) _ _ (⟨a0_0, a0_1⟩ : S53) [.int .i64 a0_0, .int .i64 a0_1] (spec_l02Meet.NotB g0 g1 g2 g3 g4) (fun _ => False) rfl rfl ?aP (fun _ hk => hk.elim) M4.out.b.fresh M4.out.r M4.out.below M4.out.below.size ?aL ?_; (case aP => exact k53_mkM _ _ _ (⟨a0_0, a0_1⟩ : S53)); (case aL => have := L0.out; omega); intro v1 w1 ho hb hg hat; have M5 := zm1 (M4.out.add ho hb hg); clear ho hb hg hat))
      go_roundg 1
      case measure => omega
      case rel => exact ⟨1, E1, (by first | rfl | (simp; done) | (simp [*]; done)), ⟨by rw [HE.out]; exact M5.out⟩, ⟨.inr (.inl ⟨rfl, rfl, rfl⟩)⟩⟩
     | false =>
      have A_ := zm1 (HA1.out)
      rw [ht] at A_
      have HE := zm1 (e1f ht)
      clear ht
      go_wp2_with (first | (go_at_call 94; (with_reducible refine (spec_l02On.calls _ _ _ _ _ _ false _ A_.out).mono ?_); rintro e w4 ⟨rfl, hb4⟩; have M4 := zm1 ((M.out.step (below_alloc (Below.refl _ _) (.cells #[.int .i64 a0_0, .int .i64 a0_1] 53 (0, 0)))).step hb4); have hx0 : w4.cell? ⟨wr.heap.size, 0, none⟩ = some (.int .i64 a0_0) := (blk_cell (blk_below (blk_new wr (.cells #[.int .i64 a0_0, .int .i64 a0_1] 53 (0, 0))) hb4) 0).trans rfl; have hx1 : w4.cell? ⟨wr.heap.size, 1, none⟩ = some (.int .i64 a0_1) := (blk_cell (blk_below (blk_new wr (.cells #[.int .i64 a0_0, .int .i64 a0_1] 53 (0, 0))) hb4) 1).trans rfl; clear hb4))
      go_roundg 1
      case measure => omega
      case rel => exact ⟨1, E1, (by first | rfl | (simp; done) | (simp [*]; done)), ⟨by rw [HE.out]; exact M4.out⟩, ⟨.inr (.inl ⟨rfl, rfl, rfl⟩)⟩⟩
    ·obtain ⟨rfl, rfl, hxs⟩ := hI
     rw [hxs] at M
     clear hxs HI
     clear hq0 hq1
     cases ht : t2 with
     | true =>
      have A_ := zm1 (HA2.out)
      rw [ht] at A_
      have HE := zm1 (e2t ht)
      clear ht
      go_wp2_with (first | (go_at_call 94; (with_reducible refine (spec_l02On.calls _ _ _ _ _ _ true _ A_.out).mono ?_); rintro e w4 ⟨rfl, hb4⟩; have M4 := zm1 ((M.out.step (below_alloc (Below.refl _ _) (.cells #[.int .i64 a1_0, .int .i64 a1_1] 53 (0, 0)))).step hb4); have hx0 : w4.cell? ⟨wr.heap.size, 0, none⟩ = some (.int .i64 a1_0) := (blk_cell (blk_below (blk_new wr (.cells #[.int .i64 a1_0, .int .i64 a1_1] 53 (0, 0))) hb4) 0).trans rfl; have hx1 : w4.cell? ⟨wr.heap.size, 1, none⟩ = some (.int .i64 a1_1) := (blk_cell (blk_below (blk_new wr (.cells #[.int .i64 a1_0, .int .i64 a1_1] 53 (0, 0))) hb4) 1).trans rfl; clear hb4) | ((with_reducible refine gate_builtin (b := .append) (xs := #[.tmp 63, .tmp 65]) rfl ?_); at_builtin; refine Kd.R_append k53 (w0 := w) w.heap.size rfl (.tmp 63) (.tmp 65) 36 53 (.agg #[(.int .i64 0), (.int .i64 0)]) 16 rfl Tryd.underlying36 info53 rfl (by decide) (by omega) _ _ (⟨a1_0, a1_1⟩ : S53) [.int .i64 a1_0, .int .i64 a1_1] (spec_l02Meet.NotB g0 g1 g2 g3 g4) (fun _ => False) rfl rfl ?aP (fun _ hk => hk.elim) M4.out.b.fresh M4.out.r M4.out.below M4.out.below.size ?aL ?_; (case aP => exact k53_mkM _ _ _ (⟨a1_0, a1_1⟩ : S53)); (case aL => have := L1.out; omega); intro v1 w1 ho hb hg hat; have M5 := zm1 (M4.out.add ho hb hg); clear ho hb hg hat))
      go_roundg 0
      case measure => omega
      case rel => exact ⟨2, E2, (by first | rfl | (simp; done) | (simp [*]; done)), ⟨by rw [HE.out]; exact M5.out⟩, ⟨.inr (.inr ⟨rfl, rfl, rfl⟩)⟩⟩
     | false =>
      have A_ := zm1 (HA2.out)
      rw [ht] at A_
      have HE := zm1 (e2f ht)
      clear ht
      go_wp2_with (first | (go_at_call 94; (with_reducible refine (spec_l02On.calls _ _ _ _ _ _ false _ A_.out).mono ?_); rintro e w4 ⟨rfl, hb4⟩; have M4 := zm1 ((M.out.step (below_alloc (Below.refl _ _) (.cells #[.int .i64 a1_0, .int .i64 a1_1] 53 (0, 0)))).step hb4); have hx0 : w4.cell? ⟨wr.heap.size, 0, none⟩ = some (.int .i64 a1_0) := (blk_cell (blk_below (blk_new wr (.cells #[.int .i64 a1_0, .int .i64 a1_1] 53 (0, 0))) hb4) 0).trans rfl; have hx1 : w4.cell? ⟨wr.heap.size, 1, none⟩ = some (.int .i64 a1_1) := (blk_cell (blk_below (blk_new wr (.cells #[.int .i64 a1_0, .int .i64 a1_1] 53 (0, 0))) hb4) 1).trans rfl; clear hb4))
      go_roundg 0
      case measure => omega
      case rel => exact ⟨2, E2, (by first | rfl | (simp; done) | (simp [*]; done)), ⟨by rw [HE.out]; exact M4.out⟩, ⟨.inr (.inr ⟨rfl, rfl, rfl⟩)⟩⟩
    ·obtain ⟨rfl, rfl, hxs⟩ := hI
     rw [hxs] at M
     clear hxs HI
     clear hq0 hq1 hq2 hq3 hb20 hb21 hb30 hb31
     go_upto_region 14 with (fail)
     obtain ⟨hy20, hy21⟩ := M.out.b.z2
     obtain ⟨hy30, hy31⟩ := M.out.b.z3
     go_wp2
     clear hy20 hy21 hy30 hy31
     have M9 := zm1 (M.out.lit (.cells #[.int .i64 a2_0, .int .i64 a2_1, .int .i64 a3_0, .int .i64 a3_1] 53 (0, 0)))
     clear M
     generalize wr.heap.size = g5 at M9 ⊢
     refine spec_l02Meet.forget (I := fun W => spec_l02Meet.MSt w W g0 g1 g2 g3 g5 (.cells #[.int .i64 a2_0, .int .i64 a2_1, .int .i64 a3_0, .int .i64 a3_1] 53 (0, 0)) a0_0 a0_1 a1_0 a1_1 a2_0 a2_1 a3_0 a3_1 _ E2) M9.out ?_
     intro W9_ hM_
     have N_ := zm1 hM_
     clear hM_ M9
     go_loopg [13, 72] 2 (fun kq v13 v72 w' => ∃ (i : Int) (xs : List (S53)), v72 = .int .i64 i ∧ Aside0 (spec_l02Meet.MSt w w' g0 g1 g2 g3 g5 (.cells #[.int .i64 a2_0, .int .i64 a2_1, .int .i64 a3_0, .int .i64 a3_1] 53 (0, 0)) a0_0 a0_1 a1_0 a1_1 a2_0 a2_1 a3_0 a3_1 v13 xs) ∧ Aside0 ((i = 0 ∧ kq = 2 ∧ xs = E2) ∨ (i = 1 ∧ kq = 1 ∧ xs = E3) ∨ (i = 2 ∧ kq = 0 ∧ xs = E4)))
     case atStart => exact ⟨0, E2, (by first | rfl | (simp; done) | (simp [*]; done)), N_, ⟨.inl ⟨rfl, rfl, rfl⟩⟩⟩
     case round =>
      clear N_
      obtain ⟨i, xs, rfl, M, HI⟩ := hrel
      obtain ⟨hq0, hq1, hq2, hq3⟩ := M.out.b.z4
      have hb00 := fun o => (M.out.b.step (below_alloc (Below.refl _ _) o)).z0.1
      have hb01 := fun o => (M.out.b.step (below_alloc (Below.refl _ _) o)).z0.2
      have hb10 := fun o => (M.out.b.step (below_alloc (Below.refl _ _) o)).z1.1
      have hb11 := fun o => (M.out.b.step (below_alloc (Below.refl _ _) o)).z1.2
      rcases HI.out with hI | hI | hI
      ·obtain ⟨rfl, rfl, hxs⟩ := hI
       rw [hxs] at M
       clear hxs HI
       clear hq2 hq3
       cases ht : t3 with
       | true =>
        have A_ := zm1 (HA3.out)
        rw [ht] at A_
        have HE := zm1 (e3t ht)
        clear ht
        go_wp2_with (first | (go_at_call 94; (with_reducible refine (spec_l02On.calls _ _ _ _ _ _ true _ A_.out).mono ?_); rintro e w4 ⟨rfl, hb4⟩; have M4 := zm1 ((M.out.step (below_alloc (Below.refl _ _) (.cells #[.int .i64 a2_0, .int .i64 a2_1] 53 (0, 0)))).step hb4); have hx0 : w4.cell? ⟨wr.heap.size, 0, none⟩ = some (.int .i64 a2_0) := (blk_cell (blk_below (blk_new wr (.cells #[.int .i64 a2_0, .int .i64 a2_1] 53 (0, 0))) hb4) 0).trans rfl; have hx1 : w4.cell? ⟨wr.heap.size, 1, none⟩ = some (.int .i64 a2_1) := (blk_cell (blk_below (blk_new wr (.cells #[.int .i64 a2_0, .int .i64 a2_1] 53 (0, 0))) hb4) 1).trans rfl; clear hb4) | ((with_reducible refine gate_builtin (b := .append) (xs := #[.tmp 80, .tmp 82]) rfl ?_); at_builtin; refine Kd.R_append k53 (w0 := w) w.heap.size rfl (.tmp 80) (.tmp 82) 36 53 (.agg #[(.int .i64 0), (.int .i64 0)]) 16 rfl Tryd.underlying36 info53 rfl (by decide) (by omega) _ _ (⟨a2_0, a2_1⟩ : S53) [.int .i64 a2_0, .int .i64 a2_1] (spec_l02Meet.NotB g0 g1 g2 g3 g5) (fun _ => False) rfl rfl ?aP (fun _ hk => hk.elim) M4.out.b.fresh M4.out.r M4.out.below M4.out.below.size ?aL ?_; (case aP => exact k53_mkM _ _ _ (⟨a2_0, a2_1⟩ : S53)); (case aL => have := L2.out; omega); intro v1 w1 ho hb hg hat; have M5 := zm1 (M4.out.add ho hb hg); clear ho hb hg hat))
        go_roundg 1
        case measure => omega
        case rel => exact ⟨1, E3, (by first | rfl | (simp; done) | (simp [*]; done)), ⟨by rw [HE.out]; exact M5.out⟩, ⟨.inr (.inl ⟨rfl, rfl, rfl⟩)⟩⟩
       | false =>
        have A_ := zm1 (HA3.out)
        rw [ht] at A_
        have HE := zm1 (e3f ht)
        clear ht
        go_wp2_with (first | (go_at_call 94; (with_reducible refine (spec_l02On.calls _ _ _ _ _ _ false _ A_.out).mono ?_); rintro e w4 ⟨rfl, hb4⟩; have M4 := zm1 ((M.out.step (below_alloc (Below.refl _ _) (.cells #[.int .i64 a2_0, .int .i64 a2_1] 53 (0, 0)))).step hb4); have hx0 : w4.cell? ⟨wr.heap.size, 0, none⟩ = some (.int .i64 a2_0) := (blk_cell (blk_below (blk_new wr (.cells #[.int .i64 a2_0, .int .i64 a2_1] 53 (0, 0))) hb4) 0).trans rfl; have hx1 : w4.cell? ⟨wr.heap.size, 1, none⟩ = some (.int .i64 a2_1) := (blk_cell (blk_below (blk_new wr (.cells #[.int .i64 a2_0, .int .i64 a2_1] 53 (0, 0))) hb4) 1).trans rfl; clear hb4))
        go_roundg 1
        case measure => omega
        case rel => exact ⟨1, E3, (by first | rfl | (simp; done) | (simp [*]; done)), ⟨by rw [HE.out]; exact M4.out⟩, ⟨.inr (.inl ⟨rfl, rfl, rfl⟩)⟩⟩
      ·obtain ⟨rfl, rfl, hxs⟩ := hI
       rw [hxs] at M
       clear hxs HI
       clear hq0 hq1
       cases ht : t4 with
       | true =>
        have A_ := zm1 (HA4.out)
        rw [ht] at A_
        have HE := zm1 (e4t ht)
        clear ht
        go_wp2_with (first | (go_at_call 94; (with_reducible refine (spec_l02On.calls _ _ _ _ _ _ true _ A_.out).mono ?_); rintro e w4 ⟨rfl, hb4⟩; have M4 := zm1 ((M.out.step (below_alloc (Below.refl _ _) (.cells #[.int .i64 a3_0, .int .i64 a3_1] 53 (0, 0)))).step hb4); have hx0 : w4.cell? ⟨wr.heap.size, 0, none⟩ = some (.int .i64 a3_0) := (blk_cell (blk_below (blk_new wr (.cells #[.int .i64 a3_0, .int .i64 a3_1] 53 (0, 0))) hb4) 0).trans rfl; have hx1 : w4.cell? ⟨wr.heap.size, 1, none⟩ = some (.int .i64 a3_1) := (blk_cell (blk_below (blk_new wr (.cells #[.int .i64 a3_0, .int .i64 a3_1] 53 (0, 0))) hb4) 1).trans rfl; clear hb4) | ((with_reducible refine gate_builtin (b := .append) (xs := #[.tmp 80, .tmp 82]) rfl ?_); at_builtin; refine Kd.R_append k53 (w0 := w) w.heap.size rfl (.tmp 80) (.tmp 82) 36 53 (.agg #[(.int .i64 0), (.int .i64 0)]) 16 rfl Tryd.underlying36 info53 rfl (by decide) (by omega) _ _ (⟨a3_0, a3_1⟩ : S53) [.int .i64 a3_0, .int .i64 a3_1] (spec_l02Meet.NotB g0 g1 g2 g3 g5) (fun _ => False) rfl rfl ?aP (fun _ hk => hk.elim) M4.out.b.fresh M4.out.r M4.out.below M4.out.below.size ?aL ?_; (case aP => exact k53_mkM _ _ _ (⟨a3_0, a3_1⟩ : S53)); (case aL => have := L3.out; omega); intro v1 w1 ho hb hg hat; have M5 := zm1 (M4.out.add ho hb hg); clear ho hb hg hat))
        go_roundg 0
        case measure => omega
        case rel => exact ⟨2, E4, (by first | rfl | (simp; done) | (simp [*]; done)), ⟨by rw [HE.out]; exact M5.out⟩, ⟨.inr (.inr ⟨rfl, rfl, rfl⟩)⟩⟩
       | false =>
        have A_ := zm1 (HA4.out)
        rw [ht] at A_
        have HE := zm1 (e4f ht)
        clear ht
        go_wp2_with (first | (go_at_call 94; (with_reducible refine (spec_l02On.calls _ _ _ _ _ _ false _ A_.out).mono ?_); rintro e w4 ⟨rfl, hb4⟩; have M4 := zm1 ((M.out.step (below_alloc (Below.refl _ _) (.cells #[.int .i64 a3_0, .int .i64 a3_1] 53 (0, 0)))).step hb4); have hx0 : w4.cell? ⟨wr.heap.size, 0, none⟩ = some (.int .i64 a3_0) := (blk_cell (blk_below (blk_new wr (.cells #[.int .i64 a3_0, .int .i64 a3_1] 53 (0, 0))) hb4) 0).trans rfl; have hx1 : w4.cell? ⟨wr.heap.size, 1, none⟩ = some (.int .i64 a3_1) := (blk_cell (blk_below (blk_new wr (.cells #[.int .i64 a3_0, .int .i64 a3_1] 53 (0, 0))) hb4) 1).trans rfl; clear hb4))
        go_roundg 0
        case measure => omega
        case rel => exact ⟨2, E4, (by first | rfl | (simp; done) | (simp [*]; done)), ⟨by rw [HE.out]; exact M4.out⟩, ⟨.inr (.inr ⟨rfl, rfl, rfl⟩)⟩⟩
      ·obtain ⟨rfl, rfl, hxs⟩ := hI
       rw [hxs] at M
       clear hxs HI
       clear hq0 hq1 hq2 hq3 hb00 hb01 hb10 hb11
       obtain ⟨A, c, eA⟩ := Kd.R_slice M.out.r
       subst eA
       have hH := H.out
       clear H HA1 HA2 HA3 HA4 e1t e1f e2t e2f e3t e3f e4t e4f L0 L1 L2 L3
       by_cases q3 : E4.length = 0
       ·rw [if_pos q3] at hH
        obtain rfl := Option.some.inj hH
        have q3b : ((E4.length : Int) == 0) = true := beq_iff_eq.mpr (by omega)
        have q3c : (E4.length == 0) = true := beq_iff_eq.mpr q3
        clear q3 hH
        go_wp2
        go_ret
        exact ⟨rfl, by repeat (first | exact M.out.below | apply pw_below_drewN | apply below_drew1)⟩
       ·rw [if_neg q3] at hH
        have q3b : ((E4.length : Int) == 0) = false := beq_eq_false_iff_ne.mpr (by omega)
        have q3c : (E4.length == 0) = false := beq_eq_false_iff_ne.mpr q3
        have Q3 := zm1 q3
        have H := zm1 hH
        clear q3 hH
        go_upto_region 23 with (fail)
        refine spec_l02Meet.forget (I := fun W => Kd.C k53 W A E4.length E4 ∧ Below w.heap.size w W) ⟨by repeat (first | exact (Kd.R_reads' M.out.r).2.2 | (with_reducible refine Kd.C_alloc ?_ _) | (with_reducible refine Kd.C_drewN ?_ _) | (with_reducible refine Kd.C_drew ?_)), by repeat (first | exact M.out.below | apply pw_below_drewN | apply below_drew1)⟩ ?_
        rintro W10 ⟨hC_, hB_⟩
        have RC := zm1 hC_
        have BL := zm1 hB_
        clear hC_ hB_ M q3b q3c
        go_loopg [90] (E4.length + 1) (fun kq v90 w' => ∃ (i : Int), v90 = .int .i64 i ∧ Aside0 (0 ≤ i ∧ i + kq = E4.length + 1) ∧ Aside0 (∀ j : Nat, (j : Int) < i → ((rd_T53 E4 j).f0 == (rd_T53 E4 0).f0 && (rd_T53 E4 j).f1 == (rd_T53 E4 0).f1) = true) ∧ Aside0 (Below W10.heap.size W10 w'))
        case atStart => exact ⟨0, (by first | rfl | (simp; done) | (simp [*]; done)), ⟨by omega⟩, ⟨fun j hj => by omega⟩, ⟨Below.refl _ _⟩⟩
        case round =>
         obtain ⟨i, rfl, HI, HN, HW⟩ := hrel
         have hI := HI.out
         by_cases c5 : i < (E4.length : Int)
         ·have c5b0 : decide (i < (E4.length : Int)) = true := decide_eq_true c5
          have p9 : 0 ≤ i := hI.1
          obtain ⟨ad, e, hx0, hx1⟩ := at_T53 (Kd.C_below RC.out HW.out) i p9 c5
          cases e
          obtain ⟨ad2, e, hh0, hh1⟩ := at_T53 (Kd.C_below RC.out HW.out) 0 (by omega) (by have := Q3.out; omega)
          cases e
          obtain ⟨q0, hq0⟩ : ∃ q, q = (rd_T53 E4 i).f0 := ⟨_, rfl⟩
          obtain ⟨q1, hq1⟩ : ∃ q, q = (rd_T53 E4 i).f1 := ⟨_, rfl⟩
          obtain ⟨h0, hh0_⟩ : ∃ q, q = (rd_T53 E4 0).f0 := ⟨_, rfl⟩
          obtain ⟨h1, hh1_⟩ : ∃ q, q = (rd_T53 E4 0).f1 := ⟨_, rfl⟩
          rw [← hq0] at hx0
          rw [← hq1] at hx1
          rw [← hh0_] at hh0
          rw [← hh1_] at hh1
          have Q0 := zm1 hq0
          have Q1 := zm1 hq1
          have H0 := zm1 hh0_
          have H1 := zm1 hh1_
          clear hq0 hq1 hh0_ hh1_
          have hlen0 : (0 : Int) < (E4.length : Int) := by have := Q3.out; omega
          have hlenN : 0 < E4.length := by have := Q3.out; omega
          go_upto_region 25 with (fail)
          have hh0' : wr.cell? ad = some (.int .i64 h0) := by simpa [Addr.add] using hh0
          have hh1' : wr.cell? ⟨ad.block, ad.off + 1, none⟩ = some (.int .i64 h1) := by simpa [Addr.add] using hh1
          refine spec_l02Meet.forget (I := fun W => (W.cell? ⟨wr.heap.size, 0, none⟩ = some (.int .i64 q0) ∧ W.cell? ⟨wr.heap.size, 1, none⟩ = some (.int .i64 q1)) ∧ (W.cell? ad = some (.int .i64 h0) ∧ W.cell? ⟨ad.block, ad.off + 1, none⟩ = some (.int .i64 h1)) ∧ Below wr.heap.size wr W) ⟨⟨(blk_cell (blk_new wr (.cells #[.int .i64 q0, .int .i64 q1] 53 (0, 0))) 0).trans rfl, (blk_cell (blk_new wr (.cells #[.int .i64 q0, .int .i64 q1] 53 (0, 0))) 1).trans rfl⟩, ⟨((below_alloc (Below.refl _ _) _ : Below wr.heap.size wr (wr.alloc (.cells #[.int .i64 q0, .int .i64 q1] 53 (0, 0)))).cell (zl hh0')).trans hh0', ((below_alloc (Below.refl _ _) _ : Below wr.heap.size wr (wr.alloc (.cells #[.int .i64 q0, .int .i64 q1] 53 (0, 0)))).cell (zl hh1')).trans hh1'⟩, below_alloc (Below.refl _ _) _⟩ ?_
          clear hx0 hx1 hh0 hh1 hh0' hh1'
          rintro W11 ⟨⟨hx0, hx1⟩, ⟨hy0, hy1⟩, hWB⟩
          have HWB := zm1 hWB
          clear hWB hI
          generalize wr.heap.size = gx at hx0 hx1 ⊢
          cases e0 : (q0 == h0) with
          | false =>
           have f0 : (q0 != h0) = true := by simp [bne, e0]
           go_region_held3 (fun w' => w'.cell? ⟨gx, 0, none⟩ = some (.int .i64 q0) ∧ w'.cell? ⟨gx, 1, none⟩ = some (.int .i64 q1) ∧ w'.cell? ad = some (.int .i64 h0) ∧ w'.cell? ⟨ad.block, ad.off + 1, none⟩ = some (.int .i64 h1)) (go_keep) (fail)
           go_wp2
           go_ret
           refine ⟨?_, below_step BL.out (below_step HW.out (by repeat (first | exact HWB.out | apply pw_below_drewN | apply below_drew1)))⟩
           have e : spec_l02Meet.far E4 = true := by
            unfold spec_l02Meet.far
            rw [List.any_eq_true]
            have h1' := HI.out
            have h2' : i.toNat < E4.length := by omega
            refine ⟨rd_T53 E4 i, ?_, by rw [← Q0.out, ← Q1.out, ← H0.out, ← H1.out, e0]; rfl⟩
            unfold rd_T53
            rw [List.getD_eq_getElem?_getD, List.getElem?_eq_getElem h2']
            exact List.getElem_mem h2'
           have hH := H.out
           rw [if_pos e] at hH
           rw [Option.some.inj hH]
           rfl
          | true =>
           cases e1 : (q1 == h1) with
           | false =>
            have f0 : (q0 != h0) = false := by simp [bne, e0]
            have f1 : (q1 != h1) = true := by simp [bne, e1]
            go_region_held3 (fun w' => w'.cell? ⟨gx, 0, none⟩ = some (.int .i64 q0) ∧ w'.cell? ⟨gx, 1, none⟩ = some (.int .i64 q1) ∧ w'.cell? ad = some (.int .i64 h0) ∧ w'.cell? ⟨ad.block, ad.off + 1, none⟩ = some (.int .i64 h1)) (go_keep) (fail)
            go_wp2
            go_ret
            refine ⟨?_, below_step BL.out (below_step HW.out (by repeat (first | exact HWB.out | apply pw_below_drewN | apply below_drew1)))⟩
            have e : spec_l02Meet.far E4 = true := by
             unfold spec_l02Meet.far
             rw [List.any_eq_true]
             have h1' := HI.out
             have h2' : i.toNat < E4.length := by omega
             refine ⟨rd_T53 E4 i, ?_, by rw [← Q0.out, ← Q1.out, ← H0.out, ← H1.out, e0, e1]; rfl⟩
             unfold rd_T53
             rw [List.getD_eq_getElem?_getD, List.getElem?_eq_getElem h2']
             exact List.getElem_mem h2'
            have hH := H.out
            rw [if_pos e] at hH
            rw [Option.some.inj hH]
            rfl
           | true =>
            have f0 : (q0 != h0) = false := by simp [bne, e0]
            have f1 : (q1 != h1) = false := by simp [bne, e1]
            go_region_held3 (fun w' => w'.cell? ⟨gx, 0, none⟩ = some (.int .i64 q0) ∧ w'.cell? ⟨gx, 1, none⟩ = some (.int .i64 q1) ∧ w'.cell? ad = some (.int .i64 h0) ∧ w'.cell? ⟨ad.block, ad.off + 1, none⟩ = some (.int .i64 h1)) (go_keep) (fail)
            have E0 := zm1 e0
            have E1_ := zm1 e1
            go_wp2
            go_roundg (E4.length - i.toNat)
            case measure => have := HI.out; omega
            case rel => exact ⟨i + 1, (by have := HI.out; have := L4.out; rw [show wrap64 (i + 1) = i + 1 by unfold wrap64; omega]), ⟨by have := HI.out; omega⟩, ⟨fun j hj => by
             by_cases e : (j : Int) = i
             ·rw [e, ← Q0.out, ← Q1.out, ← H0.out, ← H1.out, E0.out, E1_.out]; rfl
             ·exact HN.out j (by omega)⟩, ⟨below_step HW.out (by repeat (first | exact HWB.out | apply pw_below_drewN | apply below_drew1))⟩⟩
         ·have c5b0 : decide (i < (E4.length : Int)) = false := decide_eq_false c5
          clear hI
          go_wp2
          go_ret
          refine ⟨?_, below_step BL.out (by repeat (first | exact HW.out | apply pw_below_drewN | apply below_drew1))⟩
          have e : ¬ spec_l02Meet.far E4 = true := by
           unfold spec_l02Meet.far
           rw [List.any_eq_true]
           rintro ⟨q, hq, h2⟩
           obtain ⟨j, hj, rfl⟩ := List.getElem_of_mem hq
           have h3 := HN.out j (by omega)
           have h4 : rd_T53 E4 (j : Int) = E4[j] := by
            unfold rd_T53
            rw [show ((j : Nat) : Int).toNat = j from rfl, List.getD_eq_getElem?_getD, List.getElem?_eq_getElem hj]
            rfl
           rw [h4] at h3
           rw [h3] at h2
           cases h2
          have hH := H.out
          rw [if_neg e] at hH
          rw [Option.some.inj hH]
          rfl
 ·have q1b : decide (wrap64 (s1 * s2) < 0) = false := decide_eq_false q1
  rw [q1b, if_neg (by simp)] at hH
  clear q1
  rw [Option.bind_eq_some_iff] at hH
  obtain ⟨t1, T1_, hH⟩ := hH
  have HA1 := zm1 T1_
  clear T1_
  rw [Option.bind_eq_some_iff] at hH
  obtain ⟨t2, T2_, hH⟩ := hH
  have HA2 := zm1 T2_
  clear T2_
  rw [Option.bind_eq_some_iff] at hH
  obtain ⟨t3, T3_, hH⟩ := hH
  have HA3 := zm1 T3_
  clear T3_
  rw [Option.bind_eq_some_iff] at hH
  obtain ⟨t4, T4_, hH⟩ := hH
  have HA4 := zm1 T4_
  clear T4_
  obtain ⟨E1, hE1⟩ : ∃ E, E = spec_l02Meet.appif t1 [] a0_0 a0_1 := ⟨_, rfl⟩
  obtain ⟨E2, hE2⟩ : ∃ E, E = spec_l02Meet.appif t2 E1 a1_0 a1_1 := ⟨_, rfl⟩
  obtain ⟨E3, hE3⟩ : ∃ E, E = spec_l02Meet.appif t3 E2 a2_0 a2_1 := ⟨_, rfl⟩
  obtain ⟨E4, hE4⟩ : ∃ E, E = spec_l02Meet.appif t4 E3 a3_0 a3_1 := ⟨_, rfl⟩
  rw [← hE1, ← hE2, ← hE3, ← hE4] at hH
  have e1t : t1 = true → E1 = [] ++ [⟨a0_0, a0_1⟩] := fun h => by rw [hE1, h]; rfl
  have e1f : t1 = false → E1 = [] := fun h => by rw [hE1, h]; rfl
  have e2t : t2 = true → E2 = E1 ++ [⟨a1_0, a1_1⟩] := fun h => by rw [hE2, h]; rfl
  have e2f : t2 = false → E2 = E1 := fun h => by rw [hE2, h]; rfl
  have e3t : t3 = true → E3 = E2 ++ [⟨a2_0, a2_1⟩] := fun h => by rw [hE3, h]; rfl
  have e3f : t3 = false → E3 = E2 := fun h => by rw [hE3, h]; rfl
  have e4t : t4 = true → E4 = E3 ++ [⟨a3_0, a3_1⟩] := fun h => by rw [hE4, h]; rfl
  have e4f : t4 = false → E4 = E3 := fun h => by rw [hE4, h]; rfl
  have hL1 : E1.length ≤ 1 := by rw [hE1]; exact spec_l02Meet.appif_len _ _ _ _
  have hL2 : E2.length ≤ 2 := by rw [hE2]; have := spec_l02Meet.appif_len t2 E1 a1_0 a1_1; omega
  have hL3 : E3.length ≤ 3 := by rw [hE3]; have := spec_l02Meet.appif_len t3 E2 a2_0 a2_1; omega
  have hL4 : E4.length ≤ 4 := by rw [hE4]; have := spec_l02Meet.appif_len t4 E3 a3_0 a3_1; omega
  have L0 := zm1 (show ([] : List (S53)).length ≤ 0 from Nat.le_refl 0)
  have L1 := zm1 hL1
  have L2 := zm1 hL2
  have L3 := zm1 hL3
  have L4 := zm1 hL4
  have H := zm1 hH
  clear hE1 hE2 hE3 hE4 hL1 hL2 hL3 hL4 hH
  go_upto_region 7 with (fail)
  (try clear q1b)
  (try clear q2b)
  refine spec_l02Meet.forget (I := fun W => spec_l02Meet.Bx W g0 g1 g2 g3 g0 (.cells #[.int .i64 a0_0, .int .i64 a0_1] 53 (0, 0)) a0_0 a0_1 a1_0 a1_1 a2_0 a2_1 a3_0 a3_1 ∧ Below w.heap.size w W) ⟨HX.out.step (by repeat (first | exact Below.refl _ _ | apply pw_below_drewN | apply below_drew1)), by repeat (first | exact HB1.out | apply pw_below_drewN | apply below_drew1)⟩ ?_
  clear HX HB1
  rintro W6 ⟨hb1, hB1⟩
  have X6 := zm1 hb1
  have B6 := zm1 hB1
  clear hb1 hB1
  go_upto_region 8 with (fail)
  refine spec_l02Meet.forget (I := fun W => spec_l02Meet.MSt w W g0 g1 g2 g3 g0 (.cells #[.int .i64 a0_0, .int .i64 a0_1] 53 (0, 0)) a0_0 a0_1 a1_0 a1_1 a2_0 a2_1 a3_0 a3_1 (.slice (some ⟨W6.heap.size, 0, none⟩) 0 0) []) (spec_l02Meet.MSt.made X6.out B6.out) ?_
  intro W7 hM7
  generalize W6.heap.size = gs at hM7 ⊢
  clear X6 B6
  obtain ⟨hy00, hy01⟩ := hM7.b.z0
  obtain ⟨hy10, hy11⟩ := hM7.b.z1
  have M7 := zm1 hM7
  clear hM7
  go_wp2
  clear hy00 hy01 hy10 hy11
  have M8 := zm1 (M7.out.lit (.cells #[.int .i64 a0_0, .int .i64 a0_1, .int .i64 a1_0, .int .i64 a1_1] 53 (0, 0)))
  clear M7
  generalize W7.heap.size = g4 at M8 ⊢
  refine spec_l02Meet.forget (I := fun W => spec_l02Meet.MSt w W g0 g1 g2 g3 g4 (.cells #[.int .i64 a0_0, .int .i64 a0_1, .int .i64 a1_0, .int .i64 a1_1] 53 (0, 0)) a0_0 a0_1 a1_0 a1_1 a2_0 a2_1 a3_0 a3_1 (.slice (some ⟨gs, 0, none⟩) 0 0) []) M8.out ?_
  intro W8_ hM_
  have N_ := zm1 hM_
  clear hM_ M8
  go_loopg [13, 55] 2 (fun kq v13 v55 w' => ∃ (i : Int) (xs : List (S53)), v55 = .int .i64 i ∧ Aside0 (spec_l02Meet.MSt w w' g0 g1 g2 g3 g4 (.cells #[.int .i64 a0_0, .int .i64 a0_1, .int .i64 a1_0, .int .i64 a1_1] 53 (0, 0)) a0_0 a0_1 a1_0 a1_1 a2_0 a2_1 a3_0 a3_1 v13 xs) ∧ Aside0 ((i = 0 ∧ kq = 2 ∧ xs = []) ∨ (i = 1 ∧ kq = 1 ∧ xs = E1) ∨ (i = 2 ∧ kq = 0 ∧ xs = E2)))
  case atStart => exact ⟨0, [], (by first | rfl | (simp; done) | (simp [*]; done)), N_, ⟨.inl ⟨rfl, rfl, rfl⟩⟩⟩
  case round =>
   clear N_
   obtain ⟨i, xs, rfl, M, HI⟩ := hrel
   obtain ⟨hq0, hq1, hq2, hq3⟩ := M.out.b.z4
   have hb20 := fun o => (M.out.b.step (below_alloc (Below.refl _ _) o)).z2.1
   have hb21 := fun o => (M.out.b.step (below_alloc (Below.refl _ _) o)).z2.2
   have hb30 := fun o => (M.out.b.step (below_alloc (Below.refl _ _) o)).z3.1
   have hb31 := fun o => (M.out.b.step (below_alloc (Below.refl _ _) o)).z3.2
   rcases HI.out with hI | hI | hI
   ·obtain ⟨rfl, rfl, hxs⟩ := hI
    rw [hxs] at M
    clear hxs HI
    clear hq2 hq3
    cases ht : t1 with
    | true =>
     have A_ := zm1 (HA1.out)
     rw [ht] at A_
     have HE := zm1 (e1t ht)
     clear ht
     go_wp2_with (first | (go_at_call 94; (with_reducible refine (spec_l02On.calls _ _ _ _ _ _ true _ A_.out).mono ?_); rintro e w4 ⟨rfl, hb4⟩; have M4 := zm1 ((M.out.step (below_alloc (Below.refl _ _) (.cells #[.int .i64 a0_0, .int .i64 a0_1] 53 (0, 0)))).step hb4); have hx0 : w4.cell? ⟨wr.heap.size, 0, none⟩ = some (.int .i64 a0_0) := (blk_cell (blk_below (blk_new wr (.cells #[.int .i64 a0_0, .int .i64 a0_1] 53 (0, 0))) hb4) 0).trans rfl; have hx1 : w4.cell? ⟨wr.heap.size, 1, none⟩ = some (.int .i64 a0_1) := (blk_cell (blk_below (blk_new wr (.cells #[.int .i64 a0_0, .int .i64 a0_1] 53 (0, 0))) hb4) 1).trans rfl; clear hb4) | ((with_reducible refine gate_builtin (b := .append) (xs := #[.tmp 63, .tmp 65]) rfl ?_); at_builtin; refine Kd.R_append k53 (w0 := w) w.heap.size rfl (.tmp 63) (.tmp 65) 36 53 (.agg #[(.int .i64 0), (.int .i64 0)]) 16 rfl Tryd.underlying36 info53 rfl (by decide) (by omega) _ _ (⟨a0_0, a0_1⟩ : S53) [.int .i64 a0_0, .int .i64 a0_1] (spec_l02Meet.NotB g0 g1 g2 g3 g4) (fun _ => False) rfl rfl ?aP (fun _ hk => hk.elim) M4.out.b.fresh M4.out.r M4.out.below M4.out.below.size ?aL ?_; (case aP => exact k53_mkM _ _ _ (⟨a0_0, a0_1⟩ : S53)); (case aL => have := L0.out; omega); intro v1 w1 ho hb hg hat; have M5 := zm1 (M4.out.add ho hb hg); clear ho hb hg hat))
     go_roundg 1
     case measure => omega
     case rel => exact ⟨1, E1, (by first | rfl | (simp; done) | (simp [*]; done)), ⟨by rw [HE.out]; exact M5.out⟩, ⟨.inr (.inl ⟨rfl, rfl, rfl⟩)⟩⟩
    | false =>
     have A_ := zm1 (HA1.out)
     rw [ht] at A_
     have HE := zm1 (e1f ht)
     clear ht
     go_wp2_with (first | (go_at_call 94; (with_reducible refine (spec_l02On.calls _ _ _ _ _ _ false _ A_.out).mono ?_); rintro e w4 ⟨rfl, hb4⟩; have M4 := zm1 ((M.out.step (below_alloc (Below.refl _ _) (.cells #[.int .i64 a0_0, .int .i64 a0_1] 53 (0, 0)))).step hb4); have hx0 : w4.cell? ⟨wr.heap.size, 0, none⟩ = some (.int .i64 a0_0) := (blk_cell (blk_below (blk_new wr (.cells #[.int .i64 a0_0, .int .i64 a0_1] 53 (0, 0))) hb4) 0).trans rfl; have hx1 : w4.cell? ⟨wr.heap.size, 1, none⟩ = some (.int .i64 a0_1) := (blk_cell (blk_below (blk_new wr (.cells #[.int .i64 a0_0, .int .i64 a0_1] 53 (0, 0))) hb4) 1).trans rfl; clear hb4))
     go_roundg 1
     case measure => omega
     case rel => exact ⟨1, E1, (by first | rfl | (simp; done) | (simp [*]; done)), ⟨by rw [HE.out]; exact M4.out⟩, ⟨.inr (.inl ⟨rfl, rfl, rfl⟩)⟩⟩
   ·obtain ⟨rfl, rfl, hxs⟩ := hI
    rw [hxs] at M
    clear hxs HI
    clear hq0 hq1
    cases ht : t2 with
    | true =>
     have A_ := zm1 (HA2.out)
     rw [ht] at A_
     have HE := zm1 (e2t ht)
     clear ht
     go_wp2_with (first | (go_at_call 94; (with_reducible refine (spec_l02On.calls _ _ _ _ _ _ true _ A_.out).mono ?_); rintro e w4 ⟨rfl, hb4⟩; have M4 := zm1 ((M.out.step (below_alloc (Below.refl _ _) (.cells #[.int .i64 a1_0, .int .i64 a1_1] 53 (0, 0)))).step hb4); have hx0 : w4.cell? ⟨wr.heap.size, 0, none⟩ = some (.int .i64 a1_0) := (blk_cell (blk_below (blk_new wr (.cells #[.int .i64 a1_0, .int .i64 a1_1] 53 (0, 0))) hb4) 0).trans rfl; have hx1 : w4.cell? ⟨wr.heap.size, 1, none⟩ = some (.int .i64 a1_1) := (blk_cell (blk_below (blk_new wr (.cells #[.int .i64 a1_0, .int .i64 a1_1] 53 (0, 0))) hb4) 1).trans rfl; clear hb4) | ((with_reducible refine gate_builtin (b := .append) (xs := #[.tmp 63, .tmp 65]) rfl ?_); at_builtin; refine Kd.R_append k53 (w0 := w) w.heap.size rfl (.tmp 63) (.tmp 65) 36 53 (.agg #[(.int .i64 0), (.int .i64 0)]) 16 rfl Tryd.underlying36 info53 rfl (by decide) (by omega) _ _ (⟨a1_0, a1_1⟩ : S53) [.int .i64 a1_0, .int .i64 a1_1] (spec_l02Meet.NotB g0 g1 g2 g3 g4) (fun _ => False) rfl rfl ?aP (fun _ hk => hk.elim) M4.out.b.fresh M4.out.r M4.out.below M4.out.below.size ?aL ?_; (case aP => exact k53_mkM _ _ _ (⟨a1_0, a1_1⟩ : S53)); (case aL => have := L1.out; omega); intro v1 w1 ho hb hg hat; have M5 := zm1 (M4.out.add ho hb hg); clear ho hb hg hat))
     go_roundg 0
     case measure => omega
     case rel => exact ⟨2, E2, (by first | rfl | (simp; done) | (simp [*]; done)), ⟨by rw [HE.out]; exact M5.out⟩, ⟨.inr (.inr ⟨rfl, rfl, rfl⟩)⟩⟩
    | false =>
     have A_ := zm1 (HA2.out)
     rw [ht] at A_
     have HE := zm1 (e2f ht)
     clear ht
     go_wp2_with (first | (go_at_call 94; (with_reducible refine (spec_l02On.calls _ _ _ _ _ _ false _ A_.out).mono ?_); rintro e w4 ⟨rfl, hb4⟩; have M4 := zm1 ((M.out.step (below_alloc (Below.refl _ _) (.cells #[.int .i64 a1_0, .int .i64 a1_1] 53 (0, 0)))).step hb4); have hx0 : w4.cell? ⟨wr.heap.size, 0, none⟩ = some (.int .i64 a1_0) := (blk_cell (blk_below (blk_new wr (.cells #[.int .i64 a1_0, .int .i64 a1_1] 53 (0, 0))) hb4) 0).trans rfl; have hx1 : w4.cell? ⟨wr.heap.size, 1, none⟩ = some (.int .i64 a1_1) := (blk_cell (blk_below (blk_new wr (.cells #[.int .i64 a1_0, .int .i64 a1_1] 53 (0, 0))) hb4) 1).trans rfl; clear hb4))
     go_roundg 0
     case measure => omega
     case rel => exact ⟨2, E2, (by first | rfl | (simp; done) | (simp [*]; done)), ⟨by rw [HE.out]; exact M4.out⟩, ⟨.inr (.inr ⟨rfl, rfl, rfl⟩)⟩⟩
   ·obtain ⟨rfl, rfl, hxs⟩ := hI
    rw [hxs] at M
    clear hxs HI
    clear hq0 hq1 hq2 hq3 hb20 hb21 hb30 hb31
    go_upto_region 14 with (fail)
    obtain ⟨hy20, hy21⟩ := M.out.b.z2
    obtain ⟨hy30, hy31⟩ := M.out.b.z3
    go_wp2
    clear hy20 hy21 hy30 hy31
    have M9 := zm1 (M.out.lit (.cells #[.int .i64 a2_0, .int .i64 a2_1, .int .i64 a3_0, .int .i64 a3_1] 53 (0, 0)))
    clear M
    generalize wr.heap.size = g5 at M9 ⊢
    refine spec_l02Meet.forget (I := fun W => spec_l02Meet.MSt w W g0 g1 g2 g3 g5 (.cells #[.int .i64 a2_0, .int .i64 a2_1, .int .i64 a3_0, .int .i64 a3_1] 53 (0, 0)) a0_0 a0_1 a1_0 a1_1 a2_0 a2_1 a3_0 a3_1 _ E2) M9.out ?_
    intro W9_ hM_
    have N_ := zm1 hM_
    clear hM_ M9
    go_loopg [13, 72] 2 (fun kq v13 v72 w' => ∃ (i : Int) (xs : List (S53)), v72 = .int .i64 i ∧ Aside0 (spec_l02Meet.MSt w w' g0 g1 g2 g3 g5 (.cells #[.int .i64 a2_0, .int .i64 a2_1, .int .i64 a3_0, .int .i64 a3_1] 53 (0, 0)) a0_0 a0_1 a1_0 a1_1 a2_0 a2_1 a3_0 a3_1 v13 xs) ∧ Aside0 ((i = 0 ∧ kq = 2 ∧ xs = E2) ∨ (i = 1 ∧ kq = 1 ∧ xs = E3) ∨ (i = 2 ∧ kq = 0 ∧ xs = E4)))
    case atStart => exact ⟨0, E2, (by first | rfl | (simp; done) | (simp [*]; done)), N_, ⟨.inl ⟨rfl, rfl, rfl⟩⟩⟩
    case round =>
     clear N_
     obtain ⟨i, xs, rfl, M, HI⟩ := hrel
     obtain ⟨hq0, hq1, hq2, hq3⟩ := M.out.b.z4
     have hb00 := fun o => (M.out.b.step (below_alloc (Below.refl _ _) o)).z0.1
     have hb01 := fun o => (M.out.b.step (below_alloc (Below.refl _ _) o)).z0.2
     have hb10 := fun o => (M.out.b.step (below_alloc (Below.refl _ _) o)).z1.1
     have hb11 := fun o => (M.out.b.step (below_alloc (Below.refl _ _) o)).z1.2
     rcases HI.out with hI | hI | hI
     ·obtain ⟨rfl, rfl, hxs⟩ := hI
      rw [hxs] at M
      clear hxs HI
      clear hq2 hq3
      cases ht : t3 with
      | true =>
       have A_ := zm1 (HA3.out)
       rw [ht] at A_
       have HE := zm1 (e3t ht)
       clear ht
       go_wp2_with (first | (go_at_call 94; (with_reducible refine (spec_l02On.calls _ _ _ _ _ _ true _ A_.out).mono ?_); rintro e w4 ⟨rfl, hb4⟩; have M4 := zm1 ((M.out.step (below_alloc (Below.refl _ _) (.cells #[.int .i64 a2_0, .int .i64 a2_1] 53 (0, 0)))).step hb4); have hx0 : w4.cell? ⟨wr.heap.size, 0, none⟩ = some (.int .i64 a2_0) := (blk_cell (blk_below (blk_new wr (.cells #[.int .i64 a2_0, .int .i64 a2_1] 53 (0, 0))) hb4) 0).trans rfl; have hx1 : w4.cell? ⟨wr.heap.size, 1, none⟩ = some (.int .i64 a2_1) := (blk_cell (blk_below (blk_new wr (.cells #[.int .i64 a2_0, .int .i64 a2_1] 53 (0, 0))) hb4) 1).trans rfl; clear hb4) | ((with_reducible refine gate_builtin (b := .append) (xs := #[.tmp 80, .tmp 82]) rfl ?_); at_builtin; refine Kd.R_append k53 (w0 := w) w.heap.size rfl (.tmp 80) (.tmp 82) 36 53 (.agg #[(.int .i64 0), (.int .i64 0)]) 16 rfl Tryd.underlying36 info53 rfl (by decide) (by omega) _ _ (⟨a2_0, a2_1⟩ : S53) [.int .i64 a2_0, .int .i64 a2_1] (spec_l02Meet.NotB g0 g1 g2 g3 g5) (fun _ => False) rfl rfl ?aP (fun _ hk => hk.elim) M4.out.b.fresh M4.out.r M4.out.below M4.out.below.size ?aL ?_; (case aP => exact k53_mkM _ _ _ (⟨a2_0, a2_1⟩ : S53)); (case aL => have := L2.out; omega); intro v1 w1 ho hb hg hat; have M5 := zm1 (M4.out.add ho hb hg); clear ho hb hg hat))
       go_roundg 1
       case measure => omega
       case rel => exact ⟨1, E3, (by first | rfl | (simp; done) | (simp [*]; done)), ⟨by rw [HE.out]; exact M5.out⟩, ⟨.inr (.inl ⟨rfl, rfl, rfl⟩)⟩⟩
      | false =>
       have A_ := zm1 (HA3.out)
       rw [ht] at A_
       have HE := zm1 (e3f ht)
       clear ht
       go_wp2_with (first | (go_at_call 94; (with_reducible refine (spec_l02On.calls _ _ _ _ _ _ false _ A_.out).mono ?_); rintro e w4 ⟨rfl, hb4⟩; have M4 := zm1 ((M.out.step (below_alloc (Below.refl _ _) (.cells #[.int .i64 a2_0, .int .i64 a2_1] 53 (0, 0)))).step hb4); have hx0 : w4.cell? ⟨wr.heap.size, 0, none⟩ = some (.int .i64 a2_0) := (blk_cell (blk_below (blk_new wr (.cells #[.int .i64 a2_0, .int .i64 a2_1] 53 (0, 0))) hb4) 0).trans rfl; have hx1 : w4.cell? ⟨wr.heap.size, 1, none⟩ = some (.int .i64 a2_1) := (blk_cell (blk_below (blk_new wr (.cells #[.int .i64 a2_0, .int .i64 a2_1] 53 (0, 0))) hb4) 1).trans rfl; clear hb4))
       go_roundg 1
       case measure => omega
       case rel => exact ⟨1, E3, (by first | rfl | (simp; done) | (simp [*]; done)), ⟨by rw [HE.out]; exact M4.out⟩, ⟨.inr (.inl ⟨rfl, rfl, rfl⟩)⟩⟩
     ·obtain ⟨rfl, rfl, hxs⟩ := hI
      rw [hxs] at M
      clear hxs HI
      clear hq0 hq1
      cases ht : t4 with
      | true =>
       have A_ := zm1 (HA4.out)
       rw [ht] at A_
       have HE := zm1 (e4t ht)
       clear ht
       go_wp2_with (first | (go_at_call 94; (with_reducible refine (spec_l02On.calls _ _ _ _ _ _ true _ A_.out).mono ?_); rintro e w4 ⟨rfl, hb4⟩; have M4 := zm1 ((M.out.step (below_alloc (Below.refl _ _) (.cells #[.int .i64 a3_0, .int .i64 a3_1] 53 (0, 0)))).step hb4); have hx0 : w4.cell? ⟨wr.heap.size, 0, none⟩ = some (.int .i64 a3_0) := (blk_cell (blk_below (blk_new wr (.cells #[.int .i64 a3_0, .int .i64 a3_1] 53 (0, 0))) hb4) 0).trans rfl; have hx1 : w4.cell? ⟨wr.heap.size, 1, none⟩ = some (.int .i64 a3_1) := (blk_cell (blk_below (blk_new wr (.cells #[.int .i64 a3_0, .int .i64 a3_1] 53 (0, 0))) hb4) 1).trans rfl; clear hb4) | ((with_reducible refine gate_builtin (b := .append) (xs := #[.tmp 80, .tmp 82]) rfl ?_); at_builtin; refine Kd.R_append k53 (w0 := w) w.heap.size rfl (.tmp 80) (.tmp 82) 36 53 (.agg #[(.int .i64 0), (.int .i64 0)]) 16 rfl Tryd.underlying36 info53 rfl (by decide) (by omega) _ _ (⟨a3_0, a3_1⟩ : S53) [.int .i64 a3_0, .int .i64 a3_1] (spec_l02Meet.NotB g0 g1 g2 g3 g5) (fun _ => False) rfl rfl ?aP (fun _ hk => hk.elim) M4.out.b.fresh M4.out.r M4.out.below M4.out.below.size ?aL ?_; (case aP => exact k53_mkM _ _ _ (⟨a3_0, a3_1⟩ : S53)); (case aL => have := L3.out; omega); intro v1 w1 ho hb hg hat; have M5 := zm1 (M4.out.add ho hb hg); clear ho hb hg hat))
       go_roundg 0
       case measure => omega
       case rel => exact ⟨2, E4, (by first | rfl | (simp; done) | (simp [*]; done)), ⟨by rw [HE.out]; exact M5.out⟩, ⟨.inr (.inr ⟨rfl, rfl, rfl⟩)⟩⟩
      | false =>
       have A_ := zm1 (HA4.out)
       rw [ht] at A_
       have HE := zm1 (e4f ht)
       clear ht
       go_wp2_with (first | (go_at_call 94; (with_reducible refine (spec_l02On.calls _ _ _ _ _ _ false _ A_.out).mono ?_); rintro e w4 ⟨rfl, hb4⟩; have M4 := zm1 ((M.out.step (below_alloc (Below.refl _ _) (.cells #[.int .i64 a3_0, .int .i64 a3_1] 53 (0, 0)))).step hb4); have hx0 : w4.cell? ⟨wr.heap.size, 0, none⟩ = some (.int .i64 a3_0) := (blk_cell (blk_below (blk_new wr (.cells #[.int .i64 a3_0, .int .i64 a3_1] 53 (0, 0))) hb4) 0).trans rfl; have hx1 : w4.cell? ⟨wr.heap.size, 1, none⟩ = some (.int .i64 a3_1) := (blk_cell (blk_below (blk_new wr (.cells #[.int .i64 a3_0, .int .i64 a3_1] 53 (0, 0))) hb4) 1).trans rfl; clear hb4))
       go_roundg 0
       case measure => omega
       case rel => exact ⟨2, E4, (by first | rfl | (simp; done) | (simp [*]; done)), ⟨by rw [HE.out]; exact M4.out⟩, ⟨.inr (.inr ⟨rfl, rfl, rfl⟩)⟩⟩
     ·obtain ⟨rfl, rfl, hxs⟩ := hI
      rw [hxs] at M
      clear hxs HI
      clear hq0 hq1 hq2 hq3 hb00 hb01 hb10 hb11
      obtain ⟨A, c, eA⟩ := Kd.R_slice M.out.r
      subst eA
      have hH := H.out
      clear H HA1 HA2 HA3 HA4 e1t e1f e2t e2f e3t e3f e4t e4f L0 L1 L2 L3
      by_cases q3 : E4.length = 0
      ·rw [if_pos q3] at hH
       obtain rfl := Option.some.inj hH
       have q3b : ((E4.length : Int) == 0) = true := beq_iff_eq.mpr (by omega)
       have q3c : (E4.length == 0) = true := beq_iff_eq.mpr q3
       clear q3 hH
       go_wp2
       go_ret
       exact ⟨rfl, by repeat (first | exact M.out.below | apply pw_below_drewN | apply below_drew1)⟩
      ·rw [if_neg q3] at hH
       have q3b : ((E4.length : Int) == 0) = false := beq_eq_false_iff_ne.mpr (by omega)
       have q3c : (E4.length == 0) = false := beq_eq_false_iff_ne.mpr q3
       have Q3 := zm1 q3
       have H := zm1 hH
       clear q3 hH
       go_upto_region 23 with (fail)
       refine spec_l02Meet.forget (I := fun W => Kd.C k53 W A E4.length E4 ∧ Below w.heap.size w W) ⟨by repeat (first | exact (Kd.R_reads' M.out.r).2.2 | (with_reducible refine Kd.C_alloc ?_ _) | (with_reducible refine Kd.C_drewN ?_ _) | (with_reducible refine Kd.C_drew ?_)), by repeat (first | exact M.out.below | apply pw_below_drewN | apply below_drew1)⟩ ?_
       rintro W10 ⟨hC_, hB_⟩
       have RC := zm1 hC_
       have BL := zm1 hB_
       clear hC_ hB_ M q3b q3c
       go_loopg [90] (E4.length + 1) (fun kq v90 w' => ∃ (i : Int), v90 = .int .i64 i ∧ Aside0 (0 ≤ i ∧ i + kq = E4.length + 1) ∧ Aside0 (∀ j : Nat, (j : Int) < i → ((rd_T53 E4 j).f0 == (rd_T53 E4 0).f0 && (rd_T53 E4 j).f1 == (rd_T53 E4 0).f1) = true) ∧ Aside0 (Below W10.heap.size W10 w'))
       case atStart => exact ⟨0, (by first | rfl | (simp; done) | (simp [*]; done)), ⟨by omega⟩, ⟨fun j hj => by omega⟩, ⟨Below.refl _ _⟩⟩
       case round =>
        obtain ⟨i, rfl, HI, HN, HW⟩ := hrel
        have hI := HI.out
        by_cases c5 : i < (E4.length : Int)
        ·have c5b0 : decide (i < (E4.length : Int)) = true := decide_eq_true c5
         have p9 : 0 ≤ i := hI.1
         obtain ⟨ad, e, hx0, hx1⟩ := at_T53 (Kd.C_below RC.out HW.out) i p9 c5
         cases e
         obtain ⟨ad2, e, hh0, hh1⟩ := at_T53 (Kd.C_below RC.out HW.out) 0 (by omega) (by have := Q3.out; omega)
         cases e
         obtain ⟨q0, hq0⟩ : ∃ q, q = (rd_T53 E4 i).f0 := ⟨_, rfl⟩
         obtain ⟨q1, hq1⟩ : ∃ q, q = (rd_T53 E4 i).f1 := ⟨_, rfl⟩
         obtain ⟨h0, hh0_⟩ : ∃ q, q = (rd_T53 E4 0).f0 := ⟨_, rfl⟩
         obtain ⟨h1, hh1_⟩ : ∃ q, q = (rd_T53 E4 0).f1 := ⟨_, rfl⟩
         rw [← hq0] at hx0
         rw [← hq1] at hx1
         rw [← hh0_] at hh0
         rw [← hh1_] at hh1
         have Q0 := zm1 hq0
         have Q1 := zm1 hq1
         have H0 := zm1 hh0_
         have H1 := zm1 hh1_
         clear hq0 hq1 hh0_ hh1_
         have hlen0 : (0 : Int) < (E4.length : Int) := by have := Q3.out; omega
         have hlenN : 0 < E4.length := by have := Q3.out; omega
         go_upto_region 25 with (fail)
         have hh0' : wr.cell? ad = some (.int .i64 h0) := by simpa [Addr.add] using hh0
         have hh1' : wr.cell? ⟨ad.block, ad.off + 1, none⟩ = some (.int .i64 h1) := by simpa [Addr.add] using hh1
         refine spec_l02Meet.forget (I := fun W => (W.cell? ⟨wr.heap.size, 0, none⟩ = some (.int .i64 q0) ∧ W.cell? ⟨wr.heap.size, 1, none⟩ = some (.int .i64 q1)) ∧ (W.cell? ad = some (.int .i64 h0) ∧ W.cell? ⟨ad.block, ad.off + 1, none⟩ = some (.int .i64 h1)) ∧ Below wr.heap.size wr W) ⟨⟨(blk_cell (blk_new wr (.cells #[.int .i64 q0, .int .i64 q1] 53 (0, 0))) 0).trans rfl, (blk_cell (blk_new wr (.cells #[.int .i64 q0, .int .i64 q1] 53 (0, 0))) 1).trans rfl⟩, ⟨((below_alloc (Below.refl _ _) _ : Below wr.heap.size wr (wr.alloc (.cells #[.int .i64 q0, .int .i64 q1] 53 (0, 0)))).cell (zl hh0')).trans hh0', ((below_alloc (Below.refl _ _) _ : Below wr.heap.size wr (wr.alloc (.cells #[.int .i64 q0, .int .i64 q1] 53 (0, 0)))).cell (zl hh1')).trans hh1'⟩, below_alloc (Below.refl _ _) _⟩ ?_
         clear hx0 hx1 hh0 hh1 hh0' hh1'
         rintro W11 ⟨⟨hx0, hx1⟩, ⟨hy0, hy1⟩, hWB⟩
         have HWB := zm1 hWB
         clear hWB hI
         generalize wr.heap.size = gx at hx0 hx1 ⊢
         cases e0 : (q0 == h0) with
         | false =>
          have f0 : (q0 != h0) = true := by simp [bne, e0]
          go_region_held3 (fun w' => w'.cell? ⟨gx, 0, none⟩ = some (.int .i64 q0) ∧ w'.cell? ⟨gx, 1, none⟩ = some (.int .i64 q1) ∧ w'.cell? ad = some (.int .i64 h0) ∧ w'.cell? ⟨ad.block, ad.off + 1, none⟩ = some (.int .i64 h1)) (go_keep) (fail)
          go_wp2
          go_ret
          refine ⟨?_, below_step BL.out (below_step HW.out (by repeat (first | exact HWB.out | apply pw_below_drewN | apply below_drew1)))⟩
          have e : spec_l02Meet.far E4 = true := by
           unfold spec_l02Meet.far
           rw [List.any_eq_true]
           have h1' := HI.out
           have h2' : i.toNat < E4.length := by omega
           refine ⟨rd_T53 E4 i, ?_, by rw [← Q0.out, ← Q1.out, ← H0.out, ← H1.out, e0]; rfl⟩
           unfold rd_T53
           rw [List.getD_eq_getElem?_getD, List.getElem?_eq_getElem h2']
           exact List.getElem_mem h2'
          have hH := H.out
          rw [if_pos e] at hH
          rw [Option.some.inj hH]
          rfl
         | true =>
          cases e1 : (q1 == h1) with
          | false =>
           have f0 : (q0 != h0) = false := by simp [bne, e0]
           have f1 : (q1 != h1) = true := by simp [bne, e1]
           go_region_held3 (fun w' => w'.cell? ⟨gx, 0, none⟩ = some (.int .i64 q0) ∧ w'.cell? ⟨gx, 1, none⟩ = some (.int .i64 q1) ∧ w'.cell? ad = some (.int .i64 h0) ∧ w'.cell? ⟨ad.block, ad.off + 1, none⟩ = some (.int .i64 h1)) (go_keep) (fail)
           go_wp2
           go_ret
           refine ⟨?_, below_step BL.out (below_step HW.out (by repeat (first | exact HWB.out | apply pw_below_drewN | apply below_drew1)))⟩
           have e : spec_l02Meet.far E4 = true := by
            unfold spec_l02Meet.far
            rw [List.any_eq_true]
            have h1' := HI.out
            have h2' : i.toNat < E4.length := by omega
            refine ⟨rd_T53 E4 i, ?_, by rw [← Q0.out, ← Q1.out, ← H0.out, ← H1.out, e0, e1]; rfl⟩
            unfold rd_T53
            rw [List.getD_eq_getElem?_getD, List.getElem?_eq_getElem h2']
            exact List.getElem_mem h2'
           have hH := H.out
           rw [if_pos e] at hH
           rw [Option.some.inj hH]
           rfl
          | true =>
           have f0 : (q0 != h0) = false := by simp [bne, e0]
           have f1 : (q1 != h1) = false := by simp [bne, e1]
           go_region_held3 (fun w' => w'.cell? ⟨gx, 0, none⟩ = some (.int .i64 q0) ∧ w'.cell? ⟨gx, 1, none⟩ = some (.int .i64 q1) ∧ w'.cell? ad = some (.int .i64 h0) ∧ w'.cell? ⟨ad.block, ad.off + 1, none⟩ = some (.int .i64 h1)) (go_keep) (fail)
           have E0 := zm1 e0
           have E1_ := zm1 e1
           go_wp2
           go_roundg (E4.length - i.toNat)
           case measure => have := HI.out; omega
           case rel => exact ⟨i + 1, (by have := HI.out; have := L4.out; rw [show wrap64 (i + 1) = i + 1 by unfold wrap64; omega]), ⟨by have := HI.out; omega⟩, ⟨fun j hj => by
            by_cases e : (j : Int) = i
            ·rw [e, ← Q0.out, ← Q1.out, ← H0.out, ← H1.out, E0.out, E1_.out]; rfl
            ·exact HN.out j (by omega)⟩, ⟨below_step HW.out (by repeat (first | exact HWB.out | apply pw_below_drewN | apply below_drew1))⟩⟩
        ·have c5b0 : decide (i < (E4.length : Int)) = false := decide_eq_false c5
         clear hI
         go_wp2
         go_ret
         refine ⟨?_, below_step BL.out (by repeat (first | exact HW.out | apply pw_below_drewN | apply below_drew1))⟩
         have e : ¬ spec_l02Meet.far E4 = true := by
          unfold spec_l02Meet.far
          rw [List.any_eq_true]
          rintro ⟨q, hq, h2⟩
          obtain ⟨j, hj, rfl⟩ := List.getElem_of_mem hq
          have h3 := HN.out j (by omega)
          have h4 : rd_T53 E4 (j : Int) = E4[j] := by
           unfold rd_T53
           rw [show ((j : Nat) : Int).toNat = j from rfl, List.getD_eq_getElem?_getD, List.getElem?_eq_getElem hj]
           rfl
          rw [h4] at h3
          rw [h3] at h2
          cases h2
         have hH := H.out
         rw [if_neg e] at hH
         rw [Option.some.inj hH]
         rfl
end

end Go.Proofs.YtelhjgkjnlcomaaDoor.QFnExactMeasureLine
