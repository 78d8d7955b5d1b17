-- Printed for this claim by a changed copy of the kit's print (the session's own; own contracts in place of some functions).
import Derived.Test.YtelhjgkjnlcomaaDoorQFnExactMeasureLinex0
import Derived.Test.YtelhjgkjnlcomaaDoorQFnExactMeasureLinex1
import Derived.Test.YtelhjgkjnlcomaaDoorQFnExactMeasureLinex9
namespace Go.Proofs.YtelhjgkjnlcomaaDoor.QFnExactMeasureLine
open Go.RowKit Go.Proofs.YtelhjgkjnlcomaaDoorW.PrintWords Go.Proofs.YtelhjgkjnlcomaaDoorW.PrintLast Go.Proofs.YtelhjgkjnlcomaaDoorW.PrintMore
attribute [local go_sem] max2_int min2_int max_two min_two max_three min_three max_four min_four   -- for this text's walks alone
set_option linter.unusedVariables false
set_option linter.unusedSimpArgs false

/-! ### impl_meet: function 72 -/
--import Derived.WalkSpells
def impl_meet.has (xs : List (S53)) (p0 p1 : Int) : Bool := xs.any (fun q => p0 == q.f0 && p1 == q.f1)
def impl_meet.addp (xs : List (S53)) (p0 p1 : Int) : List (S53) := if impl_meet.has xs p0 p1 = true then xs else xs ++ [⟨p0, p1⟩]
def impl_meet.addif (t : Bool) (xs : List (S53)) (p0 p1 : Int) : List (S53) := if t = true then impl_meet.addp xs p0 p1 else xs
theorem impl_meet.addp_len (xs : List (S53)) (p0 p1 : Int) : (impl_meet.addp xs p0 p1).length ≤ xs.length + 1 := by
 unfold impl_meet.addp
 split <;> simp
theorem impl_meet.addif_len (t : Bool) (xs : List (S53)) (p0 p1 : Int) : (impl_meet.addif t xs p0 p1).length ≤ xs.length + 1 := by
 unfold impl_meet.addif
 have := impl_meet.addp_len xs p0 p1
 split <;> omega
structure impl_meet.ESt (w0 w : World) (ge : Nat) (P : Nat → Prop) (xs : List (S53)) : Prop where
 ke : ∃ A c, w.heap[ge]? = some (.cells #[.slice A xs.length c] 36 (0, 0)) ∧ Kd.R k53 53 w w0.heap.size (fun k => P k ∧ k ≠ ge) (.slice A xs.length c) xs
 below : Below w0.heap.size w0 w
 hge : w0.heap.size ≤ ge
theorem impl_meet.ESt.step {w0 w w1 : World} {ge : Nat} {P : Nat → Prop} {xs : List (S53)} (h : impl_meet.ESt w0 w ge P xs) (hb : Below w.heap.size w w1) : impl_meet.ESt w0 w1 ge P xs := by
 obtain ⟨⟨A, c, he, hR⟩, h1, h2⟩ := h
 exact ⟨⟨A, c, blk_below he hb, Kd.R_below hR hb⟩, below_step h1 hb, h2⟩
section
attribute [local go_sem high] eqA53
set_option maxHeartbeats 8000000 in
set_option maxRecDepth 100000 in
theorem impl_meet.add_calls (w0 w : World) (ge : Nat) (P : Nat → Prop) (xs : List (S53)) (p0 p1 : Int) (h : impl_meet.ESt w0 w ge P xs) (hP : ∀ k, w.heap.size ≤ k → P k) (hl : xs.length ≤ 10) :
  Calls Tryd.prog 99 #[.agg #[.int .i64 p0, .int .i64 p1], .pointer (some ⟨ge, 0, none⟩)] w fun e w' => e = .returned (.tuple #[]) ∧ impl_meet.ESt w0 w' ge P (impl_meet.addp xs p0 p1) ∧ (∀ k, k < w.heap.size → ¬ P k → k ≠ ge → w'.heap[k]? = w.heap[k]?) := by
 have hu53 := Tryd.underlying53
 obtain ⟨⟨A, c, he, hR⟩, hB, hge⟩ := h
 have hz : w.cell? ⟨ge, 0, none⟩ = some (.slice A xs.length c) := (blk_cell he 0).trans rfl
 have hlt := blk_lt he
 have HE := zm1 he
 have HR := zm1 hR
 have HB := zm1 hB
 have HP := zm1 hP
 have HG := zm1 hge
 have HL := zm1 hl
 clear he hR hB hP hge hl
 go_enter Tryd.func99, Tryd.ntmps99
 have hpb := blk_new w (.cells #[.int .i64 p0, .int .i64 p1] 53 (0, 0))
 have BK0 := zm1 hpb
 clear hpb
 go_wp2
 go_loopg [7] (xs.length + 1) (fun kq v7 w' => ∃ (i : Int), v7 = .int .i64 i ∧ Aside0 (0 ≤ i ∧ i + kq = xs.length + 1) ∧ Aside0 (∀ j : Nat, (j : Int) < i → (p0 == (rd_T53 xs j).f0 && p1 == (rd_T53 xs j).f1) = false) ∧ Aside0 (w'.heap[w.heap.size]? = some (.cells #[.int .i64 p0, .int .i64 p1] 53 (0, 0))) ∧ Aside0 (Below w.heap.size w w'))
 case atStart => exact ⟨0, (by first | rfl | (simp; done) | (simp [*]; done)), ⟨by omega⟩, ⟨fun j hj => by omega⟩, ⟨BK0.out⟩, ⟨below_alloc (Below.refl _ _) _⟩⟩
 case round =>
  clear BK0
  obtain ⟨i, rfl, HI, HN, BK, HW⟩ := hrel
  have hz := (HW.out.cell (zl hz)).trans hz
  have hy0 : ∀ o, (wr.alloc o).cell? ⟨w.heap.size, 0, none⟩ = some (.int .i64 p0) := fun o => (blk_cell (blk_alloc BK.out o) 0).trans rfl
  have hy1 : ∀ o, (wr.alloc o).cell? ⟨w.heap.size, 1, none⟩ = some (.int .i64 p1) := fun o => (blk_cell (blk_alloc BK.out o) 1).trans rfl
  have hI := HI.out
  by_cases c5 : i < (xs.length : Int)
  ·have c5b0 : decide (i < (xs.length : Int)) = true := decide_eq_true c5
   have p9 : 0 ≤ i := hI.1
   obtain ⟨ad, e, hx0, hx1⟩ := at_T53 (Kd.C_below (Kd.R_reads' HR.out).2.2 HW.out) i p9 c5
   cases e
   obtain ⟨q0, hq0⟩ : ∃ q, q = (rd_T53 xs i).f0 := ⟨_, rfl⟩
   obtain ⟨q1, hq1⟩ : ∃ q, q = (rd_T53 xs i).f1 := ⟨_, rfl⟩
   rw [← hq0] at hx0
   rw [← hq1] at hx1
   have Q0 := zm1 hq0
   have Q1 := zm1 hq1
   clear hq0 hq1
   cases ceq : (p0 == q0 && p1 == q1) with
   | true =>
    have CE := zm1 ceq
    replace p9 := eq_true p9
    replace c5 := eq_true c5
    clear hI
    go_wp2
    refine bodyPost_ret (results_none rfl _ _ _) rfl ?_
    refine ⟨rfl, ?_, fun k hk _ _ => ((Below.refl wr.heap.size wr).alloc (Nat.le_refl _) _ |>.block k (by have := HW.out.size; omega)).trans (HW.out.block k hk)⟩
    have e : impl_meet.addp xs p0 p1 = xs := by
     unfold impl_meet.addp impl_meet.has
     rw [if_pos]
     rw [List.any_eq_true]
     refine ⟨rd_T53 xs i, ?_, by rw [← Q0.out, ← Q1.out]; exact CE.out⟩
     have h1 := HI.out
     have h2 : i.toNat < xs.length := by have := of_eq_true c5; omega
     unfold rd_T53
     rw [List.getD_eq_getElem?_getD, List.getElem?_eq_getElem h2]
     exact List.getElem_mem h2
    rw [e]
    exact (impl_meet.ESt.mk (w := w) ⟨_, c, HE.out, HR.out⟩ HB.out HG.out).step (below_step HW.out (below_alloc (Below.refl _ _) _))
   | false =>
    have CE := zm1 ceq
    replace p9 := eq_true p9
    replace c5 := eq_true c5
    clear hI
    go_wp2
    go_roundg (xs.length - i.toNat)
    case measure => have := HI.out; have := of_eq_true c5; omega
    case rel => exact ⟨i + 1, (by have := HI.out; have := HL.out; have := of_eq_true c5; rw [show wrap64 (i + 1) = i + 1 by unfold wrap64; omega]), ⟨by have := HI.out; have := of_eq_true c5; omega⟩, ⟨fun j hj => by
     by_cases e : (j : Int) = i
     ·rw [e, ← Q0.out, ← Q1.out]; exact CE.out
     ·exact HN.out j (by omega)⟩, ⟨blk_alloc BK.out _⟩, ⟨below_step HW.out (below_alloc (Below.refl _ _) _)⟩⟩
  ·have c5b0 : decide (i < (xs.length : Int)) = false := decide_eq_false c5
   have hx0 : wr.cell? ⟨w.heap.size, 0, none⟩ = some (.int .i64 p0) := (blk_cell BK.out 0).trans rfl
   have hx1 : wr.cell? ⟨w.heap.size, 1, none⟩ = some (.int .i64 p1) := (blk_cell BK.out 1).trans rfl
   have hge : wr.frozen? ⟨ge, 0, none⟩ = false := by rw [HW.out.frozen (zl (by assumption))]; exact blk_frozen HE.out 0
   have RW := zm1 (Kd.R_below HR.out HW.out)
   have SW := zm1 (HW.out.size)
   clear hI hy0 hy1
   go_wp2_with (first | ((with_reducible refine gate_builtin (b := .append) (xs := #[.tmp 15, .tmp 17]) rfl ?_); at_builtin; refine Kd.R_append k53 (w0 := w0) w0.heap.size rfl (.tmp 15) (.tmp 17) 36 53 (.agg #[(.int .i64 0), (.int .i64 0)]) 16 rfl Tryd.underlying36 info53 rfl (by decide) (by omega) (.slice A xs.length c) xs (⟨p0, p1⟩ : S53) [.int .i64 p0, .int .i64 p1] (fun k => P k ∧ k ≠ ge) (fun _ => False) rfl rfl ?aP (fun _ hk => hk.elim) ?aF ?aO ?aB ?aS ?aL ?_; (case aP => exact k53_mkM _ _ _ (⟨p0, p1⟩ : S53)); (case aF => exact fun k hk => ⟨HP.out k (by have := SW.out; omega), by have := SW.out; omega⟩); (case aO => exact RW.out); (case aB => exact below_step HB.out HW.out); (case aS => have := HB.out.size; have := SW.out; omega); (case aL => have := HL.out; omega); intro v1 w1 ho hb hg hat; obtain ⟨A1, c1, e1⟩ := Kd.R_slice ho; subst e1; have hk1 : w1.heap[ge]? = wr.heap[ge]? := hg.block ge (by have := SW.out; omega) (fun e => (RW.out.1 ge e.symm).2 rfl); have BK1 := zm1 (hk1.trans ((HW.out.block ge hlt).trans HE.out)); have hz1 : w1.cell? ⟨ge, 0, none⟩ = some (.slice A xs.length c) := (blk_cell BK1.out 0).trans rfl; have hf1 := blk_frozen BK1.out 0; have HO1 := zm1 ho; have HB1 := zm1 hb; have HG1 := zm1 hg; clear ho hb hg hat hk1))
   go_end0
   have e : impl_meet.addp xs p0 p1 = xs ++ [⟨p0, p1⟩] := by
    unfold impl_meet.addp impl_meet.has
    rw [if_neg]
    rw [List.any_eq_true]
    rintro ⟨q, hq, h2⟩
    obtain ⟨j, hj, rfl⟩ := List.getElem_of_mem hq
    have h3 := HN.out j (by omega)
    unfold rd_T53 at h3
    rw [show ((j : Nat) : Int).toNat = j from rfl, List.getD_eq_getElem?_getD, List.getElem?_eq_getElem hj] at h3
    rw [Option.getD_some] at h3
    rw [h3] at h2
    cases h2
   refine ⟨rfl, ⟨⟨A1, c1, ?_, ?_⟩, HB1.out.setCell HG.out _, HG.out⟩, fun k hk hp hne => ?_⟩
   ·rw [e, List.length_append]
    exact blk_put BK1.out 0 _ rfl
   ·rw [e]
    have := HO1.out
    rw [List.length_append] at this ⊢
    exact Kd.R_far this (fun k hk => hk.2) _
   ·rw [Below.heap_setCell _ _ _ _ hne, HG1.out.block k (by have := SW.out; omega) (fun e => hp (RW.out.1 k e.symm).1)]
    exact HW.out.block k hk
structure impl_meet.Bx (w : World) (g0 g1 g2 g3 g4 : Nat) (o4 : Obj) (a0 a1 b0 b1 c0 c1 d0 d1 : Int) : Prop where
 k0 : w.heap[g0]? = some (.cells #[.int .i64 a0, .int .i64 a1] 53 (0, 0))
 k1 : w.heap[g1]? = some (.cells #[.int .i64 b0, .int .i64 b1] 53 (0, 0))
 k2 : w.heap[g2]? = some (.cells #[.int .i64 c0, .int .i64 c1] 53 (0, 0))
 k3 : w.heap[g3]? = some (.cells #[.int .i64 d0, .int .i64 d1] 53 (0, 0))
 k4 : w.heap[g4]? = some o4
theorem impl_meet.Bx.step {w w1 : World} {g0 g1 g2 g3 g4 : Nat} {o4 : Obj} {a0 a1 b0 b1 c0 c1 d0 d1 : Int} (h : impl_meet.Bx w g0 g1 g2 g3 g4 o4 a0 a1 b0 b1 c0 c1 d0 d1) (hb : Below w.heap.size w w1) : impl_meet.Bx w1 g0 g1 g2 g3 g4 o4 a0 a1 b0 b1 c0 c1 d0 d1 :=
 ⟨blk_below h.k0 hb, blk_below h.k1 hb, blk_below h.k2 hb, blk_below h.k3 hb, blk_below h.k4 hb⟩
theorem impl_meet.Bx.made (w : World) (a0 a1 b0 b1 c0 c1 d0 d1 : Int) : impl_meet.Bx ((((w.alloc (.cells #[.int .i64 a0, .int .i64 a1] 53 (0, 0))).alloc (.cells #[.int .i64 b0, .int .i64 b1] 53 (0, 0))).alloc (.cells #[.int .i64 c0, .int .i64 c1] 53 (0, 0))).alloc (.cells #[.int .i64 d0, .int .i64 d1] 53 (0, 0)))
  w.heap.size (w.heap.size + 1) (w.heap.size + 1 + 1) (w.heap.size + 1 + 1 + 1) w.heap.size (.cells #[.int .i64 a0, .int .i64 a1] 53 (0, 0)) a0 a1 b0 b1 c0 c1 d0 d1 := by
 refine ⟨blk_alloc (blk_alloc (blk_alloc (blk_new _ _) _) _) _, blk_alloc (blk_alloc ?_ _) _, blk_alloc ?_ _, ?_, blk_alloc (blk_alloc (blk_alloc (blk_new _ _) _) _) _⟩
 ·have := blk_new (w.alloc (.cells #[.int .i64 a0, .int .i64 a1] 53 (0, 0))) (.cells #[.int .i64 b0, .int .i64 b1] 53 (0, 0))
  simpa using this
 ·have := blk_new ((w.alloc (.cells #[.int .i64 a0, .int .i64 a1] 53 (0, 0))).alloc (.cells #[.int .i64 b0, .int .i64 b1] 53 (0, 0))) (.cells #[.int .i64 c0, .int .i64 c1] 53 (0, 0))
  simpa using this
 ·have := blk_new (((w.alloc (.cells #[.int .i64 a0, .int .i64 a1] 53 (0, 0))).alloc (.cells #[.int .i64 b0, .int .i64 b1] 53 (0, 0))).alloc (.cells #[.int .i64 c0, .int .i64 c1] 53 (0, 0))) (.cells #[.int .i64 d0, .int .i64 d1] 53 (0, 0))
  simpa using this
def impl_meet.NotB (g0 g1 g2 g3 g4 : Nat) : Nat → Prop := fun k => k ≠ g0 ∧ k ≠ g1 ∧ k ≠ g2 ∧ k ≠ g3 ∧ k ≠ g4
structure impl_meet.MSt (w0 w : World) (g0 g1 g2 g3 g4 ge : Nat) (o4 : Obj) (a0 a1 b0 b1 c0 c1 d0 d1 : Int) (xs : List (S53)) : Prop where
 b : impl_meet.Bx w g0 g1 g2 g3 g4 o4 a0 a1 b0 b1 c0 c1 d0 d1
 e : impl_meet.ESt w0 w ge (impl_meet.NotB g0 g1 g2 g3 g4) xs
 n : impl_meet.NotB g0 g1 g2 g3 g4 ge
section
variable {w0 w w1 : World} {g0 g1 g2 g3 g4 ge : Nat} {o4 : Obj} {a0 a1 b0 b1 c0 c1 d0 d1 : Int} {xs ys : List (S53)}
theorem impl_meet.MSt.step (h : impl_meet.MSt w0 w g0 g1 g2 g3 g4 ge o4 a0 a1 b0 b1 c0 c1 d0 d1 xs) (hb : Below w.heap.size w w1) : impl_meet.MSt w0 w1 g0 g1 g2 g3 g4 ge o4 a0 a1 b0 b1 c0 c1 d0 d1 xs := ⟨h.b.step hb, h.e.step hb, h.n⟩
theorem impl_meet.MSt.add (h : impl_meet.MSt w0 w g0 g1 g2 g3 g4 ge o4 a0 a1 b0 b1 c0 c1 d0 d1 xs) (he : impl_meet.ESt w0 w1 ge (impl_meet.NotB g0 g1 g2 g3 g4) ys) (hf : ∀ k, k < w.heap.size → ¬ impl_meet.NotB g0 g1 g2 g3 g4 k → k ≠ ge → w1.heap[k]? = w.heap[k]?) : impl_meet.MSt w0 w1 g0 g1 g2 g3 g4 ge o4 a0 a1 b0 b1 c0 c1 d0 d1 ys := by
 obtain ⟨⟨k0, k1, k2, k3, k4⟩, e, n⟩ := h
 refine ⟨⟨(hf _ (blk_lt k0) (fun h => h.1 rfl) (fun h => n.1 h.symm)).trans k0, (hf _ (blk_lt k1) (fun h => h.2.1 rfl) (fun h => n.2.1 h.symm)).trans k1, (hf _ (blk_lt k2) (fun h => h.2.2.1 rfl) (fun h => n.2.2.1 h.symm)).trans k2, (hf _ (blk_lt k3) (fun h => h.2.2.2.1 rfl) (fun h => n.2.2.2.1 h.symm)).trans k3, (hf _ (blk_lt k4) (fun h => h.2.2.2.2 rfl) (fun h => n.2.2.2.2 h.symm)).trans k4⟩, he, n⟩
theorem impl_meet.MSt.fresh (h : impl_meet.MSt w0 w g0 g1 g2 g3 g4 ge o4 a0 a1 b0 b1 c0 c1 d0 d1 xs) : ∀ k, w.heap.size ≤ k → impl_meet.NotB g0 g1 g2 g3 g4 k := fun k hk => by
 have h0 := blk_lt h.b.k0
 have h1 := blk_lt h.b.k1
 have h2 := blk_lt h.b.k2
 have h3 := blk_lt h.b.k3
 have h4 := blk_lt h.b.k4
 exact ⟨by omega, by omega, by omega, by omega, by omega⟩
theorem impl_meet.MSt.lit (h : impl_meet.MSt w0 w g0 g1 g2 g3 g4 ge o4 a0 a1 b0 b1 c0 c1 d0 d1 xs) (o : Obj) : impl_meet.MSt w0 (w.alloc o) g0 g1 g2 g3 w.heap.size ge o a0 a1 b0 b1 c0 c1 d0 d1 xs := by
 obtain ⟨⟨k0, k1, k2, k3, k4⟩, ⟨⟨A, c, he, hR⟩, hB, hge⟩, n⟩ := h
 have hl := blk_lt he
 refine ⟨⟨blk_alloc k0 _, blk_alloc k1 _, blk_alloc k2 _, blk_alloc k3 _, blk_new _ _⟩, ⟨⟨A, c, blk_alloc he _, ?_⟩, below_alloc hB _, hge⟩, ⟨n.1, n.2.1, n.2.2.1, n.2.2.2.1, by omega⟩⟩
 exact Kd.R_alloc (Kd.R_mono (Kd.R_elderB hR w.heap.size (Nat.le_refl _)) (fun k hk => ⟨⟨hk.1.1.1, hk.1.1.2.1, hk.1.1.2.2.1, hk.1.1.2.2.2.1, hk.2⟩, hk.1.2⟩)) _
theorem impl_meet.MSt.z0 (h : impl_meet.MSt w0 w g0 g1 g2 g3 g4 ge o4 a0 a1 b0 b1 c0 c1 d0 d1 xs) : w.cell? ⟨g0, 0, none⟩ = some (.int .i64 a0) ∧ w.cell? ⟨g0, 1, none⟩ = some (.int .i64 a1) := ⟨(blk_cell h.b.k0 0).trans rfl, (blk_cell h.b.k0 1).trans rfl⟩
theorem impl_meet.MSt.z1 (h : impl_meet.MSt w0 w g0 g1 g2 g3 g4 ge o4 a0 a1 b0 b1 c0 c1 d0 d1 xs) : w.cell? ⟨g1, 0, none⟩ = some (.int .i64 b0) ∧ w.cell? ⟨g1, 1, none⟩ = some (.int .i64 b1) := ⟨(blk_cell h.b.k1 0).trans rfl, (blk_cell h.b.k1 1).trans rfl⟩
theorem impl_meet.MSt.z2 (h : impl_meet.MSt w0 w g0 g1 g2 g3 g4 ge o4 a0 a1 b0 b1 c0 c1 d0 d1 xs) : w.cell? ⟨g2, 0, none⟩ = some (.int .i64 c0) ∧ w.cell? ⟨g2, 1, none⟩ = some (.int .i64 c1) := ⟨(blk_cell h.b.k2 0).trans rfl, (blk_cell h.b.k2 1).trans rfl⟩
theorem impl_meet.MSt.z3 (h : impl_meet.MSt w0 w g0 g1 g2 g3 g4 ge o4 a0 a1 b0 b1 c0 c1 d0 d1 xs) : w.cell? ⟨g3, 0, none⟩ = some (.int .i64 d0) ∧ w.cell? ⟨g3, 1, none⟩ = some (.int .i64 d1) := ⟨(blk_cell h.b.k3 0).trans rfl, (blk_cell h.b.k3 1).trans rfl⟩
theorem impl_meet.MSt.z4 {e0 e1 e2 e3 : Int} (h : impl_meet.MSt w0 w g0 g1 g2 g3 g4 ge (.cells #[.int .i64 e0, .int .i64 e1, .int .i64 e2, .int .i64 e3] 53 (0, 0)) a0 a1 b0 b1 c0 c1 d0 d1 xs) : w.cell? ⟨g4, 0, none⟩ = some (.int .i64 e0) ∧ w.cell? ⟨g4, 1, none⟩ = some (.int .i64 e1) ∧ w.cell? ⟨g4, 2, none⟩ = some (.int .i64 e2) ∧ w.cell? ⟨g4, 3, none⟩ = some (.int .i64 e3) :=
 ⟨(blk_cell h.b.k4 0).trans rfl, (blk_cell h.b.k4 1).trans rfl, (blk_cell h.b.k4 2).trans rfl, (blk_cell h.b.k4 3).trans rfl⟩
end
theorem impl_meet.keepS {w0 w : World} {g0 g1 g2 g3 g4 ge : Nat} {o4 : Obj} {a0 a1 b0 b1 c0 c1 d0 d1 : Int} {xs : List (S53)} (h : impl_meet.MSt w0 w g0 g1 g2 g3 g4 ge o4 a0 a1 b0 b1 c0 c1 d0 d1 xs) {w' : World} (hb : Below w.heap.size w w') :
  Below w.heap.size w w' ∧ w'.cell? ⟨g0, 0, none⟩ = some (.int .i64 a0) ∧ w'.cell? ⟨g0, 1, none⟩ = some (.int .i64 a1) ∧ w'.cell? ⟨g1, 0, none⟩ = some (.int .i64 b0) ∧ w'.cell? ⟨g1, 1, none⟩ = some (.int .i64 b1) ∧ w'.cell? ⟨g2, 0, none⟩ = some (.int .i64 c0) ∧ w'.cell? ⟨g2, 1, none⟩ = some (.int .i64 c1) ∧ w'.cell? ⟨g3, 0, none⟩ = some (.int .i64 d0) ∧ w'.cell? ⟨g3, 1, none⟩ = some (.int .i64 d1) :=
 ⟨hb, (h.step hb).z0.1, (h.step hb).z0.2, (h.step hb).z1.1, (h.step hb).z1.2, (h.step hb).z2.1, (h.step hb).z2.2, (h.step hb).z3.1, (h.step hb).z3.2⟩
theorem impl_meet.R_empty {W : World} {base : Nat} (hb : base ≤ W.heap.size) : Kd.R k53 53 (W.alloc (.cells #[] 53 (0, 0))) base (fun k => k = W.heap.size) (.slice (some ⟨W.heap.size, 0, none⟩) 0 0) ([] : List (S53)) := by
 refine ⟨fun k hk => by simpa [Value.ownBlock] using hk.symm, [], ?_, Reps.none _ _⟩
 have h2 := World.ownsRow_lit (base := base) (e := 53) (size := (k53).sz) W #[] 0 hb (by simp [maxLen]) (by simp)
 simpa using h2
theorem impl_meet.MSt.made {w W : World} {g0 g1 g2 g3 g4 : Nat} {o4 : Obj} {a0 a1 b0 b1 c0 c1 d0 d1 : Int} (h : impl_meet.Bx W g0 g1 g2 g3 g4 o4 a0 a1 b0 b1 c0 c1 d0 d1) (hb : Below w.heap.size w W) :
  impl_meet.MSt w ((W.alloc (.cells #[] 53 (0, 0))).alloc (.cells #[.slice (some ⟨W.heap.size, 0, none⟩) 0 0] 36 (0, 0))) g0 g1 g2 g3 g4 (W.heap.size + 1) o4 a0 a1 b0 b1 c0 c1 d0 d1 [] := by
 have h0 := blk_lt h.k0
 have h1 := blk_lt h.k1
 have h2 := blk_lt h.k2
 have h3 := blk_lt h.k3
 have h4 := blk_lt h.k4
 have hs := hb.size
 refine ⟨h.step (below_alloc (below_alloc (Below.refl _ _) _) _), ⟨⟨some ⟨W.heap.size, 0, none⟩, 0, ?_, ?_⟩, below_alloc (below_alloc hb _) _, by omega⟩, ⟨by omega, by omega, by omega, by omega, by omega⟩⟩
 ·have := blk_new (W.alloc (.cells #[] 53 (0, 0))) (.cells #[.slice (some ⟨W.heap.size, 0, none⟩) 0 0] 36 (0, 0))
  simpa using this
 ·exact Kd.R_alloc (Kd.R_mono (impl_meet.R_empty hs) (fun k hk => ⟨⟨by omega, by omega, by omega, by omega, by omega⟩, by omega⟩)) _
theorem impl_meet.forget {P : Program} {c : Code} {Q : Exit → Act → World → Prop} {a : Act} {I : World → Prop} {W0 : World} (h0 : I W0) (h : ∀ W : World, I W → Code.wp P c Q a W) : Code.wp P c Q a W0 := h W0 h0
def impl_meet.f (a0 a1 b0 b1 c0 c1 d0 d1 : Int) : Option Int :=
 (impl_isOn.f a0 a1 b0 b1 c0 c1).bind fun t1 => (impl_isOn.f a0 a1 b0 b1 d0 d1).bind fun t2 => (impl_isOn.f c0 c1 d0 d1 a0 a1).bind fun t3 => (impl_isOn.f c0 c1 d0 d1 b0 b1).bind fun t4 =>
  (if (impl_meet.addif t4 (impl_meet.addif t3 (impl_meet.addif t2 (impl_meet.addif t1 [] c0 c1) d0 d1) a0 a1) b0 b1).length > 1 then some 3
  else if (impl_meet.addif t4 (impl_meet.addif t3 (impl_meet.addif t2 (impl_meet.addif t1 [] c0 c1) d0 d1) a0 a1) b0 b1).length = 1 then some 1
  else (impl_cross.f a0 a1 b0 b1 c0 c1).bind fun u1 => (impl_sign.f u1).bind fun s1 => (impl_cross.f a0 a1 b0 b1 d0 d1).bind fun u2 => (impl_sign.f u2).bind fun s2 =>
   if wrap64 (s1 * s2) < 0 then (impl_cross.f c0 c1 d0 d1 a0 a1).bind fun u3 => (impl_sign.f u3).bind fun s3 => (impl_cross.f c0 c1 d0 d1 b0 b1).bind fun u4 => (impl_sign.f u4).bind fun s4 => (if wrap64 (s3 * s4) < 0 then some 2 else some 0)
   else some 0)
set_option maxHeartbeats 8000000 in
set_option maxRecDepth 100000 in
theorem impl_meet.calls (a0_0 a0_1 a1_0 a1_1 a2_0 a2_1 a3_0 a3_1 : Int) (r : Int) (w : World) (h : impl_meet.f a0_0 a0_1 a1_0 a1_1 a2_0 a2_1 a3_0 a3_1 = some r) :
  Calls Tryd.prog 72 #[.agg #[.int .i64 a0_0, .int .i64 a0_1], .agg #[.int .i64 a1_0, .int .i64 a1_1], .agg #[.int .i64 a2_0, .int .i64 a2_1], .agg #[.int .i64 a3_0, .int .i64 a3_1]] w fun e w' => e = .returned (.int .i64 r) ∧ Below w.heap.size w w' := by
 have hu53 := Tryd.underlying53
 unfold impl_meet.f at h
 rw [Option.bind_eq_some_iff] at h
 obtain ⟨t1, A1, h⟩ := h
 rw [Option.bind_eq_some_iff] at h
 obtain ⟨t2, A2, h⟩ := h
 rw [Option.bind_eq_some_iff] at h
 obtain ⟨t3, A3, h⟩ := h
 rw [Option.bind_eq_some_iff] at h
 obtain ⟨t4, A4, h⟩ := h
 have HA1 := zm1 A1
 have HA2 := zm1 A2
 have HA3 := zm1 A3
 have HA4 := zm1 A4
 have H := zm1 h
 clear A1 A2 A3 A4 h
 have hmf : ∀ (fn : Fn) (first cap : Array Value) (w : World), (Instr.makeFunc fn first cap).run Tryd.prog w = .ok (.func fn first cap) w := fun _ _ _ _ => rfl
 go_enter Tryd.func72, Tryd.ntmps72
 go_upto_region 1 with (fail)
 refine impl_meet.forget (I := fun W => impl_meet.Bx W w.heap.size (w.heap.size + 1) (w.heap.size + 1 + 1) (w.heap.size + 1 + 1 + 1) w.heap.size (.cells #[.int .i64 a0_0, .int .i64 a0_1] 53 (0, 0)) a0_0 a0_1 a1_0 a1_1 a2_0 a2_1 a3_0 a3_1 ∧ Below w.heap.size w W) ⟨impl_meet.Bx.made w _ _ _ _ _ _ _ _, below_alloc (below_alloc (below_alloc (below_alloc (Below.refl _ _) _) _) _) _⟩ ?_
 rintro W1 ⟨hb1, hB1⟩
 obtain ⟨g0, hg0⟩ : ∃ g, g = w.heap.size := ⟨_, rfl⟩
 obtain ⟨g1, hg1⟩ : ∃ g, g = w.heap.size + 1 := ⟨_, rfl⟩
 obtain ⟨g2, hg2⟩ : ∃ g, g = w.heap.size + 1 + 1 := ⟨_, rfl⟩
 obtain ⟨g3, hg3⟩ : ∃ g, g = w.heap.size + 1 + 1 + 1 := ⟨_, rfl⟩
 rw [← hg3, ← hg2, ← hg1, ← hg0] at hb1
 rw [← hg3, ← hg2, ← hg1, ← hg0]
 have HB1 := zm1 hB1
 have X1 := zm1 hb1
 clear hb1 hB1 hg0 hg1 hg2 hg3
 go_upto_region 3 with (fail)
 refine impl_meet.forget (I := fun W => impl_meet.MSt w W g0 g1 g2 g3 g0 (W1.heap.size + 1) _ a0_0 a0_1 a1_0 a1_1 a2_0 a2_1 a3_0 a3_1 []) (impl_meet.MSt.made X1.out HB1.out) ?_
 intro W2 hM2
 generalize W1.heap.size + 1 = ge at hM2 ⊢
 generalize W1.heap.size = gl
 clear X1 HB1
 obtain ⟨hy20, hy21⟩ := hM2.z2
 obtain ⟨hy30, hy31⟩ := hM2.z3
 have M2 := zm1 hM2
 clear hM2
 go_wp2
 clear hy20 hy21 hy30 hy31
 have M3 := zm1 (M2.out.lit (.cells #[.int .i64 a2_0, .int .i64 a2_1, .int .i64 a3_0, .int .i64 a3_1] 53 (0, 0)))
 clear M2
 generalize W2.heap.size = g4 at M3 ⊢
 obtain ⟨E1, hE1⟩ : ∃ E, E = impl_meet.addif t1 [] a2_0 a2_1 := ⟨_, rfl⟩
 obtain ⟨E2, hE2⟩ : ∃ E, E = impl_meet.addif t2 E1 a3_0 a3_1 := ⟨_, rfl⟩
 obtain ⟨E3, hE3⟩ : ∃ E, E = impl_meet.addif t3 E2 a0_0 a0_1 := ⟨_, rfl⟩
 obtain ⟨E4, hE4⟩ : ∃ E, E = impl_meet.addif t4 E3 a1_0 a1_1 := ⟨_, rfl⟩
 rw [← hE1, ← hE2, ← hE3, ← hE4] at H
 have e1t : t1 = true → E1 = impl_meet.addp [] a2_0 a2_1 := fun h => by rw [hE1, h]; rfl
 have e1f : t1 = false → E1 = [] := fun h => by rw [hE1, h]; rfl
 have e2t : t2 = true → E2 = impl_meet.addp E1 a3_0 a3_1 := fun h => by rw [hE2, h]; rfl
 have e2f : t2 = false → E2 = E1 := fun h => by rw [hE2, h]; rfl
 have e3t : t3 = true → E3 = impl_meet.addp E2 a0_0 a0_1 := fun h => by rw [hE3, h]; rfl
 have e3f : t3 = false → E3 = E2 := fun h => by rw [hE3, h]; rfl
 have e4t : t4 = true → E4 = impl_meet.addp E3 a1_0 a1_1 := fun h => by rw [hE4, h]; rfl
 have e4f : t4 = false → E4 = E3 := fun h => by rw [hE4, h]; rfl
 have hL1 : E1.length ≤ 1 := by rw [hE1]; exact impl_meet.addif_len _ _ _ _
 have hL2 : E2.length ≤ 2 := by rw [hE2]; have := impl_meet.addif_len t2 E1 a3_0 a3_1; omega
 have hL3 : E3.length ≤ 3 := by rw [hE3]; have := impl_meet.addif_len t3 E2 a0_0 a0_1; omega
 have hL4 : E4.length ≤ 4 := by rw [hE4]; have := impl_meet.addif_len t4 E3 a1_0 a1_1; omega
 have L1 := zm1 hL1
 have L2 := zm1 hL2
 have L3 := zm1 hL3
 have L4 := zm1 hL4
 clear hE1 hE2 hE3 hE4 hL1 hL2 hL3 hL4
 refine impl_meet.forget (I := fun W => impl_meet.MSt w W g0 g1 g2 g3 g4 ge (.cells #[.int .i64 a2_0, .int .i64 a2_1, .int .i64 a3_0, .int .i64 a3_1] 53 (0, 0)) a0_0 a0_1 a1_0 a1_1 a2_0 a2_1 a3_0 a3_1 []) M3.out ?_
 intro W3_ hM_
 have N3 := zm1 hM_
 clear hM_ M3
 go_loopg [21] 2 (fun kq v21 w' => ∃ (i : Int) (xs : List (S53)), v21 = .int .i64 i ∧ Aside0 (impl_meet.MSt w w' g0 g1 g2 g3 g4 ge (.cells #[.int .i64 a2_0, .int .i64 a2_1, .int .i64 a3_0, .int .i64 a3_1] 53 (0, 0)) a0_0 a0_1 a1_0 a1_1 a2_0 a2_1 a3_0 a3_1 xs) ∧ Aside0 ((i = 0 ∧ kq = 2 ∧ xs = []) ∨ (i = 1 ∧ kq = 1 ∧ xs = E1) ∨ (i = 2 ∧ kq = 0 ∧ xs = E2)))
 case atStart => exact ⟨0, [], (by first | rfl | (simp; done) | (simp [*]; done)), N3, ⟨.inl ⟨rfl, rfl, rfl⟩⟩⟩
 case round =>
  clear N3
  obtain ⟨i, xs, rfl, M, HI⟩ := hrel
  obtain ⟨hq0, hq1, hq2, hq3⟩ := M.out.z4
  have hb00 := fun o => (M.out.step (below_alloc (Below.refl _ _) o)).z0.1
  have hb01 := fun o => (M.out.step (below_alloc (Below.refl _ _) o)).z0.2
  have hb10 := fun o => (M.out.step (below_alloc (Below.refl _ _) o)).z1.1
  have hb11 := fun o => (M.out.step (below_alloc (Below.refl _ _) o)).z1.2
  rcases HI.out with hI | hI | hI
  ·obtain ⟨rfl, rfl, hxs⟩ := hI
   rw [hxs] at M
   clear hxs
   clear HI
   clear hq2 hq3
   cases ht : t1 with
   | true =>
    have A_ := zm1 (HA1.out)
    rw [ht] at A_
    have hE := e1t ht
    have HE := zm1 hE
    clear hE ht
    go_wp2_with (first | (go_at_call 100; (with_reducible refine (impl_isOn.calls _ _ _ _ _ _ true _ A_.out).mono ?_); rintro e w4 ⟨rfl, hb4⟩; have M4 := zm1 ((M.out.step (below_alloc (Below.refl _ _) (.cells #[.int .i64 a2_0, .int .i64 a2_1] 53 (0, 0)))).step hb4); have hx0 : w4.cell? ⟨wr.heap.size, 0, none⟩ = some (.int .i64 a2_0) := (blk_cell (blk_below (blk_new wr (.cells #[.int .i64 a2_0, .int .i64 a2_1] 53 (0, 0))) hb4) 0).trans rfl; have hx1 : w4.cell? ⟨wr.heap.size, 1, none⟩ = some (.int .i64 a2_1) := (blk_cell (blk_below (blk_new wr (.cells #[.int .i64 a2_0, .int .i64 a2_1] 53 (0, 0))) hb4) 1).trans rfl; clear hb4) | (go_at_call 99; (with_reducible refine (impl_meet.add_calls w _ ge _ _ a2_0 a2_1 M4.out.e M4.out.fresh (by simp)).mono ?_); rintro e w5 ⟨rfl, he5, hf5⟩; have M5 := zm1 (M4.out.add he5 hf5); clear he5 hf5))
    go_roundg 1
    case measure => omega
    case rel => exact ⟨1, E1, (by first | rfl | (simp; done) | (simp [*]; done)), ⟨by rw [HE.out]; exact M5.out⟩, ⟨.inr (.inl ⟨rfl, rfl, rfl⟩)⟩⟩
   | false =>
    have A_ := zm1 (HA1.out)
    rw [ht] at A_
    have hE := e1f ht
    have HE := zm1 hE
    clear hE ht
    go_wp2_with (first | (go_at_call 100; (with_reducible refine (impl_isOn.calls _ _ _ _ _ _ false _ A_.out).mono ?_); rintro e w4 ⟨rfl, hb4⟩; have M4 := zm1 ((M.out.step (below_alloc (Below.refl _ _) (.cells #[.int .i64 a2_0, .int .i64 a2_1] 53 (0, 0)))).step hb4); have hx0 : w4.cell? ⟨wr.heap.size, 0, none⟩ = some (.int .i64 a2_0) := (blk_cell (blk_below (blk_new wr (.cells #[.int .i64 a2_0, .int .i64 a2_1] 53 (0, 0))) hb4) 0).trans rfl; have hx1 : w4.cell? ⟨wr.heap.size, 1, none⟩ = some (.int .i64 a2_1) := (blk_cell (blk_below (blk_new wr (.cells #[.int .i64 a2_0, .int .i64 a2_1] 53 (0, 0))) hb4) 1).trans rfl; clear hb4))
    go_roundg 1
    case measure => omega
    case rel => exact ⟨1, E1, (by first | rfl | (simp; done) | (simp [*]; done)), ⟨by rw [HE.out]; exact M4.out⟩, ⟨.inr (.inl ⟨rfl, rfl, rfl⟩)⟩⟩
  ·obtain ⟨rfl, rfl, hxs⟩ := hI
   rw [hxs] at M
   clear hxs
   clear HI
   clear hq0 hq1
   cases ht : t2 with
   | true =>
    have A_ := zm1 (HA2.out)
    rw [ht] at A_
    have hE := e2t ht
    have HE := zm1 hE
    clear hE ht
    go_wp2_with (first | (go_at_call 100; (with_reducible refine (impl_isOn.calls _ _ _ _ _ _ true _ A_.out).mono ?_); rintro e w4 ⟨rfl, hb4⟩; have M4 := zm1 ((M.out.step (below_alloc (Below.refl _ _) (.cells #[.int .i64 a3_0, .int .i64 a3_1] 53 (0, 0)))).step hb4); have hx0 : w4.cell? ⟨wr.heap.size, 0, none⟩ = some (.int .i64 a3_0) := (blk_cell (blk_below (blk_new wr (.cells #[.int .i64 a3_0, .int .i64 a3_1] 53 (0, 0))) hb4) 0).trans rfl; have hx1 : w4.cell? ⟨wr.heap.size, 1, none⟩ = some (.int .i64 a3_1) := (blk_cell (blk_below (blk_new wr (.cells #[.int .i64 a3_0, .int .i64 a3_1] 53 (0, 0))) hb4) 1).trans rfl; clear hb4) | (go_at_call 99; (with_reducible refine (impl_meet.add_calls w _ ge _ _ a3_0 a3_1 M4.out.e M4.out.fresh (by have := L1.out; omega)).mono ?_); rintro e w5 ⟨rfl, he5, hf5⟩; have M5 := zm1 (M4.out.add he5 hf5); clear he5 hf5))
    go_roundg 0
    case measure => omega
    case rel => exact ⟨2, E2, (by first | rfl | (simp; done) | (simp [*]; done)), ⟨by rw [HE.out]; exact M5.out⟩, ⟨.inr (.inr ⟨rfl, rfl, rfl⟩)⟩⟩
   | false =>
    have A_ := zm1 (HA2.out)
    rw [ht] at A_
    have hE := e2f ht
    have HE := zm1 hE
    clear hE ht
    go_wp2_with (first | (go_at_call 100; (with_reducible refine (impl_isOn.calls _ _ _ _ _ _ false _ A_.out).mono ?_); rintro e w4 ⟨rfl, hb4⟩; have M4 := zm1 ((M.out.step (below_alloc (Below.refl _ _) (.cells #[.int .i64 a3_0, .int .i64 a3_1] 53 (0, 0)))).step hb4); have hx0 : w4.cell? ⟨wr.heap.size, 0, none⟩ = some (.int .i64 a3_0) := (blk_cell (blk_below (blk_new wr (.cells #[.int .i64 a3_0, .int .i64 a3_1] 53 (0, 0))) hb4) 0).trans rfl; have hx1 : w4.cell? ⟨wr.heap.size, 1, none⟩ = some (.int .i64 a3_1) := (blk_cell (blk_below (blk_new wr (.cells #[.int .i64 a3_0, .int .i64 a3_1] 53 (0, 0))) hb4) 1).trans rfl; clear hb4))
    go_roundg 0
    case measure => omega
    case rel => exact ⟨2, E2, (by first | rfl | (simp; done) | (simp [*]; done)), ⟨by rw [HE.out]; exact M4.out⟩, ⟨.inr (.inr ⟨rfl, rfl, rfl⟩)⟩⟩
  ·obtain ⟨rfl, rfl, hxs⟩ := hI
   rw [hxs] at M
   clear hxs
   clear HI
   clear hq0 hq1 hq2 hq3 hb00 hb01 hb10 hb11
   go_upto_region 9 with (fail)
   obtain ⟨hy00, hy01⟩ := M.out.z0
   obtain ⟨hy10, hy11⟩ := M.out.z1
   go_wp2
   clear hy00 hy01 hy10 hy11
   have M6 := zm1 (M.out.lit (.cells #[.int .i64 a0_0, .int .i64 a0_1, .int .i64 a1_0, .int .i64 a1_1] 53 (0, 0)))
   clear M
   generalize wr.heap.size = g5 at M6 ⊢
   refine impl_meet.forget (I := fun W => impl_meet.MSt w W g0 g1 g2 g3 g5 ge (.cells #[.int .i64 a0_0, .int .i64 a0_1, .int .i64 a1_0, .int .i64 a1_1] 53 (0, 0)) a0_0 a0_1 a1_0 a1_1 a2_0 a2_1 a3_0 a3_1 E2) M6.out ?_
   intro W6_ hM_
   have N6 := zm1 hM_
   clear hM_ M6
   go_loopg [37] 2 (fun kq v37 w' => ∃ (i : Int) (xs : List (S53)), v37 = .int .i64 i ∧ Aside0 (impl_meet.MSt w w' g0 g1 g2 g3 g5 ge (.cells #[.int .i64 a0_0, .int .i64 a0_1, .int .i64 a1_0, .int .i64 a1_1] 53 (0, 0)) a0_0 a0_1 a1_0 a1_1 a2_0 a2_1 a3_0 a3_1 xs) ∧ Aside0 ((i = 0 ∧ kq = 2 ∧ xs = E2) ∨ (i = 1 ∧ kq = 1 ∧ xs = E3) ∨ (i = 2 ∧ kq = 0 ∧ xs = E4)))
   case atStart => exact ⟨0, E2, (by first | rfl | (simp; done) | (simp [*]; done)), N6, ⟨.inl ⟨rfl, rfl, rfl⟩⟩⟩
   case round =>
    clear N6
    obtain ⟨i, xs, rfl, M, HI⟩ := hrel
    obtain ⟨hq0, hq1, hq2, hq3⟩ := M.out.z4
    have hb20 := fun o => (M.out.step (below_alloc (Below.refl _ _) o)).z2.1
    have hb21 := fun o => (M.out.step (below_alloc (Below.refl _ _) o)).z2.2
    have hb30 := fun o => (M.out.step (below_alloc (Below.refl _ _) o)).z3.1
    have hb31 := fun o => (M.out.step (below_alloc (Below.refl _ _) o)).z3.2
    rcases HI.out with hI | hI | hI
    ·obtain ⟨rfl, rfl, hxs⟩ := hI
     rw [hxs] at M
     clear hxs
     clear HI
     clear hq2 hq3
     cases ht : t3 with
     | true =>
      have A_ := zm1 (HA3.out)
      rw [ht] at A_
      have hE := e3t ht
      have HE := zm1 hE
      clear hE ht
      go_wp2_with (first | (go_at_call 100; (with_reducible refine (impl_isOn.calls _ _ _ _ _ _ true _ A_.out).mono ?_); rintro e w4 ⟨rfl, hb4⟩; have M4 := zm1 ((M.out.step (below_alloc (Below.refl _ _) (.cells #[.int .i64 a0_0, .int .i64 a0_1] 53 (0, 0)))).step hb4); have hx0 : w4.cell? ⟨wr.heap.size, 0, none⟩ = some (.int .i64 a0_0) := (blk_cell (blk_below (blk_new wr (.cells #[.int .i64 a0_0, .int .i64 a0_1] 53 (0, 0))) hb4) 0).trans rfl; have hx1 : w4.cell? ⟨wr.heap.size, 1, none⟩ = some (.int .i64 a0_1) := (blk_cell (blk_below (blk_new wr (.cells #[.int .i64 a0_0, .int .i64 a0_1] 53 (0, 0))) hb4) 1).trans rfl; clear hb4) | (go_at_call 99; (with_reducible refine (impl_meet.add_calls w _ ge _ _ a0_0 a0_1 M4.out.e M4.out.fresh (by have := L2.out; omega)).mono ?_); rintro e w5 ⟨rfl, he5, hf5⟩; have M5 := zm1 (M4.out.add he5 hf5); clear he5 hf5))
      go_roundg 1
      case measure => omega
      case rel => exact ⟨1, E3, (by first | rfl | (simp; done) | (simp [*]; done)), ⟨by rw [HE.out]; exact M5.out⟩, ⟨.inr (.inl ⟨rfl, rfl, rfl⟩)⟩⟩
     | false =>
      have A_ := zm1 (HA3.out)
      rw [ht] at A_
      have hE := e3f ht
      have HE := zm1 hE
      clear hE ht
      go_wp2_with (first | (go_at_call 100; (with_reducible refine (impl_isOn.calls _ _ _ _ _ _ false _ A_.out).mono ?_); rintro e w4 ⟨rfl, hb4⟩; have M4 := zm1 ((M.out.step (below_alloc (Below.refl _ _) (.cells #[.int .i64 a0_0, .int .i64 a0_1] 53 (0, 0)))).step hb4); have hx0 : w4.cell? ⟨wr.heap.size, 0, none⟩ = some (.int .i64 a0_0) := (blk_cell (blk_below (blk_new wr (.cells #[.int .i64 a0_0, .int .i64 a0_1] 53 (0, 0))) hb4) 0).trans rfl; have hx1 : w4.cell? ⟨wr.heap.size, 1, none⟩ = some (.int .i64 a0_1) := (blk_cell (blk_below (blk_new wr (.cells #[.int .i64 a0_0, .int .i64 a0_1] 53 (0, 0))) hb4) 1).trans rfl; clear hb4))
      go_roundg 1
      case measure => omega
      case rel => exact ⟨1, E3, (by first | rfl | (simp; done) | (simp [*]; done)), ⟨by rw [HE.out]; exact M4.out⟩, ⟨.inr (.inl ⟨rfl, rfl, rfl⟩)⟩⟩
    ·obtain ⟨rfl, rfl, hxs⟩ := hI
     rw [hxs] at M
     clear hxs
     clear HI
     clear hq0 hq1
     cases ht : t4 with
     | true =>
      have A_ := zm1 (HA4.out)
      rw [ht] at A_
      have hE := e4t ht
      have HE := zm1 hE
      clear hE ht
      go_wp2_with (first | (go_at_call 100; (with_reducible refine (impl_isOn.calls _ _ _ _ _ _ true _ A_.out).mono ?_); rintro e w4 ⟨rfl, hb4⟩; have M4 := zm1 ((M.out.step (below_alloc (Below.refl _ _) (.cells #[.int .i64 a1_0, .int .i64 a1_1] 53 (0, 0)))).step hb4); have hx0 : w4.cell? ⟨wr.heap.size, 0, none⟩ = some (.int .i64 a1_0) := (blk_cell (blk_below (blk_new wr (.cells #[.int .i64 a1_0, .int .i64 a1_1] 53 (0, 0))) hb4) 0).trans rfl; have hx1 : w4.cell? ⟨wr.heap.size, 1, none⟩ = some (.int .i64 a1_1) := (blk_cell (blk_below (blk_new wr (.cells #[.int .i64 a1_0, .int .i64 a1_1] 53 (0, 0))) hb4) 1).trans rfl; clear hb4) | (go_at_call 99; (with_reducible refine (impl_meet.add_calls w _ ge _ _ a1_0 a1_1 M4.out.e M4.out.fresh (by have := L3.out; omega)).mono ?_); rintro e w5 ⟨rfl, he5, hf5⟩; have M5 := zm1 (M4.out.add he5 hf5); clear he5 hf5))
      go_roundg 0
      case measure => omega
      case rel => exact ⟨2, E4, (by first | rfl | (simp; done) | (simp [*]; done)), ⟨by rw [HE.out]; exact M5.out⟩, ⟨.inr (.inr ⟨rfl, rfl, rfl⟩)⟩⟩
     | false =>
      have A_ := zm1 (HA4.out)
      rw [ht] at A_
      have hE := e4f ht
      have HE := zm1 hE
      clear hE ht
      go_wp2_with (first | (go_at_call 100; (with_reducible refine (impl_isOn.calls _ _ _ _ _ _ false _ A_.out).mono ?_); rintro e w4 ⟨rfl, hb4⟩; have M4 := zm1 ((M.out.step (below_alloc (Below.refl _ _) (.cells #[.int .i64 a1_0, .int .i64 a1_1] 53 (0, 0)))).step hb4); have hx0 : w4.cell? ⟨wr.heap.size, 0, none⟩ = some (.int .i64 a1_0) := (blk_cell (blk_below (blk_new wr (.cells #[.int .i64 a1_0, .int .i64 a1_1] 53 (0, 0))) hb4) 0).trans rfl; have hx1 : w4.cell? ⟨wr.heap.size, 1, none⟩ = some (.int .i64 a1_1) := (blk_cell (blk_below (blk_new wr (.cells #[.int .i64 a1_0, .int .i64 a1_1] 53 (0, 0))) hb4) 1).trans rfl; clear hb4))
      go_roundg 0
      case measure => omega
      case rel => exact ⟨2, E4, (by first | rfl | (simp; done) | (simp [*]; done)), ⟨by rw [HE.out]; exact M4.out⟩, ⟨.inr (.inr ⟨rfl, rfl, rfl⟩)⟩⟩
    ·obtain ⟨rfl, rfl, hxs⟩ := hI
     rw [hxs] at M
     clear hxs
     clear HI
     clear hq0 hq1 hq2 hq3 hb20 hb21 hb30 hb31
     obtain ⟨A, c, he, hR⟩ := M.out.e.ke
     have hze : wr.cell? ⟨ge, 0, none⟩ = some (.slice A E4.length c) := (blk_cell he 0).trans rfl
     clear he hR
     have hH := H.out
     clear H HA1 HA2 HA3 HA4 e1t e1f e2t e2f e3t e3f e4t e4f L1 L2 L3 L4
     by_cases q1 : E4.length > 1
     ·rw [if_pos q1] at hH
      obtain rfl := Option.some.inj hH
      have q1b : decide ((1 : Int) < (E4.length : Int)) = true := decide_eq_true (by omega)
      have q1c : decide (1 < E4.length) = true := decide_eq_true (by omega)
      clear q1 hH
      go_wp2
      go_ret
      exact ⟨rfl, (by repeat (first | (with_reducible first | exact M.out.e.below | apply zc1 | apply zc2 | apply zc3) | exact M.out.e.below))⟩
     ·rw [if_neg q1] at hH
      have q1b : decide ((1 : Int) < (E4.length : Int)) = false := decide_eq_false (by omega)
      have q1c : decide (1 < E4.length) = false := decide_eq_false (by omega)
      by_cases q2 : E4.length = 1
      ·rw [if_pos q2] at hH
       obtain rfl := Option.some.inj hH
       have q2b : ((E4.length : Int) == 1) = true := beq_iff_eq.mpr (by omega)
       have q2c : (E4.length == 1) = true := beq_iff_eq.mpr q2
       clear q1 q2 hH
       go_wp2
       go_ret
       exact ⟨rfl, (by repeat (first | (with_reducible first | exact M.out.e.below | apply zc1 | apply zc2 | apply zc3) | exact M.out.e.below))⟩
      ·rw [if_neg q2] at hH
       have q2b : ((E4.length : Int) == 1) = false := beq_eq_false_iff_ne.mpr (by omega)
       have q2c : (E4.length == 1) = false := beq_eq_false_iff_ne.mpr q2
       rw [Option.bind_eq_some_iff] at hH
       obtain ⟨u1, U1, hH⟩ := hH
       rw [Option.bind_eq_some_iff] at hH
       obtain ⟨s1, S1, hH⟩ := hH
       rw [Option.bind_eq_some_iff] at hH
       obtain ⟨u2, U2, hH⟩ := hH
       rw [Option.bind_eq_some_iff] at hH
       obtain ⟨s2, S2, hH⟩ := hH
       have HU1 := zm1 U1
       have HS1 := zm1 S1
       have HU2 := zm1 U2
       have HS2 := zm1 S2
       clear q1 q2 U1 S1 U2 S2
       by_cases q3 : wrap64 (s1 * s2) < 0
       ·rw [if_pos q3] at hH
        have q3b : decide (wrap64 (s1 * s2) < 0) = true := decide_eq_true q3
        have q3c : decide (IntKind.i64.wrap (s1 * s2) < 0) = true := by rw [i64_w]; exact q3b
        rw [Option.bind_eq_some_iff] at hH
        obtain ⟨u3, U3, hH⟩ := hH
        rw [Option.bind_eq_some_iff] at hH
        obtain ⟨s3, S3, hH⟩ := hH
        rw [Option.bind_eq_some_iff] at hH
        obtain ⟨u4, U4, hH⟩ := hH
        rw [Option.bind_eq_some_iff] at hH
        obtain ⟨s4, S4, hH⟩ := hH
        have HU3 := zm1 U3
        have HS3 := zm1 S3
        have HU4 := zm1 U4
        have HS4 := zm1 S4
        clear q3 U3 S3 U4 S4
        by_cases q4 : wrap64 (s3 * s4) < 0
        ·rw [if_pos q4] at hH
         obtain rfl := Option.some.inj hH
         have q4b : decide (wrap64 (s3 * s4) < 0) = true := decide_eq_true q4
         have q4c : decide (IntKind.i64.wrap (s3 * s4) < 0) = true := by rw [i64_w]; exact q4b
         clear q4 hH
         go_upto_region 19 with (fail)
         refine start_ (n := 27) (S := fun w' => Below wr.heap.size wr w' ∧ w'.cell? ⟨g0, 0, none⟩ = some (.int .i64 a0_0) ∧ w'.cell? ⟨g0, 1, none⟩ = some (.int .i64 a0_1) ∧ w'.cell? ⟨g1, 0, none⟩ = some (.int .i64 a1_0) ∧ w'.cell? ⟨g1, 1, none⟩ = some (.int .i64 a1_1) ∧ w'.cell? ⟨g2, 0, none⟩ = some (.int .i64 a2_0) ∧ w'.cell? ⟨g2, 1, none⟩ = some (.int .i64 a2_1) ∧ w'.cell? ⟨g3, 0, none⟩ = some (.int .i64 a3_0) ∧ w'.cell? ⟨g3, 1, none⟩ = some (.int .i64 a3_1)) (ds := []) #[false, false, false, false, false, false, false, false, false, false, false, false, false, false, false, false, false, false, false, false, false, false, false, false, false, false, false] (by kernel_rfl) rfl rfl ⟨(by repeat (first | exact Below.refl _ _ | apply pw_below_drewN | apply below_drew1)), (M.out.step (by repeat (first | exact Below.refl _ _ | apply pw_below_drewN | apply below_drew1))).z0.1, (M.out.step (by repeat (first | exact Below.refl _ _ | apply pw_below_drewN | apply below_drew1))).z0.2, (M.out.step (by repeat (first | exact Below.refl _ _ | apply pw_below_drewN | apply below_drew1))).z1.1, (M.out.step (by repeat (first | exact Below.refl _ _ | apply pw_below_drewN | apply below_drew1))).z1.2, (M.out.step (by repeat (first | exact Below.refl _ _ | apply pw_below_drewN | apply below_drew1))).z2.1, (M.out.step (by repeat (first | exact Below.refl _ _ | apply pw_below_drewN | apply below_drew1))).z2.2, (M.out.step (by repeat (first | exact Below.refl _ _ | apply pw_below_drewN | apply below_drew1))).z3.1, (M.out.step (by repeat (first | exact Below.refl _ _ | apply pw_below_drewN | apply below_drew1))).z3.2⟩ (fun hHeld => ?_)
         refine take_ (i := 0) (N := some 58) (v := ?_) (a' := ?_) #[true, false, false, false, false, false, false, false, false, false, false, false, false, false, false, false, false, false, false, false, false, false, false, false, false, false, false] rfl rfl (by kernel_rfl) (fun _ _ _ h => h) (Or.inl ⟨by rfl, ?_⟩) hHeld ?_ ?_
         rotate_left
         ·rintro w' ⟨s0, s1, s2, s3, s4, s5, s6, s7, s8⟩
          go_simp
          with_reducible rfl
         rotate_left
         ·simp only [Act.put, zs1, zs2, zs3, i64_w, i32_w]
          rfl
         refine take_ (i := 1) (N := some 59) (v := ?_) (a' := ?_) #[true, true, false, false, false, false, false, false, false, false, false, false, false, false, false, false, false, false, false, false, false, false, false, false, false, false, false] rfl rfl (by kernel_rfl) (fun _ _ _ h => h) (Or.inl ⟨by rfl, ?_⟩) hHeld ?_ ?_
         rotate_left
         ·rintro w' ⟨s0, s1, s2, s3, s4, s5, s6, s7, s8⟩
          go_simp
          with_reducible rfl
         rotate_left
         ·simp only [Act.put, zs1, zs2, zs3, i64_w, i32_w]
          rfl
         refine take_ (i := 2) (N := some 60) (v := ?_) (a' := ?_) #[true, true, true, false, false, false, false, false, false, false, false, false, false, false, false, false, false, false, false, false, false, false, false, false, false, false, false] rfl rfl (by kernel_rfl) (fun _ _ _ h => h) (Or.inl ⟨by rfl, ?_⟩) hHeld ?_ ?_
         rotate_left
         ·rintro w' ⟨s0, s1, s2, s3, s4, s5, s6, s7, s8⟩
          go_simp
          with_reducible rfl
         rotate_left
         ·simp only [Act.put, zs1, zs2, zs3, i64_w, i32_w]
          rfl
         refine take_ (i := 5) (N := some 63) (v := ?_) (a' := ?_) #[true, true, true, false, false, true, false, false, false, false, false, false, false, false, false, false, false, false, false, false, false, false, false, false, false, false, false] rfl rfl (by kernel_rfl) (fun _ _ _ h => h) (Or.inl ⟨by rfl, ?_⟩) hHeld ?_ ?_
         rotate_left
         ·rintro w' ⟨s0, s1, s2, s3, s4, s5, s6, s7, s8⟩
          go_simp
          with_reducible rfl
         rotate_left
         ·simp only [Act.put, zs1, zs2, zs3, i64_w, i32_w]
          rfl
         refine take_ (i := 6) (N := some 64) (v := ?_) (a' := ?_) #[true, true, true, false, false, true, true, false, false, false, false, false, false, false, false, false, false, false, false, false, false, false, false, false, false, false, false] rfl rfl (by kernel_rfl) (fun _ _ _ h => h) (Or.inl ⟨by rfl, ?_⟩) hHeld ?_ ?_
         rotate_left
         ·rintro w' ⟨s0, s1, s2, s3, s4, s5, s6, s7, s8⟩
          go_simp
          with_reducible rfl
         rotate_left
         ·simp only [Act.put, zs1, zs2, zs3, i64_w, i32_w]
          rfl
         refine take_ (i := 7) (N := some 65) (v := ?_) (a' := ?_) #[true, true, true, false, false, true, true, true, false, false, false, false, false, false, false, false, false, false, false, false, false, false, false, false, false, false, false] rfl rfl (by kernel_rfl) (fun _ _ _ h => h) (Or.inl ⟨by rfl, ?_⟩) hHeld ?_ ?_
         rotate_left
         ·rintro w' ⟨s0, s1, s2, s3, s4, s5, s6, s7, s8⟩
          go_simp
          with_reducible rfl
         rotate_left
         ·simp only [Act.put, zs1, zs2, zs3, i64_w, i32_w]
          rfl
         refine one_ (i := 3) (N := some 61) #[true, true, true, true, false, true, true, true, false, false, false, false, false, false, false, false, false, false, false, false, false, false, false, false, false, false, false] rfl rfl (by kernel_rfl) (by decide) (fun K hK => ?_)
         refine goes_ Tryd.func102 (by kernel_rfl) rfl #[.agg #[.int .i64 a0_0, .int .i64 a0_1], .agg #[.int .i64 a1_0, .int .i64 a1_1], .agg #[.int .i64 a2_0, .int .i64 a2_1]] (by rfl) rfl rfl (by simp only [List.map_toArray, List.map_cons, List.map_nil]; rfl) ?_
         with_reducible refine (impl_cross.calls a0_0 a0_1 a1_0 a1_1 a2_0 a2_1 u1 _ HU1.out).mono ?_
         rintro e w3 ⟨rfl, hb⟩
         refine ⟨_, rfl, ?_⟩
         have B3 := below_step hHeld.1 hb
         refine hK.out _ _ ⟨B3, (M.out.step B3).z0.1, (M.out.step B3).z0.2, (M.out.step B3).z1.1, (M.out.step B3).z1.2, (M.out.step B3).z2.1, (M.out.step B3).z2.2, (M.out.step B3).z3.1, (M.out.step B3).z3.2⟩ (fun hHeld => ?_)
         clear hK K
         refine norm_ (a' := ?_) ?_ ?_
         rotate_left
         ·show Act.put _ (some 61) _ = _
          simp only [Act.put, zs1, zs2, zs3, i64_w, i32_w]
          rfl
         refine one_ (i := 4) (N := some 62) #[true, true, true, true, true, true, true, true, false, false, false, false, false, false, false, false, false, false, false, false, false, false, false, false, false, false, false] rfl rfl (by kernel_rfl) (by decide) (fun K hK => ?_)
         refine goes_ Tryd.func101 (by kernel_rfl) rfl #[.int .i64 u1] (by rfl) rfl rfl (by simp only [List.map_toArray, List.map_cons, List.map_nil]; rfl) ?_
         with_reducible refine (impl_sign.calls u1 s1 _ HS1.out).mono ?_
         rintro e w3 ⟨rfl, ⟨m, rfl⟩⟩
         refine ⟨_, rfl, ?_⟩
         have B3 := pw_below_drewN hHeld.1 m
         refine hK.out _ _ ⟨B3, (M.out.step B3).z0.1, (M.out.step B3).z0.2, (M.out.step B3).z1.1, (M.out.step B3).z1.2, (M.out.step B3).z2.1, (M.out.step B3).z2.2, (M.out.step B3).z3.1, (M.out.step B3).z3.2⟩ (fun hHeld => ?_)
         clear hK K
         refine norm_ (a' := ?_) ?_ ?_
         rotate_left
         ·show Act.put _ (some 62) _ = _
          simp only [Act.put, zs1, zs2, zs3, i64_w, i32_w]
          rfl
         refine one_ (i := 8) (N := some 66) #[true, true, true, true, true, true, true, true, true, false, false, false, false, false, false, false, false, false, false, false, false, false, false, false, false, false, false] rfl rfl (by kernel_rfl) (by decide) (fun K hK => ?_)
         refine goes_ Tryd.func102 (by kernel_rfl) rfl #[.agg #[.int .i64 a0_0, .int .i64 a0_1], .agg #[.int .i64 a1_0, .int .i64 a1_1], .agg #[.int .i64 a3_0, .int .i64 a3_1]] (by rfl) rfl rfl (by simp only [List.map_toArray, List.map_cons, List.map_nil]; rfl) ?_
         with_reducible refine (impl_cross.calls a0_0 a0_1 a1_0 a1_1 a3_0 a3_1 u2 _ HU2.out).mono ?_
         rintro e w3 ⟨rfl, hb⟩
         refine ⟨_, rfl, ?_⟩
         have B3 := below_step hHeld.1 hb
         refine hK.out _ _ ⟨B3, (M.out.step B3).z0.1, (M.out.step B3).z0.2, (M.out.step B3).z1.1, (M.out.step B3).z1.2, (M.out.step B3).z2.1, (M.out.step B3).z2.2, (M.out.step B3).z3.1, (M.out.step B3).z3.2⟩ (fun hHeld => ?_)
         clear hK K
         refine norm_ (a' := ?_) ?_ ?_
         rotate_left
         ·show Act.put _ (some 66) _ = _
          simp only [Act.put, zs1, zs2, zs3, i64_w, i32_w]
          rfl
         refine one_ (i := 9) (N := some 67) #[true, true, true, true, true, true, true, true, true, true, false, false, false, false, false, false, false, false, false, false, false, false, false, false, false, false, false] rfl rfl (by kernel_rfl) (by decide) (fun K hK => ?_)
         refine goes_ Tryd.func101 (by kernel_rfl) rfl #[.int .i64 u2] (by rfl) rfl rfl (by simp only [List.map_toArray, List.map_cons, List.map_nil]; rfl) ?_
         with_reducible refine (impl_sign.calls u2 s2 _ HS2.out).mono ?_
         rintro e w3 ⟨rfl, ⟨m, rfl⟩⟩
         refine ⟨_, rfl, ?_⟩
         have B3 := pw_below_drewN hHeld.1 m
         refine hK.out _ _ ⟨B3, (M.out.step B3).z0.1, (M.out.step B3).z0.2, (M.out.step B3).z1.1, (M.out.step B3).z1.2, (M.out.step B3).z2.1, (M.out.step B3).z2.2, (M.out.step B3).z3.1, (M.out.step B3).z3.2⟩ (fun hHeld => ?_)
         clear hK K
         refine norm_ (a' := ?_) ?_ ?_
         rotate_left
         ·show Act.put _ (some 67) _ = _
          simp only [Act.put, zs1, zs2, zs3, i64_w, i32_w]
          rfl
         refine pure_ (i := 10) (N := some 68) (v := ?_) (a' := ?_) #[true, true, true, true, true, true, true, true, true, true, true, false, false, false, false, false, false, false, false, false, false, false, false, false, false, false, false] rfl rfl (by kernel_rfl) (fun _ _ _ h => h) (Or.inl ⟨by rfl, ?_⟩) ?_ ?_
         rotate_left
         ·intro w'
          go_simp
          with_reducible rfl
         rotate_left
         ·simp only [Act.put, zs1, zs2, zs3, i64_w, i32_w]
          rfl
         refine pure_ (i := 11) (N := some 69) (v := ?_) (a' := ?_) #[true, true, true, true, true, true, true, true, true, true, true, true, false, false, false, false, false, false, false, false, false, false, false, false, false, false, false] rfl rfl (by kernel_rfl) (fun _ _ _ h => h) (Or.inl ⟨by rfl, ?_⟩) ?_ ?_
         rotate_left
         ·intro w'
          go_simp
          with_reducible rfl
         rotate_left
         ·simp only [Act.put, zs1, zs2, zs3, i64_w, i32_w]
          rfl
         refine pure_ (i := 12) (N := some 70) (v := ?_) (a' := ?_) #[true, true, true, true, true, true, true, true, true, true, true, true, true, false, false, false, false, false, false, false, false, false, false, false, false, false, false] rfl rfl (by kernel_rfl) (fun _ _ _ h => h) (Or.inl ⟨by rfl, ?_⟩) ?_ ?_
         rotate_left
         ·intro w'
          go_simp
          with_reducible rfl
         rotate_left
         ·simp only [Act.put, zs1, zs2, zs3, i64_w, i32_w]
          rfl
         refine take_ (i := 13) (N := some 71) (v := ?_) (a' := ?_) #[true, true, true, true, true, true, true, true, true, true, true, true, true, true, false, false, false, false, false, false, false, false, false, false, false, false, false] rfl rfl (by kernel_rfl) (fun _ _ _ h => h) (Or.inl ⟨by rfl, ?_⟩) hHeld ?_ ?_
         rotate_left
         ·rintro w' ⟨s0, s1, s2, s3, s4, s5, s6, s7, s8⟩
          go_simp
          with_reducible rfl
         rotate_left
         ·simp only [Act.put, zs1, zs2, zs3, i64_w, i32_w]
          rfl
         refine take_ (i := 14) (N := some 72) (v := ?_) (a' := ?_) #[true, true, true, true, true, true, true, true, true, true, true, true, true, true, true, false, false, false, false, false, false, false, false, false, false, false, false] rfl rfl (by kernel_rfl) (fun _ _ _ h => h) (Or.inl ⟨by rfl, ?_⟩) hHeld ?_ ?_
         rotate_left
         ·rintro w' ⟨s0, s1, s2, s3, s4, s5, s6, s7, s8⟩
          go_simp
          with_reducible rfl
         rotate_left
         ·simp only [Act.put, zs1, zs2, zs3, i64_w, i32_w]
          rfl
         refine take_ (i := 15) (N := some 73) (v := ?_) (a' := ?_) #[true, true, true, true, true, true, true, true, true, true, true, true, true, true, true, true, false, false, false, false, false, false, false, false, false, false, false] rfl rfl (by kernel_rfl) (fun _ _ _ h => h) (Or.inl ⟨by rfl, ?_⟩) hHeld ?_ ?_
         rotate_left
         ·rintro w' ⟨s0, s1, s2, s3, s4, s5, s6, s7, s8⟩
          go_simp
          with_reducible rfl
         rotate_left
         ·simp only [Act.put, zs1, zs2, zs3, i64_w, i32_w]
          rfl
         refine take_ (i := 18) (N := some 76) (v := ?_) (a' := ?_) #[true, true, true, true, true, true, true, true, true, true, true, true, true, true, true, true, false, false, true, false, false, false, false, false, false, false, false] rfl rfl (by kernel_rfl) (fun _ _ _ h => h) (Or.inl ⟨by rfl, ?_⟩) hHeld ?_ ?_
         rotate_left
         ·rintro w' ⟨s0, s1, s2, s3, s4, s5, s6, s7, s8⟩
          go_simp
          with_reducible rfl
         rotate_left
         ·simp only [Act.put, zs1, zs2, zs3, i64_w, i32_w]
          rfl
         refine take_ (i := 19) (N := some 77) (v := ?_) (a' := ?_) #[true, true, true, true, true, true, true, true, true, true, true, true, true, true, true, true, false, false, true, true, false, false, false, false, false, false, false] rfl rfl (by kernel_rfl) (fun _ _ _ h => h) (Or.inl ⟨by rfl, ?_⟩) hHeld ?_ ?_
         rotate_left
         ·rintro w' ⟨s0, s1, s2, s3, s4, s5, s6, s7, s8⟩
          go_simp
          with_reducible rfl
         rotate_left
         ·simp only [Act.put, zs1, zs2, zs3, i64_w, i32_w]
          rfl
         refine take_ (i := 20) (N := some 78) (v := ?_) (a' := ?_) #[true, true, true, true, true, true, true, true, true, true, true, true, true, true, true, true, false, false, true, true, true, false, false, false, false, false, false] rfl rfl (by kernel_rfl) (fun _ _ _ h => h) (Or.inl ⟨by rfl, ?_⟩) hHeld ?_ ?_
         rotate_left
         ·rintro w' ⟨s0, s1, s2, s3, s4, s5, s6, s7, s8⟩
          go_simp
          with_reducible rfl
         rotate_left
         ·simp only [Act.put, zs1, zs2, zs3, i64_w, i32_w]
          rfl
         refine one_ (i := 16) (N := some 74) #[true, true, true, true, true, true, true, true, true, true, true, true, true, true, true, true, true, false, true, true, true, false, false, false, false, false, false] rfl rfl (by kernel_rfl) (by decide) (fun K hK => ?_)
         refine goes_ Tryd.func102 (by kernel_rfl) rfl #[.agg #[.int .i64 a2_0, .int .i64 a2_1], .agg #[.int .i64 a3_0, .int .i64 a3_1], .agg #[.int .i64 a0_0, .int .i64 a0_1]] (by rfl) rfl rfl (by simp only [List.map_toArray, List.map_cons, List.map_nil]; rfl) ?_
         with_reducible refine (impl_cross.calls a2_0 a2_1 a3_0 a3_1 a0_0 a0_1 u3 _ HU3.out).mono ?_
         rintro e w3 ⟨rfl, hb⟩
         refine ⟨_, rfl, ?_⟩
         have B3 := below_step hHeld.1 hb
         refine hK.out _ _ ⟨B3, (M.out.step B3).z0.1, (M.out.step B3).z0.2, (M.out.step B3).z1.1, (M.out.step B3).z1.2, (M.out.step B3).z2.1, (M.out.step B3).z2.2, (M.out.step B3).z3.1, (M.out.step B3).z3.2⟩ (fun hHeld => ?_)
         clear hK K
         refine norm_ (a' := ?_) ?_ ?_
         rotate_left
         ·show Act.put _ (some 74) _ = _
          simp only [Act.put, zs1, zs2, zs3, i64_w, i32_w]
          rfl
         refine one_ (i := 17) (N := some 75) #[true, true, true, true, true, true, true, true, true, true, true, true, true, true, true, true, true, true, true, true, true, false, false, false, false, false, false] rfl rfl (by kernel_rfl) (by decide) (fun K hK => ?_)
         refine goes_ Tryd.func101 (by kernel_rfl) rfl #[.int .i64 u3] (by rfl) rfl rfl (by simp only [List.map_toArray, List.map_cons, List.map_nil]; rfl) ?_
         with_reducible refine (impl_sign.calls u3 s3 _ HS3.out).mono ?_
         rintro e w3 ⟨rfl, ⟨m, rfl⟩⟩
         refine ⟨_, rfl, ?_⟩
         have B3 := pw_below_drewN hHeld.1 m
         refine hK.out _ _ ⟨B3, (M.out.step B3).z0.1, (M.out.step B3).z0.2, (M.out.step B3).z1.1, (M.out.step B3).z1.2, (M.out.step B3).z2.1, (M.out.step B3).z2.2, (M.out.step B3).z3.1, (M.out.step B3).z3.2⟩ (fun hHeld => ?_)
         clear hK K
         refine norm_ (a' := ?_) ?_ ?_
         rotate_left
         ·show Act.put _ (some 75) _ = _
          simp only [Act.put, zs1, zs2, zs3, i64_w, i32_w]
          rfl
         refine one_ (i := 21) (N := some 79) #[true, true, true, true, true, true, true, true, true, true, true, true, true, true, true, true, true, true, true, true, true, true, false, false, false, false, false] rfl rfl (by kernel_rfl) (by decide) (fun K hK => ?_)
         refine goes_ Tryd.func102 (by kernel_rfl) rfl #[.agg #[.int .i64 a2_0, .int .i64 a2_1], .agg #[.int .i64 a3_0, .int .i64 a3_1], .agg #[.int .i64 a1_0, .int .i64 a1_1]] (by rfl) rfl rfl (by simp only [List.map_toArray, List.map_cons, List.map_nil]; rfl) ?_
         with_reducible refine (impl_cross.calls a2_0 a2_1 a3_0 a3_1 a1_0 a1_1 u4 _ HU4.out).mono ?_
         rintro e w3 ⟨rfl, hb⟩
         refine ⟨_, rfl, ?_⟩
         have B3 := below_step hHeld.1 hb
         refine hK.out _ _ ⟨B3, (M.out.step B3).z0.1, (M.out.step B3).z0.2, (M.out.step B3).z1.1, (M.out.step B3).z1.2, (M.out.step B3).z2.1, (M.out.step B3).z2.2, (M.out.step B3).z3.1, (M.out.step B3).z3.2⟩ (fun hHeld => ?_)
         clear hK K
         refine norm_ (a' := ?_) ?_ ?_
         rotate_left
         ·show Act.put _ (some 79) _ = _
          simp only [Act.put, zs1, zs2, zs3, i64_w, i32_w]
          rfl
         refine one_ (i := 22) (N := some 80) #[true, true, true, true, true, true, true, true, true, true, true, true, true, true, true, true, true, true, true, true, true, true, true, false, false, false, false] rfl rfl (by kernel_rfl) (by decide) (fun K hK => ?_)
         refine goes_ Tryd.func101 (by kernel_rfl) rfl #[.int .i64 u4] (by rfl) rfl rfl (by simp only [List.map_toArray, List.map_cons, List.map_nil]; rfl) ?_
         with_reducible refine (impl_sign.calls u4 s4 _ HS4.out).mono ?_
         rintro e w3 ⟨rfl, ⟨m, rfl⟩⟩
         refine ⟨_, rfl, ?_⟩
         have B3 := pw_below_drewN hHeld.1 m
         refine hK.out _ _ ⟨B3, (M.out.step B3).z0.1, (M.out.step B3).z0.2, (M.out.step B3).z1.1, (M.out.step B3).z1.2, (M.out.step B3).z2.1, (M.out.step B3).z2.2, (M.out.step B3).z3.1, (M.out.step B3).z3.2⟩ (fun hHeld => ?_)
         clear hK K
         refine norm_ (a' := ?_) ?_ ?_
         rotate_left
         ·show Act.put _ (some 80) _ = _
          simp only [Act.put, zs1, zs2, zs3, i64_w, i32_w]
          rfl
         refine pure_ (i := 23) (N := some 81) (v := ?_) (a' := ?_) #[true, true, true, true, true, true, true, true, true, true, true, true, true, true, true, true, true, true, true, true, true, true, true, true, false, false, false] rfl rfl (by kernel_rfl) (fun _ _ _ h => h) (Or.inl ⟨by rfl, ?_⟩) ?_ ?_
         rotate_left
         ·intro w'
          go_simp
          with_reducible rfl
         rotate_left
         ·simp only [Act.put, zs1, zs2, zs3, i64_w, i32_w]
          rfl
         refine pure_ (i := 24) (N := some 82) (v := ?_) (a' := ?_) #[true, true, true, true, true, true, true, true, true, true, true, true, true, true, true, true, true, true, true, true, true, true, true, true, true, false, false] rfl rfl (by kernel_rfl) (fun _ _ _ h => h) (Or.inl ⟨by rfl, ?_⟩) ?_ ?_
         rotate_left
         ·intro w'
          go_simp
          with_reducible rfl
         rotate_left
         ·simp only [Act.put, zs1, zs2, zs3, i64_w, i32_w]
          rfl
         refine pure_ (i := 25) (N := some 83) (v := ?_) (a' := ?_) #[true, true, true, true, true, true, true, true, true, true, true, true, true, true, true, true, true, true, true, true, true, true, true, true, true, true, false] rfl rfl (by kernel_rfl) (fun _ _ _ h => h) (Or.inl ⟨by rfl, ?_⟩) ?_ ?_
         rotate_left
         ·intro w'
          go_simp
          with_reducible rfl
         rotate_left
         ·simp only [Act.put, zs1, zs2, zs3, i64_w, i32_w]
          rfl
         refine pure_ (i := 26) (N := some 57) (v := ?_) (a' := ?_) #[true, true, true, true, true, true, true, true, true, true, true, true, true, true, true, true, true, true, true, true, true, true, true, true, true, true, true] rfl rfl (by kernel_rfl) (fun _ _ _ h => h) (Or.inl ⟨by rfl, ?_⟩) ?_ ?_
         rotate_left
         ·intro w'
          go_simp
          with_reducible rfl
         rotate_left
         ·simp only [Act.put, zs1, zs2, zs3, i64_w, i32_w]
          rfl
         refine done_ (by kernel_rfl) ?_
         go_wp2
         go_ret
         refine ⟨rfl, ?_⟩
         exact below_step M.out.e.below (by repeat (first | exact hHeld.1 | apply pw_below_drewN | apply below_drew1))
        ·rw [if_neg q4] at hH
         obtain rfl := Option.some.inj hH
         have q4b : decide (wrap64 (s3 * s4) < 0) = false := decide_eq_false q4
         have q4c : decide (IntKind.i64.wrap (s3 * s4) < 0) = false := by rw [i64_w]; exact q4b
         clear q4 hH
         go_upto_region 19 with (fail)
         refine start_ (n := 27) (S := fun w' => Below wr.heap.size wr w' ∧ w'.cell? ⟨g0, 0, none⟩ = some (.int .i64 a0_0) ∧ w'.cell? ⟨g0, 1, none⟩ = some (.int .i64 a0_1) ∧ w'.cell? ⟨g1, 0, none⟩ = some (.int .i64 a1_0) ∧ w'.cell? ⟨g1, 1, none⟩ = some (.int .i64 a1_1) ∧ w'.cell? ⟨g2, 0, none⟩ = some (.int .i64 a2_0) ∧ w'.cell? ⟨g2, 1, none⟩ = some (.int .i64 a2_1) ∧ w'.cell? ⟨g3, 0, none⟩ = some (.int .i64 a3_0) ∧ w'.cell? ⟨g3, 1, none⟩ = some (.int .i64 a3_1)) (ds := []) #[false, false, false, false, false, false, false, false, false, false, false, false, false, false, false, false, false, false, false, false, false, false, false, false, false, false, false] (by kernel_rfl) rfl rfl ⟨(by repeat (first | exact Below.refl _ _ | apply pw_below_drewN | apply below_drew1)), (M.out.step (by repeat (first | exact Below.refl _ _ | apply pw_below_drewN | apply below_drew1))).z0.1, (M.out.step (by repeat (first | exact Below.refl _ _ | apply pw_below_drewN | apply below_drew1))).z0.2, (M.out.step (by repeat (first | exact Below.refl _ _ | apply pw_below_drewN | apply below_drew1))).z1.1, (M.out.step (by repeat (first | exact Below.refl _ _ | apply pw_below_drewN | apply below_drew1))).z1.2, (M.out.step (by repeat (first | exact Below.refl _ _ | apply pw_below_drewN | apply below_drew1))).z2.1, (M.out.step (by repeat (first | exact Below.refl _ _ | apply pw_below_drewN | apply below_drew1))).z2.2, (M.out.step (by repeat (first | exact Below.refl _ _ | apply pw_below_drewN | apply below_drew1))).z3.1, (M.out.step (by repeat (first | exact Below.refl _ _ | apply pw_below_drewN | apply below_drew1))).z3.2⟩ (fun hHeld => ?_)
         refine take_ (i := 0) (N := some 58) (v := ?_) (a' := ?_) #[true, false, false, false, false, false, false, false, false, false, false, false, false, false, false, false, false, false, false, false, false, false, false, false, false, false, false] rfl rfl (by kernel_rfl) (fun _ _ _ h => h) (Or.inl ⟨by rfl, ?_⟩) hHeld ?_ ?_
         rotate_left
         ·rintro w' ⟨s0, s1, s2, s3, s4, s5, s6, s7, s8⟩
          go_simp
          with_reducible rfl
         rotate_left
         ·simp only [Act.put, zs1, zs2, zs3, i64_w, i32_w]
          rfl
         refine take_ (i := 1) (N := some 59) (v := ?_) (a' := ?_) #[true, true, false, false, false, false, false, false, false, false, false, false, false, false, false, false, false, false, false, false, false, false, false, false, false, false, false] rfl rfl (by kernel_rfl) (fun _ _ _ h => h) (Or.inl ⟨by rfl, ?_⟩) hHeld ?_ ?_
         rotate_left
         ·rintro w' ⟨s0, s1, s2, s3, s4, s5, s6, s7, s8⟩
          go_simp
          with_reducible rfl
         rotate_left
         ·simp only [Act.put, zs1, zs2, zs3, i64_w, i32_w]
          rfl
         refine take_ (i := 2) (N := some 60) (v := ?_) (a' := ?_) #[true, true, true, false, false, false, false, false, false, false, false, false, false, false, false, false, false, false, false, false, false, false, false, false, false, false, false] rfl rfl (by kernel_rfl) (fun _ _ _ h => h) (Or.inl ⟨by rfl, ?_⟩) hHeld ?_ ?_
         rotate_left
         ·rintro w' ⟨s0, s1, s2, s3, s4, s5, s6, s7, s8⟩
          go_simp
          with_reducible rfl
         rotate_left
         ·simp only [Act.put, zs1, zs2, zs3, i64_w, i32_w]
          rfl
         refine take_ (i := 5) (N := some 63) (v := ?_) (a' := ?_) #[true, true, true, false, false, true, false, false, false, false, false, false, false, false, false, false, false, false, false, false, false, false, false, false, false, false, false] rfl rfl (by kernel_rfl) (fun _ _ _ h => h) (Or.inl ⟨by rfl, ?_⟩) hHeld ?_ ?_
         rotate_left
         ·rintro w' ⟨s0, s1, s2, s3, s4, s5, s6, s7, s8⟩
          go_simp
          with_reducible rfl
         rotate_left
         ·simp only [Act.put, zs1, zs2, zs3, i64_w, i32_w]
          rfl
         refine take_ (i := 6) (N := some 64) (v := ?_) (a' := ?_) #[true, true, true, false, false, true, true, false, false, false, false, false, false, false, false, false, false, false, false, false, false, false, false, false, false, false, false] rfl rfl (by kernel_rfl) (fun _ _ _ h => h) (Or.inl ⟨by rfl, ?_⟩) hHeld ?_ ?_
         rotate_left
         ·rintro w' ⟨s0, s1, s2, s3, s4, s5, s6, s7, s8⟩
          go_simp
          with_reducible rfl
         rotate_left
         ·simp only [Act.put, zs1, zs2, zs3, i64_w, i32_w]
          rfl
         refine take_ (i := 7) (N := some 65) (v := ?_) (a' := ?_) #[true, true, true, false, false, true, true, true, false, false, false, false, false, false, false, false, false, false, false, false, false, false, false, false, false, false, false] rfl rfl (by kernel_rfl) (fun _ _ _ h => h) (Or.inl ⟨by rfl, ?_⟩) hHeld ?_ ?_
         rotate_left
         ·rintro w' ⟨s0, s1, s2, s3, s4, s5, s6, s7, s8⟩
          go_simp
          with_reducible rfl
         rotate_left
         ·simp only [Act.put, zs1, zs2, zs3, i64_w, i32_w]
          rfl
         refine one_ (i := 3) (N := some 61) #[true, true, true, true, false, true, true, true, false, false, false, false, false, false, false, false, false, false, false, false, false, false, false, false, false, false, false] rfl rfl (by kernel_rfl) (by decide) (fun K hK => ?_)
         refine goes_ Tryd.func102 (by kernel_rfl) rfl #[.agg #[.int .i64 a0_0, .int .i64 a0_1], .agg #[.int .i64 a1_0, .int .i64 a1_1], .agg #[.int .i64 a2_0, .int .i64 a2_1]] (by rfl) rfl rfl (by simp only [List.map_toArray, List.map_cons, List.map_nil]; rfl) ?_
         with_reducible refine (impl_cross.calls a0_0 a0_1 a1_0 a1_1 a2_0 a2_1 u1 _ HU1.out).mono ?_
         rintro e w3 ⟨rfl, hb⟩
         refine ⟨_, rfl, ?_⟩
         have B3 := below_step hHeld.1 hb
         refine hK.out _ _ ⟨B3, (M.out.step B3).z0.1, (M.out.step B3).z0.2, (M.out.step B3).z1.1, (M.out.step B3).z1.2, (M.out.step B3).z2.1, (M.out.step B3).z2.2, (M.out.step B3).z3.1, (M.out.step B3).z3.2⟩ (fun hHeld => ?_)
         clear hK K
         refine norm_ (a' := ?_) ?_ ?_
         rotate_left
         ·show Act.put _ (some 61) _ = _
          simp only [Act.put, zs1, zs2, zs3, i64_w, i32_w]
          rfl
         refine one_ (i := 4) (N := some 62) #[true, true, true, true, true, true, true, true, false, false, false, false, false, false, false, false, false, false, false, false, false, false, false, false, false, false, false] rfl rfl (by kernel_rfl) (by decide) (fun K hK => ?_)
         refine goes_ Tryd.func101 (by kernel_rfl) rfl #[.int .i64 u1] (by rfl) rfl rfl (by simp only [List.map_toArray, List.map_cons, List.map_nil]; rfl) ?_
         with_reducible refine (impl_sign.calls u1 s1 _ HS1.out).mono ?_
         rintro e w3 ⟨rfl, ⟨m, rfl⟩⟩
         refine ⟨_, rfl, ?_⟩
         have B3 := pw_below_drewN hHeld.1 m
         refine hK.out _ _ ⟨B3, (M.out.step B3).z0.1, (M.out.step B3).z0.2, (M.out.step B3).z1.1, (M.out.step B3).z1.2, (M.out.step B3).z2.1, (M.out.step B3).z2.2, (M.out.step B3).z3.1, (M.out.step B3).z3.2⟩ (fun hHeld => ?_)
         clear hK K
         refine norm_ (a' := ?_) ?_ ?_
         rotate_left
         ·show Act.put _ (some 62) _ = _
          simp only [Act.put, zs1, zs2, zs3, i64_w, i32_w]
          rfl
         refine one_ (i := 8) (N := some 66) #[true, true, true, true, true, true, true, true, true, false, false, false, false, false, false, false, false, false, false, false, false, false, false, false, false, false, false] rfl rfl (by kernel_rfl) (by decide) (fun K hK => ?_)
         refine goes_ Tryd.func102 (by kernel_rfl) rfl #[.agg #[.int .i64 a0_0, .int .i64 a0_1], .agg #[.int .i64 a1_0, .int .i64 a1_1], .agg #[.int .i64 a3_0, .int .i64 a3_1]] (by rfl) rfl rfl (by simp only [List.map_toArray, List.map_cons, List.map_nil]; rfl) ?_
         with_reducible refine (impl_cross.calls a0_0 a0_1 a1_0 a1_1 a3_0 a3_1 u2 _ HU2.out).mono ?_
         rintro e w3 ⟨rfl, hb⟩
         refine ⟨_, rfl, ?_⟩
         have B3 := below_step hHeld.1 hb
         refine hK.out _ _ ⟨B3, (M.out.step B3).z0.1, (M.out.step B3).z0.2, (M.out.step B3).z1.1, (M.out.step B3).z1.2, (M.out.step B3).z2.1, (M.out.step B3).z2.2, (M.out.step B3).z3.1, (M.out.step B3).z3.2⟩ (fun hHeld => ?_)
         clear hK K
         refine norm_ (a' := ?_) ?_ ?_
         rotate_left
         ·show Act.put _ (some 66) _ = _
          simp only [Act.put, zs1, zs2, zs3, i64_w, i32_w]
          rfl
         refine one_ (i := 9) (N := some 67) #[true, true, true, true, true, true, true, true, true, true, false, false, false, false, false, false, false, false, false, false, false, false, false, false, false, false, false] rfl rfl (by kernel_rfl) (by decide) (fun K hK => ?_)
         refine goes_ Tryd.func101 (by kernel_rfl) rfl #[.int .i64 u2] (by rfl) rfl rfl (by simp only [List.map_toArray, List.map_cons, List.map_nil]; rfl) ?_
         with_reducible refine (impl_sign.calls u2 s2 _ HS2.out).mono ?_
         rintro e w3 ⟨rfl, ⟨m, rfl⟩⟩
         refine ⟨_, rfl, ?_⟩
         have B3 := pw_below_drewN hHeld.1 m
         refine hK.out _ _ ⟨B3, (M.out.step B3).z0.1, (M.out.step B3).z0.2, (M.out.step B3).z1.1, (M.out.step B3).z1.2, (M.out.step B3).z2.1, (M.out.step B3).z2.2, (M.out.step B3).z3.1, (M.out.step B3).z3.2⟩ (fun hHeld => ?_)
         clear hK K
         refine norm_ (a' := ?_) ?_ ?_
         rotate_left
         ·show Act.put _ (some 67) _ = _
          simp only [Act.put, zs1, zs2, zs3, i64_w, i32_w]
          rfl
         refine pure_ (i := 10) (N := some 68) (v := ?_) (a' := ?_) #[true, true, true, true, true, true, true, true, true, true, true, false, false, false, false, false, false, false, false, false, false, false, false, false, false, false, false] rfl rfl (by kernel_rfl) (fun _ _ _ h => h) (Or.inl ⟨by rfl, ?_⟩) ?_ ?_
         rotate_left
         ·intro w'
          go_simp
          with_reducible rfl
         rotate_left
         ·simp only [Act.put, zs1, zs2, zs3, i64_w, i32_w]
          rfl
         refine pure_ (i := 11) (N := some 69) (v := ?_) (a' := ?_) #[true, true, true, true, true, true, true, true, true, true, true, true, false, false, false, false, false, false, false, false, false, false, false, false, false, false, false] rfl rfl (by kernel_rfl) (fun _ _ _ h => h) (Or.inl ⟨by rfl, ?_⟩) ?_ ?_
         rotate_left
         ·intro w'
          go_simp
          with_reducible rfl
         rotate_left
         ·simp only [Act.put, zs1, zs2, zs3, i64_w, i32_w]
          rfl
         refine pure_ (i := 12) (N := some 70) (v := ?_) (a' := ?_) #[true, true, true, true, true, true, true, true, true, true, true, true, true, false, false, false, false, false, false, false, false, false, false, false, false, false, false] rfl rfl (by kernel_rfl) (fun _ _ _ h => h) (Or.inl ⟨by rfl, ?_⟩) ?_ ?_
         rotate_left
         ·intro w'
          go_simp
          with_reducible rfl
         rotate_left
         ·simp only [Act.put, zs1, zs2, zs3, i64_w, i32_w]
          rfl
         refine take_ (i := 13) (N := some 71) (v := ?_) (a' := ?_) #[true, true, true, true, true, true, true, true, true, true, true, true, true, true, false, false, false, false, false, false, false, false, false, false, false, false, false] rfl rfl (by kernel_rfl) (fun _ _ _ h => h) (Or.inl ⟨by rfl, ?_⟩) hHeld ?_ ?_
         rotate_left
         ·rintro w' ⟨s0, s1, s2, s3, s4, s5, s6, s7, s8⟩
          go_simp
          with_reducible rfl
         rotate_left
         ·simp only [Act.put, zs1, zs2, zs3, i64_w, i32_w]
          rfl
         refine take_ (i := 14) (N := some 72) (v := ?_) (a' := ?_) #[true, true, true, true, true, true, true, true, true, true, true, true, true, true, true, false, false, false, false, false, false, false, false, false, false, false, false] rfl rfl (by kernel_rfl) (fun _ _ _ h => h) (Or.inl ⟨by rfl, ?_⟩) hHeld ?_ ?_
         rotate_left
         ·rintro w' ⟨s0, s1, s2, s3, s4, s5, s6, s7, s8⟩
          go_simp
          with_reducible rfl
         rotate_left
         ·simp only [Act.put, zs1, zs2, zs3, i64_w, i32_w]
          rfl
         refine take_ (i := 15) (N := some 73) (v := ?_) (a' := ?_) #[true, true, true, true, true, true, true, true, true, true, true, true, true, true, true, true, false, false, false, false, false, false, false, false, false, false, false] rfl rfl (by kernel_rfl) (fun _ _ _ h => h) (Or.inl ⟨by rfl, ?_⟩) hHeld ?_ ?_
         rotate_left
         ·rintro w' ⟨s0, s1, s2, s3, s4, s5, s6, s7, s8⟩
          go_simp
          with_reducible rfl
         rotate_left
         ·simp only [Act.put, zs1, zs2, zs3, i64_w, i32_w]
          rfl
         refine take_ (i := 18) (N := some 76) (v := ?_) (a' := ?_) #[true, true, true, true, true, true, true, true, true, true, true, true, true, true, true, true, false, false, true, false, false, false, false, false, false, false, false] rfl rfl (by kernel_rfl) (fun _ _ _ h => h) (Or.inl ⟨by rfl, ?_⟩) hHeld ?_ ?_
         rotate_left
         ·rintro w' ⟨s0, s1, s2, s3, s4, s5, s6, s7, s8⟩
          go_simp
          with_reducible rfl
         rotate_left
         ·simp only [Act.put, zs1, zs2, zs3, i64_w, i32_w]
          rfl
         refine take_ (i := 19) (N := some 77) (v := ?_) (a' := ?_) #[true, true, true, true, true, true, true, true, true, true, true, true, true, true, true, true, false, false, true, true, false, false, false, false, false, false, false] rfl rfl (by kernel_rfl) (fun _ _ _ h => h) (Or.inl ⟨by rfl, ?_⟩) hHeld ?_ ?_
         rotate_left
         ·rintro w' ⟨s0, s1, s2, s3, s4, s5, s6, s7, s8⟩
          go_simp
          with_reducible rfl
         rotate_left
         ·simp only [Act.put, zs1, zs2, zs3, i64_w, i32_w]
          rfl
         refine take_ (i := 20) (N := some 78) (v := ?_) (a' := ?_) #[true, true, true, true, true, true, true, true, true, true, true, true, true, true, true, true, false, false, true, true, true, false, false, false, false, false, false] rfl rfl (by kernel_rfl) (fun _ _ _ h => h) (Or.inl ⟨by rfl, ?_⟩) hHeld ?_ ?_
         rotate_left
         ·rintro w' ⟨s0, s1, s2, s3, s4, s5, s6, s7, s8⟩
          go_simp
          with_reducible rfl
         rotate_left
         ·simp only [Act.put, zs1, zs2, zs3, i64_w, i32_w]
          rfl
         refine one_ (i := 16) (N := some 74) #[true, true, true, true, true, true, true, true, true, true, true, true, true, true, true, true, true, false, true, true, true, false, false, false, false, false, false] rfl rfl (by kernel_rfl) (by decide) (fun K hK => ?_)
         refine goes_ Tryd.func102 (by kernel_rfl) rfl #[.agg #[.int .i64 a2_0, .int .i64 a2_1], .agg #[.int .i64 a3_0, .int .i64 a3_1], .agg #[.int .i64 a0_0, .int .i64 a0_1]] (by rfl) rfl rfl (by simp only [List.map_toArray, List.map_cons, List.map_nil]; rfl) ?_
         with_reducible refine (impl_cross.calls a2_0 a2_1 a3_0 a3_1 a0_0 a0_1 u3 _ HU3.out).mono ?_
         rintro e w3 ⟨rfl, hb⟩
         refine ⟨_, rfl, ?_⟩
         have B3 := below_step hHeld.1 hb
         refine hK.out _ _ ⟨B3, (M.out.step B3).z0.1, (M.out.step B3).z0.2, (M.out.step B3).z1.1, (M.out.step B3).z1.2, (M.out.step B3).z2.1, (M.out.step B3).z2.2, (M.out.step B3).z3.1, (M.out.step B3).z3.2⟩ (fun hHeld => ?_)
         clear hK K
         refine norm_ (a' := ?_) ?_ ?_
         rotate_left
         ·show Act.put _ (some 74) _ = _
          simp only [Act.put, zs1, zs2, zs3, i64_w, i32_w]
          rfl
         refine one_ (i := 17) (N := some 75) #[true, true, true, true, true, true, true, true, true, true, true, true, true, true, true, true, true, true, true, true, true, false, false, false, false, false, false] rfl rfl (by kernel_rfl) (by decide) (fun K hK => ?_)
         refine goes_ Tryd.func101 (by kernel_rfl) rfl #[.int .i64 u3] (by rfl) rfl rfl (by simp only [List.map_toArray, List.map_cons, List.map_nil]; rfl) ?_
         with_reducible refine (impl_sign.calls u3 s3 _ HS3.out).mono ?_
         rintro e w3 ⟨rfl, ⟨m, rfl⟩⟩
         refine ⟨_, rfl, ?_⟩
         have B3 := pw_below_drewN hHeld.1 m
         refine hK.out _ _ ⟨B3, (M.out.step B3).z0.1, (M.out.step B3).z0.2, (M.out.step B3).z1.1, (M.out.step B3).z1.2, (M.out.step B3).z2.1, (M.out.step B3).z2.2, (M.out.step B3).z3.1, (M.out.step B3).z3.2⟩ (fun hHeld => ?_)
         clear hK K
         refine norm_ (a' := ?_) ?_ ?_
         rotate_left
         ·show Act.put _ (some 75) _ = _
          simp only [Act.put, zs1, zs2, zs3, i64_w, i32_w]
          rfl
         refine one_ (i := 21) (N := some 79) #[true, true, true, true, true, true, true, true, true, true, true, true, true, true, true, true, true, true, true, true, true, true, false, false, false, false, false] rfl rfl (by kernel_rfl) (by decide) (fun K hK => ?_)
         refine goes_ Tryd.func102 (by kernel_rfl) rfl #[.agg #[.int .i64 a2_0, .int .i64 a2_1], .agg #[.int .i64 a3_0, .int .i64 a3_1], .agg #[.int .i64 a1_0, .int .i64 a1_1]] (by rfl) rfl rfl (by simp only [List.map_toArray, List.map_cons, List.map_nil]; rfl) ?_
         with_reducible refine (impl_cross.calls a2_0 a2_1 a3_0 a3_1 a1_0 a1_1 u4 _ HU4.out).mono ?_
         rintro e w3 ⟨rfl, hb⟩
         refine ⟨_, rfl, ?_⟩
         have B3 := below_step hHeld.1 hb
         refine hK.out _ _ ⟨B3, (M.out.step B3).z0.1, (M.out.step B3).z0.2, (M.out.step B3).z1.1, (M.out.step B3).z1.2, (M.out.step B3).z2.1, (M.out.step B3).z2.2, (M.out.step B3).z3.1, (M.out.step B3).z3.2⟩ (fun hHeld => ?_)
         clear hK K
         refine norm_ (a' := ?_) ?_ ?_
         rotate_left
         ·show Act.put _ (some 79) _ = _
          simp only [Act.put, zs1, zs2, zs3, i64_w, i32_w]
          rfl
         refine one_ (i := 22) (N := some 80) #[true, true, true, true, true, true, true, true, true, true, true, true, true, true, true, true, true, true, true, true, true, true, true, false, false, false, false] rfl rfl (by kernel_rfl) (by decide) (fun K hK => ?_)
         refine goes_ Tryd.func101 (by kernel_rfl) rfl #[.int .i64 u4] (by rfl) rfl rfl (by simp only [List.map_toArray, List.map_cons, List.map_nil]; rfl) ?_
         with_reducible refine (impl_sign.calls u4 s4 _ HS4.out).mono ?_
         rintro e w3 ⟨rfl, ⟨m, rfl⟩⟩
         refine ⟨_, rfl, ?_⟩
         have B3 := pw_below_drewN hHeld.1 m
         refine hK.out _ _ ⟨B3, (M.out.step B3).z0.1, (M.out.step B3).z0.2, (M.out.step B3).z1.1, (M.out.step B3).z1.2, (M.out.step B3).z2.1, (M.out.step B3).z2.2, (M.out.step B3).z3.1, (M.out.step B3).z3.2⟩ (fun hHeld => ?_)
         clear hK K
         refine norm_ (a' := ?_) ?_ ?_
         rotate_left
         ·show Act.put _ (some 80) _ = _
          simp only [Act.put, zs1, zs2, zs3, i64_w, i32_w]
          rfl
         refine pure_ (i := 23) (N := some 81) (v := ?_) (a' := ?_) #[true, true, true, true, true, true, true, true, true, true, true, true, true, true, true, true, true, true, true, true, true, true, true, true, false, false, false] rfl rfl (by kernel_rfl) (fun _ _ _ h => h) (Or.inl ⟨by rfl, ?_⟩) ?_ ?_
         rotate_left
         ·intro w'
          go_simp
          with_reducible rfl
         rotate_left
         ·simp only [Act.put, zs1, zs2, zs3, i64_w, i32_w]
          rfl
         refine pure_ (i := 24) (N := some 82) (v := ?_) (a' := ?_) #[true, true, true, true, true, true, true, true, true, true, true, true, true, true, true, true, true, true, true, true, true, true, true, true, true, false, false] rfl rfl (by kernel_rfl) (fun _ _ _ h => h) (Or.inl ⟨by rfl, ?_⟩) ?_ ?_
         rotate_left
         ·intro w'
          go_simp
          with_reducible rfl
         rotate_left
         ·simp only [Act.put, zs1, zs2, zs3, i64_w, i32_w]
          rfl
         refine pure_ (i := 25) (N := some 83) (v := ?_) (a' := ?_) #[true, true, true, true, true, true, true, true, true, true, true, true, true, true, true, true, true, true, true, true, true, true, true, true, true, true, false] rfl rfl (by kernel_rfl) (fun _ _ _ h => h) (Or.inl ⟨by rfl, ?_⟩) ?_ ?_
         rotate_left
         ·intro w'
          go_simp
          with_reducible rfl
         rotate_left
         ·simp only [Act.put, zs1, zs2, zs3, i64_w, i32_w]
          rfl
         refine pure_ (i := 26) (N := some 57) (v := ?_) (a' := ?_) #[true, true, true, true, true, true, true, true, true, true, true, true, true, true, true, true, true, true, true, true, true, true, true, true, true, true, true] rfl rfl (by kernel_rfl) (fun _ _ _ h => h) (Or.inl ⟨by rfl, ?_⟩) ?_ ?_
         rotate_left
         ·intro w'
          go_simp
          with_reducible rfl
         rotate_left
         ·simp only [Act.put, zs1, zs2, zs3, i64_w, i32_w]
          rfl
         refine done_ (by kernel_rfl) ?_
         go_wp2
         go_ret
         refine ⟨rfl, ?_⟩
         exact below_step M.out.e.below (by repeat (first | exact hHeld.1 | apply pw_below_drewN | apply below_drew1))
       ·rw [if_neg q3] at hH
        obtain rfl := Option.some.inj hH
        have q3b : decide (wrap64 (s1 * s2) < 0) = false := decide_eq_false q3
        have q3c : decide (IntKind.i64.wrap (s1 * s2) < 0) = false := by rw [i64_w]; exact q3b
        clear q3 hH
        go_upto_region 19 with (fail)
        refine start_ (n := 27) (S := fun w' => Below wr.heap.size wr w' ∧ w'.cell? ⟨g0, 0, none⟩ = some (.int .i64 a0_0) ∧ w'.cell? ⟨g0, 1, none⟩ = some (.int .i64 a0_1) ∧ w'.cell? ⟨g1, 0, none⟩ = some (.int .i64 a1_0) ∧ w'.cell? ⟨g1, 1, none⟩ = some (.int .i64 a1_1) ∧ w'.cell? ⟨g2, 0, none⟩ = some (.int .i64 a2_0) ∧ w'.cell? ⟨g2, 1, none⟩ = some (.int .i64 a2_1) ∧ w'.cell? ⟨g3, 0, none⟩ = some (.int .i64 a3_0) ∧ w'.cell? ⟨g3, 1, none⟩ = some (.int .i64 a3_1)) (ds := []) #[false, false, false, false, false, false, false, false, false, false, false, false, false, false, false, false, false, false, false, false, false, false, false, false, false, false, false] (by kernel_rfl) rfl rfl ⟨(by repeat (first | exact Below.refl _ _ | apply pw_below_drewN | apply below_drew1)), (M.out.step (by repeat (first | exact Below.refl _ _ | apply pw_below_drewN | apply below_drew1))).z0.1, (M.out.step (by repeat (first | exact Below.refl _ _ | apply pw_below_drewN | apply below_drew1))).z0.2, (M.out.step (by repeat (first | exact Below.refl _ _ | apply pw_below_drewN | apply below_drew1))).z1.1, (M.out.step (by repeat (first | exact Below.refl _ _ | apply pw_below_drewN | apply below_drew1))).z1.2, (M.out.step (by repeat (first | exact Below.refl _ _ | apply pw_below_drewN | apply below_drew1))).z2.1, (M.out.step (by repeat (first | exact Below.refl _ _ | apply pw_below_drewN | apply below_drew1))).z2.2, (M.out.step (by repeat (first | exact Below.refl _ _ | apply pw_below_drewN | apply below_drew1))).z3.1, (M.out.step (by repeat (first | exact Below.refl _ _ | apply pw_below_drewN | apply below_drew1))).z3.2⟩ (fun hHeld => ?_)
        refine take_ (i := 0) (N := some 58) (v := ?_) (a' := ?_) #[true, false, false, false, false, false, false, false, false, false, false, false, false, false, false, false, false, false, false, false, false, false, false, false, false, false, false] rfl rfl (by kernel_rfl) (fun _ _ _ h => h) (Or.inl ⟨by rfl, ?_⟩) hHeld ?_ ?_
        rotate_left
        ·rintro w' ⟨s0, s1, s2, s3, s4, s5, s6, s7, s8⟩
         go_simp
         with_reducible rfl
        rotate_left
        ·simp only [Act.put, zs1, zs2, zs3, i64_w, i32_w]
         rfl
        refine take_ (i := 1) (N := some 59) (v := ?_) (a' := ?_) #[true, true, false, false, false, false, false, false, false, false, false, false, false, false, false, false, false, false, false, false, false, false, false, false, false, false, false] rfl rfl (by kernel_rfl) (fun _ _ _ h => h) (Or.inl ⟨by rfl, ?_⟩) hHeld ?_ ?_
        rotate_left
        ·rintro w' ⟨s0, s1, s2, s3, s4, s5, s6, s7, s8⟩
         go_simp
         with_reducible rfl
        rotate_left
        ·simp only [Act.put, zs1, zs2, zs3, i64_w, i32_w]
         rfl
        refine take_ (i := 2) (N := some 60) (v := ?_) (a' := ?_) #[true, true, true, false, false, false, false, false, false, false, false, false, false, false, false, false, false, false, false, false, false, false, false, false, false, false, false] rfl rfl (by kernel_rfl) (fun _ _ _ h => h) (Or.inl ⟨by rfl, ?_⟩) hHeld ?_ ?_
        rotate_left
        ·rintro w' ⟨s0, s1, s2, s3, s4, s5, s6, s7, s8⟩
         go_simp
         with_reducible rfl
        rotate_left
        ·simp only [Act.put, zs1, zs2, zs3, i64_w, i32_w]
         rfl
        refine take_ (i := 5) (N := some 63) (v := ?_) (a' := ?_) #[true, true, true, false, false, true, false, false, false, false, false, false, false, false, false, false, false, false, false, false, false, false, false, false, false, false, false] rfl rfl (by kernel_rfl) (fun _ _ _ h => h) (Or.inl ⟨by rfl, ?_⟩) hHeld ?_ ?_
        rotate_left
        ·rintro w' ⟨s0, s1, s2, s3, s4, s5, s6, s7, s8⟩
         go_simp
         with_reducible rfl
        rotate_left
        ·simp only [Act.put, zs1, zs2, zs3, i64_w, i32_w]
         rfl
        refine take_ (i := 6) (N := some 64) (v := ?_) (a' := ?_) #[true, true, true, false, false, true, true, false, false, false, false, false, false, false, false, false, false, false, false, false, false, false, false, false, false, false, false] rfl rfl (by kernel_rfl) (fun _ _ _ h => h) (Or.inl ⟨by rfl, ?_⟩) hHeld ?_ ?_
        rotate_left
        ·rintro w' ⟨s0, s1, s2, s3, s4, s5, s6, s7, s8⟩
         go_simp
         with_reducible rfl
        rotate_left
        ·simp only [Act.put, zs1, zs2, zs3, i64_w, i32_w]
         rfl
        refine take_ (i := 7) (N := some 65) (v := ?_) (a' := ?_) #[true, true, true, false, false, true, true, true, false, false, false, false, false, false, false, false, false, false, false, false, false, false, false, false, false, false, false] rfl rfl (by kernel_rfl) (fun _ _ _ h => h) (Or.inl ⟨by rfl, ?_⟩) hHeld ?_ ?_
        rotate_left
        ·rintro w' ⟨s0, s1, s2, s3, s4, s5, s6, s7, s8⟩
         go_simp
         with_reducible rfl
        rotate_left
        ·simp only [Act.put, zs1, zs2, zs3, i64_w, i32_w]
         rfl
        refine one_ (i := 3) (N := some 61) #[true, true, true, true, false, true, true, true, false, false, false, false, false, false, false, false, false, false, false, false, false, false, false, false, false, false, false] rfl rfl (by kernel_rfl) (by decide) (fun K hK => ?_)
        refine goes_ Tryd.func102 (by kernel_rfl) rfl #[.agg #[.int .i64 a0_0, .int .i64 a0_1], .agg #[.int .i64 a1_0, .int .i64 a1_1], .agg #[.int .i64 a2_0, .int .i64 a2_1]] (by rfl) rfl rfl (by simp only [List.map_toArray, List.map_cons, List.map_nil]; rfl) ?_
        with_reducible refine (impl_cross.calls a0_0 a0_1 a1_0 a1_1 a2_0 a2_1 u1 _ HU1.out).mono ?_
        rintro e w3 ⟨rfl, hb⟩
        refine ⟨_, rfl, ?_⟩
        have B3 := below_step hHeld.1 hb
        refine hK.out _ _ ⟨B3, (M.out.step B3).z0.1, (M.out.step B3).z0.2, (M.out.step B3).z1.1, (M.out.step B3).z1.2, (M.out.step B3).z2.1, (M.out.step B3).z2.2, (M.out.step B3).z3.1, (M.out.step B3).z3.2⟩ (fun hHeld => ?_)
        clear hK K
        refine norm_ (a' := ?_) ?_ ?_
        rotate_left
        ·show Act.put _ (some 61) _ = _
         simp only [Act.put, zs1, zs2, zs3, i64_w, i32_w]
         rfl
        refine one_ (i := 4) (N := some 62) #[true, true, true, true, true, true, true, true, false, false, false, false, false, false, false, false, false, false, false, false, false, false, false, false, false, false, false] rfl rfl (by kernel_rfl) (by decide) (fun K hK => ?_)
        refine goes_ Tryd.func101 (by kernel_rfl) rfl #[.int .i64 u1] (by rfl) rfl rfl (by simp only [List.map_toArray, List.map_cons, List.map_nil]; rfl) ?_
        with_reducible refine (impl_sign.calls u1 s1 _ HS1.out).mono ?_
        rintro e w3 ⟨rfl, ⟨m, rfl⟩⟩
        refine ⟨_, rfl, ?_⟩
        have B3 := pw_below_drewN hHeld.1 m
        refine hK.out _ _ ⟨B3, (M.out.step B3).z0.1, (M.out.step B3).z0.2, (M.out.step B3).z1.1, (M.out.step B3).z1.2, (M.out.step B3).z2.1, (M.out.step B3).z2.2, (M.out.step B3).z3.1, (M.out.step B3).z3.2⟩ (fun hHeld => ?_)
        clear hK K
        refine norm_ (a' := ?_) ?_ ?_
        rotate_left
        ·show Act.put _ (some 62) _ = _
         simp only [Act.put, zs1, zs2, zs3, i64_w, i32_w]
         rfl
        refine one_ (i := 8) (N := some 66) #[true, true, true, true, true, true, true, true, true, false, false, false, false, false, false, false, false, false, false, false, false, false, false, false, false, false, false] rfl rfl (by kernel_rfl) (by decide) (fun K hK => ?_)
        refine goes_ Tryd.func102 (by kernel_rfl) rfl #[.agg #[.int .i64 a0_0, .int .i64 a0_1], .agg #[.int .i64 a1_0, .int .i64 a1_1], .agg #[.int .i64 a3_0, .int .i64 a3_1]] (by rfl) rfl rfl (by simp only [List.map_toArray, List.map_cons, List.map_nil]; rfl) ?_
        with_reducible refine (impl_cross.calls a0_0 a0_1 a1_0 a1_1 a3_0 a3_1 u2 _ HU2.out).mono ?_
        rintro e w3 ⟨rfl, hb⟩
        refine ⟨_, rfl, ?_⟩
        have B3 := below_step hHeld.1 hb
        refine hK.out _ _ ⟨B3, (M.out.step B3).z0.1, (M.out.step B3).z0.2, (M.out.step B3).z1.1, (M.out.step B3).z1.2, (M.out.step B3).z2.1, (M.out.step B3).z2.2, (M.out.step B3).z3.1, (M.out.step B3).z3.2⟩ (fun hHeld => ?_)
        clear hK K
        refine norm_ (a' := ?_) ?_ ?_
        rotate_left
        ·show Act.put _ (some 66) _ = _
         simp only [Act.put, zs1, zs2, zs3, i64_w, i32_w]
         rfl
        refine one_ (i := 9) (N := some 67) #[true, true, true, true, true, true, true, true, true, true, false, false, false, false, false, false, false, false, false, false, false, false, false, false, false, false, false] rfl rfl (by kernel_rfl) (by decide) (fun K hK => ?_)
        refine goes_ Tryd.func101 (by kernel_rfl) rfl #[.int .i64 u2] (by rfl) rfl rfl (by simp only [List.map_toArray, List.map_cons, List.map_nil]; rfl) ?_
        with_reducible refine (impl_sign.calls u2 s2 _ HS2.out).mono ?_
        rintro e w3 ⟨rfl, ⟨m, rfl⟩⟩
        refine ⟨_, rfl, ?_⟩
        have B3 := pw_below_drewN hHeld.1 m
        refine hK.out _ _ ⟨B3, (M.out.step B3).z0.1, (M.out.step B3).z0.2, (M.out.step B3).z1.1, (M.out.step B3).z1.2, (M.out.step B3).z2.1, (M.out.step B3).z2.2, (M.out.step B3).z3.1, (M.out.step B3).z3.2⟩ (fun hHeld => ?_)
        clear hK K
        refine norm_ (a' := ?_) ?_ ?_
        rotate_left
        ·show Act.put _ (some 67) _ = _
         simp only [Act.put, zs1, zs2, zs3, i64_w, i32_w]
         rfl
        refine pure_ (i := 10) (N := some 68) (v := ?_) (a' := ?_) #[true, true, true, true, true, true, true, true, true, true, true, false, false, false, false, false, false, false, false, false, false, false, false, false, false, false, false] rfl rfl (by kernel_rfl) (fun _ _ _ h => h) (Or.inl ⟨by rfl, ?_⟩) ?_ ?_
        rotate_left
        ·intro w'
         go_simp
         with_reducible rfl
        rotate_left
        ·simp only [Act.put, zs1, zs2, zs3, i64_w, i32_w]
         rfl
        refine pure_ (i := 11) (N := some 69) (v := ?_) (a' := ?_) #[true, true, true, true, true, true, true, true, true, true, true, true, false, false, false, false, false, false, false, false, false, false, false, false, false, false, false] rfl rfl (by kernel_rfl) (fun _ _ _ h => h) (Or.inl ⟨by rfl, ?_⟩) ?_ ?_
        rotate_left
        ·intro w'
         go_simp
         with_reducible rfl
        rotate_left
        ·simp only [Act.put, zs1, zs2, zs3, i64_w, i32_w]
         rfl
        refine pure_ (i := 12) (N := some 70) (v := ?_) (a' := ?_) #[true, true, true, true, true, true, true, true, true, true, true, true, true, false, false, false, false, false, false, false, false, false, false, false, false, false, false] rfl rfl (by kernel_rfl) (fun _ _ _ h => h) (Or.inl ⟨by rfl, ?_⟩) ?_ ?_
        rotate_left
        ·intro w'
         go_simp
         with_reducible rfl
        rotate_left
        ·simp only [Act.put, zs1, zs2, zs3, i64_w, i32_w]
         rfl
        refine pure_ (i := 13) (N := some 71) (v := undef) (a' := ?_) #[true, true, true, true, true, true, true, true, true, true, true, true, true, true, false, false, false, false, false, false, false, false, false, false, false, false, false] rfl rfl (by kernel_rfl) (fun _ _ _ h => h) (Or.inr ⟨by rfl, rfl⟩) ?_ ?_
        rotate_left
        ·simp only [Act.put, zs1, zs2, zs3, i64_w, i32_w]
         rfl
        refine pure_ (i := 14) (N := some 72) (v := undef) (a' := ?_) #[true, true, true, true, true, true, true, true, true, true, true, true, true, true, true, false, false, false, false, false, false, false, false, false, false, false, false] rfl rfl (by kernel_rfl) (fun _ _ _ h => h) (Or.inr ⟨by rfl, rfl⟩) ?_ ?_
        rotate_left
        ·simp only [Act.put, zs1, zs2, zs3, i64_w, i32_w]
         rfl
        refine pure_ (i := 15) (N := some 73) (v := undef) (a' := ?_) #[true, true, true, true, true, true, true, true, true, true, true, true, true, true, true, true, false, false, false, false, false, false, false, false, false, false, false] rfl rfl (by kernel_rfl) (fun _ _ _ h => h) (Or.inr ⟨by rfl, rfl⟩) ?_ ?_
        rotate_left
        ·simp only [Act.put, zs1, zs2, zs3, i64_w, i32_w]
         rfl
        refine pure_ (i := 16) (N := some 74) (v := undef) (a' := ?_) #[true, true, true, true, true, true, true, true, true, true, true, true, true, true, true, true, true, false, false, false, false, false, false, false, false, false, false] rfl rfl (by kernel_rfl) (fun _ _ _ h => h) (Or.inr ⟨by rfl, rfl⟩) ?_ ?_
        rotate_left
        ·simp only [Act.put, zs1, zs2, zs3, i64_w, i32_w]
         rfl
        refine pure_ (i := 17) (N := some 75) (v := undef) (a' := ?_) #[true, true, true, true, true, true, true, true, true, true, true, true, true, true, true, true, true, true, false, false, false, false, false, false, false, false, false] rfl rfl (by kernel_rfl) (fun _ _ _ h => h) (Or.inr ⟨by rfl, rfl⟩) ?_ ?_
        rotate_left
        ·simp only [Act.put, zs1, zs2, zs3, i64_w, i32_w]
         rfl
        refine pure_ (i := 18) (N := some 76) (v := undef) (a' := ?_) #[true, true, true, true, true, true, true, true, true, true, true, true, true, true, true, true, true, true, true, false, false, false, false, false, false, false, false] rfl rfl (by kernel_rfl) (fun _ _ _ h => h) (Or.inr ⟨by rfl, rfl⟩) ?_ ?_
        rotate_left
        ·simp only [Act.put, zs1, zs2, zs3, i64_w, i32_w]
         rfl
        refine pure_ (i := 19) (N := some 77) (v := undef) (a' := ?_) #[true, true, true, true, true, true, true, true, true, true, true, true, true, true, true, true, true, true, true, true, false, false, false, false, false, false, false] rfl rfl (by kernel_rfl) (fun _ _ _ h => h) (Or.inr ⟨by rfl, rfl⟩) ?_ ?_
        rotate_left
        ·simp only [Act.put, zs1, zs2, zs3, i64_w, i32_w]
         rfl
        refine pure_ (i := 20) (N := some 78) (v := undef) (a' := ?_) #[true, true, true, true, true, true, true, true, true, true, true, true, true, true, true, true, true, true, true, true, true, false, false, false, false, false, false] rfl rfl (by kernel_rfl) (fun _ _ _ h => h) (Or.inr ⟨by rfl, rfl⟩) ?_ ?_
        rotate_left
        ·simp only [Act.put, zs1, zs2, zs3, i64_w, i32_w]
         rfl
        refine pure_ (i := 21) (N := some 79) (v := undef) (a' := ?_) #[true, true, true, true, true, true, true, true, true, true, true, true, true, true, true, true, true, true, true, true, true, true, false, false, false, false, false] rfl rfl (by kernel_rfl) (fun _ _ _ h => h) (Or.inr ⟨by rfl, rfl⟩) ?_ ?_
        rotate_left
        ·simp only [Act.put, zs1, zs2, zs3, i64_w, i32_w]
         rfl
        refine pure_ (i := 22) (N := some 80) (v := undef) (a' := ?_) #[true, true, true, true, true, true, true, true, true, true, true, true, true, true, true, true, true, true, true, true, true, true, true, false, false, false, false] rfl rfl (by kernel_rfl) (fun _ _ _ h => h) (Or.inr ⟨by rfl, rfl⟩) ?_ ?_
        rotate_left
        ·simp only [Act.put, zs1, zs2, zs3, i64_w, i32_w]
         rfl
        refine pure_ (i := 23) (N := some 81) (v := undef) (a' := ?_) #[true, true, true, true, true, true, true, true, true, true, true, true, true, true, true, true, true, true, true, true, true, true, true, true, false, false, false] rfl rfl (by kernel_rfl) (fun _ _ _ h => h) (Or.inr ⟨by rfl, rfl⟩) ?_ ?_
        rotate_left
        ·simp only [Act.put, zs1, zs2, zs3, i64_w, i32_w]
         rfl
        refine pure_ (i := 24) (N := some 82) (v := undef) (a' := ?_) #[true, true, true, true, true, true, true, true, true, true, true, true, true, true, true, true, true, true, true, true, true, true, true, true, true, false, false] rfl rfl (by kernel_rfl) (fun _ _ _ h => h) (Or.inr ⟨by rfl, rfl⟩) ?_ ?_
        rotate_left
        ·simp only [Act.put, zs1, zs2, zs3, i64_w, i32_w]
         rfl
        refine pure_ (i := 25) (N := some 83) (v := ?_) (a' := ?_) #[true, true, true, true, true, true, true, true, true, true, true, true, true, true, true, true, true, true, true, true, true, true, true, true, true, true, false] rfl rfl (by kernel_rfl) (fun _ _ _ h => h) (Or.inl ⟨by rfl, ?_⟩) ?_ ?_
        rotate_left
        ·intro w'
         go_simp
         with_reducible rfl
        rotate_left
        ·simp only [Act.put, zs1, zs2, zs3, i64_w, i32_w]
         rfl
        refine pure_ (i := 26) (N := some 57) (v := ?_) (a' := ?_) #[true, true, true, true, true, true, true, true, true, true, true, true, true, true, true, true, true, true, true, true, true, true, true, true, true, true, true] rfl rfl (by kernel_rfl) (fun _ _ _ h => h) (Or.inl ⟨by rfl, ?_⟩) ?_ ?_
        rotate_left
        ·intro w'
         go_simp
         with_reducible rfl
        rotate_left
        ·simp only [Act.put, zs1, zs2, zs3, i64_w, i32_w]
         rfl
        refine done_ (by kernel_rfl) ?_
        go_wp2
        go_ret
        refine ⟨rfl, ?_⟩
        exact below_step M.out.e.below (by repeat (first | exact hHeld.1 | apply pw_below_drewN | apply below_drew1))
end

end Go.Proofs.YtelhjgkjnlcomaaDoor.QFnExactMeasureLine
