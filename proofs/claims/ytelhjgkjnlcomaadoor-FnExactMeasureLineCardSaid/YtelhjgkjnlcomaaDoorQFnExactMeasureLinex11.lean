-- Printed for this claim by a changed copy of the kit's print (the session's own; own contracts in place of some functions).
import Derived.Test.YtelhjgkjnlcomaaDoorQFnExactMeasureLinex0
import Derived.Test.YtelhjgkjnlcomaaDoorQFnExactMeasureLinex1
import Derived.Test.YtelhjgkjnlcomaaDoorQFnExactMeasureLinex9
import Derived.Test.YtelhjgkjnlcomaaDoorQFnExactMeasureLinex10
namespace Go.Proofs.YtelhjgkjnlcomaaDoor.QFnExactMeasureLine
open Go.RowKit Go.Proofs.YtelhjgkjnlcomaaDoorW.PrintWords Go.Proofs.YtelhjgkjnlcomaaDoorW.PrintLast Go.Proofs.YtelhjgkjnlcomaaDoorW.PrintMore
attribute [local go_sem] max2_int min2_int max_two min_two max_three min_three max_four min_four   -- for this text's walks alone
set_option linter.unusedVariables false
set_option linter.unusedSimpArgs false

/-! ### impl_PolygonOk: function 44 -/
--import Derived.WalkSpells
def impl_PolygonOk.want (n i k : Int) : Int := if k = i + 1 then 1 else if i = 0 then (if k = n - 1 then 1 else 0) else 0
def impl_PolygonOk.li (l0 : List (S53)) : Nat → Int → Int → Option Bool
 | 0, _, _ => none
 | f + 1, i, k => if k < (l0.length : Int) then
   (if ((rd_T53 l0 i).f0 == (rd_T53 l0 (i + 1)).f0 && (rd_T53 l0 i).f1 == (rd_T53 l0 (i + 1)).f1) = true then some false
   else if ((rd_T53 l0 k).f0 == (rd_T53 l0 ((k + 1) % (l0.length : Int))).f0 && (rd_T53 l0 k).f1 == (rd_T53 l0 ((k + 1) % (l0.length : Int))).f1) = true then some false
   else (impl_meet.f (rd_T53 l0 i).f0 (rd_T53 l0 i).f1 (rd_T53 l0 (i + 1)).f0 (rd_T53 l0 (i + 1)).f1 (rd_T53 l0 k).f0 (rd_T53 l0 k).f1 (rd_T53 l0 ((k + 1) % (l0.length : Int))).f0 (rd_T53 l0 ((k + 1) % (l0.length : Int))).f1).bind fun m => if m = impl_PolygonOk.want l0.length i k then impl_PolygonOk.li l0 f i (k + 1) else some false)
  else (if i + 1 < (l0.length : Int) then impl_PolygonOk.li l0 f (i + 1) (i + 2) else some true)
def impl_PolygonOk.f (k : Nat) (l0 : List (S53)) : Option Bool :=
 if l0.length < 3 ∨ 10 < l0.length then some false else (impl_arePoints.f k l0).bind fun t => if t = true then impl_PolygonOk.li l0 k 0 1 else some false
theorem impl_PolygonOk.li_mono (l0 : List (S53)) : ∀ (f : Nat) (i k : Int), LeO (impl_PolygonOk.li l0 f i k) (impl_PolygonOk.li l0 (f + 1) i k)
 | 0, _, _ => fun r h => by simp [impl_PolygonOk.li] at h
 | f + 1, i, k => by
  rw [impl_PolygonOk.li, impl_PolygonOk.li]
  refine LeO.ite (LeO.ite (LeO.refl _) (LeO.ite (LeO.refl _) (LeO.bind (LeO.refl _) (fun m => LeO.ite (impl_PolygonOk.li_mono l0 f i (k + 1)) (LeO.refl _))))) (LeO.ite (impl_PolygonOk.li_mono l0 f (i + 1) (i + 2)) (LeO.refl _))
theorem impl_PolygonOk.mono : ∀ a0 k, LeO (impl_PolygonOk.f k a0) (impl_PolygonOk.f (k + 1) a0) := by
 intro a0 k
 unfold impl_PolygonOk.f
 exact LeO.ite (LeO.refl _) (LeO.bind (impl_arePoints.mono _ _) (fun t => LeO.ite (impl_PolygonOk.li_mono _ _ _ _) (LeO.refl _)))
theorem impl_PolygonOk.want0 (n i k : Int) (h : ¬ impl_PolygonOk.want n i k = 1) : impl_PolygonOk.want n i k = 0 := by
 unfold impl_PolygonOk.want at h ⊢
 by_cases a : k = i + 1
 ·rw [if_pos a] at h; exact absurd rfl h
 ·rw [if_neg a] at h ⊢
  by_cases b : i = 0
  ·rw [if_pos b] at h ⊢
   by_cases c : k = n - 1
   ·rw [if_pos c] at h; exact absurd rfl h
   ·rw [if_neg c]
  ·rw [if_neg b]
theorem impl_PolygonOk.four (W : World) (o1 o2 o3 o4 : Obj) : ((((W.alloc o1).alloc o2).alloc o3).alloc o4).heap[W.heap.size]? = some o1 ∧ ((((W.alloc o1).alloc o2).alloc o3).alloc o4).heap[W.heap.size + 1]? = some o2 ∧ ((((W.alloc o1).alloc o2).alloc o3).alloc o4).heap[W.heap.size + 1 + 1]? = some o3 ∧ ((((W.alloc o1).alloc o2).alloc o3).alloc o4).heap[W.heap.size + 1 + 1 + 1]? = some o4 := by
 refine ⟨blk_alloc (blk_alloc (blk_alloc (blk_new _ _) _) _) _, blk_alloc (blk_alloc ?_ _) _, blk_alloc ?_ _, ?_⟩
 ·have := blk_new (W.alloc o1) o2
  simpa using this
 ·have := blk_new ((W.alloc o1).alloc o2) o3
  simpa using this
 ·have := blk_new (((W.alloc o1).alloc o2).alloc o3) o4
  simpa using this
theorem impl_PolygonOk.keep8 {W w' : World} {p0 p1 p2 p3 p4 p5 p6 p7 : Addr} {v0 v1 v2 v3 v4 v5 v6 v7 : Value} (h0 : W.cell? p0 = some v0) (h1 : W.cell? p1 = some v1) (h2 : W.cell? p2 = some v2) (h3 : W.cell? p3 = some v3) (h4 : W.cell? p4 = some v4) (h5 : W.cell? p5 = some v5) (h6 : W.cell? p6 = some v6) (h7 : W.cell? p7 = some v7) (hb : Below W.heap.size W w') :
  Below W.heap.size W w' ∧ w'.cell? p0 = some v0 ∧ w'.cell? p1 = some v1 ∧ w'.cell? p2 = some v2 ∧ w'.cell? p3 = some v3 ∧ w'.cell? p4 = some v4 ∧ w'.cell? p5 = some v5 ∧ w'.cell? p6 = some v6 ∧ w'.cell? p7 = some v7 :=
 ⟨hb, (hb.cell (zl h0)).trans h0, (hb.cell (zl h1)).trans h1, (hb.cell (zl h2)).trans h2, (hb.cell (zl h3)).trans h3, (hb.cell (zl h4)).trans h4, (hb.cell (zl h5)).trans h5, (hb.cell (zl h6)).trans h6, (hb.cell (zl h7)).trans h7⟩
theorem impl_PolygonOk.forget {P : Program} {c : Code} {Q : Exit → Act → World → Prop} {a : Act} {I : World → Prop} {W0 : World} (h0 : I W0) (h : ∀ W : World, I W → Code.wp P c Q a W) : Code.wp P c Q a W0 := h W0 h0
section
attribute [local go_sem high] eqA53
set_option maxHeartbeats 8000000 in
set_option maxRecDepth 100000 in
theorem impl_PolygonOk.calls (k : Nat) (A0 : Option Addr) (c0 : Nat) (l0 : List (S53)) (r : Bool) (w : World) (hr0 : Kd.C k53 w A0 l0.length l0) (hc0 : l0.length ≤ c0) (h : impl_PolygonOk.f k l0 = some r) :
  Calls Tryd.prog 44 #[.slice A0 l0.length c0] w fun e w' => e = .returned (.bool r) ∧ Below w.heap.size w w' := by
 have hu53 := Tryd.underlying53
 have HR0 := zm1 hr0
 have HC0 := zm1 hc0
 clear hr0 hc0
 unfold impl_PolygonOk.f at h
 by_cases c1 : l0.length < 3
 ·rw [if_pos (.inl c1)] at h
  obtain rfl := Option.some.inj h
  have b1 : decide ((l0.length : Int) < 3) = true := decide_eq_true (by omega)
  have b2 : decide (l0.length < 3) = true := decide_eq_true c1
  clear c1 h
  go_enter Tryd.func44, Tryd.ntmps44
  go_wp2
  go_ret
  exact ⟨rfl, by repeat (first | exact Below.refl _ _ | apply pw_below_drewN | apply below_drew1)⟩
 ·have b1 : decide ((l0.length : Int) < 3) = false := decide_eq_false (by omega)
  have b2 : decide (l0.length < 3) = false := decide_eq_false c1
  by_cases c2 : 10 < l0.length
  ·rw [if_pos (.inr c2)] at h
   obtain rfl := Option.some.inj h
   have d1 : decide ((10 : Int) < (l0.length : Int)) = true := decide_eq_true (by omega)
   have d2 : decide (10 < l0.length) = true := decide_eq_true c2
   clear c1 c2 h
   go_enter Tryd.func44, Tryd.ntmps44
   go_wp2
   go_ret
   exact ⟨rfl, by repeat (first | exact Below.refl _ _ | apply pw_below_drewN | apply below_drew1)⟩
  ·rw [if_neg (by omega)] at h
   have d1 : decide ((10 : Int) < (l0.length : Int)) = false := decide_eq_false (by omega)
   have d2 : decide (10 < l0.length) = false := decide_eq_false c2
   have N3 := zm1 (show 3 ≤ l0.length ∧ l0.length ≤ 10 by omega)
   rw [Option.bind_eq_some_iff] at h
   obtain ⟨t, T, h⟩ := h
   have HT := zm1 T
   clear T c1 c2
   cases t with
   | false =>
    obtain rfl : false = r := by simpa using h
    clear h
    go_enter Tryd.func44, Tryd.ntmps44
    go_wp2_with (first | (go_at_call 71; (with_reducible refine (impl_arePoints.calls k _ _ l0 false _ ?s1 ?s2 HT.out).mono ?_); (case s1 => exact HR0.out); (case s2 => exact HC0.out); rintro e w1 ⟨rfl, hb⟩; have HB := zm1 hb; clear hb))
    go_ret
    exact ⟨rfl, by repeat (first | exact HB.out | apply pw_below_drewN | apply below_drew1)⟩
   | true =>
    rw [if_pos rfl] at h
    have H := zm1 h
    clear h
    go_enter Tryd.func44, Tryd.ntmps44
    go_wp2_with (first | (go_at_call 71; (with_reducible refine (impl_arePoints.calls k _ _ l0 true _ ?s1 ?s2 HT.out).mono ?_); (case s1 => exact HR0.out); (case s2 => exact HC0.out); rintro e w1 ⟨rfl, hb⟩; have HB := zm1 hb; clear hb))
    refine impl_PolygonOk.forget (I := fun W => Below w.heap.size w W) (by repeat (first | exact HB.out | apply pw_below_drewN | apply below_drew1)) ?_
    intro W1 hB1
    have HB1 := zm1 hB1
    clear hB1 HB b1 b2 d1 d2 HT
    go_loopg [25] (k + 1) (fun kq v25 w' => ∃ i : Int, v25 = .int .i64 i ∧ Aside0 (0 ≤ i) ∧ Aside0 ((i < (l0.length : Int) ∧ ∃ f, f + 1 ≤ kq ∧ impl_PolygonOk.li l0 f i (i + 1) = some r) ∨ (i = (l0.length : Int) ∧ r = true)) ∧ Aside0 (Below w.heap.size w w'))
    case atStart => exact ⟨0, (by first | rfl | (simp; done) | (simp [*]; done)), ⟨by omega⟩, ⟨.inl ⟨by have := N3.out; omega, k, by omega, H.out⟩⟩, HB1⟩
    case round =>
     clear HB1 H
     obtain ⟨i, rfl, HI, HF, HB⟩ := hrel
     have h3 := N3.out
     have hi0 := HI.out
     rcases HF.out with ⟨hi, f, hf, hl⟩ | ⟨hi, rfl⟩
     ·have c25 : decide (i < (l0.length : Int)) = true := decide_eq_true hi
      have HFF := zm1 hf
      have HL := zm1 hl
      have HIL := zm1 hi
      clear HF hf hl
      go_upto_region 8 with (fail)
      refine impl_PolygonOk.forget (I := fun W => Below w.heap.size w W) (by repeat (first | exact HB.out | apply pw_below_drewN | apply below_drew1)) ?_
      intro W2 hB2
      have HB2 := zm1 hB2
      clear hB2 HB c25
      go_loopg [5] f (fun kq v5 w' => ∃ k2 : Int, v5 = .int .i64 k2 ∧ Aside0 (i + 1 ≤ k2 ∧ k2 ≤ (l0.length : Int)) ∧ Aside0 (impl_PolygonOk.li l0 kq i k2 = some r) ∧ Aside0 (kq ≤ f) ∧ Aside0 (Below w.heap.size w w'))
      case atStart => exact ⟨i + 1, (by first | rfl | (simp; done) | (simp [*]; done)), ⟨by have := HIL.out; omega⟩, HL, ⟨Nat.le_refl _⟩, HB2⟩
      case round =>
       clear HB2 HL
       obtain ⟨k2, rfl, HK, HL, HK1, HB⟩ := hrel
       have hk2 := HK.out
       cases gk with
       | zero => exact absurd HL.out (by simp [impl_PolygonOk.li])
       | succ f1 =>
        have hl := HL.out
        rw [impl_PolygonOk.li] at hl
        clear HL
        by_cases ck : k2 < (l0.length : Int)
        ·rw [if_pos ck] at hl
         have ckb : decide (k2 < (l0.length : Int)) = true := decide_eq_true ck
         have HL := zm1 hl
         clear hl
         go_upto_region 11 with (fail)
         go_cut [48] (fun v48 wc => v48 = .bool (impl_PolygonOk.want l0.length i k2 == 1) ∧ Aside0 (Below w.heap.size w wc))
         case first =>
          by_cases w1 : k2 = i + 1
          ·have w1b : (k2 == i + 1) = true := beq_iff_eq.mpr w1
           have e : impl_PolygonOk.want l0.length i k2 = 1 := by unfold impl_PolygonOk.want; rw [if_pos w1]
           clear w1
           go_wp2
           go_meet
           case rel => exact ⟨by rw [e]; first | rfl | (simp [*]; done), ⟨by repeat (first | exact HB.out | apply pw_below_drewN | apply below_drew1)⟩⟩
          ·have w1b : (k2 == i + 1) = false := beq_eq_false_iff_ne.mpr w1
           by_cases w2 : i = 0
           ·have w2b : (i == 0) = true := beq_iff_eq.mpr w2
            by_cases w3 : k2 = (l0.length : Int) - 1
            ·have w3b : (k2 == (l0.length : Int) - 1) = true := beq_iff_eq.mpr w3
             have e : impl_PolygonOk.want l0.length i k2 = 1 := by unfold impl_PolygonOk.want; rw [if_neg w1, if_pos w2, if_pos w3]
             clear w1 w2 w3
             go_wp2
             go_meet
             case rel => exact ⟨by rw [e]; first | rfl | (simp [*]; done), ⟨by repeat (first | exact HB.out | apply pw_below_drewN | apply below_drew1)⟩⟩
            ·have w3b : (k2 == (l0.length : Int) - 1) = false := beq_eq_false_iff_ne.mpr w3
             have e : impl_PolygonOk.want l0.length i k2 = 0 := by unfold impl_PolygonOk.want; rw [if_neg w1, if_pos w2, if_neg w3]
             clear w1 w2 w3
             go_wp2
             go_meet
             case rel => exact ⟨by rw [e]; first | rfl | (simp [*]; done), ⟨by repeat (first | exact HB.out | apply pw_below_drewN | apply below_drew1)⟩⟩
           ·have w2b : (i == 0) = false := beq_eq_false_iff_ne.mpr w2
            have e : impl_PolygonOk.want l0.length i k2 = 0 := by unfold impl_PolygonOk.want; rw [if_neg w1, if_neg w2]
            clear w1 w2
            go_wp2
            go_meet
            case rel => exact ⟨by rw [e]; first | rfl | (simp [*]; done), ⟨by repeat (first | exact HB.out | apply pw_below_drewN | apply below_drew1)⟩⟩
         case rest =>
          clear HB
          obtain ⟨rfl, HB3⟩ := hcut
          cases hw : (impl_PolygonOk.want l0.length i k2 == 1) with
          | true =>
           go_upto_region 13 with (fail)
           refine impl_PolygonOk.forget (I := fun W => Below w.heap.size w W) (by repeat (first | exact HB3.out | apply pw_below_drewN | apply below_drew1)) ?_
           intro W4 hB4
           have hC := Kd.C_below HR0.out hB4
           have HB4 := zm1 hB4
           clear hB4 HB3
           have hi1 : i + 1 < (l0.length : Int) := by omega
           have hi2 : 0 ≤ i + 1 := by omega
           have hkk : 0 ≤ k2 := by omega
           have hn0 : ¬ (l0.length : Int) = 0 := by omega
           have hn1 : ((l0.length : Int) == 0) = false := beq_eq_false_iff_ne.mpr hn0
           have hn2 : ¬ l0.length = 0 := by omega
           have hn3 : Int.tmod (k2 + 1) (l0.length : Int) = (k2 + 1) % (l0.length : Int) := Int.tmod_eq_emod_of_nonneg (by omega)
           have hwr1 : IntKind.i64.wrap (i + 1) = i + 1 := by rw [i64_w]; unfold wrap64; omega
           have hwr2 : IntKind.i64.wrap (k2 + 1) = k2 + 1 := by rw [i64_w]; unfold wrap64; omega
           obtain ⟨ad, e, ha0, ha1⟩ := at_T53 hC i hi0 hi
           cases e
           obtain ⟨ad2, e, hb0, hb1⟩ := at_T53 hC (i + 1) hi2 hi1
           cases e
           obtain ⟨ad2, e, hc0, hc1⟩ := at_T53 hC k2 hkk ck
           cases e
           have ht0 : 0 ≤ (k2 + 1) % (l0.length : Int) := Int.emod_nonneg _ (by omega)
           have ht1 : (k2 + 1) % (l0.length : Int) < (l0.length : Int) := Int.emod_lt_of_pos _ (by omega)
           obtain ⟨ad2, e, hd0, hd1⟩ := at_T53 hC ((k2 + 1) % (l0.length : Int)) ht0 ht1
           cases e
           clear hC
           go_cut [7, 8, 9, 10] (fun v7 v8 v9 v10 wc => ∃ g7 g8 g9 g10 : Nat, v7 = .pointer (some ⟨g7, 0, none⟩) ∧ v8 = .pointer (some ⟨g8, 0, none⟩) ∧ v9 = .pointer (some ⟨g9, 0, none⟩) ∧ v10 = .pointer (some ⟨g10, 0, none⟩) ∧ Aside0 (wc.heap[g7]? = some (.cells #[.int .i64 (rd_T53 l0 i).f0, .int .i64 (rd_T53 l0 i).f1] 53 (0, 0)) ∧ wc.heap[g8]? = some (.cells #[.int .i64 (rd_T53 l0 (i + 1)).f0, .int .i64 (rd_T53 l0 (i + 1)).f1] 53 (0, 0)) ∧ wc.heap[g9]? = some (.cells #[.int .i64 (rd_T53 l0 k2).f0, .int .i64 (rd_T53 l0 k2).f1] 53 (0, 0)) ∧ wc.heap[g10]? = some (.cells #[.int .i64 (rd_T53 l0 ((k2 + 1) % (l0.length : Int))).f0, .int .i64 (rd_T53 l0 ((k2 + 1) % (l0.length : Int))).f1] 53 (0, 0))) ∧ Aside0 (Below w.heap.size w wc))
           case first =>
            go_region_held3 (fun w' => Below W4.heap.size W4 w' ∧ w'.cell? (ad.add ((i : Int).toNat * 2)) = some (.int .i64 (rd_T53 l0 i).f0) ∧ w'.cell? ⟨((ad.add ((i : Int).toNat * 2))).block, ((ad.add ((i : Int).toNat * 2))).off + 1, none⟩ = some (.int .i64 (rd_T53 l0 i).f1) ∧ w'.cell? (ad.add ((i + 1).toNat * 2)) = some (.int .i64 (rd_T53 l0 (i + 1)).f0) ∧ w'.cell? ⟨((ad.add ((i + 1).toNat * 2))).block, ((ad.add ((i + 1).toNat * 2))).off + 1, none⟩ = some (.int .i64 (rd_T53 l0 (i + 1)).f1) ∧ w'.cell? (ad.add ((k2 : Int).toNat * 2)) = some (.int .i64 (rd_T53 l0 k2).f0) ∧ w'.cell? ⟨((ad.add ((k2 : Int).toNat * 2))).block, ((ad.add ((k2 : Int).toNat * 2))).off + 1, none⟩ = some (.int .i64 (rd_T53 l0 k2).f1) ∧ w'.cell? (ad.add (((k2 + 1) % (l0.length : Int)).toNat * 2)) = some (.int .i64 (rd_T53 l0 ((k2 + 1) % (l0.length : Int))).f0) ∧ w'.cell? ⟨((ad.add (((k2 + 1) % (l0.length : Int)).toNat * 2))).block, ((ad.add (((k2 + 1) % (l0.length : Int)).toNat * 2))).off + 1, none⟩ = some (.int .i64 (rd_T53 l0 ((k2 + 1) % (l0.length : Int))).f1)) ((refine impl_PolygonOk.keep8 ha0 ha1 hb0 hb1 hc0 hc1 hd0 hd1 ?_; repeat (first | assumption | exact Below.refl _ _ | apply pw_below_drewN | apply below_drew1 | apply below_alloc))) (fail)
            all_goals
             go_wp2
             go_meet
             case rel => exact ⟨_, _, _, _, rfl, rfl, rfl, rfl, ⟨by first | exact (impl_PolygonOk.four _ _ _ _ _).1 | exact (impl_PolygonOk.four _ _ _ _ _).2.1 | exact (impl_PolygonOk.four _ _ _ _ _).2.2.1 | exact (impl_PolygonOk.four _ _ _ _ _).2.2.2, by first | exact (impl_PolygonOk.four _ _ _ _ _).1 | exact (impl_PolygonOk.four _ _ _ _ _).2.1 | exact (impl_PolygonOk.four _ _ _ _ _).2.2.1 | exact (impl_PolygonOk.four _ _ _ _ _).2.2.2, by first | exact (impl_PolygonOk.four _ _ _ _ _).1 | exact (impl_PolygonOk.four _ _ _ _ _).2.1 | exact (impl_PolygonOk.four _ _ _ _ _).2.2.1 | exact (impl_PolygonOk.four _ _ _ _ _).2.2.2, by first | exact (impl_PolygonOk.four _ _ _ _ _).1 | exact (impl_PolygonOk.four _ _ _ _ _).2.1 | exact (impl_PolygonOk.four _ _ _ _ _).2.2.1 | exact (impl_PolygonOk.four _ _ _ _ _).2.2.2⟩, ⟨by repeat (first | exact HB4.out | apply pw_below_drewN | apply below_drew1 | apply below_alloc)⟩⟩
           case rest =>
            obtain ⟨g7, g8, g9, g10, rfl, rfl, rfl, rfl, HG, HB5⟩ := hcut
            clear HB4 ha0 ha1 hb0 hb1 hc0 hc1 hd0 hd1
            obtain ⟨hg7, hg8, hg9, hg10⟩ := HG.out
            clear HG
            obtain ⟨p0, hp0⟩ : ∃ q, q = (rd_T53 l0 i).f0 := ⟨_, rfl⟩
            obtain ⟨p1, hp1⟩ : ∃ q, q = (rd_T53 l0 i).f1 := ⟨_, rfl⟩
            rw [← hp0, ← hp1] at hg7
            obtain ⟨p2, hp2⟩ : ∃ q, q = (rd_T53 l0 (i + 1)).f0 := ⟨_, rfl⟩
            obtain ⟨p3, hp3⟩ : ∃ q, q = (rd_T53 l0 (i + 1)).f1 := ⟨_, rfl⟩
            rw [← hp2, ← hp3] at hg8
            obtain ⟨p4, hp4⟩ : ∃ q, q = (rd_T53 l0 k2).f0 := ⟨_, rfl⟩
            obtain ⟨p5, hp5⟩ : ∃ q, q = (rd_T53 l0 k2).f1 := ⟨_, rfl⟩
            rw [← hp4, ← hp5] at hg9
            obtain ⟨p6, hp6⟩ : ∃ q, q = (rd_T53 l0 ((k2 + 1) % (l0.length : Int))).f0 := ⟨_, rfl⟩
            obtain ⟨p7, hp7⟩ : ∃ q, q = (rd_T53 l0 ((k2 + 1) % (l0.length : Int))).f1 := ⟨_, rfl⟩
            rw [← hp6, ← hp7] at hg10
            have hl := HL.out
            rw [← hp0, ← hp1, ← hp2, ← hp3, ← hp4, ← hp5, ← hp6, ← hp7] at hl
            clear HL
            have hz70 : wc.cell? ⟨g7, 0, none⟩ = some (.int .i64 p0) := (blk_cell hg7 0).trans rfl
            have hz71 : wc.cell? ⟨g7, 1, none⟩ = some (.int .i64 p1) := (blk_cell hg7 1).trans rfl
            have hz80 : wc.cell? ⟨g8, 0, none⟩ = some (.int .i64 p2) := (blk_cell hg8 0).trans rfl
            have hz81 : wc.cell? ⟨g8, 1, none⟩ = some (.int .i64 p3) := (blk_cell hg8 1).trans rfl
            have hz90 : wc.cell? ⟨g9, 0, none⟩ = some (.int .i64 p4) := (blk_cell hg9 0).trans rfl
            have hz91 : wc.cell? ⟨g9, 1, none⟩ = some (.int .i64 p5) := (blk_cell hg9 1).trans rfl
            have hz100 : wc.cell? ⟨g10, 0, none⟩ = some (.int .i64 p6) := (blk_cell hg10 0).trans rfl
            have hz101 : wc.cell? ⟨g10, 1, none⟩ = some (.int .i64 p7) := (blk_cell hg10 1).trans rfl
            clear hg7 hg8 hg9 hg10 hp0 hp1 hp2 hp3 hp4 hp5 hp6 hp7 hwr1 hwr2 hn0 hn1 hn2 hn3 ht0 ht1
            have hwv : impl_PolygonOk.want l0.length i k2 = 1 := (by simpa using hw)
            rw [hwv] at hl
            cases ep0 : (p0 == p2) with
            | false =>
             rw [ep0, Bool.false_and, if_neg (by simp)] at hl
             cases ep4 : (p4 == p6) with
             | false =>
              rw [ep4, Bool.false_and, if_neg (by simp)] at hl
              rw [Option.bind_eq_some_iff] at hl
              obtain ⟨mv, MV, hl⟩ := hl
              have HMV := zm1 MV
              clear MV
              by_cases em : mv = 1
              ·rw [if_pos em] at hl
               have emb : (mv != 1) = false := bne_eq_false_iff_eq.mpr em
               have HL2 := zm1 hl
               clear em hl
               go_wp2_with (first | (go_at_call 72; (with_reducible refine (impl_meet.calls _ _ _ _ _ _ _ _ mv _ HMV.out).mono ?_); rintro e w4 ⟨rfl, hb4⟩; have HB6 := zm1 (below_step HB5.out hb4); clear hb4))
               go_roundg f1
               case measure => omega
               case rel => exact ⟨k2 + 1, (by first | rfl | (simp; done) | (simp [*]; done)), ⟨by omega⟩, HL2, ⟨by have := HK1.out; omega⟩, ⟨by repeat (first | exact HB6.out | apply pw_below_drewN | apply below_drew1)⟩⟩
              ·rw [if_neg em] at hl
               have emb : (mv != 1) = true := bne_iff_ne.mpr em
               obtain rfl := Option.some.inj hl
               clear em hl
               go_wp2_with (first | (go_at_call 72; (with_reducible refine (impl_meet.calls _ _ _ _ _ _ _ _ mv _ HMV.out).mono ?_); rintro e w4 ⟨rfl, hb4⟩; have HB6 := zm1 (below_step HB5.out hb4); clear hb4))
               go_ret
               exact ⟨rfl, by repeat (first | exact HB6.out | apply pw_below_drewN | apply below_drew1)⟩
             | true =>
              cases ep5 : (p5 == p7) with
              | false =>
               rw [ep4, ep5, if_neg (by simp)] at hl
               rw [Option.bind_eq_some_iff] at hl
               obtain ⟨mv, MV, hl⟩ := hl
               have HMV := zm1 MV
               clear MV
               by_cases em : mv = 1
               ·rw [if_pos em] at hl
                have emb : (mv != 1) = false := bne_eq_false_iff_eq.mpr em
                have HL2 := zm1 hl
                clear em hl
                go_wp2_with (first | (go_at_call 72; (with_reducible refine (impl_meet.calls _ _ _ _ _ _ _ _ mv _ HMV.out).mono ?_); rintro e w4 ⟨rfl, hb4⟩; have HB6 := zm1 (below_step HB5.out hb4); clear hb4))
                go_roundg f1
                case measure => omega
                case rel => exact ⟨k2 + 1, (by first | rfl | (simp; done) | (simp [*]; done)), ⟨by omega⟩, HL2, ⟨by have := HK1.out; omega⟩, ⟨by repeat (first | exact HB6.out | apply pw_below_drewN | apply below_drew1)⟩⟩
               ·rw [if_neg em] at hl
                have emb : (mv != 1) = true := bne_iff_ne.mpr em
                obtain rfl := Option.some.inj hl
                clear em hl
                go_wp2_with (first | (go_at_call 72; (with_reducible refine (impl_meet.calls _ _ _ _ _ _ _ _ mv _ HMV.out).mono ?_); rintro e w4 ⟨rfl, hb4⟩; have HB6 := zm1 (below_step HB5.out hb4); clear hb4))
                go_ret
                exact ⟨rfl, by repeat (first | exact HB6.out | apply pw_below_drewN | apply below_drew1)⟩
              | true =>
               rw [ep4, ep5, if_pos (by rfl)] at hl
               obtain rfl := Option.some.inj hl
               clear hl
               go_wp2
               go_ret
               exact ⟨rfl, by repeat (first | exact HB5.out | apply pw_below_drewN | apply below_drew1)⟩
            | true =>
             cases ep1 : (p1 == p3) with
             | false =>
              rw [ep0, ep1, if_neg (by simp)] at hl
              cases ep4 : (p4 == p6) with
              | false =>
               rw [ep4, Bool.false_and, if_neg (by simp)] at hl
               rw [Option.bind_eq_some_iff] at hl
               obtain ⟨mv, MV, hl⟩ := hl
               have HMV := zm1 MV
               clear MV
               by_cases em : mv = 1
               ·rw [if_pos em] at hl
                have emb : (mv != 1) = false := bne_eq_false_iff_eq.mpr em
                have HL2 := zm1 hl
                clear em hl
                go_wp2_with (first | (go_at_call 72; (with_reducible refine (impl_meet.calls _ _ _ _ _ _ _ _ mv _ HMV.out).mono ?_); rintro e w4 ⟨rfl, hb4⟩; have HB6 := zm1 (below_step HB5.out hb4); clear hb4))
                go_roundg f1
                case measure => omega
                case rel => exact ⟨k2 + 1, (by first | rfl | (simp; done) | (simp [*]; done)), ⟨by omega⟩, HL2, ⟨by have := HK1.out; omega⟩, ⟨by repeat (first | exact HB6.out | apply pw_below_drewN | apply below_drew1)⟩⟩
               ·rw [if_neg em] at hl
                have emb : (mv != 1) = true := bne_iff_ne.mpr em
                obtain rfl := Option.some.inj hl
                clear em hl
                go_wp2_with (first | (go_at_call 72; (with_reducible refine (impl_meet.calls _ _ _ _ _ _ _ _ mv _ HMV.out).mono ?_); rintro e w4 ⟨rfl, hb4⟩; have HB6 := zm1 (below_step HB5.out hb4); clear hb4))
                go_ret
                exact ⟨rfl, by repeat (first | exact HB6.out | apply pw_below_drewN | apply below_drew1)⟩
              | true =>
               cases ep5 : (p5 == p7) with
               | false =>
                rw [ep4, ep5, if_neg (by simp)] at hl
                rw [Option.bind_eq_some_iff] at hl
                obtain ⟨mv, MV, hl⟩ := hl
                have HMV := zm1 MV
                clear MV
                by_cases em : mv = 1
                ·rw [if_pos em] at hl
                 have emb : (mv != 1) = false := bne_eq_false_iff_eq.mpr em
                 have HL2 := zm1 hl
                 clear em hl
                 go_wp2_with (first | (go_at_call 72; (with_reducible refine (impl_meet.calls _ _ _ _ _ _ _ _ mv _ HMV.out).mono ?_); rintro e w4 ⟨rfl, hb4⟩; have HB6 := zm1 (below_step HB5.out hb4); clear hb4))
                 go_roundg f1
                 case measure => omega
                 case rel => exact ⟨k2 + 1, (by first | rfl | (simp; done) | (simp [*]; done)), ⟨by omega⟩, HL2, ⟨by have := HK1.out; omega⟩, ⟨by repeat (first | exact HB6.out | apply pw_below_drewN | apply below_drew1)⟩⟩
                ·rw [if_neg em] at hl
                 have emb : (mv != 1) = true := bne_iff_ne.mpr em
                 obtain rfl := Option.some.inj hl
                 clear em hl
                 go_wp2_with (first | (go_at_call 72; (with_reducible refine (impl_meet.calls _ _ _ _ _ _ _ _ mv _ HMV.out).mono ?_); rintro e w4 ⟨rfl, hb4⟩; have HB6 := zm1 (below_step HB5.out hb4); clear hb4))
                 go_ret
                 exact ⟨rfl, by repeat (first | exact HB6.out | apply pw_below_drewN | apply below_drew1)⟩
               | true =>
                rw [ep4, ep5, if_pos (by rfl)] at hl
                obtain rfl := Option.some.inj hl
                clear hl
                go_wp2
                go_ret
                exact ⟨rfl, by repeat (first | exact HB5.out | apply pw_below_drewN | apply below_drew1)⟩
             | true =>
              rw [ep0, ep1, if_pos (by rfl)] at hl
              obtain rfl := Option.some.inj hl
              clear hl
              go_wp2
              go_ret
              exact ⟨rfl, by repeat (first | exact HB5.out | apply pw_below_drewN | apply below_drew1)⟩
          | false =>
           go_upto_region 13 with (fail)
           refine impl_PolygonOk.forget (I := fun W => Below w.heap.size w W) (by repeat (first | exact HB3.out | apply pw_below_drewN | apply below_drew1)) ?_
           intro W4 hB4
           have hC := Kd.C_below HR0.out hB4
           have HB4 := zm1 hB4
           clear hB4 HB3
           have hi1 : i + 1 < (l0.length : Int) := by omega
           have hi2 : 0 ≤ i + 1 := by omega
           have hkk : 0 ≤ k2 := by omega
           have hn0 : ¬ (l0.length : Int) = 0 := by omega
           have hn1 : ((l0.length : Int) == 0) = false := beq_eq_false_iff_ne.mpr hn0
           have hn2 : ¬ l0.length = 0 := by omega
           have hn3 : Int.tmod (k2 + 1) (l0.length : Int) = (k2 + 1) % (l0.length : Int) := Int.tmod_eq_emod_of_nonneg (by omega)
           have hwr1 : IntKind.i64.wrap (i + 1) = i + 1 := by rw [i64_w]; unfold wrap64; omega
           have hwr2 : IntKind.i64.wrap (k2 + 1) = k2 + 1 := by rw [i64_w]; unfold wrap64; omega
           obtain ⟨ad, e, ha0, ha1⟩ := at_T53 hC i hi0 hi
           cases e
           obtain ⟨ad2, e, hb0, hb1⟩ := at_T53 hC (i + 1) hi2 hi1
           cases e
           obtain ⟨ad2, e, hc0, hc1⟩ := at_T53 hC k2 hkk ck
           cases e
           have ht0 : 0 ≤ (k2 + 1) % (l0.length : Int) := Int.emod_nonneg _ (by omega)
           have ht1 : (k2 + 1) % (l0.length : Int) < (l0.length : Int) := Int.emod_lt_of_pos _ (by omega)
           obtain ⟨ad2, e, hd0, hd1⟩ := at_T53 hC ((k2 + 1) % (l0.length : Int)) ht0 ht1
           cases e
           clear hC
           go_cut [7, 8, 9, 10] (fun v7 v8 v9 v10 wc => ∃ g7 g8 g9 g10 : Nat, v7 = .pointer (some ⟨g7, 0, none⟩) ∧ v8 = .pointer (some ⟨g8, 0, none⟩) ∧ v9 = .pointer (some ⟨g9, 0, none⟩) ∧ v10 = .pointer (some ⟨g10, 0, none⟩) ∧ Aside0 (wc.heap[g7]? = some (.cells #[.int .i64 (rd_T53 l0 i).f0, .int .i64 (rd_T53 l0 i).f1] 53 (0, 0)) ∧ wc.heap[g8]? = some (.cells #[.int .i64 (rd_T53 l0 (i + 1)).f0, .int .i64 (rd_T53 l0 (i + 1)).f1] 53 (0, 0)) ∧ wc.heap[g9]? = some (.cells #[.int .i64 (rd_T53 l0 k2).f0, .int .i64 (rd_T53 l0 k2).f1] 53 (0, 0)) ∧ wc.heap[g10]? = some (.cells #[.int .i64 (rd_T53 l0 ((k2 + 1) % (l0.length : Int))).f0, .int .i64 (rd_T53 l0 ((k2 + 1) % (l0.length : Int))).f1] 53 (0, 0))) ∧ Aside0 (Below w.heap.size w wc))
           case first =>
            go_region_held3 (fun w' => Below W4.heap.size W4 w' ∧ w'.cell? (ad.add ((i : Int).toNat * 2)) = some (.int .i64 (rd_T53 l0 i).f0) ∧ w'.cell? ⟨((ad.add ((i : Int).toNat * 2))).block, ((ad.add ((i : Int).toNat * 2))).off + 1, none⟩ = some (.int .i64 (rd_T53 l0 i).f1) ∧ w'.cell? (ad.add ((i + 1).toNat * 2)) = some (.int .i64 (rd_T53 l0 (i + 1)).f0) ∧ w'.cell? ⟨((ad.add ((i + 1).toNat * 2))).block, ((ad.add ((i + 1).toNat * 2))).off + 1, none⟩ = some (.int .i64 (rd_T53 l0 (i + 1)).f1) ∧ w'.cell? (ad.add ((k2 : Int).toNat * 2)) = some (.int .i64 (rd_T53 l0 k2).f0) ∧ w'.cell? ⟨((ad.add ((k2 : Int).toNat * 2))).block, ((ad.add ((k2 : Int).toNat * 2))).off + 1, none⟩ = some (.int .i64 (rd_T53 l0 k2).f1) ∧ w'.cell? (ad.add (((k2 + 1) % (l0.length : Int)).toNat * 2)) = some (.int .i64 (rd_T53 l0 ((k2 + 1) % (l0.length : Int))).f0) ∧ w'.cell? ⟨((ad.add (((k2 + 1) % (l0.length : Int)).toNat * 2))).block, ((ad.add (((k2 + 1) % (l0.length : Int)).toNat * 2))).off + 1, none⟩ = some (.int .i64 (rd_T53 l0 ((k2 + 1) % (l0.length : Int))).f1)) ((refine impl_PolygonOk.keep8 ha0 ha1 hb0 hb1 hc0 hc1 hd0 hd1 ?_; repeat (first | assumption | exact Below.refl _ _ | apply pw_below_drewN | apply below_drew1 | apply below_alloc))) (fail)
            all_goals
             go_wp2
             go_meet
             case rel => exact ⟨_, _, _, _, rfl, rfl, rfl, rfl, ⟨by first | exact (impl_PolygonOk.four _ _ _ _ _).1 | exact (impl_PolygonOk.four _ _ _ _ _).2.1 | exact (impl_PolygonOk.four _ _ _ _ _).2.2.1 | exact (impl_PolygonOk.four _ _ _ _ _).2.2.2, by first | exact (impl_PolygonOk.four _ _ _ _ _).1 | exact (impl_PolygonOk.four _ _ _ _ _).2.1 | exact (impl_PolygonOk.four _ _ _ _ _).2.2.1 | exact (impl_PolygonOk.four _ _ _ _ _).2.2.2, by first | exact (impl_PolygonOk.four _ _ _ _ _).1 | exact (impl_PolygonOk.four _ _ _ _ _).2.1 | exact (impl_PolygonOk.four _ _ _ _ _).2.2.1 | exact (impl_PolygonOk.four _ _ _ _ _).2.2.2, by first | exact (impl_PolygonOk.four _ _ _ _ _).1 | exact (impl_PolygonOk.four _ _ _ _ _).2.1 | exact (impl_PolygonOk.four _ _ _ _ _).2.2.1 | exact (impl_PolygonOk.four _ _ _ _ _).2.2.2⟩, ⟨by repeat (first | exact HB4.out | apply pw_below_drewN | apply below_drew1 | apply below_alloc)⟩⟩
           case rest =>
            obtain ⟨g7, g8, g9, g10, rfl, rfl, rfl, rfl, HG, HB5⟩ := hcut
            clear HB4 ha0 ha1 hb0 hb1 hc0 hc1 hd0 hd1
            obtain ⟨hg7, hg8, hg9, hg10⟩ := HG.out
            clear HG
            obtain ⟨p0, hp0⟩ : ∃ q, q = (rd_T53 l0 i).f0 := ⟨_, rfl⟩
            obtain ⟨p1, hp1⟩ : ∃ q, q = (rd_T53 l0 i).f1 := ⟨_, rfl⟩
            rw [← hp0, ← hp1] at hg7
            obtain ⟨p2, hp2⟩ : ∃ q, q = (rd_T53 l0 (i + 1)).f0 := ⟨_, rfl⟩
            obtain ⟨p3, hp3⟩ : ∃ q, q = (rd_T53 l0 (i + 1)).f1 := ⟨_, rfl⟩
            rw [← hp2, ← hp3] at hg8
            obtain ⟨p4, hp4⟩ : ∃ q, q = (rd_T53 l0 k2).f0 := ⟨_, rfl⟩
            obtain ⟨p5, hp5⟩ : ∃ q, q = (rd_T53 l0 k2).f1 := ⟨_, rfl⟩
            rw [← hp4, ← hp5] at hg9
            obtain ⟨p6, hp6⟩ : ∃ q, q = (rd_T53 l0 ((k2 + 1) % (l0.length : Int))).f0 := ⟨_, rfl⟩
            obtain ⟨p7, hp7⟩ : ∃ q, q = (rd_T53 l0 ((k2 + 1) % (l0.length : Int))).f1 := ⟨_, rfl⟩
            rw [← hp6, ← hp7] at hg10
            have hl := HL.out
            rw [← hp0, ← hp1, ← hp2, ← hp3, ← hp4, ← hp5, ← hp6, ← hp7] at hl
            clear HL
            have hz70 : wc.cell? ⟨g7, 0, none⟩ = some (.int .i64 p0) := (blk_cell hg7 0).trans rfl
            have hz71 : wc.cell? ⟨g7, 1, none⟩ = some (.int .i64 p1) := (blk_cell hg7 1).trans rfl
            have hz80 : wc.cell? ⟨g8, 0, none⟩ = some (.int .i64 p2) := (blk_cell hg8 0).trans rfl
            have hz81 : wc.cell? ⟨g8, 1, none⟩ = some (.int .i64 p3) := (blk_cell hg8 1).trans rfl
            have hz90 : wc.cell? ⟨g9, 0, none⟩ = some (.int .i64 p4) := (blk_cell hg9 0).trans rfl
            have hz91 : wc.cell? ⟨g9, 1, none⟩ = some (.int .i64 p5) := (blk_cell hg9 1).trans rfl
            have hz100 : wc.cell? ⟨g10, 0, none⟩ = some (.int .i64 p6) := (blk_cell hg10 0).trans rfl
            have hz101 : wc.cell? ⟨g10, 1, none⟩ = some (.int .i64 p7) := (blk_cell hg10 1).trans rfl
            clear hg7 hg8 hg9 hg10 hp0 hp1 hp2 hp3 hp4 hp5 hp6 hp7 hwr1 hwr2 hn0 hn1 hn2 hn3 ht0 ht1
            have hwv : impl_PolygonOk.want l0.length i k2 = 0 := impl_PolygonOk.want0 _ _ _ (by simpa using hw)
            rw [hwv] at hl
            cases ep0 : (p0 == p2) with
            | false =>
             rw [ep0, Bool.false_and, if_neg (by simp)] at hl
             cases ep4 : (p4 == p6) with
             | false =>
              rw [ep4, Bool.false_and, if_neg (by simp)] at hl
              rw [Option.bind_eq_some_iff] at hl
              obtain ⟨mv, MV, hl⟩ := hl
              have HMV := zm1 MV
              clear MV
              by_cases em : mv = 0
              ·rw [if_pos em] at hl
               have emb : (mv != 0) = false := bne_eq_false_iff_eq.mpr em
               have HL2 := zm1 hl
               clear em hl
               go_wp2_with (first | (go_at_call 72; (with_reducible refine (impl_meet.calls _ _ _ _ _ _ _ _ mv _ HMV.out).mono ?_); rintro e w4 ⟨rfl, hb4⟩; have HB6 := zm1 (below_step HB5.out hb4); clear hb4))
               go_roundg f1
               case measure => omega
               case rel => exact ⟨k2 + 1, (by first | rfl | (simp; done) | (simp [*]; done)), ⟨by omega⟩, HL2, ⟨by have := HK1.out; omega⟩, ⟨by repeat (first | exact HB6.out | apply pw_below_drewN | apply below_drew1)⟩⟩
              ·rw [if_neg em] at hl
               have emb : (mv != 0) = true := bne_iff_ne.mpr em
               obtain rfl := Option.some.inj hl
               clear em hl
               go_wp2_with (first | (go_at_call 72; (with_reducible refine (impl_meet.calls _ _ _ _ _ _ _ _ mv _ HMV.out).mono ?_); rintro e w4 ⟨rfl, hb4⟩; have HB6 := zm1 (below_step HB5.out hb4); clear hb4))
               go_ret
               exact ⟨rfl, by repeat (first | exact HB6.out | apply pw_below_drewN | apply below_drew1)⟩
             | true =>
              cases ep5 : (p5 == p7) with
              | false =>
               rw [ep4, ep5, if_neg (by simp)] at hl
               rw [Option.bind_eq_some_iff] at hl
               obtain ⟨mv, MV, hl⟩ := hl
               have HMV := zm1 MV
               clear MV
               by_cases em : mv = 0
               ·rw [if_pos em] at hl
                have emb : (mv != 0) = false := bne_eq_false_iff_eq.mpr em
                have HL2 := zm1 hl
                clear em hl
                go_wp2_with (first | (go_at_call 72; (with_reducible refine (impl_meet.calls _ _ _ _ _ _ _ _ mv _ HMV.out).mono ?_); rintro e w4 ⟨rfl, hb4⟩; have HB6 := zm1 (below_step HB5.out hb4); clear hb4))
                go_roundg f1
                case measure => omega
                case rel => exact ⟨k2 + 1, (by first | rfl | (simp; done) | (simp [*]; done)), ⟨by omega⟩, HL2, ⟨by have := HK1.out; omega⟩, ⟨by repeat (first | exact HB6.out | apply pw_below_drewN | apply below_drew1)⟩⟩
               ·rw [if_neg em] at hl
                have emb : (mv != 0) = true := bne_iff_ne.mpr em
                obtain rfl := Option.some.inj hl
                clear em hl
                go_wp2_with (first | (go_at_call 72; (with_reducible refine (impl_meet.calls _ _ _ _ _ _ _ _ mv _ HMV.out).mono ?_); rintro e w4 ⟨rfl, hb4⟩; have HB6 := zm1 (below_step HB5.out hb4); clear hb4))
                go_ret
                exact ⟨rfl, by repeat (first | exact HB6.out | apply pw_below_drewN | apply below_drew1)⟩
              | true =>
               rw [ep4, ep5, if_pos (by rfl)] at hl
               obtain rfl := Option.some.inj hl
               clear hl
               go_wp2
               go_ret
               exact ⟨rfl, by repeat (first | exact HB5.out | apply pw_below_drewN | apply below_drew1)⟩
            | true =>
             cases ep1 : (p1 == p3) with
             | false =>
              rw [ep0, ep1, if_neg (by simp)] at hl
              cases ep4 : (p4 == p6) with
              | false =>
               rw [ep4, Bool.false_and, if_neg (by simp)] at hl
               rw [Option.bind_eq_some_iff] at hl
               obtain ⟨mv, MV, hl⟩ := hl
               have HMV := zm1 MV
               clear MV
               by_cases em : mv = 0
               ·rw [if_pos em] at hl
                have emb : (mv != 0) = false := bne_eq_false_iff_eq.mpr em
                have HL2 := zm1 hl
                clear em hl
                go_wp2_with (first | (go_at_call 72; (with_reducible refine (impl_meet.calls _ _ _ _ _ _ _ _ mv _ HMV.out).mono ?_); rintro e w4 ⟨rfl, hb4⟩; have HB6 := zm1 (below_step HB5.out hb4); clear hb4))
                go_roundg f1
                case measure => omega
                case rel => exact ⟨k2 + 1, (by first | rfl | (simp; done) | (simp [*]; done)), ⟨by omega⟩, HL2, ⟨by have := HK1.out; omega⟩, ⟨by repeat (first | exact HB6.out | apply pw_below_drewN | apply below_drew1)⟩⟩
               ·rw [if_neg em] at hl
                have emb : (mv != 0) = true := bne_iff_ne.mpr em
                obtain rfl := Option.some.inj hl
                clear em hl
                go_wp2_with (first | (go_at_call 72; (with_reducible refine (impl_meet.calls _ _ _ _ _ _ _ _ mv _ HMV.out).mono ?_); rintro e w4 ⟨rfl, hb4⟩; have HB6 := zm1 (below_step HB5.out hb4); clear hb4))
                go_ret
                exact ⟨rfl, by repeat (first | exact HB6.out | apply pw_below_drewN | apply below_drew1)⟩
              | true =>
               cases ep5 : (p5 == p7) with
               | false =>
                rw [ep4, ep5, if_neg (by simp)] at hl
                rw [Option.bind_eq_some_iff] at hl
                obtain ⟨mv, MV, hl⟩ := hl
                have HMV := zm1 MV
                clear MV
                by_cases em : mv = 0
                ·rw [if_pos em] at hl
                 have emb : (mv != 0) = false := bne_eq_false_iff_eq.mpr em
                 have HL2 := zm1 hl
                 clear em hl
                 go_wp2_with (first | (go_at_call 72; (with_reducible refine (impl_meet.calls _ _ _ _ _ _ _ _ mv _ HMV.out).mono ?_); rintro e w4 ⟨rfl, hb4⟩; have HB6 := zm1 (below_step HB5.out hb4); clear hb4))
                 go_roundg f1
                 case measure => omega
                 case rel => exact ⟨k2 + 1, (by first | rfl | (simp; done) | (simp [*]; done)), ⟨by omega⟩, HL2, ⟨by have := HK1.out; omega⟩, ⟨by repeat (first | exact HB6.out | apply pw_below_drewN | apply below_drew1)⟩⟩
                ·rw [if_neg em] at hl
                 have emb : (mv != 0) = true := bne_iff_ne.mpr em
                 obtain rfl := Option.some.inj hl
                 clear em hl
                 go_wp2_with (first | (go_at_call 72; (with_reducible refine (impl_meet.calls _ _ _ _ _ _ _ _ mv _ HMV.out).mono ?_); rintro e w4 ⟨rfl, hb4⟩; have HB6 := zm1 (below_step HB5.out hb4); clear hb4))
                 go_ret
                 exact ⟨rfl, by repeat (first | exact HB6.out | apply pw_below_drewN | apply below_drew1)⟩
               | true =>
                rw [ep4, ep5, if_pos (by rfl)] at hl
                obtain rfl := Option.some.inj hl
                clear hl
                go_wp2
                go_ret
                exact ⟨rfl, by repeat (first | exact HB5.out | apply pw_below_drewN | apply below_drew1)⟩
             | true =>
              rw [ep0, ep1, if_pos (by rfl)] at hl
              obtain rfl := Option.some.inj hl
              clear hl
              go_wp2
              go_ret
              exact ⟨rfl, by repeat (first | exact HB5.out | apply pw_below_drewN | apply below_drew1)⟩
        ·rw [if_neg ck] at hl
         have ckb : decide (k2 < (l0.length : Int)) = false := decide_eq_false ck
         have HL2 := zm1 hl
         clear hl
         go_wp2
         go_roundg (f1 + 1)
         case measure => have := HFF.out; have := HK1.out; omega
         case rel => exact ⟨i + 1, (by first | rfl | (simp; done) | (simp [*]; done)), ⟨by omega⟩, ⟨by
          have h := HL2.out
          have h2 := HIL.out
          by_cases c : i + 1 < (l0.length : Int)
          ·rw [if_pos c] at h
           exact .inl ⟨c, f1, by omega, by rw [show i + 1 + 1 = i + 2 by omega]; exact h⟩
          ·rw [if_neg c] at h
           exact .inr ⟨by omega, (Option.some.inj h).symm⟩⟩, ⟨by repeat (first | exact HB.out | apply pw_below_drewN | apply below_drew1)⟩⟩
     ·have c25 : decide (i < (l0.length : Int)) = false := decide_eq_false (by omega)
      clear HF
      go_wp2
      go_ret
      exact ⟨rfl, by repeat (first | exact HB.out | apply pw_below_drewN | apply below_drew1)⟩
end

/-! ### impl_twice: function 73 -/
def impl_twice.l0 : Nat → List (S53) → Int → List (S53) → Int → Int → Option (Int)
 | 0, _, _, _, _, _ => none
 | k + 1, x0, x3, x7, x8, x9 => if x9 < x8 then (if 0 ≤ x9 then (if x9 < (x7.length : Int) then (if (x0.length : Int) = 0 then (none) else (if 0 ≤ (Int.tmod (wrap64 (x9 + 1)) (x0.length : Int)) then (if (Int.tmod (wrap64 (x9 + 1)) (x0.length : Int)) < (x0.length : Int) then (impl_twice.l0 k x0 (wrap64 (x3 + (wrap64 ((wrap64 (((rd_T53 x7 x9).f0) * ((rd_T53 x0 (Int.tmod (wrap64 (x9 + 1)) (x0.length : Int))).f1))) - (wrap64 (((rd_T53 x7 x9).f1) * ((rd_T53 x0 (Int.tmod (wrap64 (x9 + 1)) (x0.length : Int))).f0))))))) x7 x8 (wrap64 (x9 + 1))) else (none)) else (none))) else (none)) else (none)) else (some x3)
def impl_twice.f (k : Nat) (l0 : List (S53)) : Option (Int) := impl_twice.l0 k l0 0 l0 (l0.length : Int) 0
theorem impl_twice.mono_l : ∀ k, (∀ y0 y1 y2 y3 y4, LeO (impl_twice.l0 k y0 y1 y2 y3 y4) (impl_twice.l0 (k + 1) y0 y1 y2 y3 y4))
 | 0 => fun _ _ _ _ _ r h => by simp [impl_twice.l0] at h
 | k + 1 => by
  have ih0 := impl_twice.mono_l k
  ·intro y0 y1 y2 y3 y4
   unfold impl_twice.l0
   repeat' first
   | (with_reducible exact ih0 _ _ _ _ _)
   | (with_reducible exact LeO.refl _)
   | (with_reducible exact LeO.none _)
   | (with_reducible refine LeO.ite ?_ ?_)
   | (with_reducible refine LeO.bind ?_ (fun _ => ?_))
   | exact ih0 _ _ _ _ _
   | exact LeO.none _
   | refine LeO.ite ?_ ?_
   | refine LeO.bind ?_ (fun _ => ?_)
theorem impl_twice.mono : ∀ a0 k, LeO (impl_twice.f k a0) (impl_twice.f (k + 1) a0) := by
 intro a0 k
 have ih0 := impl_twice.mono_l k
 unfold impl_twice.f
 repeat' first
   | (with_reducible exact ih0 _ _ _ _ _)
   | (with_reducible exact LeO.refl _)
   | (with_reducible exact LeO.none _)
   | (with_reducible refine LeO.ite ?_ ?_)
   | (with_reducible refine LeO.bind ?_ (fun _ => ?_))
   | exact ih0 _ _ _ _ _
   | exact LeO.none _
   | refine LeO.ite ?_ ?_
   | refine LeO.bind ?_ (fun _ => ?_)
set_option maxHeartbeats 8000000 in
set_option maxRecDepth 100000 in
theorem impl_twice.calls (k : Nat) (A0 : Option Addr) (c0 : Nat) (l0 : List (S53)) (r : Int) (w : World) (hr0 : Kd.C k53 w A0 l0.length l0) (hc0 : l0.length ≤ c0) (h : impl_twice.f k l0 = some r) :
  Calls Tryd.prog 73 #[.slice A0 l0.length c0] w fun e w' => e = .returned (.int .i64 r) ∧ Below w.heap.size w w' := by
 have hu53 := Tryd.underlying53
 have HR0 := zm1 hr0
 have HC0 := zm1 hc0
 clear hr0 hc0
 have HB := zm1 (Below.refl w.heap.size w)
 have H : (impl_twice.l0 k l0 0 l0 (l0.length : Int) 0) = some r := h
 clear h
 have H' := zm1 H
 clear H
 go_enter Tryd.func73, Tryd.ntmps73
 go_wp2
 go_loopg [3, 9] k (fun kq v3 v9 w' => ∃ (x3_1 : Int) (x9_1 : Int), v3 = .int .i64 x3_1 ∧ v9 = .int .i64 x9_1 ∧ Aside0 (impl_twice.l0 kq l0 x3_1 l0 (l0.length : Int) x9_1 = some r) ∧ Aside0 (kq ≤ k) ∧ Aside0 (Below w.heap.size w w'))
 case atStart => exact ⟨(0), (0), (by first | rfl | (simp; done) | (simp [*]; done)), (by first | rfl | (simp; done) | (simp [*]; done)), H', ⟨Nat.le_refl _⟩, ⟨by repeat (first | (with_reducible first | exact HB.out | apply zc1 | apply zc2 | apply zc3) | exact HB.out)⟩⟩
 case round =>
  clear H'
  obtain ⟨x3_1, x9_1, rfl, rfl, HA, HK1, HB⟩ := hrel
  cases gk with
  | zero => exact absurd HA.out (by simp [impl_twice.l0])
  | succ k1 =>
   have H := HA.out
   clear HA
   simp only [impl_twice.l0] at H
   by_cases c2 : x9_1 < (l0.length : Int)
   ·rw [if_pos c2] at H
    have c2b0 : decide (x9_1 < (l0.length : Int)) = true := decide_eq_true c2
    clear c2
    by_cases c3 : 0 ≤ x9_1
    ·rw [if_pos c3] at H
     have c3b0 : decide (0 ≤ x9_1) = true := decide_eq_true c3
     clear c3
     by_cases c4 : x9_1 < (l0.length : Int)
     ·rw [if_pos c4] at H
      have c4b0 : decide (x9_1 < (l0.length : Int)) = true := decide_eq_true c4
      clear c4
      by_cases c5 : (l0.length : Int) = 0
      ·rw [if_pos c5] at H
       exact absurd H (by simp)
      ·rw [if_neg c5] at H
       have c5b0 : ((l0.length : Int) == 0) = false := beq_eq_false_iff_ne.mpr c5
       have c5b1 : ((l0.length : Int) != 0) = true := bne_iff_ne.mpr c5
       have c5b2 : ¬ (l0 = []) := fun h_ => c5 (by rw [h_]; rfl)
       obtain ⟨ji6, hji6⟩ : ∃ j_ : Int, (Int.tmod (wrap64 (x9_1 + 1)) (l0.length : Int)) = j_ := ⟨_, rfl⟩
       replace H : (if 0 ≤ (ji6) then (if (ji6) < (l0.length : Int) then (impl_twice.l0 k1 l0 (wrap64 (x3_1 + (wrap64 ((wrap64 (((rd_T53 l0 x9_1).f0) * ((rd_T53 l0 (ji6)).f1))) - (wrap64 (((rd_T53 l0 x9_1).f1) * ((rd_T53 l0 (ji6)).f0))))))) l0 (l0.length : Int) (wrap64 (x9_1 + 1))) else (none)) else (none)) = some r := by first | (rw [hji6] at H; exact H) | (simp only [hji6] at H ⊢; exact H)
       by_cases c7 : 0 ≤ (ji6)
       ·rw [if_pos c7] at H
        have c7b0 : decide (0 ≤ (ji6)) = true := decide_eq_true c7
        clear c7
        by_cases c8 : (ji6) < (l0.length : Int)
        ·rw [if_pos c8] at H
         have c8b0 : decide ((ji6) < (l0.length : Int)) = true := decide_eq_true c8
         clear c8
         have H' := zm1 H
         clear H
         have p237 : 0 ≤ (x9_1 : Int) := of_decide_eq_true (by assumption)
         have q237 : x9_1 < (l0.length : Int) := of_decide_eq_true (by assumption)
         obtain ⟨ad237, e237, hx237_0, hx237_1⟩ := at_T53 HR0.out x9_1 p237 q237
         cases e237
         (try replace hx237_0 := (HB.out.cell (zl hx237_0)).trans hx237_0)
         (try replace hx237_1 := (HB.out.cell (zl hx237_1)).trans hx237_1)
         replace p237 := eq_true p237
         replace q237 := eq_true q237
         go_wp2_with (first | ((with_reducible refine gate_dst (N := 5) rfl ?_); refine box_event ?hg (N := 5) ?hd (cs := #[.int .i64 0, .int .i64 0]) (t := 53) ?hr ?_; (case hd => rfl); (case hg => rfl); (case hr => first | (go_simp; done) | (go_simp; rfl)); intro gb238 hg w9 hbox hb; have n0_ := zm1 (zc6 (by repeat (first | (with_reducible first | exact HB.out | apply zc1 | apply zc2 | apply zc3) | exact HB.out)) hb); have n1_ := zm1 (hbox); have n2_ := zm1 ((by rw [hg]; exact (zc5 (by repeat (first | (with_reducible first | exact HB.out | apply zc1 | apply zc2 | apply zc3) | exact HB.out))) : w.heap.size ≤ gb238)); have n3_ := zm1 ((by rw [hg]; exact (zc5 (by repeat (first | (with_reducible first | exact HB.out | apply zc1 | apply zc2 | apply zc3) | exact HB.out))) : w.heap.size ≤ gb238)); clear HB; have HB := n0_; have BK238 := n1_; have GW238 := n2_; have GE238 := n3_; clear n0_ n1_ n2_ n3_; clear hb hbox hg; have hcz10_0 : w9.cell? ⟨gb238, 0, none⟩ = some (.int .i64 0) := (blk_cell BK238.out 0).trans rfl; have hcz10_1 : w9.cell? ⟨gb238, 1, none⟩ = some (.int .i64 0) := (blk_cell BK238.out 1).trans rfl; have hfz10_0 := blk_frozen BK238.out 0; have hfz10_1 := blk_frozen BK238.out 1; have p239 : 0 ≤ ((ji6) : Int) := of_decide_eq_true (by assumption); have q239 : (ji6) < (l0.length : Int) := of_decide_eq_true (by assumption); obtain ⟨ad239, e239, hx239_0, hx239_1⟩ := at_T53 HR0.out (ji6) p239 q239; obtain rfl : ad237 = ad239 := (by injection e239); have hn239_0 : ad237.block ≠ gb238 := Nat.ne_of_lt (Nat.lt_of_lt_of_le (by have := zl hx239_0; first | rwa [add_block] at this | exact this) GW238.out); have hn239_1 : ad237.block ≠ gb238 := Nat.ne_of_lt (Nat.lt_of_lt_of_le (by have := zl hx239_0; first | rwa [add_block] at this | exact this) GW238.out); (try replace hx239_0 := (HB.out.cell (zl hx239_0)).trans hx239_0); (try replace hx239_1 := (HB.out.cell (zl hx239_1)).trans hx239_1); replace hx239_0 := (cell_far (p := ⟨gb238, 0, none⟩) (by first | (rw [add_block]; exact hn239_0) | (show (Addr.add _ _).block ≠ _; rw [add_block]; exact hn239_0) | exact hn239_0) (.int .i64 ((rd_T53 l0 x9_1).f0))).trans hx239_0; replace hx239_1 := (cell_far (p := ⟨gb238, 0, none⟩) (by first | (rw [add_block]; exact hn239_0) | (show (Addr.add _ _).block ≠ _; rw [add_block]; exact hn239_0) | exact hn239_0) (.int .i64 ((rd_T53 l0 x9_1).f0))).trans hx239_1; replace hx239_0 := (cell_far (p := ⟨gb238, 1, none⟩) (by first | (rw [add_block]; exact hn239_1) | (show (Addr.add _ _).block ≠ _; rw [add_block]; exact hn239_1) | exact hn239_1) (.int .i64 ((rd_T53 l0 x9_1).f1))).trans hx239_0; replace hx239_1 := (cell_far (p := ⟨gb238, 1, none⟩) (by first | (rw [add_block]; exact hn239_1) | (show (Addr.add _ _).block ≠ _; rw [add_block]; exact hn239_1) | exact hn239_1) (.int .i64 ((rd_T53 l0 x9_1).f1))).trans hx239_1; clear hn239_0; clear hn239_1; replace p239 := eq_true p239; replace q239 := eq_true q239) | ((with_reducible refine gate_dst (N := 6) rfl ?_); refine box_event ?hg (N := 6) ?hd (cs := #[.int .i64 0, .int .i64 0]) (t := 53) ?hr ?_; (case hd => rfl); (case hg => rfl); (case hr => first | (go_simp; done) | (go_simp; rfl)); intro gb240 hg w11 hbox hb; have n0_ := zm1 (zd1 (o := .cells #[.int .i64 ((rd_T53 l0 x9_1).f0), .int .i64 ((rd_T53 l0 x9_1).f1)] 53 (0, 0)) (by (with_reducible repeat (first | apply zb1 | apply zb2 | apply zb3)); refine blk_put (cs := #[.int .i64 ((rd_T53 l0 x9_1).f0), .int .i64 0]) ?_ 1 _ rfl; (with_reducible repeat (first | apply zb1 | apply zb2 | apply zb3)); refine blk_put (cs := #[.int .i64 0, .int .i64 0]) ?_ 0 _ rfl; (with_reducible repeat (first | apply zb1 | apply zb2 | apply zb3)); exact BK238.out) hb); have n1_ := zm1 (zc6 (by repeat (first | (with_reducible first | exact HB.out | apply zc1 | apply zc2 | apply zc3 | refine zc4 ?_ GE238.out) | exact HB.out)) hb); have n2_ := zm1 (hbox); have n3_ := zm1 ((by rw [hg]; exact (zc5 (by repeat (first | (with_reducible first | exact HB.out | apply zc1 | apply zc2 | apply zc3 | refine zc4 ?_ GE238.out) | exact HB.out))) : w.heap.size ≤ gb240)); have n4_ := zm1 ((by rw [hg]; exact (zc5 (by repeat (first | (with_reducible first | exact HB.out | apply zc1 | apply zc2 | apply zc3 | refine zc4 ?_ GE238.out) | exact HB.out))) : w.heap.size ≤ gb240)); have n5_ := zm1 ((by rw [hg]; exact Nat.ne_of_lt (zd2 (o := .cells #[.int .i64 ((rd_T53 l0 x9_1).f0), .int .i64 ((rd_T53 l0 x9_1).f1)] 53 (0, 0)) (by (with_reducible repeat (first | apply zb1 | apply zb2 | apply zb3)); refine blk_put (cs := #[.int .i64 ((rd_T53 l0 x9_1).f0), .int .i64 0]) ?_ 1 _ rfl; (with_reducible repeat (first | apply zb1 | apply zb2 | apply zb3)); refine blk_put (cs := #[.int .i64 0, .int .i64 0]) ?_ 0 _ rfl; (with_reducible repeat (first | apply zb1 | apply zb2 | apply zb3)); exact BK238.out)) : gb238 ≠ gb240)); have n6_ := zm1 ((by rw [hg]; exact Nat.ne_of_gt (zd2 (o := .cells #[.int .i64 ((rd_T53 l0 x9_1).f0), .int .i64 ((rd_T53 l0 x9_1).f1)] 53 (0, 0)) (by (with_reducible repeat (first | apply zb1 | apply zb2 | apply zb3)); refine blk_put (cs := #[.int .i64 ((rd_T53 l0 x9_1).f0), .int .i64 0]) ?_ 1 _ rfl; (with_reducible repeat (first | apply zb1 | apply zb2 | apply zb3)); refine blk_put (cs := #[.int .i64 0, .int .i64 0]) ?_ 0 _ rfl; (with_reducible repeat (first | apply zb1 | apply zb2 | apply zb3)); exact BK238.out)) : gb240 ≠ gb238)); clear BK238; clear HB; have BK238 := n0_; have HB := n1_; have BK240 := n2_; have GW240 := n3_; have GE240 := n4_; have NB238_240 := n5_; have NB240_238 := n6_; clear n0_ n1_ n2_ n3_ n4_ n5_ n6_; clear hb hbox hg; have hnb12 := NB240_238.out; have hnc12 := NB238_240.out; have hcz13_0 : w11.cell? ⟨gb240, 0, none⟩ = some (.int .i64 0) := (blk_cell BK240.out 0).trans rfl; have hcz13_1 : w11.cell? ⟨gb240, 1, none⟩ = some (.int .i64 0) := (blk_cell BK240.out 1).trans rfl; have hfz13_0 := blk_frozen BK240.out 0; have hfz13_1 := blk_frozen BK240.out 1; have hcz14_0 : w11.cell? ⟨gb238, 0, none⟩ = some (.int .i64 ((rd_T53 l0 x9_1).f0)) := (blk_cell BK238.out 0).trans rfl; have hcz14_1 : w11.cell? ⟨gb238, 1, none⟩ = some (.int .i64 ((rd_T53 l0 x9_1).f1)) := (blk_cell BK238.out 1).trans rfl; have hfz14_0 := blk_frozen BK238.out 0; have hfz14_1 := blk_frozen BK238.out 1))
         go_roundg k1
         case measure => have := HK1.out; omega
         case rel => exact ⟨(wrap64 (x3_1 + (wrap64 ((wrap64 (((rd_T53 l0 x9_1).f0) * ((rd_T53 l0 (ji6)).f1))) - (wrap64 (((rd_T53 l0 x9_1).f1) * ((rd_T53 l0 (ji6)).f0))))))), (wrap64 (x9_1 + 1)), (by first | rfl | (simp; done) | ((simp only [← hji6] <;> (first | rfl | simp)); done) | (simp [*]; done)), (by first | rfl | (simp; done) | (simp [*]; done)), H', ⟨by have := HK1.out; omega⟩, ⟨by repeat (first | (with_reducible first | exact HB.out | apply zc1 | apply zc2 | apply zc3 | refine zc4 ?_ GE238.out | refine zc4 ?_ GE240.out) | exact HB.out)⟩⟩
        ·rw [if_neg c8] at H
         exact absurd H (by simp)
       ·rw [if_neg c7] at H
        exact absurd H (by simp)
     ·rw [if_neg c4] at H
      exact absurd H (by simp)
    ·rw [if_neg c3] at H
     exact absurd H (by simp)
   ·rw [if_neg c2] at H
    have c2b0 : decide (x9_1 < (l0.length : Int)) = false := decide_eq_false c2
    clear c2
    obtain rfl := Option.some.inj H
    go_wp2
    go_ret
    exact ⟨by first | rfl | (simp [errW_none, errW_some] <;> rfl) | (simp [*, errW_none, errW_some] <;> rfl), by repeat (first | (with_reducible first | exact HB.out | apply zc1 | apply zc2 | apply zc3) | exact HB.out)⟩

/-! ### slices_Clone_Point: function 103 -/
--import Derived.Lib.SliceRun
def slices_Clone_Point.f (l0 : List (S53)) : Option ((List (S53))) := (some (([] : List (S53)) : List (S53))).bind fun y172 => (if y172.length + l0.length < 8796093022208 then (some (y172 ++ l0)) else (none))
set_option maxHeartbeats 8000000 in
set_option maxRecDepth 100000 in
theorem slices_Clone_Point.calls_some (A0 : Addr) (c0 : Nat) (l0 : List (S53)) (r : List (S53)) (w : World) (hr0 : Kd.C k53 w (some A0) l0.length l0) (hc0 : l0.length ≤ c0) (h : slices_Clone_Point.f l0 = some r) :
  Calls Tryd.prog 103 #[.slice (some A0) l0.length c0] w fun e w' => ∃ v0_ : Value, e = .returned (v0_) ∧ Kd.R k53 53 w' w.heap.size (fun _ => True) v0_ r ∧ Below w.heap.size w w' := by
 have HR0 := zm1 hr0
 have HC0 := zm1 hc0
 clear hr0 hc0
 have HB := zm1 (Below.refl w.heap.size w)
 have H : ((some (([] : List (S53)) : List (S53))).bind fun y172 => (if y172.length + l0.length < 8796093022208 then (some (y172 ++ l0)) else (none))) = some r := h
 clear h
 obtain ⟨y172, hy172⟩ : ∃ y_ : List (S53), y_ = (([] : List (S53))) := ⟨_, rfl⟩
 replace H : (if y172.length + l0.length < 8796093022208 then (some (y172 ++ l0)) else (none)) = some r := by first | (rw [hy172]; with_reducible exact H) | (have H2_ := (Option.bind_some _ _).symm.trans H; rw [hy172]; with_reducible exact H2_) | (have H2_ := (Option.bind_some _ _).symm.trans H; with_reducible exact H2_) | with_reducible exact H | (rw [hy172]; exact H) | exact H
 have Ny172 := zm1 hy172
 clear hy172
 by_cases c2 : y172.length + l0.length < 8796093022208
 ·rw [if_pos c2] at H
  have LMc2 := zm1 c2
  clear c2
  obtain ⟨y175, hy175⟩ : ∃ y_ : List (S53), y_ = (y172 ++ l0) := ⟨_, rfl⟩
  replace H : (some y175) = some r := by first | (rw [hy175]; with_reducible exact H) | (have H2_ := (Option.bind_some _ _).symm.trans H; rw [hy175]; with_reducible exact H2_) | (have H2_ := (Option.bind_some _ _).symm.trans H; with_reducible exact H2_) | with_reducible exact H | (rw [hy175]; exact H) | exact H
  have Ny175 := zm1 hy175
  clear hy175
  obtain rfl := Option.some.inj H
  have hnil := fun (w : World) => Lib.run_eql_slice_nil (P := Tryd.prog) w 36 53 (some A0) l0.length c0 0 0 Tryd.underlying36
  go_enter Tryd.func103, Tryd.ntmps103
  go_wp2_with (first | ((with_reducible refine gate_dst (N := 5) rfl ?_); refine Kd.R_lit k53 _ 53 ?hg (N := 5) ?hd (xs := ([] : List (S53))) (inner := []) (ok := fun _ => True) (okp := fun _ => True) ?hr ?hp (fun _ hk => hk) trivial (Below.refl _ _) (Nat.le_refl _) (by simp) ?_; (case hd => rfl); (case hg => rfl); (case hr => first | (go_simp; done) | (go_simp; rfl)); (case hp => exact (Reps.none _ _)); intro v173 w3 ho4 hb hg_ hnew_; clear hg_ hnew_; (first | rw [← Ny172.out] at ho4 | (simp only [Int.reduceToNat] at ho4; rw [← Ny172.out] at ho4)); have n0_ := zm1 (Kd.R_lower ho4 (zc5 (by repeat (first | (with_reducible first | exact HB.out | apply zc1 | apply zc2 | apply zc3) | exact HB.out)))); have n1_ := zm1 (zc6 (by repeat (first | (with_reducible first | exact HB.out | apply zc1 | apply zc2 | apply zc3) | exact HB.out)) hb); clear HB; have HO174 := n0_; have HB := n1_; clear n0_ n1_; clear hb ho4) | ((with_reducible refine gate_builtin (b := .append) (xs := #[.tmp 5, .tmp 6]) rfl ?_); at_builtin; refine Kd.R_append_rows k53 (w0 := w) w.heap.size rfl (.tmp 5) (.tmp 6) 36 53 (.agg #[(.int .i64 0), (.int .i64 0)]) 16 rfl Tryd.underlying36 info53 rfl (by decide) (by omega) v173 y172 l0 _ _ _ (fun _ => True) (fun _ => False) rfl rfl ?aO ?aR (fun _ _ h => h) (fun _ h => h.elim) ?aF ?aB ?aS ?aL ?_; (case aR => repeat (first | exact (Kd.C_below HR0.out HB.out) | (with_reducible refine Kd.C_alloc ?_ _) | (with_reducible refine Kd.C_drewN ?_ _) | (with_reducible refine Kd.C_drew ?_))); (case aB => exact (by repeat (first | (with_reducible first | exact HB.out | apply zc1 | apply zc2 | apply zc3) | exact HB.out))); (case aF => exact (fun _ _ => trivial)); (case aO => exact (by (with_reducible repeat (first | apply zr1 | apply zr2 | apply zr3)); exact HO174.out)); (case aS => exact (zc5 (by repeat (first | (with_reducible first | exact HB.out | apply zc1 | apply zc2 | apply zc3) | exact HB.out)))); (case aL => have := LMc2.out; omega); intro v176 w5 ho hb hg hat; rw [← Ny175.out] at ho; have n0_ := zm1 (hb); have n1_ := zm1 (ho); clear HB; clear HO174; have HB := n0_; have HO177 := n1_; clear n0_ n1_; clear ho hb hg hat))
  go_ret
  exact ⟨_, by first | rfl | (simp [errW_none, errW_some] <;> rfl) | (simp [*, errW_none, errW_some] <;> rfl), by (with_reducible repeat (first | apply zr1 | apply zr2 | apply zr3)); exact HO177.out, by repeat (first | (with_reducible first | exact HB.out | apply zc1 | apply zc2 | apply zc3) | exact HB.out)⟩
 ·rw [if_neg c2] at H
  exact absurd H (by simp)
theorem slices_Clone_Point.calls (A0 : Option Addr) (c0 : Nat) (l0 : List (S53)) (r : List (S53)) (w : World) (hr0 : Kd.C k53 w A0 l0.length l0) (hc0 : l0.length ≤ c0) (h : slices_Clone_Point.f l0 = some r) :
  Calls Tryd.prog 103 #[.slice A0 l0.length c0] w fun e w' => ∃ v0_ : Value, e = .returned (v0_) ∧ Kd.R k53 53 w' w.heap.size (fun _ => True) v0_ r ∧ Below w.heap.size w w' := by
 rcases A0 with _ | A0
 ·have h0 : l0 = [] := by
   rcases Nat.eq_zero_or_pos l0.length with h1 | h1
   ·exact List.eq_nil_of_length_eq_zero h1
   ·obtain ⟨ad, e, _⟩ := hr0.2.2 h1
    cases e
  subst h0
  have hr : r = [] := by
   unfold slices_Clone_Point.f at h
   simp at h
   exact h
  subst hr
  have hnil := fun (w : World) => Lib.run_eql_slice_nil (P := Tryd.prog) w 36 53 none 0 c0 0 0 Tryd.underlying36
  clear h hr0 hc0
  go_enter Tryd.func103, Tryd.ntmps103
  go_wp2
  go_ret
  exact ⟨_, rfl, Kd.R_nil _ _ _ _ _, Below.refl _ _⟩
 ·exact slices_Clone_Point.calls_some A0 c0 l0 r w hr0 hc0 h

end Go.Proofs.YtelhjgkjnlcomaaDoor.QFnExactMeasureLine
