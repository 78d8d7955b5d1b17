-- Printed for this claim by a changed copy of the kit's print (the session's own; own contracts in place of some functions).
import Derived.Test.YteelfcmlghjknaaQFnExactTableOkx0
import Derived.Test.YteelfcmlghjknaaQFnExactTableOkx1
import Derived.Test.YteelfcmlghjknaaQFnExactTableOkx6
import Derived.Test.YteelfcmlghjknaaQFnExactTableOkx7
import Derived.Test.YteelfcmlghjknaaQFnExactTableOkx8
namespace Go.Proofs.Yteelfcmlghjknaa.QFnExactTableOk
open Go.RowKit Go.Proofs.YteelfcmlghjknaaW.PrintWords Go.Proofs.YteelfcmlghjknaaW.PrintLast Go.Proofs.YteelfcmlghjknaaW.PrintMore
attribute [local go_sem] max2_int min2_int max_two min_two max_three min_three max_four min_four   -- for this text's walks alone
set_option linter.unusedVariables false
set_option linter.unusedSimpArgs false

/-! ### impl_PolygonOk: function 68 -/
--import Derived.WalkSpells
def impl_PolygonOk.want (n i k : Int) : Int := if k = i + 1 then 1 else if i = 0 then (if k = n - 1 then 1 else 0) else 0
def impl_PolygonOk.li (l0 : List (S65)) : Nat → Int → Int → Option Bool
  | 0, _, _ => none
  | f + 1, i, k => if k < (l0.length : Int) then
      (if ((rd_T65 l0 i).f0 == (rd_T65 l0 (i + 1)).f0 && (rd_T65 l0 i).f1 == (rd_T65 l0 (i + 1)).f1) = true then some false
       else if ((rd_T65 l0 k).f0 == (rd_T65 l0 ((k + 1) % (l0.length : Int))).f0 && (rd_T65 l0 k).f1 == (rd_T65 l0 ((k + 1) % (l0.length : Int))).f1) = true then some false
       else (impl_meet.f (rd_T65 l0 i).f0 (rd_T65 l0 i).f1 (rd_T65 l0 (i + 1)).f0 (rd_T65 l0 (i + 1)).f1 (rd_T65 l0 k).f0 (rd_T65 l0 k).f1 (rd_T65 l0 ((k + 1) % (l0.length : Int))).f0 (rd_T65 l0 ((k + 1) % (l0.length : Int))).f1).bind fun m => if m = impl_PolygonOk.want l0.length i k then impl_PolygonOk.li l0 f i (k + 1) else some false)
    else (if i + 1 < (l0.length : Int) then impl_PolygonOk.li l0 f (i + 1) (i + 2) else some true)
def impl_PolygonOk.f (k : Nat) (l0 : List (S65)) : Option Bool :=
  if l0.length < 3 ∨ 10 < l0.length then some false else (impl_arePoints.f k l0).bind fun t => if t = true then impl_PolygonOk.li l0 k 0 1 else some false
theorem impl_PolygonOk.li_mono (l0 : List (S65)) : ∀ (f : Nat) (i k : Int), LeO (impl_PolygonOk.li l0 f i k) (impl_PolygonOk.li l0 (f + 1) i k)
  | 0, _, _ => fun r h => by simp [impl_PolygonOk.li] at h
  | f + 1, i, k => by
    rw [impl_PolygonOk.li, impl_PolygonOk.li]
    refine LeO.ite (LeO.ite (LeO.refl _) (LeO.ite (LeO.refl _) (LeO.bind (LeO.refl _) (fun m => LeO.ite (impl_PolygonOk.li_mono l0 f i (k + 1)) (LeO.refl _))))) (LeO.ite (impl_PolygonOk.li_mono l0 f (i + 1) (i + 2)) (LeO.refl _))
theorem impl_PolygonOk.mono : ∀ a0 k, LeO (impl_PolygonOk.f k a0) (impl_PolygonOk.f (k + 1) a0) := by
  intro a0 k
  unfold impl_PolygonOk.f
  exact LeO.ite (LeO.refl _) (LeO.bind (impl_arePoints.mono _ _) (fun t => LeO.ite (impl_PolygonOk.li_mono _ _ _ _) (LeO.refl _)))
theorem impl_PolygonOk.want0 (n i k : Int) (h : ¬ impl_PolygonOk.want n i k = 1) : impl_PolygonOk.want n i k = 0 := by
  unfold impl_PolygonOk.want at h ⊢
  by_cases a : k = i + 1
  · rw [if_pos a] at h; exact absurd rfl h
  · rw [if_neg a] at h ⊢
    by_cases b : i = 0
    · rw [if_pos b] at h ⊢
      by_cases c : k = n - 1
      · rw [if_pos c] at h; exact absurd rfl h
      · rw [if_neg c]
    · rw [if_neg b]
theorem impl_PolygonOk.four (W : World) (o1 o2 o3 o4 : Obj) : ((((W.alloc o1).alloc o2).alloc o3).alloc o4).heap[W.heap.size]? = some o1 ∧ ((((W.alloc o1).alloc o2).alloc o3).alloc o4).heap[W.heap.size + 1]? = some o2 ∧ ((((W.alloc o1).alloc o2).alloc o3).alloc o4).heap[W.heap.size + 1 + 1]? = some o3 ∧ ((((W.alloc o1).alloc o2).alloc o3).alloc o4).heap[W.heap.size + 1 + 1 + 1]? = some o4 := by
  refine ⟨blk_alloc (blk_alloc (blk_alloc (blk_new _ _) _) _) _, blk_alloc (blk_alloc ?_ _) _, blk_alloc ?_ _, ?_⟩
  · have := blk_new (W.alloc o1) o2
    simpa using this
  · have := blk_new ((W.alloc o1).alloc o2) o3
    simpa using this
  · have := blk_new (((W.alloc o1).alloc o2).alloc o3) o4
    simpa using this
theorem impl_PolygonOk.keep8 {W w' : World} {p0 p1 p2 p3 p4 p5 p6 p7 : Addr} {v0 v1 v2 v3 v4 v5 v6 v7 : Value} (h0 : W.cell? p0 = some v0) (h1 : W.cell? p1 = some v1) (h2 : W.cell? p2 = some v2) (h3 : W.cell? p3 = some v3) (h4 : W.cell? p4 = some v4) (h5 : W.cell? p5 = some v5) (h6 : W.cell? p6 = some v6) (h7 : W.cell? p7 = some v7) (hb : Below W.heap.size W w') :
    Below W.heap.size W w' ∧ w'.cell? p0 = some v0 ∧ w'.cell? p1 = some v1 ∧ w'.cell? p2 = some v2 ∧ w'.cell? p3 = some v3 ∧ w'.cell? p4 = some v4 ∧ w'.cell? p5 = some v5 ∧ w'.cell? p6 = some v6 ∧ w'.cell? p7 = some v7 :=
  ⟨hb, (hb.cell (World.block_lt_of_cell? W _ h0)).trans h0, (hb.cell (World.block_lt_of_cell? W _ h1)).trans h1, (hb.cell (World.block_lt_of_cell? W _ h2)).trans h2, (hb.cell (World.block_lt_of_cell? W _ h3)).trans h3, (hb.cell (World.block_lt_of_cell? W _ h4)).trans h4, (hb.cell (World.block_lt_of_cell? W _ h5)).trans h5, (hb.cell (World.block_lt_of_cell? W _ h6)).trans h6, (hb.cell (World.block_lt_of_cell? W _ h7)).trans h7⟩
theorem impl_PolygonOk.forget {P : Program} {c : Code} {Q : Exit → Act → World → Prop} {a : Act} {I : World → Prop} {W0 : World} (h0 : I W0) (h : ∀ W : World, I W → Code.wp P c Q a W) : Code.wp P c Q a W0 := h W0 h0
section
attribute [local go_sem high] eqA65
set_option maxHeartbeats 8000000 in
set_option maxRecDepth 100000 in
theorem impl_PolygonOk.calls (k : Nat) (A0 : Option Addr) (c0 : Nat) (l0 : List (S65)) (r : Bool) (w : World) (hr0 : Kd.C k65 w A0 l0.length l0) (hc0 : l0.length ≤ c0) (h : impl_PolygonOk.f k l0 = some r) :
    Calls Try.prog 68 #[.slice A0 l0.length c0] w fun e w' => e = .returned (.bool r) ∧ Below w.heap.size w w' := by
  have hu65 := Try.underlying65
  have HR0 := Aside0.mk hr0
  have HC0 := Aside0.mk hc0
  clear hr0 hc0
  unfold impl_PolygonOk.f at h
  by_cases c1 : l0.length < 3
  · rw [if_pos (.inl c1)] at h
    obtain rfl := Option.some.inj h
    have b1 : decide ((l0.length : Int) < 3) = true := decide_eq_true (by omega)
    have b2 : decide (l0.length < 3) = true := decide_eq_true c1
    clear c1 h
    go_enter Try.func68, Try.ntmps68
    go_wp2
    go_ret
    exact ⟨rfl, by repeat (first | exact Below.refl _ _ | apply pw_below_drewN | apply below_drew1)⟩
  · have b1 : decide ((l0.length : Int) < 3) = false := decide_eq_false (by omega)
    have b2 : decide (l0.length < 3) = false := decide_eq_false c1
    by_cases c2 : 10 < l0.length
    · rw [if_pos (.inr c2)] at h
      obtain rfl := Option.some.inj h
      have d1 : decide ((10 : Int) < (l0.length : Int)) = true := decide_eq_true (by omega)
      have d2 : decide (10 < l0.length) = true := decide_eq_true c2
      clear c1 c2 h
      go_enter Try.func68, Try.ntmps68
      go_wp2
      go_ret
      exact ⟨rfl, by repeat (first | exact Below.refl _ _ | apply pw_below_drewN | apply below_drew1)⟩
    · rw [if_neg (by omega)] at h
      have d1 : decide ((10 : Int) < (l0.length : Int)) = false := decide_eq_false (by omega)
      have d2 : decide (10 < l0.length) = false := decide_eq_false c2
      have N3 := Aside0.mk (show 3 ≤ l0.length ∧ l0.length ≤ 10 by omega)
      rw [Option.bind_eq_some_iff] at h
      obtain ⟨t, T, h⟩ := h
      have HT := Aside0.mk T
      clear T c1 c2
      cases t with
      | false =>
        obtain rfl : false = r := by simpa using h
        clear h
        go_enter Try.func68, Try.ntmps68
        go_wp2_with (first | (go_at_call 55; (with_reducible refine (impl_arePoints.calls k _ _ l0 false _ ?s1 ?s2 HT.out).mono ?_); (case s1 => exact HR0.out); (case s2 => exact HC0.out); rintro e w1 ⟨rfl, hb⟩; have HB := Aside0.mk hb; clear hb))
        go_ret
        exact ⟨rfl, by repeat (first | exact HB.out | apply pw_below_drewN | apply below_drew1)⟩
      | true =>
        rw [if_pos rfl] at h
        have H := Aside0.mk h
        clear h
        go_enter Try.func68, Try.ntmps68
        go_wp2_with (first | (go_at_call 55; (with_reducible refine (impl_arePoints.calls k _ _ l0 true _ ?s1 ?s2 HT.out).mono ?_); (case s1 => exact HR0.out); (case s2 => exact HC0.out); rintro e w1 ⟨rfl, hb⟩; have HB := Aside0.mk hb; clear hb))
        refine impl_PolygonOk.forget (I := fun W => Below w.heap.size w W) (by repeat (first | exact HB.out | apply pw_below_drewN | apply below_drew1)) ?_
        intro W1 hB1
        have HB1 := Aside0.mk hB1
        clear hB1 HB b1 b2 d1 d2 HT
        go_loopg [25] (k + 1) (fun kq v25 w' => ∃ i : Int, v25 = .int .i64 i ∧ Aside0 (0 ≤ i) ∧ Aside0 ((i < (l0.length : Int) ∧ ∃ f, f + 1 ≤ kq ∧ impl_PolygonOk.li l0 f i (i + 1) = some r) ∨ (i = (l0.length : Int) ∧ r = true)) ∧ Aside0 (Below w.heap.size w w'))
        case atStart => exact ⟨0, (by first | rfl | (simp; done) | (simp [*]; done)), ⟨by omega⟩, ⟨.inl ⟨by have := N3.out; omega, k, by omega, H.out⟩⟩, HB1⟩
        case round =>
          clear HB1 H
          obtain ⟨i, rfl, HI, HF, HB⟩ := hrel
          have h3 := N3.out
          have hi0 := HI.out
          rcases HF.out with ⟨hi, f, hf, hl⟩ | ⟨hi, rfl⟩
          · have c25 : decide (i < (l0.length : Int)) = true := decide_eq_true hi
            have HFF := Aside0.mk hf
            have HL := Aside0.mk hl
            have HIL := Aside0.mk hi
            clear HF hf hl
            go_upto_region 8 with (fail)
            refine impl_PolygonOk.forget (I := fun W => Below w.heap.size w W) (by repeat (first | exact HB.out | apply pw_below_drewN | apply below_drew1)) ?_
            intro W2 hB2
            have HB2 := Aside0.mk hB2
            clear hB2 HB c25
            go_loopg [5] f (fun kq v5 w' => ∃ k2 : Int, v5 = .int .i64 k2 ∧ Aside0 (i + 1 ≤ k2 ∧ k2 ≤ (l0.length : Int)) ∧ Aside0 (impl_PolygonOk.li l0 kq i k2 = some r) ∧ Aside0 (kq ≤ f) ∧ Aside0 (Below w.heap.size w w'))
            case atStart => exact ⟨i + 1, (by first | rfl | (simp; done) | (simp [*]; done)), ⟨by have := HIL.out; omega⟩, HL, ⟨Nat.le_refl _⟩, HB2⟩
            case round =>
              clear HB2 HL
              obtain ⟨k2, rfl, HK, HL, HK1, HB⟩ := hrel
              have hk2 := HK.out
              cases gk with
              | zero => exact absurd HL.out (by simp [impl_PolygonOk.li])
              | succ f1 =>
                have hl := HL.out
                rw [impl_PolygonOk.li] at hl
                clear HL
                by_cases ck : k2 < (l0.length : Int)
                · rw [if_pos ck] at hl
                  have ckb : decide (k2 < (l0.length : Int)) = true := decide_eq_true ck
                  have HL := Aside0.mk hl
                  clear hl
                  go_upto_region 11 with (fail)
                  go_cut [48] (fun v48 wc => v48 = .bool (impl_PolygonOk.want l0.length i k2 == 1) ∧ Aside0 (Below w.heap.size w wc))
                  case first =>
                    by_cases w1 : k2 = i + 1
                    · have w1b : (k2 == i + 1) = true := beq_iff_eq.mpr w1
                      have e : impl_PolygonOk.want l0.length i k2 = 1 := by unfold impl_PolygonOk.want; rw [if_pos w1]
                      clear w1
                      go_wp2
                      go_meet
                      case rel => exact ⟨by rw [e]; first | rfl | (simp [*]; done), ⟨by repeat (first | exact HB.out | apply pw_below_drewN | apply below_drew1)⟩⟩
                    · have w1b : (k2 == i + 1) = false := beq_eq_false_iff_ne.mpr w1
                      by_cases w2 : i = 0
                      · have w2b : (i == 0) = true := beq_iff_eq.mpr w2
                        by_cases w3 : k2 = (l0.length : Int) - 1
                        · have w3b : (k2 == (l0.length : Int) - 1) = true := beq_iff_eq.mpr w3
                          have e : impl_PolygonOk.want l0.length i k2 = 1 := by unfold impl_PolygonOk.want; rw [if_neg w1, if_pos w2, if_pos w3]
                          clear w1 w2 w3
                          go_wp2
                          go_meet
                          case rel => exact ⟨by rw [e]; first | rfl | (simp [*]; done), ⟨by repeat (first | exact HB.out | apply pw_below_drewN | apply below_drew1)⟩⟩
                        · have w3b : (k2 == (l0.length : Int) - 1) = false := beq_eq_false_iff_ne.mpr w3
                          have e : impl_PolygonOk.want l0.length i k2 = 0 := by unfold impl_PolygonOk.want; rw [if_neg w1, if_pos w2, if_neg w3]
                          clear w1 w2 w3
                          go_wp2
                          go_meet
                          case rel => exact ⟨by rw [e]; first | rfl | (simp [*]; done), ⟨by repeat (first | exact HB.out | apply pw_below_drewN | apply below_drew1)⟩⟩
                      · have w2b : (i == 0) = false := beq_eq_false_iff_ne.mpr w2
                        have e : impl_PolygonOk.want l0.length i k2 = 0 := by unfold impl_PolygonOk.want; rw [if_neg w1, if_neg w2]
                        clear w1 w2
                        go_wp2
                        go_meet
                        case rel => exact ⟨by rw [e]; first | rfl | (simp [*]; done), ⟨by repeat (first | exact HB.out | apply pw_below_drewN | apply below_drew1)⟩⟩
                  case rest =>
                    clear HB
                    obtain ⟨rfl, HB3⟩ := hcut
                    cases hw : (impl_PolygonOk.want l0.length i k2 == 1) with
                    | true =>
                      go_upto_region 13 with (fail)
                      refine impl_PolygonOk.forget (I := fun W => Below w.heap.size w W) (by repeat (first | exact HB3.out | apply pw_below_drewN | apply below_drew1)) ?_
                      intro W4 hB4
                      have hC := Kd.C_below HR0.out hB4
                      have HB4 := Aside0.mk hB4
                      clear hB4 HB3
                      have hi1 : i + 1 < (l0.length : Int) := by omega
                      have hi2 : 0 ≤ i + 1 := by omega
                      have hkk : 0 ≤ k2 := by omega
                      have hn0 : ¬ (l0.length : Int) = 0 := by omega
                      have hn1 : ((l0.length : Int) == 0) = false := beq_eq_false_iff_ne.mpr hn0
                      have hn2 : ¬ l0.length = 0 := by omega
                      have hn3 : Int.tmod (k2 + 1) (l0.length : Int) = (k2 + 1) % (l0.length : Int) := Int.tmod_eq_emod_of_nonneg (by omega)
                      have hwr1 : IntKind.i64.wrap (i + 1) = i + 1 := by rw [i64_w]; unfold wrap64; omega
                      have hwr2 : IntKind.i64.wrap (k2 + 1) = k2 + 1 := by rw [i64_w]; unfold wrap64; omega
                      obtain ⟨ad, e, ha0, ha1⟩ := at_T65 hC i hi0 hi
                      cases e
                      obtain ⟨ad2, e, hb0, hb1⟩ := at_T65 hC (i + 1) hi2 hi1
                      cases e
                      obtain ⟨ad2, e, hc0, hc1⟩ := at_T65 hC k2 hkk ck
                      cases e
                      have ht0 : 0 ≤ (k2 + 1) % (l0.length : Int) := Int.emod_nonneg _ (by omega)
                      have ht1 : (k2 + 1) % (l0.length : Int) < (l0.length : Int) := Int.emod_lt_of_pos _ (by omega)
                      obtain ⟨ad2, e, hd0, hd1⟩ := at_T65 hC ((k2 + 1) % (l0.length : Int)) ht0 ht1
                      cases e
                      clear hC
                      go_cut [7, 8, 9, 10] (fun v7 v8 v9 v10 wc => ∃ g7 g8 g9 g10 : Nat, v7 = .pointer (some ⟨g7, 0, none⟩) ∧ v8 = .pointer (some ⟨g8, 0, none⟩) ∧ v9 = .pointer (some ⟨g9, 0, none⟩) ∧ v10 = .pointer (some ⟨g10, 0, none⟩) ∧ Aside0 (wc.heap[g7]? = some (.cells #[.int .i64 (rd_T65 l0 i).f0, .int .i64 (rd_T65 l0 i).f1] 65 (0, 0)) ∧ wc.heap[g8]? = some (.cells #[.int .i64 (rd_T65 l0 (i + 1)).f0, .int .i64 (rd_T65 l0 (i + 1)).f1] 65 (0, 0)) ∧ wc.heap[g9]? = some (.cells #[.int .i64 (rd_T65 l0 k2).f0, .int .i64 (rd_T65 l0 k2).f1] 65 (0, 0)) ∧ wc.heap[g10]? = some (.cells #[.int .i64 (rd_T65 l0 ((k2 + 1) % (l0.length : Int))).f0, .int .i64 (rd_T65 l0 ((k2 + 1) % (l0.length : Int))).f1] 65 (0, 0))) ∧ Aside0 (Below w.heap.size w wc))
                      case first =>
                        go_region_held3 (fun w' => Below W4.heap.size W4 w' ∧ w'.cell? (ad.add ((i : Int).toNat * 2)) = some (.int .i64 (rd_T65 l0 i).f0) ∧ w'.cell? ⟨((ad.add ((i : Int).toNat * 2))).block, ((ad.add ((i : Int).toNat * 2))).off + 1, none⟩ = some (.int .i64 (rd_T65 l0 i).f1) ∧ w'.cell? (ad.add ((i + 1).toNat * 2)) = some (.int .i64 (rd_T65 l0 (i + 1)).f0) ∧ w'.cell? ⟨((ad.add ((i + 1).toNat * 2))).block, ((ad.add ((i + 1).toNat * 2))).off + 1, none⟩ = some (.int .i64 (rd_T65 l0 (i + 1)).f1) ∧ w'.cell? (ad.add ((k2 : Int).toNat * 2)) = some (.int .i64 (rd_T65 l0 k2).f0) ∧ w'.cell? ⟨((ad.add ((k2 : Int).toNat * 2))).block, ((ad.add ((k2 : Int).toNat * 2))).off + 1, none⟩ = some (.int .i64 (rd_T65 l0 k2).f1) ∧ w'.cell? (ad.add (((k2 + 1) % (l0.length : Int)).toNat * 2)) = some (.int .i64 (rd_T65 l0 ((k2 + 1) % (l0.length : Int))).f0) ∧ w'.cell? ⟨((ad.add (((k2 + 1) % (l0.length : Int)).toNat * 2))).block, ((ad.add (((k2 + 1) % (l0.length : Int)).toNat * 2))).off + 1, none⟩ = some (.int .i64 (rd_T65 l0 ((k2 + 1) % (l0.length : Int))).f1)) ((refine impl_PolygonOk.keep8 ha0 ha1 hb0 hb1 hc0 hc1 hd0 hd1 ?_; repeat (first | assumption | exact Below.refl _ _ | apply pw_below_drewN | apply below_drew1 | apply below_alloc))) (fail)
                        all_goals
                          go_wp2
                          go_meet
                          case rel => exact ⟨_, _, _, _, rfl, rfl, rfl, rfl, ⟨by first | exact (impl_PolygonOk.four _ _ _ _ _).1 | exact (impl_PolygonOk.four _ _ _ _ _).2.1 | exact (impl_PolygonOk.four _ _ _ _ _).2.2.1 | exact (impl_PolygonOk.four _ _ _ _ _).2.2.2, by first | exact (impl_PolygonOk.four _ _ _ _ _).1 | exact (impl_PolygonOk.four _ _ _ _ _).2.1 | exact (impl_PolygonOk.four _ _ _ _ _).2.2.1 | exact (impl_PolygonOk.four _ _ _ _ _).2.2.2, by first | exact (impl_PolygonOk.four _ _ _ _ _).1 | exact (impl_PolygonOk.four _ _ _ _ _).2.1 | exact (impl_PolygonOk.four _ _ _ _ _).2.2.1 | exact (impl_PolygonOk.four _ _ _ _ _).2.2.2, by first | exact (impl_PolygonOk.four _ _ _ _ _).1 | exact (impl_PolygonOk.four _ _ _ _ _).2.1 | exact (impl_PolygonOk.four _ _ _ _ _).2.2.1 | exact (impl_PolygonOk.four _ _ _ _ _).2.2.2⟩, ⟨by repeat (first | exact HB4.out | apply pw_below_drewN | apply below_drew1 | apply below_alloc)⟩⟩
                      case rest =>
                        obtain ⟨g7, g8, g9, g10, rfl, rfl, rfl, rfl, HG, HB5⟩ := hcut
                        clear HB4 ha0 ha1 hb0 hb1 hc0 hc1 hd0 hd1
                        obtain ⟨hg7, hg8, hg9, hg10⟩ := HG.out
                        clear HG
                        obtain ⟨p0, hp0⟩ : ∃ q, q = (rd_T65 l0 i).f0 := ⟨_, rfl⟩
                        obtain ⟨p1, hp1⟩ : ∃ q, q = (rd_T65 l0 i).f1 := ⟨_, rfl⟩
                        rw [← hp0, ← hp1] at hg7
                        obtain ⟨p2, hp2⟩ : ∃ q, q = (rd_T65 l0 (i + 1)).f0 := ⟨_, rfl⟩
                        obtain ⟨p3, hp3⟩ : ∃ q, q = (rd_T65 l0 (i + 1)).f1 := ⟨_, rfl⟩
                        rw [← hp2, ← hp3] at hg8
                        obtain ⟨p4, hp4⟩ : ∃ q, q = (rd_T65 l0 k2).f0 := ⟨_, rfl⟩
                        obtain ⟨p5, hp5⟩ : ∃ q, q = (rd_T65 l0 k2).f1 := ⟨_, rfl⟩
                        rw [← hp4, ← hp5] at hg9
                        obtain ⟨p6, hp6⟩ : ∃ q, q = (rd_T65 l0 ((k2 + 1) % (l0.length : Int))).f0 := ⟨_, rfl⟩
                        obtain ⟨p7, hp7⟩ : ∃ q, q = (rd_T65 l0 ((k2 + 1) % (l0.length : Int))).f1 := ⟨_, rfl⟩
                        rw [← hp6, ← hp7] at hg10
                        have hl := HL.out
                        rw [← hp0, ← hp1, ← hp2, ← hp3, ← hp4, ← hp5, ← hp6, ← hp7] at hl
                        clear HL
                        have hz70 : wc.cell? ⟨g7, 0, none⟩ = some (.int .i64 p0) := (blk_cell hg7 0).trans rfl
                        have hz71 : wc.cell? ⟨g7, 1, none⟩ = some (.int .i64 p1) := (blk_cell hg7 1).trans rfl
                        have hz80 : wc.cell? ⟨g8, 0, none⟩ = some (.int .i64 p2) := (blk_cell hg8 0).trans rfl
                        have hz81 : wc.cell? ⟨g8, 1, none⟩ = some (.int .i64 p3) := (blk_cell hg8 1).trans rfl
                        have hz90 : wc.cell? ⟨g9, 0, none⟩ = some (.int .i64 p4) := (blk_cell hg9 0).trans rfl
                        have hz91 : wc.cell? ⟨g9, 1, none⟩ = some (.int .i64 p5) := (blk_cell hg9 1).trans rfl
                        have hz100 : wc.cell? ⟨g10, 0, none⟩ = some (.int .i64 p6) := (blk_cell hg10 0).trans rfl
                        have hz101 : wc.cell? ⟨g10, 1, none⟩ = some (.int .i64 p7) := (blk_cell hg10 1).trans rfl
                        clear hg7 hg8 hg9 hg10 hp0 hp1 hp2 hp3 hp4 hp5 hp6 hp7 hwr1 hwr2 hn0 hn1 hn2 hn3 ht0 ht1
                        have hwv : impl_PolygonOk.want l0.length i k2 = 1 := (by simpa using hw)
                        rw [hwv] at hl
                        cases ep0 : (p0 == p2) with
                        | false =>
                          rw [ep0, Bool.false_and, if_neg (by simp)] at hl
                          cases ep4 : (p4 == p6) with
                          | false =>
                            rw [ep4, Bool.false_and, if_neg (by simp)] at hl
                            rw [Option.bind_eq_some_iff] at hl
                            obtain ⟨mv, MV, hl⟩ := hl
                            have HMV := Aside0.mk MV
                            clear MV
                            by_cases em : mv = 1
                            · rw [if_pos em] at hl
                              have emb : (mv != 1) = false := bne_eq_false_iff_eq.mpr em
                              have HL2 := Aside0.mk hl
                              clear em hl
                              go_wp2_with (first | (go_at_call 95; (with_reducible refine (impl_meet.calls _ _ _ _ _ _ _ _ mv _ HMV.out).mono ?_); rintro e w4 ⟨rfl, hb4⟩; have HB6 := Aside0.mk (below_step HB5.out hb4); clear hb4))
                              go_roundg f1
                              case measure => omega
                              case rel => exact ⟨k2 + 1, (by first | rfl | (simp; done) | (simp [*]; done)), ⟨by omega⟩, HL2, ⟨by have := HK1.out; omega⟩, ⟨by repeat (first | exact HB6.out | apply pw_below_drewN | apply below_drew1)⟩⟩
                            · rw [if_neg em] at hl
                              have emb : (mv != 1) = true := bne_iff_ne.mpr em
                              obtain rfl := Option.some.inj hl
                              clear em hl
                              go_wp2_with (first | (go_at_call 95; (with_reducible refine (impl_meet.calls _ _ _ _ _ _ _ _ mv _ HMV.out).mono ?_); rintro e w4 ⟨rfl, hb4⟩; have HB6 := Aside0.mk (below_step HB5.out hb4); clear hb4))
                              go_ret
                              exact ⟨rfl, by repeat (first | exact HB6.out | apply pw_below_drewN | apply below_drew1)⟩
                          | true =>
                            cases ep5 : (p5 == p7) with
                            | false =>
                              rw [ep4, ep5, if_neg (by simp)] at hl
                              rw [Option.bind_eq_some_iff] at hl
                              obtain ⟨mv, MV, hl⟩ := hl
                              have HMV := Aside0.mk MV
                              clear MV
                              by_cases em : mv = 1
                              · rw [if_pos em] at hl
                                have emb : (mv != 1) = false := bne_eq_false_iff_eq.mpr em
                                have HL2 := Aside0.mk hl
                                clear em hl
                                go_wp2_with (first | (go_at_call 95; (with_reducible refine (impl_meet.calls _ _ _ _ _ _ _ _ mv _ HMV.out).mono ?_); rintro e w4 ⟨rfl, hb4⟩; have HB6 := Aside0.mk (below_step HB5.out hb4); clear hb4))
                                go_roundg f1
                                case measure => omega
                                case rel => exact ⟨k2 + 1, (by first | rfl | (simp; done) | (simp [*]; done)), ⟨by omega⟩, HL2, ⟨by have := HK1.out; omega⟩, ⟨by repeat (first | exact HB6.out | apply pw_below_drewN | apply below_drew1)⟩⟩
                              · rw [if_neg em] at hl
                                have emb : (mv != 1) = true := bne_iff_ne.mpr em
                                obtain rfl := Option.some.inj hl
                                clear em hl
                                go_wp2_with (first | (go_at_call 95; (with_reducible refine (impl_meet.calls _ _ _ _ _ _ _ _ mv _ HMV.out).mono ?_); rintro e w4 ⟨rfl, hb4⟩; have HB6 := Aside0.mk (below_step HB5.out hb4); clear hb4))
                                go_ret
                                exact ⟨rfl, by repeat (first | exact HB6.out | apply pw_below_drewN | apply below_drew1)⟩
                            | true =>
                              rw [ep4, ep5, if_pos (by rfl)] at hl
                              obtain rfl := Option.some.inj hl
                              clear hl
                              go_wp2
                              go_ret
                              exact ⟨rfl, by repeat (first | exact HB5.out | apply pw_below_drewN | apply below_drew1)⟩
                        | true =>
                          cases ep1 : (p1 == p3) with
                          | false =>
                            rw [ep0, ep1, if_neg (by simp)] at hl
                            cases ep4 : (p4 == p6) with
                            | false =>
                              rw [ep4, Bool.false_and, if_neg (by simp)] at hl
                              rw [Option.bind_eq_some_iff] at hl
                              obtain ⟨mv, MV, hl⟩ := hl
                              have HMV := Aside0.mk MV
                              clear MV
                              by_cases em : mv = 1
                              · rw [if_pos em] at hl
                                have emb : (mv != 1) = false := bne_eq_false_iff_eq.mpr em
                                have HL2 := Aside0.mk hl
                                clear em hl
                                go_wp2_with (first | (go_at_call 95; (with_reducible refine (impl_meet.calls _ _ _ _ _ _ _ _ mv _ HMV.out).mono ?_); rintro e w4 ⟨rfl, hb4⟩; have HB6 := Aside0.mk (below_step HB5.out hb4); clear hb4))
                                go_roundg f1
                                case measure => omega
                                case rel => exact ⟨k2 + 1, (by first | rfl | (simp; done) | (simp [*]; done)), ⟨by omega⟩, HL2, ⟨by have := HK1.out; omega⟩, ⟨by repeat (first | exact HB6.out | apply pw_below_drewN | apply below_drew1)⟩⟩
                              · rw [if_neg em] at hl
                                have emb : (mv != 1) = true := bne_iff_ne.mpr em
                                obtain rfl := Option.some.inj hl
                                clear em hl
                                go_wp2_with (first | (go_at_call 95; (with_reducible refine (impl_meet.calls _ _ _ _ _ _ _ _ mv _ HMV.out).mono ?_); rintro e w4 ⟨rfl, hb4⟩; have HB6 := Aside0.mk (below_step HB5.out hb4); clear hb4))
                                go_ret
                                exact ⟨rfl, by repeat (first | exact HB6.out | apply pw_below_drewN | apply below_drew1)⟩
                            | true =>
                              cases ep5 : (p5 == p7) with
                              | false =>
                                rw [ep4, ep5, if_neg (by simp)] at hl
                                rw [Option.bind_eq_some_iff] at hl
                                obtain ⟨mv, MV, hl⟩ := hl
                                have HMV := Aside0.mk MV
                                clear MV
                                by_cases em : mv = 1
                                · rw [if_pos em] at hl
                                  have emb : (mv != 1) = false := bne_eq_false_iff_eq.mpr em
                                  have HL2 := Aside0.mk hl
                                  clear em hl
                                  go_wp2_with (first | (go_at_call 95; (with_reducible refine (impl_meet.calls _ _ _ _ _ _ _ _ mv _ HMV.out).mono ?_); rintro e w4 ⟨rfl, hb4⟩; have HB6 := Aside0.mk (below_step HB5.out hb4); clear hb4))
                                  go_roundg f1
                                  case measure => omega
                                  case rel => exact ⟨k2 + 1, (by first | rfl | (simp; done) | (simp [*]; done)), ⟨by omega⟩, HL2, ⟨by have := HK1.out; omega⟩, ⟨by repeat (first | exact HB6.out | apply pw_below_drewN | apply below_drew1)⟩⟩
                                · rw [if_neg em] at hl
                                  have emb : (mv != 1) = true := bne_iff_ne.mpr em
                                  obtain rfl := Option.some.inj hl
                                  clear em hl
                                  go_wp2_with (first | (go_at_call 95; (with_reducible refine (impl_meet.calls _ _ _ _ _ _ _ _ mv _ HMV.out).mono ?_); rintro e w4 ⟨rfl, hb4⟩; have HB6 := Aside0.mk (below_step HB5.out hb4); clear hb4))
                                  go_ret
                                  exact ⟨rfl, by repeat (first | exact HB6.out | apply pw_below_drewN | apply below_drew1)⟩
                              | true =>
                                rw [ep4, ep5, if_pos (by rfl)] at hl
                                obtain rfl := Option.some.inj hl
                                clear hl
                                go_wp2
                                go_ret
                                exact ⟨rfl, by repeat (first | exact HB5.out | apply pw_below_drewN | apply below_drew1)⟩
                          | true =>
                            rw [ep0, ep1, if_pos (by rfl)] at hl
                            obtain rfl := Option.some.inj hl
                            clear hl
                            go_wp2
                            go_ret
                            exact ⟨rfl, by repeat (first | exact HB5.out | apply pw_below_drewN | apply below_drew1)⟩
                    | false =>
                      go_upto_region 13 with (fail)
                      refine impl_PolygonOk.forget (I := fun W => Below w.heap.size w W) (by repeat (first | exact HB3.out | apply pw_below_drewN | apply below_drew1)) ?_
                      intro W4 hB4
                      have hC := Kd.C_below HR0.out hB4
                      have HB4 := Aside0.mk hB4
                      clear hB4 HB3
                      have hi1 : i + 1 < (l0.length : Int) := by omega
                      have hi2 : 0 ≤ i + 1 := by omega
                      have hkk : 0 ≤ k2 := by omega
                      have hn0 : ¬ (l0.length : Int) = 0 := by omega
                      have hn1 : ((l0.length : Int) == 0) = false := beq_eq_false_iff_ne.mpr hn0
                      have hn2 : ¬ l0.length = 0 := by omega
                      have hn3 : Int.tmod (k2 + 1) (l0.length : Int) = (k2 + 1) % (l0.length : Int) := Int.tmod_eq_emod_of_nonneg (by omega)
                      have hwr1 : IntKind.i64.wrap (i + 1) = i + 1 := by rw [i64_w]; unfold wrap64; omega
                      have hwr2 : IntKind.i64.wrap (k2 + 1) = k2 + 1 := by rw [i64_w]; unfold wrap64; omega
                      obtain ⟨ad, e, ha0, ha1⟩ := at_T65 hC i hi0 hi
                      cases e
                      obtain ⟨ad2, e, hb0, hb1⟩ := at_T65 hC (i + 1) hi2 hi1
                      cases e
                      obtain ⟨ad2, e, hc0, hc1⟩ := at_T65 hC k2 hkk ck
                      cases e
                      have ht0 : 0 ≤ (k2 + 1) % (l0.length : Int) := Int.emod_nonneg _ (by omega)
                      have ht1 : (k2 + 1) % (l0.length : Int) < (l0.length : Int) := Int.emod_lt_of_pos _ (by omega)
                      obtain ⟨ad2, e, hd0, hd1⟩ := at_T65 hC ((k2 + 1) % (l0.length : Int)) ht0 ht1
                      cases e
                      clear hC
                      go_cut [7, 8, 9, 10] (fun v7 v8 v9 v10 wc => ∃ g7 g8 g9 g10 : Nat, v7 = .pointer (some ⟨g7, 0, none⟩) ∧ v8 = .pointer (some ⟨g8, 0, none⟩) ∧ v9 = .pointer (some ⟨g9, 0, none⟩) ∧ v10 = .pointer (some ⟨g10, 0, none⟩) ∧ Aside0 (wc.heap[g7]? = some (.cells #[.int .i64 (rd_T65 l0 i).f0, .int .i64 (rd_T65 l0 i).f1] 65 (0, 0)) ∧ wc.heap[g8]? = some (.cells #[.int .i64 (rd_T65 l0 (i + 1)).f0, .int .i64 (rd_T65 l0 (i + 1)).f1] 65 (0, 0)) ∧ wc.heap[g9]? = some (.cells #[.int .i64 (rd_T65 l0 k2).f0, .int .i64 (rd_T65 l0 k2).f1] 65 (0, 0)) ∧ wc.heap[g10]? = some (.cells #[.int .i64 (rd_T65 l0 ((k2 + 1) % (l0.length : Int))).f0, .int .i64 (rd_T65 l0 ((k2 + 1) % (l0.length : Int))).f1] 65 (0, 0))) ∧ Aside0 (Below w.heap.size w wc))
                      case first =>
                        go_region_held3 (fun w' => Below W4.heap.size W4 w' ∧ w'.cell? (ad.add ((i : Int).toNat * 2)) = some (.int .i64 (rd_T65 l0 i).f0) ∧ w'.cell? ⟨((ad.add ((i : Int).toNat * 2))).block, ((ad.add ((i : Int).toNat * 2))).off + 1, none⟩ = some (.int .i64 (rd_T65 l0 i).f1) ∧ w'.cell? (ad.add ((i + 1).toNat * 2)) = some (.int .i64 (rd_T65 l0 (i + 1)).f0) ∧ w'.cell? ⟨((ad.add ((i + 1).toNat * 2))).block, ((ad.add ((i + 1).toNat * 2))).off + 1, none⟩ = some (.int .i64 (rd_T65 l0 (i + 1)).f1) ∧ w'.cell? (ad.add ((k2 : Int).toNat * 2)) = some (.int .i64 (rd_T65 l0 k2).f0) ∧ w'.cell? ⟨((ad.add ((k2 : Int).toNat * 2))).block, ((ad.add ((k2 : Int).toNat * 2))).off + 1, none⟩ = some (.int .i64 (rd_T65 l0 k2).f1) ∧ w'.cell? (ad.add (((k2 + 1) % (l0.length : Int)).toNat * 2)) = some (.int .i64 (rd_T65 l0 ((k2 + 1) % (l0.length : Int))).f0) ∧ w'.cell? ⟨((ad.add (((k2 + 1) % (l0.length : Int)).toNat * 2))).block, ((ad.add (((k2 + 1) % (l0.length : Int)).toNat * 2))).off + 1, none⟩ = some (.int .i64 (rd_T65 l0 ((k2 + 1) % (l0.length : Int))).f1)) ((refine impl_PolygonOk.keep8 ha0 ha1 hb0 hb1 hc0 hc1 hd0 hd1 ?_; repeat (first | assumption | exact Below.refl _ _ | apply pw_below_drewN | apply below_drew1 | apply below_alloc))) (fail)
                        all_goals
                          go_wp2
                          go_meet
                          case rel => exact ⟨_, _, _, _, rfl, rfl, rfl, rfl, ⟨by first | exact (impl_PolygonOk.four _ _ _ _ _).1 | exact (impl_PolygonOk.four _ _ _ _ _).2.1 | exact (impl_PolygonOk.four _ _ _ _ _).2.2.1 | exact (impl_PolygonOk.four _ _ _ _ _).2.2.2, by first | exact (impl_PolygonOk.four _ _ _ _ _).1 | exact (impl_PolygonOk.four _ _ _ _ _).2.1 | exact (impl_PolygonOk.four _ _ _ _ _).2.2.1 | exact (impl_PolygonOk.four _ _ _ _ _).2.2.2, by first | exact (impl_PolygonOk.four _ _ _ _ _).1 | exact (impl_PolygonOk.four _ _ _ _ _).2.1 | exact (impl_PolygonOk.four _ _ _ _ _).2.2.1 | exact (impl_PolygonOk.four _ _ _ _ _).2.2.2, by first | exact (impl_PolygonOk.four _ _ _ _ _).1 | exact (impl_PolygonOk.four _ _ _ _ _).2.1 | exact (impl_PolygonOk.four _ _ _ _ _).2.2.1 | exact (impl_PolygonOk.four _ _ _ _ _).2.2.2⟩, ⟨by repeat (first | exact HB4.out | apply pw_below_drewN | apply below_drew1 | apply below_alloc)⟩⟩
                      case rest =>
                        obtain ⟨g7, g8, g9, g10, rfl, rfl, rfl, rfl, HG, HB5⟩ := hcut
                        clear HB4 ha0 ha1 hb0 hb1 hc0 hc1 hd0 hd1
                        obtain ⟨hg7, hg8, hg9, hg10⟩ := HG.out
                        clear HG
                        obtain ⟨p0, hp0⟩ : ∃ q, q = (rd_T65 l0 i).f0 := ⟨_, rfl⟩
                        obtain ⟨p1, hp1⟩ : ∃ q, q = (rd_T65 l0 i).f1 := ⟨_, rfl⟩
                        rw [← hp0, ← hp1] at hg7
                        obtain ⟨p2, hp2⟩ : ∃ q, q = (rd_T65 l0 (i + 1)).f0 := ⟨_, rfl⟩
                        obtain ⟨p3, hp3⟩ : ∃ q, q = (rd_T65 l0 (i + 1)).f1 := ⟨_, rfl⟩
                        rw [← hp2, ← hp3] at hg8
                        obtain ⟨p4, hp4⟩ : ∃ q, q = (rd_T65 l0 k2).f0 := ⟨_, rfl⟩
                        obtain ⟨p5, hp5⟩ : ∃ q, q = (rd_T65 l0 k2).f1 := ⟨_, rfl⟩
                        rw [← hp4, ← hp5] at hg9
                        obtain ⟨p6, hp6⟩ : ∃ q, q = (rd_T65 l0 ((k2 + 1) % (l0.length : Int))).f0 := ⟨_, rfl⟩
                        obtain ⟨p7, hp7⟩ : ∃ q, q = (rd_T65 l0 ((k2 + 1) % (l0.length : Int))).f1 := ⟨_, rfl⟩
                        rw [← hp6, ← hp7] at hg10
                        have hl := HL.out
                        rw [← hp0, ← hp1, ← hp2, ← hp3, ← hp4, ← hp5, ← hp6, ← hp7] at hl
                        clear HL
                        have hz70 : wc.cell? ⟨g7, 0, none⟩ = some (.int .i64 p0) := (blk_cell hg7 0).trans rfl
                        have hz71 : wc.cell? ⟨g7, 1, none⟩ = some (.int .i64 p1) := (blk_cell hg7 1).trans rfl
                        have hz80 : wc.cell? ⟨g8, 0, none⟩ = some (.int .i64 p2) := (blk_cell hg8 0).trans rfl
                        have hz81 : wc.cell? ⟨g8, 1, none⟩ = some (.int .i64 p3) := (blk_cell hg8 1).trans rfl
                        have hz90 : wc.cell? ⟨g9, 0, none⟩ = some (.int .i64 p4) := (blk_cell hg9 0).trans rfl
                        have hz91 : wc.cell? ⟨g9, 1, none⟩ = some (.int .i64 p5) := (blk_cell hg9 1).trans rfl
                        have hz100 : wc.cell? ⟨g10, 0, none⟩ = some (.int .i64 p6) := (blk_cell hg10 0).trans rfl
                        have hz101 : wc.cell? ⟨g10, 1, none⟩ = some (.int .i64 p7) := (blk_cell hg10 1).trans rfl
                        clear hg7 hg8 hg9 hg10 hp0 hp1 hp2 hp3 hp4 hp5 hp6 hp7 hwr1 hwr2 hn0 hn1 hn2 hn3 ht0 ht1
                        have hwv : impl_PolygonOk.want l0.length i k2 = 0 := impl_PolygonOk.want0 _ _ _ (by simpa using hw)
                        rw [hwv] at hl
                        cases ep0 : (p0 == p2) with
                        | false =>
                          rw [ep0, Bool.false_and, if_neg (by simp)] at hl
                          cases ep4 : (p4 == p6) with
                          | false =>
                            rw [ep4, Bool.false_and, if_neg (by simp)] at hl
                            rw [Option.bind_eq_some_iff] at hl
                            obtain ⟨mv, MV, hl⟩ := hl
                            have HMV := Aside0.mk MV
                            clear MV
                            by_cases em : mv = 0
                            · rw [if_pos em] at hl
                              have emb : (mv != 0) = false := bne_eq_false_iff_eq.mpr em
                              have HL2 := Aside0.mk hl
                              clear em hl
                              go_wp2_with (first | (go_at_call 95; (with_reducible refine (impl_meet.calls _ _ _ _ _ _ _ _ mv _ HMV.out).mono ?_); rintro e w4 ⟨rfl, hb4⟩; have HB6 := Aside0.mk (below_step HB5.out hb4); clear hb4))
                              go_roundg f1
                              case measure => omega
                              case rel => exact ⟨k2 + 1, (by first | rfl | (simp; done) | (simp [*]; done)), ⟨by omega⟩, HL2, ⟨by have := HK1.out; omega⟩, ⟨by repeat (first | exact HB6.out | apply pw_below_drewN | apply below_drew1)⟩⟩
                            · rw [if_neg em] at hl
                              have emb : (mv != 0) = true := bne_iff_ne.mpr em
                              obtain rfl := Option.some.inj hl
                              clear em hl
                              go_wp2_with (first | (go_at_call 95; (with_reducible refine (impl_meet.calls _ _ _ _ _ _ _ _ mv _ HMV.out).mono ?_); rintro e w4 ⟨rfl, hb4⟩; have HB6 := Aside0.mk (below_step HB5.out hb4); clear hb4))
                              go_ret
                              exact ⟨rfl, by repeat (first | exact HB6.out | apply pw_below_drewN | apply below_drew1)⟩
                          | true =>
                            cases ep5 : (p5 == p7) with
                            | false =>
                              rw [ep4, ep5, if_neg (by simp)] at hl
                              rw [Option.bind_eq_some_iff] at hl
                              obtain ⟨mv, MV, hl⟩ := hl
                              have HMV := Aside0.mk MV
                              clear MV
                              by_cases em : mv = 0
                              · rw [if_pos em] at hl
                                have emb : (mv != 0) = false := bne_eq_false_iff_eq.mpr em
                                have HL2 := Aside0.mk hl
                                clear em hl
                                go_wp2_with (first | (go_at_call 95; (with_reducible refine (impl_meet.calls _ _ _ _ _ _ _ _ mv _ HMV.out).mono ?_); rintro e w4 ⟨rfl, hb4⟩; have HB6 := Aside0.mk (below_step HB5.out hb4); clear hb4))
                                go_roundg f1
                                case measure => omega
                                case rel => exact ⟨k2 + 1, (by first | rfl | (simp; done) | (simp [*]; done)), ⟨by omega⟩, HL2, ⟨by have := HK1.out; omega⟩, ⟨by repeat (first | exact HB6.out | apply pw_below_drewN | apply below_drew1)⟩⟩
                              · rw [if_neg em] at hl
                                have emb : (mv != 0) = true := bne_iff_ne.mpr em
                                obtain rfl := Option.some.inj hl
                                clear em hl
                                go_wp2_with (first | (go_at_call 95; (with_reducible refine (impl_meet.calls _ _ _ _ _ _ _ _ mv _ HMV.out).mono ?_); rintro e w4 ⟨rfl, hb4⟩; have HB6 := Aside0.mk (below_step HB5.out hb4); clear hb4))
                                go_ret
                                exact ⟨rfl, by repeat (first | exact HB6.out | apply pw_below_drewN | apply below_drew1)⟩
                            | true =>
                              rw [ep4, ep5, if_pos (by rfl)] at hl
                              obtain rfl := Option.some.inj hl
                              clear hl
                              go_wp2
                              go_ret
                              exact ⟨rfl, by repeat (first | exact HB5.out | apply pw_below_drewN | apply below_drew1)⟩
                        | true =>
                          cases ep1 : (p1 == p3) with
                          | false =>
                            rw [ep0, ep1, if_neg (by simp)] at hl
                            cases ep4 : (p4 == p6) with
                            | false =>
                              rw [ep4, Bool.false_and, if_neg (by simp)] at hl
                              rw [Option.bind_eq_some_iff] at hl
                              obtain ⟨mv, MV, hl⟩ := hl
                              have HMV := Aside0.mk MV
                              clear MV
                              by_cases em : mv = 0
                              · rw [if_pos em] at hl
                                have emb : (mv != 0) = false := bne_eq_false_iff_eq.mpr em
                                have HL2 := Aside0.mk hl
                                clear em hl
                                go_wp2_with (first | (go_at_call 95; (with_reducible refine (impl_meet.calls _ _ _ _ _ _ _ _ mv _ HMV.out).mono ?_); rintro e w4 ⟨rfl, hb4⟩; have HB6 := Aside0.mk (below_step HB5.out hb4); clear hb4))
                                go_roundg f1
                                case measure => omega
                                case rel => exact ⟨k2 + 1, (by first | rfl | (simp; done) | (simp [*]; done)), ⟨by omega⟩, HL2, ⟨by have := HK1.out; omega⟩, ⟨by repeat (first | exact HB6.out | apply pw_below_drewN | apply below_drew1)⟩⟩
                              · rw [if_neg em] at hl
                                have emb : (mv != 0) = true := bne_iff_ne.mpr em
                                obtain rfl := Option.some.inj hl
                                clear em hl
                                go_wp2_with (first | (go_at_call 95; (with_reducible refine (impl_meet.calls _ _ _ _ _ _ _ _ mv _ HMV.out).mono ?_); rintro e w4 ⟨rfl, hb4⟩; have HB6 := Aside0.mk (below_step HB5.out hb4); clear hb4))
                                go_ret
                                exact ⟨rfl, by repeat (first | exact HB6.out | apply pw_below_drewN | apply below_drew1)⟩
                            | true =>
                              cases ep5 : (p5 == p7) with
                              | false =>
                                rw [ep4, ep5, if_neg (by simp)] at hl
                                rw [Option.bind_eq_some_iff] at hl
                                obtain ⟨mv, MV, hl⟩ := hl
                                have HMV := Aside0.mk MV
                                clear MV
                                by_cases em : mv = 0
                                · rw [if_pos em] at hl
                                  have emb : (mv != 0) = false := bne_eq_false_iff_eq.mpr em
                                  have HL2 := Aside0.mk hl
                                  clear em hl
                                  go_wp2_with (first | (go_at_call 95; (with_reducible refine (impl_meet.calls _ _ _ _ _ _ _ _ mv _ HMV.out).mono ?_); rintro e w4 ⟨rfl, hb4⟩; have HB6 := Aside0.mk (below_step HB5.out hb4); clear hb4))
                                  go_roundg f1
                                  case measure => omega
                                  case rel => exact ⟨k2 + 1, (by first | rfl | (simp; done) | (simp [*]; done)), ⟨by omega⟩, HL2, ⟨by have := HK1.out; omega⟩, ⟨by repeat (first | exact HB6.out | apply pw_below_drewN | apply below_drew1)⟩⟩
                                · rw [if_neg em] at hl
                                  have emb : (mv != 0) = true := bne_iff_ne.mpr em
                                  obtain rfl := Option.some.inj hl
                                  clear em hl
                                  go_wp2_with (first | (go_at_call 95; (with_reducible refine (impl_meet.calls _ _ _ _ _ _ _ _ mv _ HMV.out).mono ?_); rintro e w4 ⟨rfl, hb4⟩; have HB6 := Aside0.mk (below_step HB5.out hb4); clear hb4))
                                  go_ret
                                  exact ⟨rfl, by repeat (first | exact HB6.out | apply pw_below_drewN | apply below_drew1)⟩
                              | true =>
                                rw [ep4, ep5, if_pos (by rfl)] at hl
                                obtain rfl := Option.some.inj hl
                                clear hl
                                go_wp2
                                go_ret
                                exact ⟨rfl, by repeat (first | exact HB5.out | apply pw_below_drewN | apply below_drew1)⟩
                          | true =>
                            rw [ep0, ep1, if_pos (by rfl)] at hl
                            obtain rfl := Option.some.inj hl
                            clear hl
                            go_wp2
                            go_ret
                            exact ⟨rfl, by repeat (first | exact HB5.out | apply pw_below_drewN | apply below_drew1)⟩
                · rw [if_neg ck] at hl
                  have ckb : decide (k2 < (l0.length : Int)) = false := decide_eq_false ck
                  have HL2 := Aside0.mk hl
                  clear hl
                  go_wp2
                  go_roundg (f1 + 1)
                  case measure => have := HFF.out; have := HK1.out; omega
                  case rel => exact ⟨i + 1, (by first | rfl | (simp; done) | (simp [*]; done)), ⟨by omega⟩, ⟨by
                    have h := HL2.out
                    have h2 := HIL.out
                    by_cases c : i + 1 < (l0.length : Int)
                    · rw [if_pos c] at h
                      exact .inl ⟨c, f1, by omega, by rw [show i + 1 + 1 = i + 2 by omega]; exact h⟩
                    · rw [if_neg c] at h
                      exact .inr ⟨by omega, (Option.some.inj h).symm⟩⟩, ⟨by repeat (first | exact HB.out | apply pw_below_drewN | apply below_drew1)⟩⟩
          · have c25 : decide (i < (l0.length : Int)) = false := decide_eq_false (by omega)
            clear HF
            go_wp2
            go_ret
            exact ⟨rfl, by repeat (first | exact HB.out | apply pw_below_drewN | apply below_drew1)⟩
end

-- NOT PRINTED: function 114 (slices_IndexFunc_Sint)

-- NOT PRINTED: function 96 (slices_ContainsFunc_Sint)

/-! ### impl_StoreOk: function 69 -/
--import Derived.WalkSpells
--import Derived.Deep.QuietTactic
--import Derived.BigQuiet
def impl_StoreOk.row (r : List Int) : Bool := decide (r.length = 2) && ((decide (1 ≤ rd r 0) && decide (rd r 0 ≤ 100)) && (decide (1 ≤ rd r 1) && decide (rd r 1 ≤ 100)))
def impl_StoreOk.f (l0 : List (List Int)) : Option Bool := some (decide (l0.length ≤ 20) && l0.all impl_StoreOk.row)
theorem impl_StoreOk.wi (a b c : Int) : impl_within.f a b c = some (decide (b ≤ a) && decide (a ≤ c)) := by
  unfold impl_within.f
  by_cases h : a ≥ b
  · rw [if_pos h, decide_eq_true (show b ≤ a from h)]; rfl
  · rw [if_neg h, decide_eq_false (show ¬ b ≤ a from h)]; rfl
set_option maxHeartbeats 1000000 in
theorem impl_StoreOk.rem (a b : Int) (t : Bool) (ht : t = ((decide (1 ≤ a) && decide (a ≤ 100)) && (decide (1 ≤ b) && decide (b ≤ 100)))) (w : World) : Calls Try.prog 98 #[.int .i64 a, .int .i64 b] w fun e w' => e = .returned (.bool t) ∧ ∃ m, w' = w.drewN m := by
  cases h1 : (decide (1 ≤ a) && decide (a ≤ 100)) with
  | false =>
    have H1 := Aside0.mk ((impl_StoreOk.wi a 1 100).trans (congrArg some h1))
    obtain rfl : t = false := by rw [ht, h1]; rfl
    clear h1 ht
    go_enter Try.func98, Try.ntmps98
    go_wp2_with (first | (go_at_call 86; (with_reducible refine (impl_within.calls a 1 100 false _ H1.out).mono ?_); rintro e w1 ⟨rfl, ⟨m1, rfl⟩⟩))
    go_ret
    exact ⟨rfl, m1, rfl⟩
  | true =>
    have H1 := Aside0.mk ((impl_StoreOk.wi a 1 100).trans (congrArg some h1))
    have ht2 : t = (decide (1 ≤ b) && decide (b ≤ 100)) := by rw [ht, h1]; rfl
    have H2 := Aside0.mk ((impl_StoreOk.wi b 1 100).trans (congrArg some ht2.symm))
    clear h1 ht ht2
    go_enter Try.func98, Try.ntmps98
    go_wp2_with (first | (go_at_call 86; (with_reducible refine (impl_within.calls a 1 100 true _ H1.out).mono ?_); rintro e w1 ⟨rfl, ⟨m1, rfl⟩⟩) | (go_at_call 86; (with_reducible refine (impl_within.calls b 1 100 t _ H2.out).mono ?_); rintro e w2 ⟨rfl, ⟨m2, rfl⟩⟩))
    go_ret
    exact ⟨rfl, m1 + m2, by first | rfl | simp [World.drewN_drewN] | (simp [World.drewN, Nat.add_assoc])⟩
theorem impl_StoreOk.rowAt {w : World} {A : Option Addr} {n : Nat} {xs : List (List Int)} (h : Kd.C (Kd.slice 3 (Kd.int .i64)) w A n xs) (i : Int) (h0 : 0 ≤ i) (h1 : i < n) : ∃ ad A0 c0, A = some ad ∧ w.cell? (ad.add i.toNat) = some (.slice A0 (xs.getD i.toNat []).length c0) ∧ (Kd.int .i64).C w A0 (xs.getD i.toNat []).length (xs.getD i.toNat []) := by
  obtain ⟨ad, c, e, _, hK, hc0⟩ := Kd.C_get h ([] : List Int) i h0 h1
  have hc : ∀ j u, c[j]? = some u → w.cell? (ad.add (i.toNat * 1 + j)) = some u := hc0
  obtain ⟨A0, c0, rfl, l0, g0⟩ := hK
  exact ⟨ad, A0, c0, e, by have hq := hc 0 _ rfl; rwa [Nat.mul_one, Nat.add_zero] at hq, g0⟩
set_option maxHeartbeats 4000000 in
theorem impl_StoreOk.pred (A : Option Addr) (c : Nat) (r : List Int) (w : World) (hC : (Kd.int .i64).C w A r.length r) : Calls Try.prog 97 #[.slice A r.length c] w fun e w' => e = .returned (.bool (!impl_StoreOk.row r)) ∧ ∃ m, w' = w.drewN m := by
  by_cases h2 : r.length = 2
  · have b0 : (((r.length : Int)) != 2) = false := bne_eq_false_iff_eq.mpr (by omega)
    have b1 : (r.length != 2) = false := bne_eq_false_iff_eq.mpr h2
    obtain ⟨ad, e, hx0⟩ := Kd.at_int hC 0 (by omega) (by omega)
    cases e
    obtain ⟨ad1, e, hx1⟩ := Kd.at_int hC 1 (by omega) (by omega)
    obtain rfl : ad = ad1 := by injection e
    rw [show ((0 : Int)).toNat = 0 from rfl, Addr.add_zero'] at hx0
    rw [show ((1 : Int)).toNat = 1 from rfl] at hx1
    have hx1b := hx1
    simp only [Nat.reduceMul, Nat.reduceEqDiff, Go.Addr.add, ↓reduceIte] at hx1
    obtain ⟨t, ht⟩ : ∃ t, t = ((decide (1 ≤ rd r 0) && decide (rd r 0 ≤ 100)) && (decide (1 ≤ rd r 1) && decide (rd r 1 ≤ 100))) := ⟨_, rfl⟩
    have hrow : impl_StoreOk.row r = t := by unfold impl_StoreOk.row; rw [decide_eq_true h2, Bool.true_and, ht]
    rw [hrow]
    generalize rd r 0 = a at hx0 ht
    generalize rd r 1 = b at hx1 hx1b ht
    have HT := Aside0.mk ht
    have p0 : (0 : Int) < (r.length : Int) := by omega
    have p1 : (1 : Int) < (r.length : Int) := by omega
    have n0 : 0 < r.length := by omega
    have n1 : 1 < r.length := by omega
    have hcr := fun W => impl_StoreOk.rem a b t HT.out W
    have HCR := Aside0.mk hcr
    clear ht hrow e hC h2 hcr
    go_enter Try.func97, Try.ntmps97
    go_wp2
    go_quiet ((go_at_call 98; exact Calls.quiet_of (impl_StoreOk.rem _ _ _ HT.out _)))
    go_wp2
    go_ret
    exact ⟨rfl, by first | exact ⟨_, rfl⟩ | simp⟩
  · have b0 : (((r.length : Int)) != 2) = true := bne_iff_ne.mpr (by omega)
    have b1 : (r.length != 2) = true := bne_iff_ne.mpr h2
    have hrow : impl_StoreOk.row r = false := by unfold impl_StoreOk.row; rw [decide_eq_false h2, Bool.false_and]
    rw [hrow]
    clear hrow h2 hC
    go_enter Try.func97, Try.ntmps97
    go_wp2
    go_quiet (fail)
    go_wp2
    go_ret
    exact ⟨rfl, by first | exact ⟨_, rfl⟩ | simp⟩
def impl_StoreOk.IxPost (l : List (List Int)) (w : World) (e : Ending) (w' : World) : Prop := ∃ i : Int, e = .returned (.int .i64 i) ∧ (if l.all impl_StoreOk.row = true then i = -1 else 0 ≤ i) ∧ Drawn0 w w'
theorem impl_StoreOk.all_of {l : List (List Int)} (h : ∀ j : Nat, j < l.length → impl_StoreOk.row (l.getD j []) = true) : l.all impl_StoreOk.row = true := by
  rw [List.all_eq_true]
  intro x hx
  obtain ⟨j, hj, rfl⟩ := List.getElem_of_mem hx
  have := h j hj
  rwa [List.getD_eq_getElem?_getD, List.getElem?_eq_getElem hj] at this
theorem impl_StoreOk.all_not {l : List (List Int)} {j : Nat} (hj : j < l.length) (h : impl_StoreOk.row (l.getD j []) = false) : ¬ l.all impl_StoreOk.row = true := by
  rw [List.all_eq_true]
  intro h2
  rw [List.getD_eq_getElem?_getD, List.getElem?_eq_getElem hj] at h
  have h3 := h2 _ (List.getElem_mem hj)
  rw [Option.getD_some] at h
  rw [h] at h3
  cases h3
set_option maxHeartbeats 4000000 in
theorem impl_StoreOk.index (A0 : Option Addr) (c0 : Nat) (l : List (List Int)) (w : World) (hr : Kd.C (Kd.slice 3 (Kd.int .i64)) w A0 l.length l) :
    Calls Try.prog 114 #[.slice A0 l.length c0, .func (.func 97) #[] #[]] w (impl_StoreOk.IxPost l w) := by
  have HR := Aside0.mk hr
  have hm := Kd.C_max hr
  have HM := Aside0.mk hm
  clear hr hm
  go_enter Try.func114, Try.ntmps114
  go_wp2
  go_loopg [8] l.length (fun kq v8 w' => ∃ i : Int, v8 = .int .i64 i ∧ Aside0 (0 ≤ i ∧ i + kq = (l.length : Int)) ∧ Aside0 (∀ j : Nat, (j : Int) < i → impl_StoreOk.row (l.getD j []) = true) ∧ Drawn0 w w')
  case atStart => exact ⟨0, (by first | rfl | (simp; done) | (simp [*]; done)), ⟨by omega⟩, ⟨fun j hj => by omega⟩, by repeat (first | exact Drawn0.refl _ | apply Drawn0.step)⟩
  case round =>
    obtain ⟨i, rfl, HI, HJ, ⟨m1, rfl⟩⟩ := hrel
    have hI := HI.out
    by_cases c : i < (l.length : Int)
    · have c1 : decide (i < (l.length : Int)) = true := decide_eq_true c
      have c2 : 0 ≤ i := hI.1
      obtain ⟨ad, A1, ca, e, hx, hC⟩ := impl_StoreOk.rowAt (Kd.C_drewN HR.out m1) i c2 c
      cases e
      generalize hxi : l.getD i.toNat [] = x at hx hC
      have HX := Aside0.mk hxi
      have HC := Aside0.mk hC
      have HCI := Aside0.mk c
      clear hxi hC hI
      replace c := eq_true c
      replace c2 := eq_true c2
      cases hb : impl_StoreOk.row x with
      | true =>
        have HB := Aside0.mk hb
        clear hb
        go_wp2_with (first | (go_at_call 97; (with_reducible refine (impl_StoreOk.pred _ _ x _ HC.out).mono ?_); rw [HB.out]; rintro e w1 ⟨rfl, ⟨m2, rfl⟩⟩))
        go_roundg (l.length - (i.toNat + 1))
        case measure => have := HI.out; have := HCI.out; omega
        case rel => exact ⟨i + 1, (by have := HI.out; have := HM.out; have := HCI.out; rw [show wrap64 (i + 1) = i + 1 by unfold wrap64; omega]), ⟨by have := HI.out; have := HCI.out; omega⟩, ⟨fun j hj => by
          by_cases e : (j : Int) = i
          · rw [show j = i.toNat by omega, HX.out]; exact HB.out
          · exact HJ.out j (by omega)⟩, by repeat (first | exact Drawn0.refl _ | apply Drawn0.step)⟩
      | false =>
        have HB := Aside0.mk hb
        clear hb
        go_wp2_with (first | (go_at_call 97; (with_reducible refine (impl_StoreOk.pred _ _ x _ HC.out).mono ?_); rw [HB.out]; rintro e w1 ⟨rfl, ⟨m2, rfl⟩⟩))
        go_ret
        refine ⟨i, rfl, ?_, by repeat (first | exact Drawn0.refl _ | apply Drawn0.step)⟩
        rw [if_neg (impl_StoreOk.all_not (j := i.toNat) (by have := HI.out; have := HCI.out; omega) (by rw [HX.out]; exact HB.out))]
        exact HI.out.1
    · have c1 : decide (i < (l.length : Int)) = false := decide_eq_false c
      have HCI := Aside0.mk c
      clear hI c
      go_wp2
      go_ret
      refine ⟨-1, rfl, ?_, by repeat (first | exact Drawn0.refl _ | apply Drawn0.step)⟩
      rw [if_pos (impl_StoreOk.all_of (fun j hj => HJ.out j (by have := HI.out; have := HCI.out; omega)))]
set_option maxHeartbeats 4000000 in
theorem impl_StoreOk.contains (A0 : Option Addr) (c0 : Nat) (l : List (List Int)) (t : Bool) (w : World) (hr : Kd.C (Kd.slice 3 (Kd.int .i64)) w A0 l.length l) (ht : l.all impl_StoreOk.row = t) :
    Calls Try.prog 96 #[.slice A0 l.length c0, .func (.func 97) #[] #[]] w fun e w' => e = .returned (.bool (!t)) ∧ Drawn0 w w' := by
  have HR := Aside0.mk hr
  have HT := Aside0.mk ht
  clear hr ht
  go_enter Try.func96, Try.ntmps96
  go_wp2_with fail
  go_at_call 114
  (with_reducible refine (impl_StoreOk.index _ _ l _ HR.out).mono ?_)
  rintro e w1 ⟨i, rfl, hi, ⟨m, rfl⟩⟩
  rw [HT.out] at hi
  cases t with
  | true =>
    rw [if_pos rfl] at hi
    subst hi
    go_wp2
    go_ret
    exact ⟨rfl, by repeat (first | exact Drawn0.refl _ | apply Drawn0.step)⟩
  | false =>
    rw [if_neg (by decide)] at hi
    have b : decide (0 ≤ i) = true := decide_eq_true hi
    clear hi
    go_wp2
    go_ret
    exact ⟨rfl, by repeat (first | exact Drawn0.refl _ | apply Drawn0.step)⟩
set_option maxHeartbeats 4000000 in
theorem impl_StoreOk.calls (A0 : Option Addr) (c0 : Nat) (l0 : List (List Int)) (r : Bool) (w : World) (hr0 : Kd.C (Kd.slice 3 (Kd.int .i64)) w A0 l0.length l0) (hc0 : l0.length ≤ c0) (h : impl_StoreOk.f l0 = some r) :
    Calls Try.prog 69 #[.slice A0 l0.length c0] w fun e w' => e = .returned (.bool r) ∧ Drawn0 w w' := by
  unfold impl_StoreOk.f at h
  have HR := Aside0.mk hr0
  clear hr0 hc0
  by_cases c : l0.length ≤ 20
  · rw [decide_eq_true c, Bool.true_and] at h
    have b0 : decide ((l0.length : Int) ≤ 20) = true := decide_eq_true (by omega)
    have b1 : decide (l0.length ≤ 20) = true := decide_eq_true c
    have HT := Aside0.mk (Option.some.inj h)
    clear h c
    go_enter Try.func69, Try.ntmps69
    go_wp2_with fail
    go_at_call 96
    (with_reducible refine (impl_StoreOk.contains _ _ l0 r _ HR.out HT.out).mono ?_)
    rintro e w1 ⟨rfl, ⟨m, rfl⟩⟩
    go_wp2
    go_ret
    exact ⟨by cases r <;> rfl, by repeat (first | exact Drawn0.refl _ | apply Drawn0.step)⟩
  · rw [decide_eq_false c, Bool.false_and] at h
    obtain rfl := Option.some.inj h
    have b0 : decide ((l0.length : Int) ≤ 20) = false := decide_eq_false (by omega)
    have b1 : decide (l0.length ≤ 20) = false := decide_eq_false c
    clear h c
    go_enter Try.func69, Try.ntmps69
    go_wp2
    go_ret
    exact ⟨rfl, by repeat (first | exact Drawn0.refl _ | apply Drawn0.step)⟩

/-! ### impl_TableOk: function 39 -/
def impl_TableOk.f (k : Nat) (l0_0 : List (S65)) (l0_1 : List (List Int)) : Option (Bool) := (impl_PolygonOk.f k l0_0).bind fun t197 => (if t197 = true then ((impl_StoreOk.f l0_1).bind fun t198 => (some t198)) else (some false))
theorem impl_TableOk.mono : ∀ a0 a1 k, LeO (impl_TableOk.f k a0 a1) (impl_TableOk.f (k + 1) a0 a1) := by
  intro a0 a1 k
  unfold impl_TableOk.f
  repeat' first
      | (with_reducible exact impl_PolygonOk.mono _ _)
      | (with_reducible exact LeO.refl _)
      | (with_reducible exact LeO.none _)
      | (with_reducible refine LeO.ite ?_ ?_)
      | (with_reducible refine LeO.bind ?_ (fun _ => ?_))
      | exact impl_PolygonOk.mono _ _
      | exact LeO.none _
      | refine LeO.ite ?_ ?_
      | refine LeO.bind ?_ (fun _ => ?_)
set_option maxHeartbeats 8000000 in
set_option maxRecDepth 100000 in
theorem impl_TableOk.calls (k : Nat) (A0_0 : Option Addr) (c0_0 : Nat) (l0_0 : List (S65)) (A0_1 : Option Addr) (c0_1 : Nat) (l0_1 : List (List Int)) (r : Bool) (w : World) (hr0_0 : Kd.C k65 w A0_0 l0_0.length l0_0) (hc0_0 : l0_0.length ≤ c0_0) (hr0_1 : Kd.C (Kd.slice 3 (Kd.int .i64)) w A0_1 l0_1.length l0_1) (hc0_1 : l0_1.length ≤ c0_1) (h : impl_TableOk.f k l0_0 l0_1 = some r) :
    Calls Try.prog 39 #[.agg #[.slice A0_0 l0_0.length c0_0, .slice A0_1 l0_1.length c0_1]] w fun e w' => e = .returned (.bool r) ∧ Below w.heap.size w w' := by
  have hu25 := Try.underlying25
  have HR0_0 := Aside0.mk hr0_0
  have HC0_0 := Aside0.mk hc0_0
  clear hr0_0 hc0_0
  have HR0_1 := Aside0.mk hr0_1
  have HC0_1 := Aside0.mk hc0_1
  clear hr0_1 hc0_1
  have HB := Aside0.mk (Below.refl w.heap.size w)
  have H : ((impl_PolygonOk.f k l0_0).bind fun t197 => (if t197 = true then ((impl_StoreOk.f l0_1).bind fun t198 => (some t198)) else (some false))) = some r := h
  clear h
  replace H := Option.bind_eq_some_iff.mp H
  obtain ⟨t197, A20, H⟩ := H
  replace H : (if t197 = true then ((impl_StoreOk.f l0_1).bind fun t198 => (some t198)) else (some false)) = some r := H
  have A2 := Aside0.mk A20
  clear A20
  by_cases c3 : t197 = true
  · subst c3
    have H1 : ((impl_StoreOk.f l0_1).bind fun t198 => (some t198)) = some r := by rw [if_pos rfl] at H; exact H
    clear H
    have H := H1
    clear H1
    replace H := Option.bind_eq_some_iff.mp H
    obtain ⟨t198, A40, H⟩ := H
    replace H : (some t198) = some r := H
    have A4 := Aside0.mk A40
    clear A40
    obtain rfl := Option.some.inj H
    go_enter Try.func39, Try.ntmps39
    go_wp2_with (first | ((with_reducible refine gate_dst (N := 1) rfl ?_); refine box_event ?hg (N := 1) ?hd (cs := #[.slice A0_0 l0_0.length c0_0, .slice A0_1 l0_1.length c0_1]) (t := 25) ?hr ?_; (case hd => rfl); (case hg => rfl); (case hr => first | (go_simp; done) | (go_simp; rfl)); intro gb196 hg w5 hbox hb; have n0_ := Aside0.mk (below_step (by repeat (first | (with_reducible first | exact HB.out | apply below_alloc | apply pw_below_drewN | apply below_drew1) | exact HB.out)) hb); have n1_ := Aside0.mk (hbox); have n2_ := Aside0.mk ((by rw [hg]; exact (below_size (by repeat (first | (with_reducible first | exact HB.out | apply below_alloc | apply pw_below_drewN | apply below_drew1) | exact HB.out))) : w.heap.size ≤ gb196)); have n3_ := Aside0.mk ((by rw [hg]; exact (below_size (by repeat (first | (with_reducible first | exact HB.out | apply below_alloc | apply pw_below_drewN | apply below_drew1) | exact HB.out))) : w.heap.size ≤ gb196)); clear HB; have HB := n0_; have BK196 := n1_; have GW196 := n2_; have GE196 := n3_; clear n0_ n1_ n2_ n3_; clear hb hbox hg; have hcz6_0 : w5.cell? ⟨gb196, 0, none⟩ = some (.slice A0_0 l0_0.length c0_0) := (blk_cell BK196.out 0).trans rfl; have hcz6_1 : w5.cell? ⟨gb196, 1, none⟩ = some (.slice A0_1 l0_1.length c0_1) := (blk_cell BK196.out 1).trans rfl; have hfz6_0 := blk_frozen BK196.out 0; have hfz6_1 := blk_frozen BK196.out 1) | ((with_reducible refine gate_callee (f := 68) rfl ?_); refine goesL_ (some 5) rfl rfl Try.func68 (by kernel_rfl) rfl #[.slice A0_0 l0_0.length c0_0] rfl (by (try simp only [List.map_toArray, List.map_cons, List.map_nil]); first | done | rfl | (simp only [List.length_drop, List.length_take]; rfl)) ?_; (with_reducible refine (impl_PolygonOk.calls k _ _ l0_0 true _ ?side1 ?side2 A2.out).mono ?_); (case side1 => repeat (first | exact (Kd.C_below HR0_0.out HB.out) | (with_reducible refine Kd.C_alloc ?_ _) | (with_reducible refine Kd.C_drewN ?_ _) | (with_reducible refine Kd.C_drew ?_))); (case side2 => exact HC0_0.out); rintro e w7 ⟨rfl, hb⟩; refine ⟨_, rfl, ?_⟩; have n0_ := Aside0.mk (blk_below (g := gb196) (o := .cells #[.slice A0_0 l0_0.length c0_0, .slice A0_1 l0_1.length c0_1] 25 (0, 0)) (by (with_reducible repeat (first | refine blk_drewN ?_ _ | refine blk_drew ?_ | refine blk_alloc ?_ _)); exact BK196.out) hb); have n1_ := Aside0.mk (below_step (by repeat (first | (with_reducible first | exact HB.out | apply below_alloc | apply pw_below_drewN | apply below_drew1 | refine below_set ?_ GE196.out) | exact HB.out)) hb); clear BK196; clear HB; have BK196 := n0_; have HB := n1_; clear n0_ n1_; (try clear hb); (try clear hb2); (try clear hk); (try clear hi); have hcz8_0 : w7.cell? ⟨gb196, 0, none⟩ = some (.slice A0_0 l0_0.length c0_0) := (blk_cell BK196.out 0).trans rfl; have hcz8_1 : w7.cell? ⟨gb196, 1, none⟩ = some (.slice A0_1 l0_1.length c0_1) := (blk_cell BK196.out 1).trans rfl; have hfz8_0 := blk_frozen BK196.out 0; have hfz8_1 := blk_frozen BK196.out 1) | (go_at_call 69; (with_reducible refine (impl_StoreOk.calls _ _ l0_1 t198 _ ?side1 ?side2 A4.out).mono ?_); (case side1 => repeat (first | exact (Kd.C_below HR0_1.out HB.out) | (with_reducible refine Kd.C_alloc ?_ _) | (with_reducible refine Kd.C_drewN ?_ _) | (with_reducible refine Kd.C_drew ?_))); (case side2 => exact HC0_1.out); rintro e w' ⟨rfl, ⟨nd, rfl⟩⟩))
    go_ret
    exact ⟨by first | rfl | (simp [errW_none, errW_some] <;> rfl) | (simp [*, errW_none, errW_some] <;> rfl), by repeat (first | (with_reducible first | exact HB.out | apply below_alloc | apply pw_below_drewN | apply below_drew1 | refine below_set ?_ GE196.out) | exact HB.out)⟩
  · replace c3 := Bool.eq_false_iff.mpr c3
    subst c3
    have H1 : (some false) = some r := by rw [if_neg (show ¬ (false = true) by decide)] at H; exact H
    clear H
    have H := H1
    clear H1
    obtain rfl := Option.some.inj H
    go_enter Try.func39, Try.ntmps39
    go_wp2_with (first | ((with_reducible refine gate_dst (N := 1) rfl ?_); refine box_event ?hg (N := 1) ?hd (cs := #[.slice A0_0 l0_0.length c0_0, .slice A0_1 l0_1.length c0_1]) (t := 25) ?hr ?_; (case hd => rfl); (case hg => rfl); (case hr => first | (go_simp; done) | (go_simp; rfl)); intro gb196 hg w9 hbox hb; have n0_ := Aside0.mk (below_step (by repeat (first | (with_reducible first | exact HB.out | apply below_alloc | apply pw_below_drewN | apply below_drew1) | exact HB.out)) hb); have n1_ := Aside0.mk (hbox); have n2_ := Aside0.mk ((by rw [hg]; exact (below_size (by repeat (first | (with_reducible first | exact HB.out | apply below_alloc | apply pw_below_drewN | apply below_drew1) | exact HB.out))) : w.heap.size ≤ gb196)); have n3_ := Aside0.mk ((by rw [hg]; exact (below_size (by repeat (first | (with_reducible first | exact HB.out | apply below_alloc | apply pw_below_drewN | apply below_drew1) | exact HB.out))) : w.heap.size ≤ gb196)); clear HB; have HB := n0_; have BK196 := n1_; have GW196 := n2_; have GE196 := n3_; clear n0_ n1_ n2_ n3_; clear hb hbox hg; have hcz10_0 : w9.cell? ⟨gb196, 0, none⟩ = some (.slice A0_0 l0_0.length c0_0) := (blk_cell BK196.out 0).trans rfl; have hcz10_1 : w9.cell? ⟨gb196, 1, none⟩ = some (.slice A0_1 l0_1.length c0_1) := (blk_cell BK196.out 1).trans rfl; have hfz10_0 := blk_frozen BK196.out 0; have hfz10_1 := blk_frozen BK196.out 1) | ((with_reducible refine gate_callee (f := 68) rfl ?_); refine goesL_ (some 5) rfl rfl Try.func68 (by kernel_rfl) rfl #[.slice A0_0 l0_0.length c0_0] rfl (by (try simp only [List.map_toArray, List.map_cons, List.map_nil]); first | done | rfl | (simp only [List.length_drop, List.length_take]; rfl)) ?_; (with_reducible refine (impl_PolygonOk.calls k _ _ l0_0 false _ ?side1 ?side2 A2.out).mono ?_); (case side1 => repeat (first | exact (Kd.C_below HR0_0.out HB.out) | (with_reducible refine Kd.C_alloc ?_ _) | (with_reducible refine Kd.C_drewN ?_ _) | (with_reducible refine Kd.C_drew ?_))); (case side2 => exact HC0_0.out); rintro e w11 ⟨rfl, hb⟩; refine ⟨_, rfl, ?_⟩; have n0_ := Aside0.mk (blk_below (g := gb196) (o := .cells #[.slice A0_0 l0_0.length c0_0, .slice A0_1 l0_1.length c0_1] 25 (0, 0)) (by (with_reducible repeat (first | refine blk_drewN ?_ _ | refine blk_drew ?_ | refine blk_alloc ?_ _)); exact BK196.out) hb); have n1_ := Aside0.mk (below_step (by repeat (first | (with_reducible first | exact HB.out | apply below_alloc | apply pw_below_drewN | apply below_drew1 | refine below_set ?_ GE196.out) | exact HB.out)) hb); clear BK196; clear HB; have BK196 := n0_; have HB := n1_; clear n0_ n1_; (try clear hb); (try clear hb2); (try clear hk); (try clear hi)))
    go_ret
    exact ⟨by first | rfl | (simp [errW_none, errW_some] <;> rfl) | (simp [*, errW_none, errW_some] <;> rfl), by repeat (first | (with_reducible first | exact HB.out | apply below_alloc | apply pw_below_drewN | apply below_drew1 | refine below_set ?_ GE196.out) | exact HB.out)⟩

end Go.Proofs.Yteelfcmlghjknaa.QFnExactTableOk
