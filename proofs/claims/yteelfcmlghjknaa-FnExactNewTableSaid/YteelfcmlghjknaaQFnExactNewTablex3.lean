-- Printed for this claim by a changed copy of the kit's print (the session's own; own contracts in place of some functions).
import Derived.Test.YteelfcmlghjknaaQFnExactNewTablex0
import Derived.Test.YteelfcmlghjknaaQFnExactNewTablex1
import Derived.Test.YteelfcmlghjknaaQFnExactNewTablex2
namespace Go.Proofs.Yteelfcmlghjknaa.QFnExactNewTable
open Go.RowKit Go.Proofs.YteelfcmlghjknaaW.PrintWords Go.Proofs.YteelfcmlghjknaaW.PrintLast Go.Proofs.YteelfcmlghjknaaW.PrintMore
attribute [local go_sem] max2_int min2_int max_two min_two max_three min_three max_four min_four   -- for this text's walks alone
set_option linter.unusedVariables false
set_option linter.unusedSimpArgs false

/-! ### laws_FnExactNewTable: function 3 -/
--import Derived.WalkSpells
--import Derived.Deep.DeepCutAuto
set_option maxHeartbeats 8000000 in
set_option maxRecDepth 100000 in
theorem laws_markTable.calls (k : Nat) (v0 v1 : Value) (l0 : List (S65)) (l1 : List (List Int)) (m1 m2 : Int) (r0 : List (S65)) (r1 : List (List Int)) (w0 w : World) (hB : Below w0.heap.size w0 w) (h0 : Kd.R k65 65 w w0.heap.size (fun _ => True) v0 l0) (h1 : Kd.S (Kd.slice 3 (Kd.int .i64)) 39 w w0.heap.size (fun _ => True) v1 l1) (e0 : laws_markPointS.f k l0 1 = some (m1, r0)) (e1 : laws_markIntSS.f k l1 m1 = some (m2, r1)) :
    Calls Try.prog 16 #[.agg #[v0, v1], .int .i64 1] w fun e w' => e = .returned (.int .i64 m2) ∧ Kd.R k65 65 w' w0.heap.size (fun _ => True) v0 r0 ∧ Kd.S (Kd.slice 3 (Kd.int .i64)) 39 w' w0.heap.size (fun _ => True) v1 r1 ∧ Below w0.heap.size w0 w' ∧ (∀ (g : Nat) (cs : Array Value), w.heap[g]? = some (.cells cs 25 (0, 0)) → w'.heap[g]? = some (.cells cs 25 (0, 0))) := by
  obtain ⟨AP, cP, eP⟩ := Kd.R_slice h0
  subst eP
  obtain ⟨AS, cS, eS⟩ := Kd.S_slice h1
  subst eS
  have HP := Aside0.mk h0
  have HS := Aside0.mk h1
  have HB := Aside0.mk hB
  have E0 := Aside0.mk e0
  have E1 := Aside0.mk e1
  have HK : Aside0 (∀ (g : Nat) (cs : Array Value), w.heap[g]? = some (.cells cs 25 (0, 0)) → w.heap[g]? = some (.cells cs 25 (0, 0))) := ⟨fun _ _ h => h⟩
  clear hB h0 h1 e0 e1
  go_enter Try.func16, Try.ntmps16
  go_wp2_with (first | ((with_reducible refine gate_dst (N := 2) rfl ?_); refine box_event ?hg (N := 2) ?hd (cs := #[.slice AP l0.length cP, .slice AS l1.length cS]) (t := 25) ?hr ?_; (case hd => rfl); (case hg => rfl); (case hr => first | (go_simp; done) | (go_simp; rfl)); intro gb hg w1 hbox hb; have nHP := Aside0.mk (Kd.R_below (by (with_reducible repeat (first | apply Kd.R_alloc | apply Kd.R_drewN | apply Kd.R_drew)); exact HP.out) hb); have nHS := Aside0.mk (Kd.S_below HS.out hb); have nHB := Aside0.mk (below_step (by repeat (first | (with_reducible first | exact HB.out | apply below_alloc | apply pw_below_drewN | apply below_drew1) | exact HB.out)) hb); have nHK := Aside0.mk ((fun g cs h => blk_below (HK.out g cs h) hb : ∀ (g : Nat) (cs : Array Value), w.heap[g]? = some (.cells cs 25 (0, 0)) → w1.heap[g]? = some (.cells cs 25 (0, 0)))); have nBK := Aside0.mk (hbox); clear HP HS HB HK; have HP := nHP; have HS := nHS; have HB := nHB; have HK := nHK; have BK := nBK; clear nHP nHS nHB nHK nBK; clear hb hbox hg; have hc0 : w1.cell? ⟨gb, 0, none⟩ = some (.slice AP l0.length cP) := (blk_cell BK.out 0).trans rfl; have hc1 : w1.cell? ⟨gb, 1, none⟩ = some (.slice AS l1.length cS) := (blk_cell BK.out 1).trans rfl))
  go_at_call 24
  refine (laws_markPointS.calls k (fun k_ => some k_ = (Value.slice AP l0.length cP).ownBlock) _ l0 1 m1 r0 w0 _ HB.out (Kd.R_tight rfl HP.out) E0.out).mono ?_
  rintro e w2 ⟨rfl, hs, hb, hk⟩
  have nS := Aside0.mk (Kd.S_mono (ok' := fun _ => True) (Kd.S_step (Kd.S_apart' HS.out (Kd.R_typed HP.out) (by decide)) (fun k_ hk_ hlt => hk.2 k_ hlt (fun h_ => hk_.2 h_))) (fun _ _ => trivial))
  have nBK := Aside0.mk ((hk.2 gb (blk_lt BK.out) (fun h_ => Kd.R_ne HP.out BK.out (by decide) h_)).trans BK.out)
  have nHK : Aside0 (∀ (g : Nat) (cs : Array Value), w.heap[g]? = some (.cells cs 25 (0, 0)) → w2.heap[g]? = some (.cells cs 25 (0, 0))) := ⟨fun g cs h => (hk.2 g (blk_lt (HK.out g cs h)) (fun h_ => Kd.R_ne HP.out (HK.out g cs h) (by decide) h_)).trans (HK.out g cs h)⟩
  have nP := Aside0.mk (Kd.R_mono (ok' := fun _ => True) hs (fun _ _ => trivial))
  have nB := Aside0.mk hb
  clear HP HS HB BK HK hs hb hk hc0 hc1
  have hc1 : w2.cell? ⟨gb, 1, none⟩ = some (.slice AS l1.length cS) := (blk_cell nBK.out 1).trans rfl
  go_wp2_with fail
  go_at_call 25
  refine (laws_markIntSS.calls k (fun k_ => ∃ q, q ∈ 39 :: (Kd.slice 3 (Kd.int .i64)).E ∧ ∃ cells, w2.heap[k_]? = some (.cells cells q (0, 0))) _ l1 m1 m2 r1 w0 _ nB.out (Kd.S_mono (Kd.S_bound nS.out) (fun k_ h_ => h_.2.2.2)) E1.out).mono ?_
  rintro e w3 ⟨rfl, hs, hb, hk⟩
  have hno : ∀ (k_ : Nat) (cs : Array Value) (q0 : Nat), w2.heap[k_]? = some (.cells cs q0 (0, 0)) → (∀ q, q ∈ 39 :: (Kd.slice 3 (Kd.int .i64)).E → q ≠ q0) → ¬ (∃ q, q ∈ 39 :: (Kd.slice 3 (Kd.int .i64)).E ∧ ∃ cells, w2.heap[k_]? = some (.cells cells q (0, 0))) := by
    rintro k_ cs q0 h1 h2 ⟨q, hq, cells, h3⟩
    rw [h1] at h3
    injection h3 with h3
    injection h3 with _ h4
    exact h2 q hq h4.symm
  have mP := Aside0.mk (Kd.R_mono (ok' := fun _ => True) (Kd.R_step (Kd.R_bound nP.out) (fun k_ ho hlt => hk.2 k_ hlt (by
    obtain ⟨_, _, _, q, hq, cells, hc⟩ := ho
    have hq2 : q = 65 := List.mem_singleton.1 hq
    subst hq2
    exact hno k_ cells _ hc (by decide)))) (fun _ _ => trivial))
  have mK : Aside0 (∀ (g : Nat) (cs : Array Value), w.heap[g]? = some (.cells cs 25 (0, 0)) → w3.heap[g]? = some (.cells cs 25 (0, 0))) := ⟨fun g cs h => (hk.2 g (blk_lt (nHK.out g cs h)) (hno g cs _ (nHK.out g cs h) (by decide))).trans (nHK.out g cs h)⟩
  have mS := Aside0.mk (Kd.S_mono (ok' := fun _ => True) hs (fun _ _ => trivial))
  have mB := Aside0.mk hb
  clear nS nBK nHK nP nB hs hb hk hno hc1
  go_wp2
  go_ret
  exact ⟨rfl, mP.out, mS.out, by repeat (first | exact mB.out | apply pw_below_drewN | apply below_drew1), mK.out⟩

structure laws_FnExactNewTable.Ok (k : Nat) (R0 : List (S65)) (R1 : List (List Int)) (m1 m2 : Int) (M0 : List (S65)) (M1 : List (List Int)) : Prop where
  sp : spec_NewTable.f = some (R0, R1)
  im : impl_NewTable.f = some (R0, R1)
  eq : laws_eqTable.f k R0 R1 R0 R1 = some true
  mk0 : laws_markPointS.f k R0 1 = some (m1, M0)
  mk1 : laws_markIntSS.f k R1 m1 = some (m2, M1)
  hd : laws_heldTable.f k M0 M1 1 = some m2
  pos : 0 ≤ m2
def laws_FnExactNewTable.Good (k : Nat) : Prop := ∃ R0 R1 m1 m2 M0 M1, laws_FnExactNewTable.Ok k R0 R1 m1 m2 M0 M1
set_option maxHeartbeats 16000000 in
set_option maxRecDepth 100000 in
theorem laws_FnExactNewTable.calls (k : Nat) (w : World) (h : laws_FnExactNewTable.Good k) :
    Calls Try.prog 3 #[] w fun e w' => e = .returned (.bool true) ∧ Below w.heap.size w w' := by
  obtain ⟨R0, R1, m1, m2, M0, M1, hok⟩ := h
  have tm : decide (m2 < 0) = false := decide_eq_false (by have := hok.pos; omega)
  have HOK := Aside0.mk hok
  clear hok
  have HB := Aside0.mk (Below.refl w.heap.size w)
  go_enter Try.func3, Try.ntmps3
  go_wp2_with fail
  go_at_call 13
  refine (spec_NewTable.calls R0 R1 _ HOK.out.sp).mono ?_
  rintro e w1 ⟨v0, v1, rfl, h0, h1, hb⟩
  have HS0 := Aside0.mk (show Kd.R k65 65 w1 w.heap.size (fun _ => True) v0 R0 from Kd.R_mono (Kd.R_lower h0 HB.out.size) (fun _ _ => trivial))
  have HS1 := Aside0.mk (show Kd.N (Kd.slice 3 (Kd.int .i64)) 39 w1 w.heap.size (fun _ => True) v1 R1 from Kd.N_mono (Kd.N_lower h1 HB.out.size) (fun _ _ => trivial))
  have nHB := Aside0.mk (below_step HB.out hb)
  clear HB h0 h1 hb
  have HB := nHB
  clear nHB
  obtain ⟨A0, c0, e0⟩ := Kd.R_slice HS0.out
  subst e0
  obtain ⟨A1, c1, e1⟩ := Kd.N_slice HS1.out
  subst e1
  go_upto_region 2 with (first | ((with_reducible refine gate_dst (N := 1) rfl ?_); refine box_event ?hg (N := 1) ?hd (cs := #[.slice none 0 0, .slice none 0 0]) (t := 25) ?hr ?_; (case hd => rfl); (case hg => rfl); (case hr => first | (go_simp; done) | (go_simp; rfl)); intro g1 hg wx1 hbox hb; have hbx : Below w1.heap.size w1 wx1 := below_step (by repeat (first | exact Below.refl _ _ | apply pw_below_drewN | apply below_drew1)) hb; have GE := Aside0.mk (show w1.heap.size ≤ g1 from Nat.le_of_eq hg.symm); have BX := Aside0.mk hbox; have HX := Aside0.mk hbx; clear hb hbox hg hbx; have hcz0 : wx1.cell? ⟨g1, 0, none⟩ = some (.slice none 0 0) := (blk_cell BX.out 0).trans rfl; have hcz1 : wx1.cell? ⟨g1, 1, none⟩ = some (.slice none 0 0) := (blk_cell BX.out 1).trans rfl; have hfz0 := blk_frozen BX.out 0; have hfz1 := blk_frozen BX.out 1))
  obtain ⟨W1, hW⟩ : ∃ W, W = ((wx1.setCell ⟨g1, 0, none⟩ (.slice A0 R0.length c0)).setCell ⟨g1, 1, none⟩ (.slice A1 R1.length c1)) := ⟨_, rfl⟩
  rw [← hW]
  have hbw : Below w1.heap.size w1 W1 := by rw [hW]; exact below_set (below_set HX.out GE.out) GE.out
  have B1 : Aside0 (W1.heap[g1]? = some (.cells #[.slice A0 R0.length c0, .slice A1 R1.length c1] 25 (0, 0))) := ⟨by rw [hW]; exact blk_put (blk_put BX.out 0 _ rfl) 1 _ rfl⟩
  clear hW HX GE BX hcz0 hcz1 hfz0 hfz1
  have nHS0 := Aside0.mk (Kd.R_below HS0.out hbw)
  have nHS1 := Aside0.mk (Kd.N_below HS1.out hbw)
  have nHB := Aside0.mk (below_step HB.out hbw)
  clear HS0 HS1 HB
  have HS0 := nHS0
  have HS1 := nHS1
  have HB := nHB
  clear nHS0 nHS1 nHB
  clear hbw
  go_wp2_with fail
  have F0 := HS0
  have F1 := HS1
  have G1 := B1
  have D0 := HB
  go_at_call 14
  refine (impl_NewTable.calls R0 R1 _ HOK.out.im).mono ?_
  rintro e w3 ⟨p0, p1, rfl, h0, h1, hb⟩
  have nHS0 := Aside0.mk (Kd.R_below HS0.out hb)
  have nHS1 := Aside0.mk (Kd.N_below HS1.out hb)
  have nHB := Aside0.mk (below_step HB.out hb)
  have nB1 := Aside0.mk (blk_below B1.out hb)
  clear HS0 HS1 HB B1
  have HS0 := nHS0
  have HS1 := nHS1
  have HB := nHB
  have B1 := nB1
  clear nHS0 nHS1 nHB nB1
  have HP := Aside0.mk h0
  have HQ := Aside0.mk h1
  have HW := Aside0.mk hb
  clear h0 h1 hb
  obtain ⟨AP, cP, e0⟩ := Kd.R_slice HP.out
  subst e0
  obtain ⟨AS, cS, e1⟩ := Kd.S_slice HQ.out
  subst e1
  go_upto_region 3 with (first | ((with_reducible refine gate_dst (N := 2) rfl ?_); refine box_event ?hg (N := 2) ?hd (cs := #[.slice none 0 0, .slice none 0 0]) (t := 25) ?hr ?_; (case hd => rfl); (case hg => rfl); (case hr => first | (go_simp; done) | (go_simp; rfl)); intro g2 hg wx2 hbox hb; have hbx : Below w3.heap.size w3 wx2 := below_step (by repeat (first | exact Below.refl _ _ | apply pw_below_drewN | apply below_drew1)) hb; have GE := Aside0.mk (show w3.heap.size ≤ g2 from Nat.le_of_eq hg.symm); have BX := Aside0.mk hbox; have HX := Aside0.mk hbx; clear hb hbox hg hbx; have hcz0 : wx2.cell? ⟨g2, 0, none⟩ = some (.slice none 0 0) := (blk_cell BX.out 0).trans rfl; have hcz1 : wx2.cell? ⟨g2, 1, none⟩ = some (.slice none 0 0) := (blk_cell BX.out 1).trans rfl; have hfz0 := blk_frozen BX.out 0; have hfz1 := blk_frozen BX.out 1))
  obtain ⟨W2, hW⟩ : ∃ W, W = ((wx2.setCell ⟨g2, 0, none⟩ (.slice AP R0.length cP)).setCell ⟨g2, 1, none⟩ (.slice AS R1.length cS)) := ⟨_, rfl⟩
  rw [← hW]
  have hbw : Below w3.heap.size w3 W2 := by rw [hW]; exact below_set (below_set HX.out GE.out) GE.out
  have B2 : Aside0 (W2.heap[g2]? = some (.cells #[.slice AP R0.length cP, .slice AS R1.length cS] 25 (0, 0))) := ⟨by rw [hW]; exact blk_put (blk_put BX.out 0 _ rfl) 1 _ rfl⟩
  clear hW HX GE BX hcz0 hcz1 hfz0 hfz1
  have nHS0 := Aside0.mk (Kd.R_below HS0.out hbw)
  have nHS1 := Aside0.mk (Kd.N_below HS1.out hbw)
  have nHB := Aside0.mk (below_step HB.out hbw)
  have nB1 := Aside0.mk (blk_below B1.out hbw)
  have nHP := Aside0.mk (Kd.R_below HP.out hbw)
  have nHQ := Aside0.mk (Kd.S_below HQ.out hbw)
  have nHW := Aside0.mk (below_step HW.out hbw)
  clear HS0 HS1 HB B1 HP HQ HW
  have HS0 := nHS0
  have HS1 := nHS1
  have HB := nHB
  have B1 := nB1
  have HP := nHP
  have HQ := nHQ
  have HW := nHW
  clear nHS0 nHS1 nHB nB1 nHP nHQ nHW
  clear hbw
  have hx1_0 : W2.cell? ⟨g1, 0, none⟩ = some (.slice A0 R0.length c0) := (blk_cell B1.out 0).trans rfl
  have hx1_1 : W2.cell? ⟨g1, 1, none⟩ = some (.slice A1 R1.length c1) := (blk_cell B1.out 1).trans rfl
  have hx2_0 : W2.cell? ⟨g2, 0, none⟩ = some (.slice AP R0.length cP) := (blk_cell B2.out 0).trans rfl
  have hx2_1 : W2.cell? ⟨g2, 1, none⟩ = some (.slice AS R1.length cS) := (blk_cell B2.out 1).trans rfl
  go_wp2_with fail
  go_at_call 15
  refine (laws_eqTable.calls k AP cP R0 AS cS R1 A0 c0 R0 A1 c1 R1 true _ (Kd.R_reads' HP.out).2.2 (Kd.R_reads' HP.out).2.1 (Kd.S_reads' HQ.out).2.2 (Kd.S_reads' HQ.out).2.1 (Kd.R_reads' HS0.out).2.2 (Kd.R_reads' HS0.out).2.1 (Kd.N_reads' HS1.out).2.2 (Kd.N_reads' HS1.out).2.1 HOK.out.eq).mono ?_
  rintro e w5 ⟨rfl, hb⟩
  clear hx1_0 hx1_1 hx2_0 hx2_1
  have nHS0 := Aside0.mk (Kd.R_below HS0.out hb)
  have nHS1 := Aside0.mk (Kd.N_below HS1.out hb)
  have nHB := Aside0.mk (below_step HB.out hb)
  have nB1 := Aside0.mk (blk_below B1.out hb)
  have nHP := Aside0.mk (Kd.R_below HP.out hb)
  have nHQ := Aside0.mk (Kd.S_below HQ.out hb)
  have nHW := Aside0.mk (below_step HW.out hb)
  have nB2 := Aside0.mk (blk_below B2.out hb)
  clear HS0 HS1 HB B1 HP HQ HW B2
  have HS0 := nHS0
  have HS1 := nHS1
  have HB := nHB
  have B1 := nB1
  have HP := nHP
  have HQ := nHQ
  have HW := nHW
  have B2 := nB2
  clear nHS0 nHS1 nHB nB1 nHP nHQ nHW nB2
  clear hb
  have hx1_0 : w5.cell? ⟨g1, 0, none⟩ = some (.slice A0 R0.length c0) := (blk_cell B1.out 0).trans rfl
  have hx1_1 : w5.cell? ⟨g1, 1, none⟩ = some (.slice A1 R1.length c1) := (blk_cell B1.out 1).trans rfl
  have hx2_0 : w5.cell? ⟨g2, 0, none⟩ = some (.slice AP R0.length cP) := (blk_cell B2.out 0).trans rfl
  have hx2_1 : w5.cell? ⟨g2, 1, none⟩ = some (.slice AS R1.length cS) := (blk_cell B2.out 1).trans rfl
  go_wp2_with fail
  go_at_call 16
  refine (laws_markTable.calls k _ _ R0 R1 m1 m2 M0 M1 W1 _ HW.out HP.out HQ.out HOK.out.mk0 HOK.out.mk1).mono ?_
  rintro e w6 ⟨rfl, h0, h1, hb, hk⟩
  have nHS0 := Aside0.mk (Kd.R_below F0.out hb)
  have nHS1 := Aside0.mk (Kd.N_below F1.out hb)
  have nB1 := Aside0.mk (blk_below G1.out hb)
  have nB2 := Aside0.mk (hk _ _ B2.out)
  have nHB := Aside0.mk (below_step D0.out hb)
  have nHW := Aside0.mk hb
  have nHP := Aside0.mk h0
  have nHQ := Aside0.mk h1
  clear hx1_0 hx1_1 hx2_0 hx2_1
  clear HS0 HS1 B1 B2 HB HW HP HQ h0 h1 hb hk
  have HS0 := nHS0
  have HS1 := nHS1
  have B1 := nB1
  have B2 := nB2
  have HB := nHB
  have HW := nHW
  have HP := nHP
  have HQ := nHQ
  clear nHS0 nHS1 nB1 nB2 nHB nHW nHP nHQ
  have hx1_0 : w6.cell? ⟨g1, 0, none⟩ = some (.slice A0 R0.length c0) := (blk_cell B1.out 0).trans rfl
  have hx1_1 : w6.cell? ⟨g1, 1, none⟩ = some (.slice A1 R1.length c1) := (blk_cell B1.out 1).trans rfl
  have hx2_0 : w6.cell? ⟨g2, 0, none⟩ = some (.slice AP R0.length cP) := (blk_cell B2.out 0).trans rfl
  have hx2_1 : w6.cell? ⟨g2, 1, none⟩ = some (.slice AS R1.length cS) := (blk_cell B2.out 1).trans rfl
  go_wp2_with fail
  have cc := laws_heldTable.calls k AP cP M0 AS cS M1 1 m2 w6 (Kd.R_reads' HP.out).2.2 (by rw [← (Kd.R_reads' HP.out).1]; exact (Kd.R_reads' HP.out).2.1) (Kd.S_reads' HQ.out).2.2 (by rw [← (Kd.S_reads' HQ.out).1]; exact (Kd.S_reads' HQ.out).2.1) HOK.out.hd
  rw [← (Kd.R_reads' HP.out).1, ← (Kd.S_reads' HQ.out).1] at cc
  have CC := Aside0.mk cc
  clear cc
  go_at_call 17
  refine (CC.out).mono ?_
  rintro e w7 ⟨rfl, hb⟩
  clear CC
  clear hx1_0 hx1_1 hx2_0 hx2_1
  have nHS0 := Aside0.mk (Kd.R_below HS0.out hb)
  have nHS1 := Aside0.mk (Kd.N_below HS1.out hb)
  have nHB := Aside0.mk (below_step HB.out hb)
  have nB1 := Aside0.mk (blk_below B1.out hb)
  have nHP := Aside0.mk (Kd.R_below HP.out hb)
  have nHQ := Aside0.mk (Kd.S_below HQ.out hb)
  have nHW := Aside0.mk (below_step HW.out hb)
  have nB2 := Aside0.mk (blk_below B2.out hb)
  clear HS0 HS1 HB B1 HP HQ HW B2
  have HS0 := nHS0
  have HS1 := nHS1
  have HB := nHB
  have B1 := nB1
  have HP := nHP
  have HQ := nHQ
  have HW := nHW
  have B2 := nB2
  clear nHS0 nHS1 nHB nB1 nHP nHQ nHW nB2
  clear hb
  have hx1_0 : w7.cell? ⟨g1, 0, none⟩ = some (.slice A0 R0.length c0) := (blk_cell B1.out 0).trans rfl
  have hx1_1 : w7.cell? ⟨g1, 1, none⟩ = some (.slice A1 R1.length c1) := (blk_cell B1.out 1).trans rfl
  have hx2_0 : w7.cell? ⟨g2, 0, none⟩ = some (.slice AP R0.length cP) := (blk_cell B2.out 0).trans rfl
  have hx2_1 : w7.cell? ⟨g2, 1, none⟩ = some (.slice AS R1.length cS) := (blk_cell B2.out 1).trans rfl
  go_wp2_with fail
  go_at_call 14
  refine (impl_NewTable.calls R0 R1 _ HOK.out.im).mono ?_
  rintro e w8 ⟨q0, q1, rfl, h0, h1, hb⟩
  clear hx1_0 hx1_1 hx2_0 hx2_1
  have nHS0 := Aside0.mk (Kd.R_below HS0.out hb)
  have nHS1 := Aside0.mk (Kd.N_below HS1.out hb)
  have nHB := Aside0.mk (below_step HB.out hb)
  have nB1 := Aside0.mk (blk_below B1.out hb)
  have nHP := Aside0.mk (Kd.R_below HP.out hb)
  have nHQ := Aside0.mk (Kd.S_below HQ.out hb)
  have nHW := Aside0.mk (below_step HW.out hb)
  have nB2 := Aside0.mk (blk_below B2.out hb)
  clear HS0 HS1 HB B1 HP HQ HW B2
  have HS0 := nHS0
  have HS1 := nHS1
  have HB := nHB
  have B1 := nB1
  have HP := nHP
  have HQ := nHQ
  have HW := nHW
  have B2 := nB2
  clear nHS0 nHS1 nHB nB1 nHP nHQ nHW nB2
  have HY := Aside0.mk h0
  have HZ := Aside0.mk h1
  clear h0 h1 hb
  obtain ⟨BP, dP, e0⟩ := Kd.R_slice HY.out
  subst e0
  obtain ⟨BS, dS, e1⟩ := Kd.S_slice HZ.out
  subst e1
  go_upto_region 14 with (first | ((with_reducible refine gate_dst (N := 5) rfl ?_); refine box_event ?hg (N := 5) ?hd (cs := #[.slice none 0 0, .slice none 0 0]) (t := 25) ?hr ?_; (case hd => rfl); (case hg => rfl); (case hr => first | (go_simp; done) | (go_simp; rfl)); intro g5 hg wx5 hbox hb; have hbx : Below w8.heap.size w8 wx5 := below_step (by repeat (first | exact Below.refl _ _ | apply pw_below_drewN | apply below_drew1)) hb; have GE := Aside0.mk (show w8.heap.size ≤ g5 from Nat.le_of_eq hg.symm); have BX := Aside0.mk hbox; have HX := Aside0.mk hbx; clear hb hbox hg hbx; have hcz0 : wx5.cell? ⟨g5, 0, none⟩ = some (.slice none 0 0) := (blk_cell BX.out 0).trans rfl; have hcz1 : wx5.cell? ⟨g5, 1, none⟩ = some (.slice none 0 0) := (blk_cell BX.out 1).trans rfl; have hfz0 := blk_frozen BX.out 0; have hfz1 := blk_frozen BX.out 1))
  obtain ⟨W3, hW⟩ : ∃ W, W = ((wx5.setCell ⟨g5, 0, none⟩ (.slice BP R0.length dP)).setCell ⟨g5, 1, none⟩ (.slice BS R1.length dS)) := ⟨_, rfl⟩
  rw [← hW]
  have hbw : Below w8.heap.size w8 W3 := by rw [hW]; exact below_set (below_set HX.out GE.out) GE.out
  have B5 : Aside0 (W3.heap[g5]? = some (.cells #[.slice BP R0.length dP, .slice BS R1.length dS] 25 (0, 0))) := ⟨by rw [hW]; exact blk_put (blk_put BX.out 0 _ rfl) 1 _ rfl⟩
  clear hW HX GE BX hcz0 hcz1 hfz0 hfz1
  have nHS0 := Aside0.mk (Kd.R_below HS0.out hbw)
  have nHS1 := Aside0.mk (Kd.N_below HS1.out hbw)
  have nHB := Aside0.mk (below_step HB.out hbw)
  have nB1 := Aside0.mk (blk_below B1.out hbw)
  have nHP := Aside0.mk (Kd.R_below HP.out hbw)
  have nHQ := Aside0.mk (Kd.S_below HQ.out hbw)
  have nHW := Aside0.mk (below_step HW.out hbw)
  have nB2 := Aside0.mk (blk_below B2.out hbw)
  have nHY := Aside0.mk (Kd.R_below HY.out hbw)
  have nHZ := Aside0.mk (Kd.S_below HZ.out hbw)
  clear HS0 HS1 HB B1 HP HQ HW B2 HY HZ
  have HS0 := nHS0
  have HS1 := nHS1
  have HB := nHB
  have B1 := nB1
  have HP := nHP
  have HQ := nHQ
  have HW := nHW
  have B2 := nB2
  have HY := nHY
  have HZ := nHZ
  clear nHS0 nHS1 nHB nB1 nHP nHQ nHW nB2 nHY nHZ
  clear hbw
  have hx1_0 : W3.cell? ⟨g1, 0, none⟩ = some (.slice A0 R0.length c0) := (blk_cell B1.out 0).trans rfl
  have hx1_1 : W3.cell? ⟨g1, 1, none⟩ = some (.slice A1 R1.length c1) := (blk_cell B1.out 1).trans rfl
  have hx2_0 : W3.cell? ⟨g2, 0, none⟩ = some (.slice AP R0.length cP) := (blk_cell B2.out 0).trans rfl
  have hx2_1 : W3.cell? ⟨g2, 1, none⟩ = some (.slice AS R1.length cS) := (blk_cell B2.out 1).trans rfl
  have hx5_0 : W3.cell? ⟨g5, 0, none⟩ = some (.slice BP R0.length dP) := (blk_cell B5.out 0).trans rfl
  have hx5_1 : W3.cell? ⟨g5, 1, none⟩ = some (.slice BS R1.length dS) := (blk_cell B5.out 1).trans rfl
  go_wp2_with fail
  go_at_call 15
  refine (laws_eqTable.calls k BP dP R0 BS dS R1 A0 c0 R0 A1 c1 R1 true _ (Kd.R_reads' HY.out).2.2 (Kd.R_reads' HY.out).2.1 (Kd.S_reads' HZ.out).2.2 (Kd.S_reads' HZ.out).2.1 (Kd.R_reads' HS0.out).2.2 (Kd.R_reads' HS0.out).2.1 (Kd.N_reads' HS1.out).2.2 (Kd.N_reads' HS1.out).2.1 HOK.out.eq).mono ?_
  rintro e w9 ⟨rfl, hb⟩
  clear hx1_0 hx1_1 hx2_0 hx2_1 hx5_0 hx5_1
  have nHS0 := Aside0.mk (Kd.R_below HS0.out hb)
  have nHS1 := Aside0.mk (Kd.N_below HS1.out hb)
  have nHB := Aside0.mk (below_step HB.out hb)
  have nB1 := Aside0.mk (blk_below B1.out hb)
  have nHP := Aside0.mk (Kd.R_below HP.out hb)
  have nHQ := Aside0.mk (Kd.S_below HQ.out hb)
  have nHW := Aside0.mk (below_step HW.out hb)
  have nB2 := Aside0.mk (blk_below B2.out hb)
  have nHY := Aside0.mk (Kd.R_below HY.out hb)
  have nHZ := Aside0.mk (Kd.S_below HZ.out hb)
  have nB5 := Aside0.mk (blk_below B5.out hb)
  clear HS0 HS1 HB B1 HP HQ HW B2 HY HZ B5
  have HS0 := nHS0
  have HS1 := nHS1
  have HB := nHB
  have B1 := nB1
  have HP := nHP
  have HQ := nHQ
  have HW := nHW
  have B2 := nB2
  have HY := nHY
  have HZ := nHZ
  have B5 := nB5
  clear nHS0 nHS1 nHB nB1 nHP nHQ nHW nB2 nHY nHZ nB5
  clear hb
  have hx1_0 : w9.cell? ⟨g1, 0, none⟩ = some (.slice A0 R0.length c0) := (blk_cell B1.out 0).trans rfl
  have hx1_1 : w9.cell? ⟨g1, 1, none⟩ = some (.slice A1 R1.length c1) := (blk_cell B1.out 1).trans rfl
  have hx2_0 : w9.cell? ⟨g2, 0, none⟩ = some (.slice AP R0.length cP) := (blk_cell B2.out 0).trans rfl
  have hx2_1 : w9.cell? ⟨g2, 1, none⟩ = some (.slice AS R1.length cS) := (blk_cell B2.out 1).trans rfl
  have hx5_0 : w9.cell? ⟨g5, 0, none⟩ = some (.slice BP R0.length dP) := (blk_cell B5.out 0).trans rfl
  have hx5_1 : w9.cell? ⟨g5, 1, none⟩ = some (.slice BS R1.length dS) := (blk_cell B5.out 1).trans rfl
  go_wp2_with fail
  have cc := laws_heldTable.calls k AP cP M0 AS cS M1 1 m2 w9 (Kd.R_reads' HP.out).2.2 (by rw [← (Kd.R_reads' HP.out).1]; exact (Kd.R_reads' HP.out).2.1) (Kd.S_reads' HQ.out).2.2 (by rw [← (Kd.S_reads' HQ.out).1]; exact (Kd.S_reads' HQ.out).2.1) HOK.out.hd
  rw [← (Kd.R_reads' HP.out).1, ← (Kd.S_reads' HQ.out).1] at cc
  have CC := Aside0.mk cc
  clear cc
  go_at_call 17
  refine (CC.out).mono ?_
  rintro e w10 ⟨rfl, hb⟩
  clear CC
  clear hx1_0 hx1_1 hx2_0 hx2_1 hx5_0 hx5_1
  have nHS0 := Aside0.mk (Kd.R_below HS0.out hb)
  have nHS1 := Aside0.mk (Kd.N_below HS1.out hb)
  have nHB := Aside0.mk (below_step HB.out hb)
  have nB1 := Aside0.mk (blk_below B1.out hb)
  have nHP := Aside0.mk (Kd.R_below HP.out hb)
  have nHQ := Aside0.mk (Kd.S_below HQ.out hb)
  have nHW := Aside0.mk (below_step HW.out hb)
  have nB2 := Aside0.mk (blk_below B2.out hb)
  have nHY := Aside0.mk (Kd.R_below HY.out hb)
  have nHZ := Aside0.mk (Kd.S_below HZ.out hb)
  have nB5 := Aside0.mk (blk_below B5.out hb)
  clear HS0 HS1 HB B1 HP HQ HW B2 HY HZ B5
  have HS0 := nHS0
  have HS1 := nHS1
  have HB := nHB
  have B1 := nB1
  have HP := nHP
  have HQ := nHQ
  have HW := nHW
  have B2 := nB2
  have HY := nHY
  have HZ := nHZ
  have B5 := nB5
  clear nHS0 nHS1 nHB nB1 nHP nHQ nHW nB2 nHY nHZ nB5
  clear hb
  go_wp2
  go_ret
  exact ⟨rfl, by repeat (first | exact HB.out | apply pw_below_drewN | apply below_drew1)⟩

end Go.Proofs.Yteelfcmlghjknaa.QFnExactNewTable
