import Derived.Test.YtpmpcaahbhdiiaaLedger
namespace Go.Proofs.Ytpmpcaahbhdiiaa.Ledger
open Go.RowKit Go.Proofs.YtpmpcaahbhdiiaaW.PrintWords Go.Proofs.YtpmpcaahbhdiiaaW.PrintLast Go.Proofs.YtpmpcaahbhdiiaaW.PrintMore
open Go.WideShapes Go.MapKept Go.ChangeMaps
open Go.Maps (Keyed)
set_option linter.unusedVariables false
set_option linter.unusedSimpArgs false

set_option maxHeartbeats 8000000 in
set_option maxRecDepth 100000 in
theorem add_f2 (w0 w : World) (p ba bu n : Nat) (A : Int → Option Int) (U : Int → Bool) (b1 b2 b3 : Int) (hB : Bd w0 w p ba bu n A U b1 b2 b3) (hn : n + 4 < maxLen) (ad : Addr) (c0 : Nat) (k : Int) (m a : Int)
    (g0 : w.cell? ad = some (.int .i64 k)) (g1 : w.cell? ⟨ad.block, ad.off + 1, none⟩ = some (.int .i64 m)) (g2 : w.cell? ⟨ad.block, ad.off + 2, none⟩ = some (.int .i64 a))
    (c2 : (decide (1 ≤ m) && decide (m ≤ 99)) = false) :
    Calls Try.prog 25 #[.pointer (some ⟨p, 0, none⟩), .slice (some ad) 3 c0] w fun ev w' => ev = .returned (.bool false) ∧ Below w0.heap.size w0 w' := by
  have HB := Aside0.mk hB
  have HN := Aside0.mk hn
  have hz0 := hB.z0
  have hz1 := hB.z1
  clear hB hn
  have hw1 := c2
  have hw2 := c2
  have hm : okI 0 := okI_small (by omega) (by omega)
  have ha := hm
  have K7 : (A 0).isSome = (A 0).isSome := rfl
  have K8 : U m = U m := rfl
  have K9 : (A a).isSome = (A a).isSome := rfl
  go_enter Try.func25, Try.ntmps25
  go_wp2_with (first
    | (go_at_call 32; (with_reducible refine (within_calls _ _ _ _).mono ?_); (first | rw [hw1] | rw [hw2]); rintro ev w1 ⟨rfl, ⟨m1, rfl⟩⟩)
    | ((with_reducible refine gate_dst (N := 38) rfl ?_); refine op_look rfl (N := 38) rfl rfl rfl rfl ((HB.out.same (by simp [drawnN_heap, World.drew]) (by repeat (first | (with_reducible first | exact HB.out.below | apply below_alloc | apply pw_below_drewN | apply below_drew1 | exact Below.drew HB.out.below) | exact HB.out.below))).a.look_ok hm) ?_; try rw [K7])
    | ((with_reducible refine gate_dst (N := 66) rfl ?_); refine op_look rfl (N := 66) rfl rfl rfl rfl ((HB.out.same (by simp [drawnN_heap, World.drew]) (by repeat (first | (with_reducible first | exact HB.out.below | apply below_alloc | apply pw_below_drewN | apply below_drew1 | exact Below.drew HB.out.below) | exact HB.out.below))).u.look hm) ?_; try rw [K8])
    | ((with_reducible refine gate_dst (N := 139) rfl ?_); refine op_look rfl (N := 139) rfl rfl rfl rfl ((HB.out.same (by simp [drawnN_heap, World.drew]) (by repeat (first | (with_reducible first | exact HB.out.below | apply below_alloc | apply pw_below_drewN | apply below_drew1 | exact Below.drew HB.out.below) | exact HB.out.below))).a.look_ok ha) ?_; try rw [K9])
    | ((with_reducible refine gate_dst (N := 154) rfl ?_); refine op_look rfl (N := 154) rfl rfl rfl rfl ((HB.out.same (by simp [drawnN_heap, World.drew]) (by repeat (first | (with_reducible first | exact HB.out.below | apply below_alloc | apply pw_below_drewN | apply below_drew1 | exact Below.drew HB.out.below) | exact HB.out.below))).a.look ha) ?_))
  go_ret
  exact ⟨by first | rfl | (simp; done) | (simp [*]; done), (by repeat (first | (with_reducible first | exact HB.out.below | apply below_alloc | apply pw_below_drewN | apply below_drew1 | exact Below.drew HB.out.below) | exact HB.out.below))⟩

set_option maxHeartbeats 8000000 in
set_option maxRecDepth 100000 in
theorem add_f3 (w0 w : World) (p ba bu n : Nat) (A : Int → Option Int) (U : Int → Bool) (b1 b2 b3 : Int) (hB : Bd w0 w p ba bu n A U b1 b2 b3) (hn : n + 4 < maxLen) (ad : Addr) (c0 : Nat) (k : Int) (m a : Int)
    (g0 : w.cell? ad = some (.int .i64 k)) (g1 : w.cell? ⟨ad.block, ad.off + 1, none⟩ = some (.int .i64 m)) (g2 : w.cell? ⟨ad.block, ad.off + 2, none⟩ = some (.int .i64 a))
    (c2 : 1 ≤ m) (c3 : m ≤ 99) (e5 : k ≠ 5) (c4 : (decide (1 ≤ a) && decide (a ≤ 1000)) = false) :
    Calls Try.prog 25 #[.pointer (some ⟨p, 0, none⟩), .slice (some ad) 3 c0] w fun ev w' => ev = .returned (.bool false) ∧ Below w0.heap.size w0 w' := by
  have HB := Aside0.mk hB
  have HN := Aside0.mk hn
  have hz0 := hB.z0
  have hz1 := hB.z1
  clear hB hn
  have hw1 : (decide (1 ≤ m) && decide (m ≤ 99)) = true := by simp [c2, c3]
  have hm : okI m := okI_small (by omega) (by omega)
  have hw2 := c4
  have ha := hm
  have K7 : (A m).isSome = (A m).isSome := rfl
  have n5 : (k == 5) = false := beq_eq_false_iff_ne.mpr e5
  have q5 : (k != 5) = true := bne_iff_ne.mpr e5
  have K8 : U m = U m := rfl
  have K9 : (A a).isSome = (A a).isSome := rfl
  go_enter Try.func25, Try.ntmps25
  go_wp2_with (first
    | (go_at_call 32; (with_reducible refine (within_calls _ _ _ _).mono ?_); (first | rw [hw1] | rw [hw2]); rintro ev w1 ⟨rfl, ⟨m1, rfl⟩⟩)
    | ((with_reducible refine gate_dst (N := 38) rfl ?_); refine op_look rfl (N := 38) rfl rfl rfl rfl ((HB.out.same (by simp [drawnN_heap, World.drew]) (by repeat (first | (with_reducible first | exact HB.out.below | apply below_alloc | apply pw_below_drewN | apply below_drew1 | exact Below.drew HB.out.below) | exact HB.out.below))).a.look_ok hm) ?_; try rw [K7])
    | ((with_reducible refine gate_dst (N := 66) rfl ?_); refine op_look rfl (N := 66) rfl rfl rfl rfl ((HB.out.same (by simp [drawnN_heap, World.drew]) (by repeat (first | (with_reducible first | exact HB.out.below | apply below_alloc | apply pw_below_drewN | apply below_drew1 | exact Below.drew HB.out.below) | exact HB.out.below))).u.look hm) ?_; try rw [K8])
    | ((with_reducible refine gate_dst (N := 139) rfl ?_); refine op_look rfl (N := 139) rfl rfl rfl rfl ((HB.out.same (by simp [drawnN_heap, World.drew]) (by repeat (first | (with_reducible first | exact HB.out.below | apply below_alloc | apply pw_below_drewN | apply below_drew1 | exact Below.drew HB.out.below) | exact HB.out.below))).a.look_ok ha) ?_; try rw [K9])
    | ((with_reducible refine gate_dst (N := 154) rfl ?_); refine op_look rfl (N := 154) rfl rfl rfl rfl ((HB.out.same (by simp [drawnN_heap, World.drew]) (by repeat (first | (with_reducible first | exact HB.out.below | apply below_alloc | apply pw_below_drewN | apply below_drew1 | exact Below.drew HB.out.below) | exact HB.out.below))).a.look ha) ?_))
  go_region_held3 (fun w' => w'.cell? ad = some (.int .i64 k) ∧ w'.cell? ⟨ad.block, ad.off + 1, none⟩ = some (.int .i64 m) ∧ w'.cell? ⟨ad.block, ad.off + 2, none⟩ = some (.int .i64 a)) (go_keep) (fail)
  clear g0 g1 g2
  go_wp2_with (first
    | (go_at_call 32; (with_reducible refine (within_calls _ _ _ _).mono ?_); (first | rw [hw1] | rw [hw2]); rintro ev w1 ⟨rfl, ⟨m1, rfl⟩⟩)
    | ((with_reducible refine gate_dst (N := 38) rfl ?_); refine op_look rfl (N := 38) rfl rfl rfl rfl ((HB.out.same (by simp [drawnN_heap, World.drew]) (by repeat (first | (with_reducible first | exact HB.out.below | apply below_alloc | apply pw_below_drewN | apply below_drew1 | exact Below.drew HB.out.below) | exact HB.out.below))).a.look_ok hm) ?_; try rw [K7])
    | ((with_reducible refine gate_dst (N := 66) rfl ?_); refine op_look rfl (N := 66) rfl rfl rfl rfl ((HB.out.same (by simp [drawnN_heap, World.drew]) (by repeat (first | (with_reducible first | exact HB.out.below | apply below_alloc | apply pw_below_drewN | apply below_drew1 | exact Below.drew HB.out.below) | exact HB.out.below))).u.look hm) ?_; try rw [K8])
    | ((with_reducible refine gate_dst (N := 139) rfl ?_); refine op_look rfl (N := 139) rfl rfl rfl rfl ((HB.out.same (by simp [drawnN_heap, World.drew]) (by repeat (first | (with_reducible first | exact HB.out.below | apply below_alloc | apply pw_below_drewN | apply below_drew1 | exact Below.drew HB.out.below) | exact HB.out.below))).a.look_ok ha) ?_; try rw [K9])
    | ((with_reducible refine gate_dst (N := 154) rfl ?_); refine op_look rfl (N := 154) rfl rfl rfl rfl ((HB.out.same (by simp [drawnN_heap, World.drew]) (by repeat (first | (with_reducible first | exact HB.out.below | apply below_alloc | apply pw_below_drewN | apply below_drew1 | exact Below.drew HB.out.below) | exact HB.out.below))).a.look ha) ?_))
  go_ret
  exact ⟨by first | rfl | (simp; done) | (simp [*]; done), (by repeat (first | (with_reducible first | exact HB.out.below | apply below_alloc | apply pw_below_drewN | apply below_drew1 | exact Below.drew HB.out.below) | exact HB.out.below))⟩

set_option maxHeartbeats 8000000 in
set_option maxRecDepth 100000 in
theorem add_f4 (w0 w : World) (p ba bu n : Nat) (A : Int → Option Int) (U : Int → Bool) (b1 b2 b3 : Int) (hB : Bd w0 w p ba bu n A U b1 b2 b3) (hn : n + 4 < maxLen) (ad : Addr) (c0 : Nat) (m a : Int)
    (g0 : w.cell? ad = some (.int .i64 5)) (g1 : w.cell? ⟨ad.block, ad.off + 1, none⟩ = some (.int .i64 m)) (g2 : w.cell? ⟨ad.block, ad.off + 2, none⟩ = some (.int .i64 a))
    (c2 : 1 ≤ m) (c3 : m ≤ 99) (c4 : a < 1) :
    Calls Try.prog 25 #[.pointer (some ⟨p, 0, none⟩), .slice (some ad) 3 c0] w fun ev w' => ev = .returned (.bool false) ∧ Below w0.heap.size w0 w' := by
  have HB := Aside0.mk hB
  have HN := Aside0.mk hn
  have hz0 := hB.z0
  have hz1 := hB.z1
  clear hB hn
  have hw1 : (decide (1 ≤ m) && decide (m ≤ 99)) = true := by simp [c2, c3]
  have hm : okI m := okI_small (by omega) (by omega)
  have hw2 := hw1
  have ha := hm
  have d6 : decide (a < 1) = true := decide_eq_true c4
  have K7 : (A m).isSome = (A m).isSome := rfl
  have K8 : U m = U m := rfl
  have K9 : (A a).isSome = (A a).isSome := rfl
  go_enter Try.func25, Try.ntmps25
  go_wp2_with (first
    | (go_at_call 32; (with_reducible refine (within_calls _ _ _ _).mono ?_); (first | rw [hw1] | rw [hw2]); rintro ev w1 ⟨rfl, ⟨m1, rfl⟩⟩)
    | ((with_reducible refine gate_dst (N := 38) rfl ?_); refine op_look rfl (N := 38) rfl rfl rfl rfl ((HB.out.same (by simp [drawnN_heap, World.drew]) (by repeat (first | (with_reducible first | exact HB.out.below | apply below_alloc | apply pw_below_drewN | apply below_drew1 | exact Below.drew HB.out.below) | exact HB.out.below))).a.look_ok hm) ?_; try rw [K7])
    | ((with_reducible refine gate_dst (N := 66) rfl ?_); refine op_look rfl (N := 66) rfl rfl rfl rfl ((HB.out.same (by simp [drawnN_heap, World.drew]) (by repeat (first | (with_reducible first | exact HB.out.below | apply below_alloc | apply pw_below_drewN | apply below_drew1 | exact Below.drew HB.out.below) | exact HB.out.below))).u.look hm) ?_; try rw [K8])
    | ((with_reducible refine gate_dst (N := 139) rfl ?_); refine op_look rfl (N := 139) rfl rfl rfl rfl ((HB.out.same (by simp [drawnN_heap, World.drew]) (by repeat (first | (with_reducible first | exact HB.out.below | apply below_alloc | apply pw_below_drewN | apply below_drew1 | exact Below.drew HB.out.below) | exact HB.out.below))).a.look_ok ha) ?_; try rw [K9])
    | ((with_reducible refine gate_dst (N := 154) rfl ?_); refine op_look rfl (N := 154) rfl rfl rfl rfl ((HB.out.same (by simp [drawnN_heap, World.drew]) (by repeat (first | (with_reducible first | exact HB.out.below | apply below_alloc | apply pw_below_drewN | apply below_drew1 | exact Below.drew HB.out.below) | exact HB.out.below))).a.look ha) ?_))
  go_region_held3 (fun w' => w'.cell? ad = some (.int .i64 5) ∧ w'.cell? ⟨ad.block, ad.off + 1, none⟩ = some (.int .i64 m) ∧ w'.cell? ⟨ad.block, ad.off + 2, none⟩ = some (.int .i64 a)) (go_keep) (fail)
  clear g0 g1 g2
  go_wp2_with (first
    | (go_at_call 32; (with_reducible refine (within_calls _ _ _ _).mono ?_); (first | rw [hw1] | rw [hw2]); rintro ev w1 ⟨rfl, ⟨m1, rfl⟩⟩)
    | ((with_reducible refine gate_dst (N := 38) rfl ?_); refine op_look rfl (N := 38) rfl rfl rfl rfl ((HB.out.same (by simp [drawnN_heap, World.drew]) (by repeat (first | (with_reducible first | exact HB.out.below | apply below_alloc | apply pw_below_drewN | apply below_drew1 | exact Below.drew HB.out.below) | exact HB.out.below))).a.look_ok hm) ?_; try rw [K7])
    | ((with_reducible refine gate_dst (N := 66) rfl ?_); refine op_look rfl (N := 66) rfl rfl rfl rfl ((HB.out.same (by simp [drawnN_heap, World.drew]) (by repeat (first | (with_reducible first | exact HB.out.below | apply below_alloc | apply pw_below_drewN | apply below_drew1 | exact Below.drew HB.out.below) | exact HB.out.below))).u.look hm) ?_; try rw [K8])
    | ((with_reducible refine gate_dst (N := 139) rfl ?_); refine op_look rfl (N := 139) rfl rfl rfl rfl ((HB.out.same (by simp [drawnN_heap, World.drew]) (by repeat (first | (with_reducible first | exact HB.out.below | apply below_alloc | apply pw_below_drewN | apply below_drew1 | exact Below.drew HB.out.below) | exact HB.out.below))).a.look_ok ha) ?_; try rw [K9])
    | ((with_reducible refine gate_dst (N := 154) rfl ?_); refine op_look rfl (N := 154) rfl rfl rfl rfl ((HB.out.same (by simp [drawnN_heap, World.drew]) (by repeat (first | (with_reducible first | exact HB.out.below | apply below_alloc | apply pw_below_drewN | apply below_drew1 | exact Below.drew HB.out.below) | exact HB.out.below))).a.look ha) ?_))
  go_ret
  exact ⟨by first | rfl | (simp; done) | (simp [*]; done), (by repeat (first | (with_reducible first | exact HB.out.below | apply below_alloc | apply pw_below_drewN | apply below_drew1 | exact Below.drew HB.out.below) | exact HB.out.below))⟩

set_option maxHeartbeats 8000000 in
set_option maxRecDepth 100000 in
theorem add_f5a (w0 w : World) (p ba bu n : Nat) (A : Int → Option Int) (U : Int → Bool) (b1 b2 b3 : Int) (hB : Bd w0 w p ba bu n A U b1 b2 b3) (hn : n + 4 < maxLen) (ad : Addr) (c0 : Nat) (m a : Int)
    (g0 : w.cell? ad = some (.int .i64 1)) (g1 : w.cell? ⟨ad.block, ad.off + 1, none⟩ = some (.int .i64 m)) (g2 : w.cell? ⟨ad.block, ad.off + 2, none⟩ = some (.int .i64 a))
    (c2 : 1 ≤ m) (c3 : m ≤ 99) (c4 : 1 ≤ a) (c5 : a ≤ 1000) (c7 : (A m).isSome = true) :
    Calls Try.prog 25 #[.pointer (some ⟨p, 0, none⟩), .slice (some ad) 3 c0] w fun ev w' => ev = .returned (.bool false) ∧ Below w0.heap.size w0 w' := by
  have HB := Aside0.mk hB
  have HN := Aside0.mk hn
  have hz0 := hB.z0
  have hz1 := hB.z1
  clear hB hn
  have hw1 : (decide (1 ≤ m) && decide (m ≤ 99)) = true := by simp [c2, c3]
  have hm : okI m := okI_small (by omega) (by omega)
  have hw2 : (decide (1 ≤ a) && decide (a ≤ 1000)) = true := by simp [c4, c5]
  have ha : okI a := okI_small (by omega) (by omega)
  have d6 : decide (a < 1) = false := decide_eq_false (by omega)
  have K7 : (A m).isSome = true := c7
  have K8 : U m = U m := rfl
  have K9 : (A a).isSome = (A a).isSome := rfl
  go_enter Try.func25, Try.ntmps25
  go_wp2_with (first
    | (go_at_call 32; (with_reducible refine (within_calls _ _ _ _).mono ?_); (first | rw [hw1] | rw [hw2]); rintro ev w1 ⟨rfl, ⟨m1, rfl⟩⟩)
    | ((with_reducible refine gate_dst (N := 38) rfl ?_); refine op_look rfl (N := 38) rfl rfl rfl rfl ((HB.out.same (by simp [drawnN_heap, World.drew]) (by repeat (first | (with_reducible first | exact HB.out.below | apply below_alloc | apply pw_below_drewN | apply below_drew1 | exact Below.drew HB.out.below) | exact HB.out.below))).a.look_ok hm) ?_; try rw [K7])
    | ((with_reducible refine gate_dst (N := 66) rfl ?_); refine op_look rfl (N := 66) rfl rfl rfl rfl ((HB.out.same (by simp [drawnN_heap, World.drew]) (by repeat (first | (with_reducible first | exact HB.out.below | apply below_alloc | apply pw_below_drewN | apply below_drew1 | exact Below.drew HB.out.below) | exact HB.out.below))).u.look hm) ?_; try rw [K8])
    | ((with_reducible refine gate_dst (N := 139) rfl ?_); refine op_look rfl (N := 139) rfl rfl rfl rfl ((HB.out.same (by simp [drawnN_heap, World.drew]) (by repeat (first | (with_reducible first | exact HB.out.below | apply below_alloc | apply pw_below_drewN | apply below_drew1 | exact Below.drew HB.out.below) | exact HB.out.below))).a.look_ok ha) ?_; try rw [K9])
    | ((with_reducible refine gate_dst (N := 154) rfl ?_); refine op_look rfl (N := 154) rfl rfl rfl rfl ((HB.out.same (by simp [drawnN_heap, World.drew]) (by repeat (first | (with_reducible first | exact HB.out.below | apply below_alloc | apply pw_below_drewN | apply below_drew1 | exact Below.drew HB.out.below) | exact HB.out.below))).a.look ha) ?_))
  go_region_held3 (fun w' => w'.cell? ad = some (.int .i64 1) ∧ w'.cell? ⟨ad.block, ad.off + 1, none⟩ = some (.int .i64 m) ∧ w'.cell? ⟨ad.block, ad.off + 2, none⟩ = some (.int .i64 a)) (go_keep) (fail)
  clear g0 g1 g2
  go_wp2_with (first
    | (go_at_call 32; (with_reducible refine (within_calls _ _ _ _).mono ?_); (first | rw [hw1] | rw [hw2]); rintro ev w1 ⟨rfl, ⟨m1, rfl⟩⟩)
    | ((with_reducible refine gate_dst (N := 38) rfl ?_); refine op_look rfl (N := 38) rfl rfl rfl rfl ((HB.out.same (by simp [drawnN_heap, World.drew]) (by repeat (first | (with_reducible first | exact HB.out.below | apply below_alloc | apply pw_below_drewN | apply below_drew1 | exact Below.drew HB.out.below) | exact HB.out.below))).a.look_ok hm) ?_; try rw [K7])
    | ((with_reducible refine gate_dst (N := 66) rfl ?_); refine op_look rfl (N := 66) rfl rfl rfl rfl ((HB.out.same (by simp [drawnN_heap, World.drew]) (by repeat (first | (with_reducible first | exact HB.out.below | apply below_alloc | apply pw_below_drewN | apply below_drew1 | exact Below.drew HB.out.below) | exact HB.out.below))).u.look hm) ?_; try rw [K8])
    | ((with_reducible refine gate_dst (N := 139) rfl ?_); refine op_look rfl (N := 139) rfl rfl rfl rfl ((HB.out.same (by simp [drawnN_heap, World.drew]) (by repeat (first | (with_reducible first | exact HB.out.below | apply below_alloc | apply pw_below_drewN | apply below_drew1 | exact Below.drew HB.out.below) | exact HB.out.below))).a.look_ok ha) ?_; try rw [K9])
    | ((with_reducible refine gate_dst (N := 154) rfl ?_); refine op_look rfl (N := 154) rfl rfl rfl rfl ((HB.out.same (by simp [drawnN_heap, World.drew]) (by repeat (first | (with_reducible first | exact HB.out.below | apply below_alloc | apply pw_below_drewN | apply below_drew1 | exact Below.drew HB.out.below) | exact HB.out.below))).a.look ha) ?_))
  go_ret
  exact ⟨by first | rfl | (simp; done) | (simp [*]; done), (by repeat (first | (with_reducible first | exact HB.out.below | apply below_alloc | apply pw_below_drewN | apply below_drew1 | exact Below.drew HB.out.below) | exact HB.out.below))⟩

set_option maxHeartbeats 8000000 in
set_option maxRecDepth 100000 in
theorem add_f5b (w0 w : World) (p ba bu n : Nat) (A : Int → Option Int) (U : Int → Bool) (b1 b2 b3 : Int) (hB : Bd w0 w p ba bu n A U b1 b2 b3) (hn : n + 4 < maxLen) (ad : Addr) (c0 : Nat) (m a : Int)
    (g0 : w.cell? ad = some (.int .i64 5)) (g1 : w.cell? ⟨ad.block, ad.off + 1, none⟩ = some (.int .i64 m)) (g2 : w.cell? ⟨ad.block, ad.off + 2, none⟩ = some (.int .i64 a))
    (c2 : 1 ≤ m) (c3 : m ≤ 99) (c4 : 1 ≤ a) (c7 : (A m).isSome = false) :
    Calls Try.prog 25 #[.pointer (some ⟨p, 0, none⟩), .slice (some ad) 3 c0] w fun ev w' => ev = .returned (.bool false) ∧ Below w0.heap.size w0 w' := by
  have HB := Aside0.mk hB
  have HN := Aside0.mk hn
  have hz0 := hB.z0
  have hz1 := hB.z1
  clear hB hn
  have hw1 : (decide (1 ≤ m) && decide (m ≤ 99)) = true := by simp [c2, c3]
  have hm : okI m := okI_small (by omega) (by omega)
  have hw2 := hw1
  have ha := hm
  have d6 : decide (a < 1) = false := decide_eq_false (by omega)
  have K7 : (A m).isSome = false := c7
  have K8 : U m = U m := rfl
  have K9 : (A a).isSome = (A a).isSome := rfl
  go_enter Try.func25, Try.ntmps25
  go_wp2_with (first
    | (go_at_call 32; (with_reducible refine (within_calls _ _ _ _).mono ?_); (first | rw [hw1] | rw [hw2]); rintro ev w1 ⟨rfl, ⟨m1, rfl⟩⟩)
    | ((with_reducible refine gate_dst (N := 38) rfl ?_); refine op_look rfl (N := 38) rfl rfl rfl rfl ((HB.out.same (by simp [drawnN_heap, World.drew]) (by repeat (first | (with_reducible first | exact HB.out.below | apply below_alloc | apply pw_below_drewN | apply below_drew1 | exact Below.drew HB.out.below) | exact HB.out.below))).a.look_ok hm) ?_; try rw [K7])
    | ((with_reducible refine gate_dst (N := 66) rfl ?_); refine op_look rfl (N := 66) rfl rfl rfl rfl ((HB.out.same (by simp [drawnN_heap, World.drew]) (by repeat (first | (with_reducible first | exact HB.out.below | apply below_alloc | apply pw_below_drewN | apply below_drew1 | exact Below.drew HB.out.below) | exact HB.out.below))).u.look hm) ?_; try rw [K8])
    | ((with_reducible refine gate_dst (N := 139) rfl ?_); refine op_look rfl (N := 139) rfl rfl rfl rfl ((HB.out.same (by simp [drawnN_heap, World.drew]) (by repeat (first | (with_reducible first | exact HB.out.below | apply below_alloc | apply pw_below_drewN | apply below_drew1 | exact Below.drew HB.out.below) | exact HB.out.below))).a.look_ok ha) ?_; try rw [K9])
    | ((with_reducible refine gate_dst (N := 154) rfl ?_); refine op_look rfl (N := 154) rfl rfl rfl rfl ((HB.out.same (by simp [drawnN_heap, World.drew]) (by repeat (first | (with_reducible first | exact HB.out.below | apply below_alloc | apply pw_below_drewN | apply below_drew1 | exact Below.drew HB.out.below) | exact HB.out.below))).a.look ha) ?_))
  go_region_held3 (fun w' => w'.cell? ad = some (.int .i64 5) ∧ w'.cell? ⟨ad.block, ad.off + 1, none⟩ = some (.int .i64 m) ∧ w'.cell? ⟨ad.block, ad.off + 2, none⟩ = some (.int .i64 a)) (go_keep) (fail)
  clear g0 g1 g2
  go_wp2_with (first
    | (go_at_call 32; (with_reducible refine (within_calls _ _ _ _).mono ?_); (first | rw [hw1] | rw [hw2]); rintro ev w1 ⟨rfl, ⟨m1, rfl⟩⟩)
    | ((with_reducible refine gate_dst (N := 38) rfl ?_); refine op_look rfl (N := 38) rfl rfl rfl rfl ((HB.out.same (by simp [drawnN_heap, World.drew]) (by repeat (first | (with_reducible first | exact HB.out.below | apply below_alloc | apply pw_below_drewN | apply below_drew1 | exact Below.drew HB.out.below) | exact HB.out.below))).a.look_ok hm) ?_; try rw [K7])
    | ((with_reducible refine gate_dst (N := 66) rfl ?_); refine op_look rfl (N := 66) rfl rfl rfl rfl ((HB.out.same (by simp [drawnN_heap, World.drew]) (by repeat (first | (with_reducible first | exact HB.out.below | apply below_alloc | apply pw_below_drewN | apply below_drew1 | exact Below.drew HB.out.below) | exact HB.out.below))).u.look hm) ?_; try rw [K8])
    | ((with_reducible refine gate_dst (N := 139) rfl ?_); refine op_look rfl (N := 139) rfl rfl rfl rfl ((HB.out.same (by simp [drawnN_heap, World.drew]) (by repeat (first | (with_reducible first | exact HB.out.below | apply below_alloc | apply pw_below_drewN | apply below_drew1 | exact Below.drew HB.out.below) | exact HB.out.below))).a.look_ok ha) ?_; try rw [K9])
    | ((with_reducible refine gate_dst (N := 154) rfl ?_); refine op_look rfl (N := 154) rfl rfl rfl rfl ((HB.out.same (by simp [drawnN_heap, World.drew]) (by repeat (first | (with_reducible first | exact HB.out.below | apply below_alloc | apply pw_below_drewN | apply below_drew1 | exact Below.drew HB.out.below) | exact HB.out.below))).a.look ha) ?_))
  go_ret
  exact ⟨by first | rfl | (simp; done) | (simp [*]; done), (by repeat (first | (with_reducible first | exact HB.out.below | apply below_alloc | apply pw_below_drewN | apply below_drew1 | exact Below.drew HB.out.below) | exact HB.out.below))⟩

set_option maxHeartbeats 8000000 in
set_option maxRecDepth 100000 in
theorem add_f5c (w0 w : World) (p ba bu n : Nat) (A : Int → Option Int) (U : Int → Bool) (b1 b2 b3 : Int) (hB : Bd w0 w p ba bu n A U b1 b2 b3) (hn : n + 4 < maxLen) (ad : Addr) (c0 : Nat) (k : Int) (m a : Int)
    (g0 : w.cell? ad = some (.int .i64 k)) (g1 : w.cell? ⟨ad.block, ad.off + 1, none⟩ = some (.int .i64 m)) (g2 : w.cell? ⟨ad.block, ad.off + 2, none⟩ = some (.int .i64 a))
    (c2 : 1 ≤ m) (c3 : m ≤ 99) (c4 : 1 ≤ a) (c5 : a ≤ 1000) (e1 : k ≠ 1) (e5 : k ≠ 5) (c7 : (A m).isSome = false) :
    Calls Try.prog 25 #[.pointer (some ⟨p, 0, none⟩), .slice (some ad) 3 c0] w fun ev w' => ev = .returned (.bool false) ∧ Below w0.heap.size w0 w' := by
  have HB := Aside0.mk hB
  have HN := Aside0.mk hn
  have hz0 := hB.z0
  have hz1 := hB.z1
  clear hB hn
  have hw1 : (decide (1 ≤ m) && decide (m ≤ 99)) = true := by simp [c2, c3]
  have hm : okI m := okI_small (by omega) (by omega)
  have hw2 : (decide (1 ≤ a) && decide (a ≤ 1000)) = true := by simp [c4, c5]
  have ha : okI a := okI_small (by omega) (by omega)
  have d6 : decide (a < 1) = false := decide_eq_false (by omega)
  have K7 : (A m).isSome = false := c7
  have n1 : (k == 1) = false := beq_eq_false_iff_ne.mpr e1
  have n5 : (k == 5) = false := beq_eq_false_iff_ne.mpr e5
  have q1 : (k != 1) = true := bne_iff_ne.mpr e1
  have q5 : (k != 5) = true := bne_iff_ne.mpr e5
  have K8 : U m = U m := rfl
  have K9 : (A a).isSome = (A a).isSome := rfl
  go_enter Try.func25, Try.ntmps25
  go_wp2_with (first
    | (go_at_call 32; (with_reducible refine (within_calls _ _ _ _).mono ?_); (first | rw [hw1] | rw [hw2]); rintro ev w1 ⟨rfl, ⟨m1, rfl⟩⟩)
    | ((with_reducible refine gate_dst (N := 38) rfl ?_); refine op_look rfl (N := 38) rfl rfl rfl rfl ((HB.out.same (by simp [drawnN_heap, World.drew]) (by repeat (first | (with_reducible first | exact HB.out.below | apply below_alloc | apply pw_below_drewN | apply below_drew1 | exact Below.drew HB.out.below) | exact HB.out.below))).a.look_ok hm) ?_; try rw [K7])
    | ((with_reducible refine gate_dst (N := 66) rfl ?_); refine op_look rfl (N := 66) rfl rfl rfl rfl ((HB.out.same (by simp [drawnN_heap, World.drew]) (by repeat (first | (with_reducible first | exact HB.out.below | apply below_alloc | apply pw_below_drewN | apply below_drew1 | exact Below.drew HB.out.below) | exact HB.out.below))).u.look hm) ?_; try rw [K8])
    | ((with_reducible refine gate_dst (N := 139) rfl ?_); refine op_look rfl (N := 139) rfl rfl rfl rfl ((HB.out.same (by simp [drawnN_heap, World.drew]) (by repeat (first | (with_reducible first | exact HB.out.below | apply below_alloc | apply pw_below_drewN | apply below_drew1 | exact Below.drew HB.out.below) | exact HB.out.below))).a.look_ok ha) ?_; try rw [K9])
    | ((with_reducible refine gate_dst (N := 154) rfl ?_); refine op_look rfl (N := 154) rfl rfl rfl rfl ((HB.out.same (by simp [drawnN_heap, World.drew]) (by repeat (first | (with_reducible first | exact HB.out.below | apply below_alloc | apply pw_below_drewN | apply below_drew1 | exact Below.drew HB.out.below) | exact HB.out.below))).a.look ha) ?_))
  go_region_held3 (fun w' => w'.cell? ad = some (.int .i64 k) ∧ w'.cell? ⟨ad.block, ad.off + 1, none⟩ = some (.int .i64 m) ∧ w'.cell? ⟨ad.block, ad.off + 2, none⟩ = some (.int .i64 a)) (go_keep) (fail)
  clear g0 g1 g2
  go_wp2_with (first
    | (go_at_call 32; (with_reducible refine (within_calls _ _ _ _).mono ?_); (first | rw [hw1] | rw [hw2]); rintro ev w1 ⟨rfl, ⟨m1, rfl⟩⟩)
    | ((with_reducible refine gate_dst (N := 38) rfl ?_); refine op_look rfl (N := 38) rfl rfl rfl rfl ((HB.out.same (by simp [drawnN_heap, World.drew]) (by repeat (first | (with_reducible first | exact HB.out.below | apply below_alloc | apply pw_below_drewN | apply below_drew1 | exact Below.drew HB.out.below) | exact HB.out.below))).a.look_ok hm) ?_; try rw [K7])
    | ((with_reducible refine gate_dst (N := 66) rfl ?_); refine op_look rfl (N := 66) rfl rfl rfl rfl ((HB.out.same (by simp [drawnN_heap, World.drew]) (by repeat (first | (with_reducible first | exact HB.out.below | apply below_alloc | apply pw_below_drewN | apply below_drew1 | exact Below.drew HB.out.below) | exact HB.out.below))).u.look hm) ?_; try rw [K8])
    | ((with_reducible refine gate_dst (N := 139) rfl ?_); refine op_look rfl (N := 139) rfl rfl rfl rfl ((HB.out.same (by simp [drawnN_heap, World.drew]) (by repeat (first | (with_reducible first | exact HB.out.below | apply below_alloc | apply pw_below_drewN | apply below_drew1 | exact Below.drew HB.out.below) | exact HB.out.below))).a.look_ok ha) ?_; try rw [K9])
    | ((with_reducible refine gate_dst (N := 154) rfl ?_); refine op_look rfl (N := 154) rfl rfl rfl rfl ((HB.out.same (by simp [drawnN_heap, World.drew]) (by repeat (first | (with_reducible first | exact HB.out.below | apply below_alloc | apply pw_below_drewN | apply below_drew1 | exact Below.drew HB.out.below) | exact HB.out.below))).a.look ha) ?_))
  go_ret
  exact ⟨by first | rfl | (simp; done) | (simp [*]; done), (by repeat (first | (with_reducible first | exact HB.out.below | apply below_alloc | apply pw_below_drewN | apply below_drew1 | exact Below.drew HB.out.below) | exact HB.out.below))⟩

set_option maxHeartbeats 8000000 in
set_option maxRecDepth 100000 in
theorem add_f6 (w0 w : World) (p ba bu n : Nat) (A : Int → Option Int) (U : Int → Bool) (b1 b2 b3 : Int) (hB : Bd w0 w p ba bu n A U b1 b2 b3) (hn : n + 4 < maxLen) (ad : Addr) (c0 : Nat) (m a : Int)
    (g0 : w.cell? ad = some (.int .i64 1)) (g1 : w.cell? ⟨ad.block, ad.off + 1, none⟩ = some (.int .i64 m)) (g2 : w.cell? ⟨ad.block, ad.off + 2, none⟩ = some (.int .i64 a))
    (c2 : 1 ≤ m) (c3 : m ≤ 99) (c4 : 1 ≤ a) (c5 : a ≤ 1000) (c7 : (A m).isSome = false) (c8 : U m = true) :
    Calls Try.prog 25 #[.pointer (some ⟨p, 0, none⟩), .slice (some ad) 3 c0] w fun ev w' => ev = .returned (.bool false) ∧ Below w0.heap.size w0 w' := by
  have HB := Aside0.mk hB
  have HN := Aside0.mk hn
  have hz0 := hB.z0
  have hz1 := hB.z1
  clear hB hn
  have hw1 : (decide (1 ≤ m) && decide (m ≤ 99)) = true := by simp [c2, c3]
  have hm : okI m := okI_small (by omega) (by omega)
  have hw2 : (decide (1 ≤ a) && decide (a ≤ 1000)) = true := by simp [c4, c5]
  have ha : okI a := okI_small (by omega) (by omega)
  have d6 : decide (a < 1) = false := decide_eq_false (by omega)
  have K7 : (A m).isSome = false := c7
  have K8 := c8
  have K9 : (A a).isSome = (A a).isSome := rfl
  go_enter Try.func25, Try.ntmps25
  go_wp2_with (first
    | (go_at_call 32; (with_reducible refine (within_calls _ _ _ _).mono ?_); (first | rw [hw1] | rw [hw2]); rintro ev w1 ⟨rfl, ⟨m1, rfl⟩⟩)
    | ((with_reducible refine gate_dst (N := 38) rfl ?_); refine op_look rfl (N := 38) rfl rfl rfl rfl ((HB.out.same (by simp [drawnN_heap, World.drew]) (by repeat (first | (with_reducible first | exact HB.out.below | apply below_alloc | apply pw_below_drewN | apply below_drew1 | exact Below.drew HB.out.below) | exact HB.out.below))).a.look_ok hm) ?_; try rw [K7])
    | ((with_reducible refine gate_dst (N := 66) rfl ?_); refine op_look rfl (N := 66) rfl rfl rfl rfl ((HB.out.same (by simp [drawnN_heap, World.drew]) (by repeat (first | (with_reducible first | exact HB.out.below | apply below_alloc | apply pw_below_drewN | apply below_drew1 | exact Below.drew HB.out.below) | exact HB.out.below))).u.look hm) ?_; try rw [K8])
    | ((with_reducible refine gate_dst (N := 139) rfl ?_); refine op_look rfl (N := 139) rfl rfl rfl rfl ((HB.out.same (by simp [drawnN_heap, World.drew]) (by repeat (first | (with_reducible first | exact HB.out.below | apply below_alloc | apply pw_below_drewN | apply below_drew1 | exact Below.drew HB.out.below) | exact HB.out.below))).a.look_ok ha) ?_; try rw [K9])
    | ((with_reducible refine gate_dst (N := 154) rfl ?_); refine op_look rfl (N := 154) rfl rfl rfl rfl ((HB.out.same (by simp [drawnN_heap, World.drew]) (by repeat (first | (with_reducible first | exact HB.out.below | apply below_alloc | apply pw_below_drewN | apply below_drew1 | exact Below.drew HB.out.below) | exact HB.out.below))).a.look ha) ?_))
  go_region_held3 (fun w' => w'.cell? ad = some (.int .i64 1) ∧ w'.cell? ⟨ad.block, ad.off + 1, none⟩ = some (.int .i64 m) ∧ w'.cell? ⟨ad.block, ad.off + 2, none⟩ = some (.int .i64 a)) (go_keep) (fail)
  clear g0 g1 g2
  go_wp2_with (first
    | (go_at_call 32; (with_reducible refine (within_calls _ _ _ _).mono ?_); (first | rw [hw1] | rw [hw2]); rintro ev w1 ⟨rfl, ⟨m1, rfl⟩⟩)
    | ((with_reducible refine gate_dst (N := 38) rfl ?_); refine op_look rfl (N := 38) rfl rfl rfl rfl ((HB.out.same (by simp [drawnN_heap, World.drew]) (by repeat (first | (with_reducible first | exact HB.out.below | apply below_alloc | apply pw_below_drewN | apply below_drew1 | exact Below.drew HB.out.below) | exact HB.out.below))).a.look_ok hm) ?_; try rw [K7])
    | ((with_reducible refine gate_dst (N := 66) rfl ?_); refine op_look rfl (N := 66) rfl rfl rfl rfl ((HB.out.same (by simp [drawnN_heap, World.drew]) (by repeat (first | (with_reducible first | exact HB.out.below | apply below_alloc | apply pw_below_drewN | apply below_drew1 | exact Below.drew HB.out.below) | exact HB.out.below))).u.look hm) ?_; try rw [K8])
    | ((with_reducible refine gate_dst (N := 139) rfl ?_); refine op_look rfl (N := 139) rfl rfl rfl rfl ((HB.out.same (by simp [drawnN_heap, World.drew]) (by repeat (first | (with_reducible first | exact HB.out.below | apply below_alloc | apply pw_below_drewN | apply below_drew1 | exact Below.drew HB.out.below) | exact HB.out.below))).a.look_ok ha) ?_; try rw [K9])
    | ((with_reducible refine gate_dst (N := 154) rfl ?_); refine op_look rfl (N := 154) rfl rfl rfl rfl ((HB.out.same (by simp [drawnN_heap, World.drew]) (by repeat (first | (with_reducible first | exact HB.out.below | apply below_alloc | apply pw_below_drewN | apply below_drew1 | exact Below.drew HB.out.below) | exact HB.out.below))).a.look ha) ?_))
  go_ret
  exact ⟨by first | rfl | (simp; done) | (simp [*]; done), (by repeat (first | (with_reducible first | exact HB.out.below | apply below_alloc | apply pw_below_drewN | apply below_drew1 | exact Below.drew HB.out.below) | exact HB.out.below))⟩

set_option maxHeartbeats 8000000 in
set_option maxRecDepth 100000 in
theorem add_f7_2 (w0 w : World) (p ba bu n : Nat) (A : Int → Option Int) (U : Int → Bool) (b1 b2 b3 : Int) (hB : Bd w0 w p ba bu n A U b1 b2 b3) (hn : n + 4 < maxLen) (ad : Addr) (c0 : Nat) (m a : Int)
    (g0 : w.cell? ad = some (.int .i64 2)) (g1 : w.cell? ⟨ad.block, ad.off + 1, none⟩ = some (.int .i64 m)) (g2 : w.cell? ⟨ad.block, ad.off + 2, none⟩ = some (.int .i64 a))
    (c2 : 1 ≤ m) (c3 : m ≤ 99) (c4 : 1 ≤ a) (c5 : a ≤ 1000) (c7 : (A m).isSome = true) (c8 : a ≥ (A m).getD 0) :
    Calls Try.prog 25 #[.pointer (some ⟨p, 0, none⟩), .slice (some ad) 3 c0] w fun ev w' => ev = .returned (.bool false) ∧ Below w0.heap.size w0 w' := by
  have HB := Aside0.mk hB
  have HN := Aside0.mk hn
  have hz0 := hB.z0
  have hz1 := hB.z1
  clear hB hn
  have hw1 : (decide (1 ≤ m) && decide (m ≤ 99)) = true := by simp [c2, c3]
  have hm : okI m := okI_small (by omega) (by omega)
  have hw2 : (decide (1 ≤ a) && decide (a ≤ 1000)) = true := by simp [c4, c5]
  have ha : okI a := okI_small (by omega) (by omega)
  have d6 : decide (a < 1) = false := decide_eq_false (by omega)
  have K7 : (A m).isSome = true := c7
  have K8 : U m = U m := rfl
  have K9 : (A a).isSome = (A a).isSome := rfl
  have d8 : decide ((A m).getD 0 ≤ a) = true := decide_eq_true c8
  go_enter Try.func25, Try.ntmps25
  go_wp2_with (first
    | (go_at_call 32; (with_reducible refine (within_calls _ _ _ _).mono ?_); (first | rw [hw1] | rw [hw2]); rintro ev w1 ⟨rfl, ⟨m1, rfl⟩⟩)
    | ((with_reducible refine gate_dst (N := 38) rfl ?_); refine op_look rfl (N := 38) rfl rfl rfl rfl ((HB.out.same (by simp [drawnN_heap, World.drew]) (by repeat (first | (with_reducible first | exact HB.out.below | apply below_alloc | apply pw_below_drewN | apply below_drew1 | exact Below.drew HB.out.below) | exact HB.out.below))).a.look_ok hm) ?_; try rw [K7])
    | ((with_reducible refine gate_dst (N := 66) rfl ?_); refine op_look rfl (N := 66) rfl rfl rfl rfl ((HB.out.same (by simp [drawnN_heap, World.drew]) (by repeat (first | (with_reducible first | exact HB.out.below | apply below_alloc | apply pw_below_drewN | apply below_drew1 | exact Below.drew HB.out.below) | exact HB.out.below))).u.look hm) ?_; try rw [K8])
    | ((with_reducible refine gate_dst (N := 139) rfl ?_); refine op_look rfl (N := 139) rfl rfl rfl rfl ((HB.out.same (by simp [drawnN_heap, World.drew]) (by repeat (first | (with_reducible first | exact HB.out.below | apply below_alloc | apply pw_below_drewN | apply below_drew1 | exact Below.drew HB.out.below) | exact HB.out.below))).a.look_ok ha) ?_; try rw [K9])
    | ((with_reducible refine gate_dst (N := 154) rfl ?_); refine op_look rfl (N := 154) rfl rfl rfl rfl ((HB.out.same (by simp [drawnN_heap, World.drew]) (by repeat (first | (with_reducible first | exact HB.out.below | apply below_alloc | apply pw_below_drewN | apply below_drew1 | exact Below.drew HB.out.below) | exact HB.out.below))).a.look ha) ?_))
  go_region_held3 (fun w' => w'.cell? ad = some (.int .i64 2) ∧ w'.cell? ⟨ad.block, ad.off + 1, none⟩ = some (.int .i64 m) ∧ w'.cell? ⟨ad.block, ad.off + 2, none⟩ = some (.int .i64 a)) (go_keep) (fail)
  clear g0 g1 g2
  go_wp2_with (first
    | (go_at_call 32; (with_reducible refine (within_calls _ _ _ _).mono ?_); (first | rw [hw1] | rw [hw2]); rintro ev w1 ⟨rfl, ⟨m1, rfl⟩⟩)
    | ((with_reducible refine gate_dst (N := 38) rfl ?_); refine op_look rfl (N := 38) rfl rfl rfl rfl ((HB.out.same (by simp [drawnN_heap, World.drew]) (by repeat (first | (with_reducible first | exact HB.out.below | apply below_alloc | apply pw_below_drewN | apply below_drew1 | exact Below.drew HB.out.below) | exact HB.out.below))).a.look_ok hm) ?_; try rw [K7])
    | ((with_reducible refine gate_dst (N := 66) rfl ?_); refine op_look rfl (N := 66) rfl rfl rfl rfl ((HB.out.same (by simp [drawnN_heap, World.drew]) (by repeat (first | (with_reducible first | exact HB.out.below | apply below_alloc | apply pw_below_drewN | apply below_drew1 | exact Below.drew HB.out.below) | exact HB.out.below))).u.look hm) ?_; try rw [K8])
    | ((with_reducible refine gate_dst (N := 139) rfl ?_); refine op_look rfl (N := 139) rfl rfl rfl rfl ((HB.out.same (by simp [drawnN_heap, World.drew]) (by repeat (first | (with_reducible first | exact HB.out.below | apply below_alloc | apply pw_below_drewN | apply below_drew1 | exact Below.drew HB.out.below) | exact HB.out.below))).a.look_ok ha) ?_; try rw [K9])
    | ((with_reducible refine gate_dst (N := 154) rfl ?_); refine op_look rfl (N := 154) rfl rfl rfl rfl ((HB.out.same (by simp [drawnN_heap, World.drew]) (by repeat (first | (with_reducible first | exact HB.out.below | apply below_alloc | apply pw_below_drewN | apply below_drew1 | exact Below.drew HB.out.below) | exact HB.out.below))).a.look ha) ?_))
  go_ret
  exact ⟨by first | rfl | (simp; done) | (simp [*]; done), (by repeat (first | (with_reducible first | exact HB.out.below | apply below_alloc | apply pw_below_drewN | apply below_drew1 | exact Below.drew HB.out.below) | exact HB.out.below))⟩

set_option maxHeartbeats 8000000 in
set_option maxRecDepth 100000 in
theorem add_f7_3 (w0 w : World) (p ba bu n : Nat) (A : Int → Option Int) (U : Int → Bool) (b1 b2 b3 : Int) (hB : Bd w0 w p ba bu n A U b1 b2 b3) (hn : n + 4 < maxLen) (ad : Addr) (c0 : Nat) (m a : Int)
    (g0 : w.cell? ad = some (.int .i64 3)) (g1 : w.cell? ⟨ad.block, ad.off + 1, none⟩ = some (.int .i64 m)) (g2 : w.cell? ⟨ad.block, ad.off + 2, none⟩ = some (.int .i64 a))
    (c2 : 1 ≤ m) (c3 : m ≤ 99) (c4 : 1 ≤ a) (c5 : a ≤ 1000) (c7 : (A m).isSome = true) (c8 : a ≥ (A m).getD 0) :
    Calls Try.prog 25 #[.pointer (some ⟨p, 0, none⟩), .slice (some ad) 3 c0] w fun ev w' => ev = .returned (.bool false) ∧ Below w0.heap.size w0 w' := by
  have HB := Aside0.mk hB
  have HN := Aside0.mk hn
  have hz0 := hB.z0
  have hz1 := hB.z1
  clear hB hn
  have hw1 : (decide (1 ≤ m) && decide (m ≤ 99)) = true := by simp [c2, c3]
  have hm : okI m := okI_small (by omega) (by omega)
  have hw2 : (decide (1 ≤ a) && decide (a ≤ 1000)) = true := by simp [c4, c5]
  have ha : okI a := okI_small (by omega) (by omega)
  have d6 : decide (a < 1) = false := decide_eq_false (by omega)
  have K7 : (A m).isSome = true := c7
  have K8 : U m = U m := rfl
  have K9 : (A a).isSome = (A a).isSome := rfl
  have d8 : decide ((A m).getD 0 ≤ a) = true := decide_eq_true c8
  go_enter Try.func25, Try.ntmps25
  go_wp2_with (first
    | (go_at_call 32; (with_reducible refine (within_calls _ _ _ _).mono ?_); (first | rw [hw1] | rw [hw2]); rintro ev w1 ⟨rfl, ⟨m1, rfl⟩⟩)
    | ((with_reducible refine gate_dst (N := 38) rfl ?_); refine op_look rfl (N := 38) rfl rfl rfl rfl ((HB.out.same (by simp [drawnN_heap, World.drew]) (by repeat (first | (with_reducible first | exact HB.out.below | apply below_alloc | apply pw_below_drewN | apply below_drew1 | exact Below.drew HB.out.below) | exact HB.out.below))).a.look_ok hm) ?_; try rw [K7])
    | ((with_reducible refine gate_dst (N := 66) rfl ?_); refine op_look rfl (N := 66) rfl rfl rfl rfl ((HB.out.same (by simp [drawnN_heap, World.drew]) (by repeat (first | (with_reducible first | exact HB.out.below | apply below_alloc | apply pw_below_drewN | apply below_drew1 | exact Below.drew HB.out.below) | exact HB.out.below))).u.look hm) ?_; try rw [K8])
    | ((with_reducible refine gate_dst (N := 139) rfl ?_); refine op_look rfl (N := 139) rfl rfl rfl rfl ((HB.out.same (by simp [drawnN_heap, World.drew]) (by repeat (first | (with_reducible first | exact HB.out.below | apply below_alloc | apply pw_below_drewN | apply below_drew1 | exact Below.drew HB.out.below) | exact HB.out.below))).a.look_ok ha) ?_; try rw [K9])
    | ((with_reducible refine gate_dst (N := 154) rfl ?_); refine op_look rfl (N := 154) rfl rfl rfl rfl ((HB.out.same (by simp [drawnN_heap, World.drew]) (by repeat (first | (with_reducible first | exact HB.out.below | apply below_alloc | apply pw_below_drewN | apply below_drew1 | exact Below.drew HB.out.below) | exact HB.out.below))).a.look ha) ?_))
  go_region_held3 (fun w' => w'.cell? ad = some (.int .i64 3) ∧ w'.cell? ⟨ad.block, ad.off + 1, none⟩ = some (.int .i64 m) ∧ w'.cell? ⟨ad.block, ad.off + 2, none⟩ = some (.int .i64 a)) (go_keep) (fail)
  clear g0 g1 g2
  go_wp2_with (first
    | (go_at_call 32; (with_reducible refine (within_calls _ _ _ _).mono ?_); (first | rw [hw1] | rw [hw2]); rintro ev w1 ⟨rfl, ⟨m1, rfl⟩⟩)
    | ((with_reducible refine gate_dst (N := 38) rfl ?_); refine op_look rfl (N := 38) rfl rfl rfl rfl ((HB.out.same (by simp [drawnN_heap, World.drew]) (by repeat (first | (with_reducible first | exact HB.out.below | apply below_alloc | apply pw_below_drewN | apply below_drew1 | exact Below.drew HB.out.below) | exact HB.out.below))).a.look_ok hm) ?_; try rw [K7])
    | ((with_reducible refine gate_dst (N := 66) rfl ?_); refine op_look rfl (N := 66) rfl rfl rfl rfl ((HB.out.same (by simp [drawnN_heap, World.drew]) (by repeat (first | (with_reducible first | exact HB.out.below | apply below_alloc | apply pw_below_drewN | apply below_drew1 | exact Below.drew HB.out.below) | exact HB.out.below))).u.look hm) ?_; try rw [K8])
    | ((with_reducible refine gate_dst (N := 139) rfl ?_); refine op_look rfl (N := 139) rfl rfl rfl rfl ((HB.out.same (by simp [drawnN_heap, World.drew]) (by repeat (first | (with_reducible first | exact HB.out.below | apply below_alloc | apply pw_below_drewN | apply below_drew1 | exact Below.drew HB.out.below) | exact HB.out.below))).a.look_ok ha) ?_; try rw [K9])
    | ((with_reducible refine gate_dst (N := 154) rfl ?_); refine op_look rfl (N := 154) rfl rfl rfl rfl ((HB.out.same (by simp [drawnN_heap, World.drew]) (by repeat (first | (with_reducible first | exact HB.out.below | apply below_alloc | apply pw_below_drewN | apply below_drew1 | exact Below.drew HB.out.below) | exact HB.out.below))).a.look ha) ?_))
  go_ret
  exact ⟨by first | rfl | (simp; done) | (simp [*]; done), (by repeat (first | (with_reducible first | exact HB.out.below | apply below_alloc | apply pw_below_drewN | apply below_drew1 | exact Below.drew HB.out.below) | exact HB.out.below))⟩

set_option maxHeartbeats 8000000 in
set_option maxRecDepth 100000 in
theorem add_f8a (w0 w : World) (p ba bu n : Nat) (A : Int → Option Int) (U : Int → Bool) (b1 b2 b3 : Int) (hB : Bd w0 w p ba bu n A U b1 b2 b3) (hn : n + 4 < maxLen) (ad : Addr) (c0 : Nat) (m a : Int)
    (g0 : w.cell? ad = some (.int .i64 4)) (g1 : w.cell? ⟨ad.block, ad.off + 1, none⟩ = some (.int .i64 m)) (g2 : w.cell? ⟨ad.block, ad.off + 2, none⟩ = some (.int .i64 a))
    (c2 : 1 ≤ m) (c3 : m ≤ 99) (c4 : 1 ≤ a) (c5 : a ≤ 1000) (c7 : (A m).isSome = true) (c8 : (A a).isSome = false) :
    Calls Try.prog 25 #[.pointer (some ⟨p, 0, none⟩), .slice (some ad) 3 c0] w fun ev w' => ev = .returned (.bool false) ∧ Below w0.heap.size w0 w' := by
  have HB := Aside0.mk hB
  have HN := Aside0.mk hn
  have hz0 := hB.z0
  have hz1 := hB.z1
  clear hB hn
  have hw1 : (decide (1 ≤ m) && decide (m ≤ 99)) = true := by simp [c2, c3]
  have hm : okI m := okI_small (by omega) (by omega)
  have hw2 : (decide (1 ≤ a) && decide (a ≤ 1000)) = true := by simp [c4, c5]
  have ha : okI a := okI_small (by omega) (by omega)
  have d6 : decide (a < 1) = false := decide_eq_false (by omega)
  have K7 : (A m).isSome = true := c7
  have K8 : U m = U m := rfl
  have K9 := c8
  go_enter Try.func25, Try.ntmps25
  go_wp2_with (first
    | (go_at_call 32; (with_reducible refine (within_calls _ _ _ _).mono ?_); (first | rw [hw1] | rw [hw2]); rintro ev w1 ⟨rfl, ⟨m1, rfl⟩⟩)
    | ((with_reducible refine gate_dst (N := 38) rfl ?_); refine op_look rfl (N := 38) rfl rfl rfl rfl ((HB.out.same (by simp [drawnN_heap, World.drew]) (by repeat (first | (with_reducible first | exact HB.out.below | apply below_alloc | apply pw_below_drewN | apply below_drew1 | exact Below.drew HB.out.below) | exact HB.out.below))).a.look_ok hm) ?_; try rw [K7])
    | ((with_reducible refine gate_dst (N := 66) rfl ?_); refine op_look rfl (N := 66) rfl rfl rfl rfl ((HB.out.same (by simp [drawnN_heap, World.drew]) (by repeat (first | (with_reducible first | exact HB.out.below | apply below_alloc | apply pw_below_drewN | apply below_drew1 | exact Below.drew HB.out.below) | exact HB.out.below))).u.look hm) ?_; try rw [K8])
    | ((with_reducible refine gate_dst (N := 139) rfl ?_); refine op_look rfl (N := 139) rfl rfl rfl rfl ((HB.out.same (by simp [drawnN_heap, World.drew]) (by repeat (first | (with_reducible first | exact HB.out.below | apply below_alloc | apply pw_below_drewN | apply below_drew1 | exact Below.drew HB.out.below) | exact HB.out.below))).a.look_ok ha) ?_; try rw [K9])
    | ((with_reducible refine gate_dst (N := 154) rfl ?_); refine op_look rfl (N := 154) rfl rfl rfl rfl ((HB.out.same (by simp [drawnN_heap, World.drew]) (by repeat (first | (with_reducible first | exact HB.out.below | apply below_alloc | apply pw_below_drewN | apply below_drew1 | exact Below.drew HB.out.below) | exact HB.out.below))).a.look ha) ?_))
  go_region_held3 (fun w' => w'.cell? ad = some (.int .i64 4) ∧ w'.cell? ⟨ad.block, ad.off + 1, none⟩ = some (.int .i64 m) ∧ w'.cell? ⟨ad.block, ad.off + 2, none⟩ = some (.int .i64 a)) (go_keep) (fail)
  clear g0 g1 g2
  go_wp2_with (first
    | (go_at_call 32; (with_reducible refine (within_calls _ _ _ _).mono ?_); (first | rw [hw1] | rw [hw2]); rintro ev w1 ⟨rfl, ⟨m1, rfl⟩⟩)
    | ((with_reducible refine gate_dst (N := 38) rfl ?_); refine op_look rfl (N := 38) rfl rfl rfl rfl ((HB.out.same (by simp [drawnN_heap, World.drew]) (by repeat (first | (with_reducible first | exact HB.out.below | apply below_alloc | apply pw_below_drewN | apply below_drew1 | exact Below.drew HB.out.below) | exact HB.out.below))).a.look_ok hm) ?_; try rw [K7])
    | ((with_reducible refine gate_dst (N := 66) rfl ?_); refine op_look rfl (N := 66) rfl rfl rfl rfl ((HB.out.same (by simp [drawnN_heap, World.drew]) (by repeat (first | (with_reducible first | exact HB.out.below | apply below_alloc | apply pw_below_drewN | apply below_drew1 | exact Below.drew HB.out.below) | exact HB.out.below))).u.look hm) ?_; try rw [K8])
    | ((with_reducible refine gate_dst (N := 139) rfl ?_); refine op_look rfl (N := 139) rfl rfl rfl rfl ((HB.out.same (by simp [drawnN_heap, World.drew]) (by repeat (first | (with_reducible first | exact HB.out.below | apply below_alloc | apply pw_below_drewN | apply below_drew1 | exact Below.drew HB.out.below) | exact HB.out.below))).a.look_ok ha) ?_; try rw [K9])
    | ((with_reducible refine gate_dst (N := 154) rfl ?_); refine op_look rfl (N := 154) rfl rfl rfl rfl ((HB.out.same (by simp [drawnN_heap, World.drew]) (by repeat (first | (with_reducible first | exact HB.out.below | apply below_alloc | apply pw_below_drewN | apply below_drew1 | exact Below.drew HB.out.below) | exact HB.out.below))).a.look ha) ?_))
  go_ret
  exact ⟨by first | rfl | (simp; done) | (simp [*]; done), (by repeat (first | (with_reducible first | exact HB.out.below | apply below_alloc | apply pw_below_drewN | apply below_drew1 | exact Below.drew HB.out.below) | exact HB.out.below))⟩

set_option maxHeartbeats 8000000 in
set_option maxRecDepth 100000 in
theorem add_f8b (w0 w : World) (p ba bu n : Nat) (A : Int → Option Int) (U : Int → Bool) (b1 b2 b3 : Int) (hB : Bd w0 w p ba bu n A U b1 b2 b3) (hn : n + 4 < maxLen) (ad : Addr) (c0 : Nat) (m a : Int)
    (g0 : w.cell? ad = some (.int .i64 4)) (g1 : w.cell? ⟨ad.block, ad.off + 1, none⟩ = some (.int .i64 m)) (g2 : w.cell? ⟨ad.block, ad.off + 2, none⟩ = some (.int .i64 a))
    (c2 : 1 ≤ m) (c3 : m ≤ 99) (c4 : 1 ≤ a) (c5 : a ≤ 1000) (c7 : (A m).isSome = true) (c8 : (A a).isSome = true) (c9 : a = m) :
    Calls Try.prog 25 #[.pointer (some ⟨p, 0, none⟩), .slice (some ad) 3 c0] w fun ev w' => ev = .returned (.bool false) ∧ Below w0.heap.size w0 w' := by
  have HB := Aside0.mk hB
  have HN := Aside0.mk hn
  have hz0 := hB.z0
  have hz1 := hB.z1
  clear hB hn
  have hw1 : (decide (1 ≤ m) && decide (m ≤ 99)) = true := by simp [c2, c3]
  have hm : okI m := okI_small (by omega) (by omega)
  have hw2 : (decide (1 ≤ a) && decide (a ≤ 1000)) = true := by simp [c4, c5]
  have ha : okI a := okI_small (by omega) (by omega)
  have d6 : decide (a < 1) = false := decide_eq_false (by omega)
  have K7 : (A m).isSome = true := c7
  have K8 : U m = U m := rfl
  have K9 := c8
  have d9 : (a == m) = true := beq_iff_eq.mpr c9
  clear c9
  go_enter Try.func25, Try.ntmps25
  go_wp2_with (first
    | (go_at_call 32; (with_reducible refine (within_calls _ _ _ _).mono ?_); (first | rw [hw1] | rw [hw2]); rintro ev w1 ⟨rfl, ⟨m1, rfl⟩⟩)
    | ((with_reducible refine gate_dst (N := 38) rfl ?_); refine op_look rfl (N := 38) rfl rfl rfl rfl ((HB.out.same (by simp [drawnN_heap, World.drew]) (by repeat (first | (with_reducible first | exact HB.out.below | apply below_alloc | apply pw_below_drewN | apply below_drew1 | exact Below.drew HB.out.below) | exact HB.out.below))).a.look_ok hm) ?_; try rw [K7])
    | ((with_reducible refine gate_dst (N := 66) rfl ?_); refine op_look rfl (N := 66) rfl rfl rfl rfl ((HB.out.same (by simp [drawnN_heap, World.drew]) (by repeat (first | (with_reducible first | exact HB.out.below | apply below_alloc | apply pw_below_drewN | apply below_drew1 | exact Below.drew HB.out.below) | exact HB.out.below))).u.look hm) ?_; try rw [K8])
    | ((with_reducible refine gate_dst (N := 139) rfl ?_); refine op_look rfl (N := 139) rfl rfl rfl rfl ((HB.out.same (by simp [drawnN_heap, World.drew]) (by repeat (first | (with_reducible first | exact HB.out.below | apply below_alloc | apply pw_below_drewN | apply below_drew1 | exact Below.drew HB.out.below) | exact HB.out.below))).a.look_ok ha) ?_; try rw [K9])
    | ((with_reducible refine gate_dst (N := 154) rfl ?_); refine op_look rfl (N := 154) rfl rfl rfl rfl ((HB.out.same (by simp [drawnN_heap, World.drew]) (by repeat (first | (with_reducible first | exact HB.out.below | apply below_alloc | apply pw_below_drewN | apply below_drew1 | exact Below.drew HB.out.below) | exact HB.out.below))).a.look ha) ?_))
  go_region_held3 (fun w' => w'.cell? ad = some (.int .i64 4) ∧ w'.cell? ⟨ad.block, ad.off + 1, none⟩ = some (.int .i64 m) ∧ w'.cell? ⟨ad.block, ad.off + 2, none⟩ = some (.int .i64 a)) (go_keep) (fail)
  clear g0 g1 g2
  go_wp2_with (first
    | (go_at_call 32; (with_reducible refine (within_calls _ _ _ _).mono ?_); (first | rw [hw1] | rw [hw2]); rintro ev w1 ⟨rfl, ⟨m1, rfl⟩⟩)
    | ((with_reducible refine gate_dst (N := 38) rfl ?_); refine op_look rfl (N := 38) rfl rfl rfl rfl ((HB.out.same (by simp [drawnN_heap, World.drew]) (by repeat (first | (with_reducible first | exact HB.out.below | apply below_alloc | apply pw_below_drewN | apply below_drew1 | exact Below.drew HB.out.below) | exact HB.out.below))).a.look_ok hm) ?_; try rw [K7])
    | ((with_reducible refine gate_dst (N := 66) rfl ?_); refine op_look rfl (N := 66) rfl rfl rfl rfl ((HB.out.same (by simp [drawnN_heap, World.drew]) (by repeat (first | (with_reducible first | exact HB.out.below | apply below_alloc | apply pw_below_drewN | apply below_drew1 | exact Below.drew HB.out.below) | exact HB.out.below))).u.look hm) ?_; try rw [K8])
    | ((with_reducible refine gate_dst (N := 139) rfl ?_); refine op_look rfl (N := 139) rfl rfl rfl rfl ((HB.out.same (by simp [drawnN_heap, World.drew]) (by repeat (first | (with_reducible first | exact HB.out.below | apply below_alloc | apply pw_below_drewN | apply below_drew1 | exact Below.drew HB.out.below) | exact HB.out.below))).a.look_ok ha) ?_; try rw [K9])
    | ((with_reducible refine gate_dst (N := 154) rfl ?_); refine op_look rfl (N := 154) rfl rfl rfl rfl ((HB.out.same (by simp [drawnN_heap, World.drew]) (by repeat (first | (with_reducible first | exact HB.out.below | apply below_alloc | apply pw_below_drewN | apply below_drew1 | exact Below.drew HB.out.below) | exact HB.out.below))).a.look ha) ?_))
  go_ret
  exact ⟨by first | rfl | (simp; done) | (simp [*]; done), (by repeat (first | (with_reducible first | exact HB.out.below | apply below_alloc | apply pw_below_drewN | apply below_drew1 | exact Below.drew HB.out.below) | exact HB.out.below))⟩

set_option maxHeartbeats 8000000 in
set_option maxRecDepth 100000 in
theorem add_f9 (w0 w : World) (p ba bu n : Nat) (A : Int → Option Int) (U : Int → Bool) (b1 b2 b3 : Int) (hB : Bd w0 w p ba bu n A U b1 b2 b3) (hn : n + 4 < maxLen) (ad : Addr) (c0 : Nat) (m a : Int)
    (g0 : w.cell? ad = some (.int .i64 5)) (g1 : w.cell? ⟨ad.block, ad.off + 1, none⟩ = some (.int .i64 m)) (g2 : w.cell? ⟨ad.block, ad.off + 2, none⟩ = some (.int .i64 a))
    (c2 : 1 ≤ m) (c3 : m ≤ 99) (c4 : 1 ≤ a) (c7 : (A m).isSome = true) (c8 : a ≠ (A m).getD 0) :
    Calls Try.prog 25 #[.pointer (some ⟨p, 0, none⟩), .slice (some ad) 3 c0] w fun ev w' => ev = .returned (.bool false) ∧ Below w0.heap.size w0 w' := by
  have HB := Aside0.mk hB
  have HN := Aside0.mk hn
  have hz0 := hB.z0
  have hz1 := hB.z1
  clear hB hn
  have hw1 : (decide (1 ≤ m) && decide (m ≤ 99)) = true := by simp [c2, c3]
  have hm : okI m := okI_small (by omega) (by omega)
  have hw2 := hw1
  have ha := hm
  have d6 : decide (a < 1) = false := decide_eq_false (by omega)
  have K7 : (A m).isSome = true := c7
  have K8 : U m = U m := rfl
  have K9 : (A a).isSome = (A a).isSome := rfl
  have d8 : (a != (A m).getD 0) = true := bne_iff_ne.mpr c8
  have d9 : (a == (A m).getD 0) = false := beq_eq_false_iff_ne.mpr c8
  go_enter Try.func25, Try.ntmps25
  go_wp2_with (first
    | (go_at_call 32; (with_reducible refine (within_calls _ _ _ _).mono ?_); (first | rw [hw1] | rw [hw2]); rintro ev w1 ⟨rfl, ⟨m1, rfl⟩⟩)
    | ((with_reducible refine gate_dst (N := 38) rfl ?_); refine op_look rfl (N := 38) rfl rfl rfl rfl ((HB.out.same (by simp [drawnN_heap, World.drew]) (by repeat (first | (with_reducible first | exact HB.out.below | apply below_alloc | apply pw_below_drewN | apply below_drew1 | exact Below.drew HB.out.below) | exact HB.out.below))).a.look_ok hm) ?_; try rw [K7])
    | ((with_reducible refine gate_dst (N := 66) rfl ?_); refine op_look rfl (N := 66) rfl rfl rfl rfl ((HB.out.same (by simp [drawnN_heap, World.drew]) (by repeat (first | (with_reducible first | exact HB.out.below | apply below_alloc | apply pw_below_drewN | apply below_drew1 | exact Below.drew HB.out.below) | exact HB.out.below))).u.look hm) ?_; try rw [K8])
    | ((with_reducible refine gate_dst (N := 139) rfl ?_); refine op_look rfl (N := 139) rfl rfl rfl rfl ((HB.out.same (by simp [drawnN_heap, World.drew]) (by repeat (first | (with_reducible first | exact HB.out.below | apply below_alloc | apply pw_below_drewN | apply below_drew1 | exact Below.drew HB.out.below) | exact HB.out.below))).a.look_ok ha) ?_; try rw [K9])
    | ((with_reducible refine gate_dst (N := 154) rfl ?_); refine op_look rfl (N := 154) rfl rfl rfl rfl ((HB.out.same (by simp [drawnN_heap, World.drew]) (by repeat (first | (with_reducible first | exact HB.out.below | apply below_alloc | apply pw_below_drewN | apply below_drew1 | exact Below.drew HB.out.below) | exact HB.out.below))).a.look ha) ?_))
  go_region_held3 (fun w' => w'.cell? ad = some (.int .i64 5) ∧ w'.cell? ⟨ad.block, ad.off + 1, none⟩ = some (.int .i64 m) ∧ w'.cell? ⟨ad.block, ad.off + 2, none⟩ = some (.int .i64 a)) (go_keep) (fail)
  clear g0 g1 g2
  go_wp2_with (first
    | (go_at_call 32; (with_reducible refine (within_calls _ _ _ _).mono ?_); (first | rw [hw1] | rw [hw2]); rintro ev w1 ⟨rfl, ⟨m1, rfl⟩⟩)
    | ((with_reducible refine gate_dst (N := 38) rfl ?_); refine op_look rfl (N := 38) rfl rfl rfl rfl ((HB.out.same (by simp [drawnN_heap, World.drew]) (by repeat (first | (with_reducible first | exact HB.out.below | apply below_alloc | apply pw_below_drewN | apply below_drew1 | exact Below.drew HB.out.below) | exact HB.out.below))).a.look_ok hm) ?_; try rw [K7])
    | ((with_reducible refine gate_dst (N := 66) rfl ?_); refine op_look rfl (N := 66) rfl rfl rfl rfl ((HB.out.same (by simp [drawnN_heap, World.drew]) (by repeat (first | (with_reducible first | exact HB.out.below | apply below_alloc | apply pw_below_drewN | apply below_drew1 | exact Below.drew HB.out.below) | exact HB.out.below))).u.look hm) ?_; try rw [K8])
    | ((with_reducible refine gate_dst (N := 139) rfl ?_); refine op_look rfl (N := 139) rfl rfl rfl rfl ((HB.out.same (by simp [drawnN_heap, World.drew]) (by repeat (first | (with_reducible first | exact HB.out.below | apply below_alloc | apply pw_below_drewN | apply below_drew1 | exact Below.drew HB.out.below) | exact HB.out.below))).a.look_ok ha) ?_; try rw [K9])
    | ((with_reducible refine gate_dst (N := 154) rfl ?_); refine op_look rfl (N := 154) rfl rfl rfl rfl ((HB.out.same (by simp [drawnN_heap, World.drew]) (by repeat (first | (with_reducible first | exact HB.out.below | apply below_alloc | apply pw_below_drewN | apply below_drew1 | exact Below.drew HB.out.below) | exact HB.out.below))).a.look ha) ?_))
  go_ret
  exact ⟨by first | rfl | (simp; done) | (simp [*]; done), (by repeat (first | (with_reducible first | exact HB.out.below | apply below_alloc | apply pw_below_drewN | apply below_drew1 | exact Below.drew HB.out.below) | exact HB.out.below))⟩

set_option maxHeartbeats 8000000 in
set_option maxRecDepth 100000 in
theorem add_f10 (w0 w : World) (p ba bu n : Nat) (A : Int → Option Int) (U : Int → Bool) (b1 b2 b3 : Int) (hB : Bd w0 w p ba bu n A U b1 b2 b3) (hn : n + 4 < maxLen) (ad : Addr) (c0 : Nat) (k : Int) (m a : Int)
    (g0 : w.cell? ad = some (.int .i64 k)) (g1 : w.cell? ⟨ad.block, ad.off + 1, none⟩ = some (.int .i64 m)) (g2 : w.cell? ⟨ad.block, ad.off + 2, none⟩ = some (.int .i64 a))
    (c2 : 1 ≤ m) (c3 : m ≤ 99) (c4 : 1 ≤ a) (c5 : a ≤ 1000) (e1 : k ≠ 1) (e2 : k ≠ 2) (e3 : k ≠ 3) (e4 : k ≠ 4) (e5 : k ≠ 5) (c7 : (A m).isSome = true) :
    Calls Try.prog 25 #[.pointer (some ⟨p, 0, none⟩), .slice (some ad) 3 c0] w fun ev w' => ev = .returned (.bool false) ∧ Below w0.heap.size w0 w' := by
  have HB := Aside0.mk hB
  have HN := Aside0.mk hn
  have hz0 := hB.z0
  have hz1 := hB.z1
  clear hB hn
  have hw1 : (decide (1 ≤ m) && decide (m ≤ 99)) = true := by simp [c2, c3]
  have hm : okI m := okI_small (by omega) (by omega)
  have hw2 : (decide (1 ≤ a) && decide (a ≤ 1000)) = true := by simp [c4, c5]
  have ha : okI a := okI_small (by omega) (by omega)
  have d6 : decide (a < 1) = false := decide_eq_false (by omega)
  have K7 : (A m).isSome = true := c7
  have n1 : (k == 1) = false := beq_eq_false_iff_ne.mpr e1
  have n2 : (k == 2) = false := beq_eq_false_iff_ne.mpr e2
  have n3 : (k == 3) = false := beq_eq_false_iff_ne.mpr e3
  have n4 : (k == 4) = false := beq_eq_false_iff_ne.mpr e4
  have n5 : (k == 5) = false := beq_eq_false_iff_ne.mpr e5
  have q1 : (k != 1) = true := bne_iff_ne.mpr e1
  have q2 : (k != 2) = true := bne_iff_ne.mpr e2
  have q3 : (k != 3) = true := bne_iff_ne.mpr e3
  have q4 : (k != 4) = true := bne_iff_ne.mpr e4
  have q5 : (k != 5) = true := bne_iff_ne.mpr e5
  have K8 : U m = U m := rfl
  have K9 : (A a).isSome = (A a).isSome := rfl
  go_enter Try.func25, Try.ntmps25
  go_wp2_with (first
    | (go_at_call 32; (with_reducible refine (within_calls _ _ _ _).mono ?_); (first | rw [hw1] | rw [hw2]); rintro ev w1 ⟨rfl, ⟨m1, rfl⟩⟩)
    | ((with_reducible refine gate_dst (N := 38) rfl ?_); refine op_look rfl (N := 38) rfl rfl rfl rfl ((HB.out.same (by simp [drawnN_heap, World.drew]) (by repeat (first | (with_reducible first | exact HB.out.below | apply below_alloc | apply pw_below_drewN | apply below_drew1 | exact Below.drew HB.out.below) | exact HB.out.below))).a.look_ok hm) ?_; try rw [K7])
    | ((with_reducible refine gate_dst (N := 66) rfl ?_); refine op_look rfl (N := 66) rfl rfl rfl rfl ((HB.out.same (by simp [drawnN_heap, World.drew]) (by repeat (first | (with_reducible first | exact HB.out.below | apply below_alloc | apply pw_below_drewN | apply below_drew1 | exact Below.drew HB.out.below) | exact HB.out.below))).u.look hm) ?_; try rw [K8])
    | ((with_reducible refine gate_dst (N := 139) rfl ?_); refine op_look rfl (N := 139) rfl rfl rfl rfl ((HB.out.same (by simp [drawnN_heap, World.drew]) (by repeat (first | (with_reducible first | exact HB.out.below | apply below_alloc | apply pw_below_drewN | apply below_drew1 | exact Below.drew HB.out.below) | exact HB.out.below))).a.look_ok ha) ?_; try rw [K9])
    | ((with_reducible refine gate_dst (N := 154) rfl ?_); refine op_look rfl (N := 154) rfl rfl rfl rfl ((HB.out.same (by simp [drawnN_heap, World.drew]) (by repeat (first | (with_reducible first | exact HB.out.below | apply below_alloc | apply pw_below_drewN | apply below_drew1 | exact Below.drew HB.out.below) | exact HB.out.below))).a.look ha) ?_))
  go_region_held3 (fun w' => w'.cell? ad = some (.int .i64 k) ∧ w'.cell? ⟨ad.block, ad.off + 1, none⟩ = some (.int .i64 m) ∧ w'.cell? ⟨ad.block, ad.off + 2, none⟩ = some (.int .i64 a)) (go_keep) (fail)
  clear g0 g1 g2
  go_wp2_with (first
    | (go_at_call 32; (with_reducible refine (within_calls _ _ _ _).mono ?_); (first | rw [hw1] | rw [hw2]); rintro ev w1 ⟨rfl, ⟨m1, rfl⟩⟩)
    | ((with_reducible refine gate_dst (N := 38) rfl ?_); refine op_look rfl (N := 38) rfl rfl rfl rfl ((HB.out.same (by simp [drawnN_heap, World.drew]) (by repeat (first | (with_reducible first | exact HB.out.below | apply below_alloc | apply pw_below_drewN | apply below_drew1 | exact Below.drew HB.out.below) | exact HB.out.below))).a.look_ok hm) ?_; try rw [K7])
    | ((with_reducible refine gate_dst (N := 66) rfl ?_); refine op_look rfl (N := 66) rfl rfl rfl rfl ((HB.out.same (by simp [drawnN_heap, World.drew]) (by repeat (first | (with_reducible first | exact HB.out.below | apply below_alloc | apply pw_below_drewN | apply below_drew1 | exact Below.drew HB.out.below) | exact HB.out.below))).u.look hm) ?_; try rw [K8])
    | ((with_reducible refine gate_dst (N := 139) rfl ?_); refine op_look rfl (N := 139) rfl rfl rfl rfl ((HB.out.same (by simp [drawnN_heap, World.drew]) (by repeat (first | (with_reducible first | exact HB.out.below | apply below_alloc | apply pw_below_drewN | apply below_drew1 | exact Below.drew HB.out.below) | exact HB.out.below))).a.look_ok ha) ?_; try rw [K9])
    | ((with_reducible refine gate_dst (N := 154) rfl ?_); refine op_look rfl (N := 154) rfl rfl rfl rfl ((HB.out.same (by simp [drawnN_heap, World.drew]) (by repeat (first | (with_reducible first | exact HB.out.below | apply below_alloc | apply pw_below_drewN | apply below_drew1 | exact Below.drew HB.out.below) | exact HB.out.below))).a.look ha) ?_))
  go_ret
  exact ⟨by first | rfl | (simp; done) | (simp [*]; done), (by repeat (first | (with_reducible first | exact HB.out.below | apply below_alloc | apply pw_below_drewN | apply below_drew1 | exact Below.drew HB.out.below) | exact HB.out.below))⟩

set_option maxHeartbeats 8000000 in
set_option maxRecDepth 100000 in
theorem add_s1 (w0 w : World) (p ba bu n : Nat) (A : Int → Option Int) (U : Int → Bool) (b1 b2 b3 : Int) (hB : Bd w0 w p ba bu n A U b1 b2 b3) (hn : n + 4 < maxLen) (ad : Addr) (c0 : Nat) (m a : Int)
    (g0 : w.cell? ad = some (.int .i64 1)) (g1 : w.cell? ⟨ad.block, ad.off + 1, none⟩ = some (.int .i64 m)) (g2 : w.cell? ⟨ad.block, ad.off + 2, none⟩ = some (.int .i64 a))
    (c2 : 1 ≤ m) (c3 : m ≤ 99) (c4 : 1 ≤ a) (c5 : a ≤ 1000) (c7 : (A m).isSome = false) (c8 : U m = false) :
    Calls Try.prog 25 #[.pointer (some ⟨p, 0, none⟩), .slice (some ad) 3 c0] w fun ev w' => ev = .returned (.bool true) ∧ Bd w0 w' p ba bu (n + 2) (upd A m (some a)) (upd U m true) (wrap64 (b1 + a)) b2 b3 := by
  have HB := Aside0.mk hB
  have HN := Aside0.mk hn
  have hz0 := hB.z0
  have hz1 := hB.z1
  clear hB hn
  have hw1 : (decide (1 ≤ m) && decide (m ≤ 99)) = true := by simp [c2, c3]
  have hm : okI m := okI_small (by omega) (by omega)
  have hw2 : (decide (1 ≤ a) && decide (a ≤ 1000)) = true := by simp [c4, c5]
  have ha : okI a := okI_small (by omega) (by omega)
  have d6 : decide (a < 1) = false := decide_eq_false (by omega)
  have K7 : (A m).isSome = false := c7
  have K8 := c8
  have c7n : A m = none := by simpa using c7
  have K9 : (A a).isSome = (A a).isSome := rfl
  go_enter Try.func25, Try.ntmps25
  go_wp2_with (first
    | (go_at_call 32; (with_reducible refine (within_calls _ _ _ _).mono ?_); (first | rw [hw1] | rw [hw2]); rintro ev w1 ⟨rfl, ⟨m1, rfl⟩⟩)
    | ((with_reducible refine gate_dst (N := 38) rfl ?_); refine op_look rfl (N := 38) rfl rfl rfl rfl ((HB.out.same (by simp [drawnN_heap, World.drew]) (by repeat (first | (with_reducible first | exact HB.out.below | apply below_alloc | apply pw_below_drewN | apply below_drew1 | exact Below.drew HB.out.below) | exact HB.out.below))).a.look_ok hm) ?_; try rw [K7])
    | ((with_reducible refine gate_dst (N := 66) rfl ?_); refine op_look rfl (N := 66) rfl rfl rfl rfl ((HB.out.same (by simp [drawnN_heap, World.drew]) (by repeat (first | (with_reducible first | exact HB.out.below | apply below_alloc | apply pw_below_drewN | apply below_drew1 | exact Below.drew HB.out.below) | exact HB.out.below))).u.look hm) ?_; try rw [K8])
    | ((with_reducible refine gate_dst (N := 139) rfl ?_); refine op_look rfl (N := 139) rfl rfl rfl rfl ((HB.out.same (by simp [drawnN_heap, World.drew]) (by repeat (first | (with_reducible first | exact HB.out.below | apply below_alloc | apply pw_below_drewN | apply below_drew1 | exact Below.drew HB.out.below) | exact HB.out.below))).a.look_ok ha) ?_; try rw [K9])
    | ((with_reducible refine gate_dst (N := 154) rfl ?_); refine op_look rfl (N := 154) rfl rfl rfl rfl ((HB.out.same (by simp [drawnN_heap, World.drew]) (by repeat (first | (with_reducible first | exact HB.out.below | apply below_alloc | apply pw_below_drewN | apply below_drew1 | exact Below.drew HB.out.below) | exact HB.out.below))).a.look ha) ?_))
  go_region_held3 (fun w' => w'.cell? ad = some (.int .i64 1) ∧ w'.cell? ⟨ad.block, ad.off + 1, none⟩ = some (.int .i64 m) ∧ w'.cell? ⟨ad.block, ad.off + 2, none⟩ = some (.int .i64 a)) (go_keep) (fail)
  clear g0 g1 g2
  go_upto_region 12 with (first
    | (go_at_call 32; (with_reducible refine (within_calls _ _ _ _).mono ?_); (first | rw [hw1] | rw [hw2]); rintro ev w1 ⟨rfl, ⟨m1, rfl⟩⟩)
    | ((with_reducible refine gate_dst (N := 38) rfl ?_); refine op_look rfl (N := 38) rfl rfl rfl rfl ((HB.out.same (by simp [drawnN_heap, World.drew]) (by repeat (first | (with_reducible first | exact HB.out.below | apply below_alloc | apply pw_below_drewN | apply below_drew1 | exact Below.drew HB.out.below) | exact HB.out.below))).a.look_ok hm) ?_; try rw [K7])
    | ((with_reducible refine gate_dst (N := 66) rfl ?_); refine op_look rfl (N := 66) rfl rfl rfl rfl ((HB.out.same (by simp [drawnN_heap, World.drew]) (by repeat (first | (with_reducible first | exact HB.out.below | apply below_alloc | apply pw_below_drewN | apply below_drew1 | exact Below.drew HB.out.below) | exact HB.out.below))).u.look hm) ?_; try rw [K8])
    | ((with_reducible refine gate_dst (N := 139) rfl ?_); refine op_look rfl (N := 139) rfl rfl rfl rfl ((HB.out.same (by simp [drawnN_heap, World.drew]) (by repeat (first | (with_reducible first | exact HB.out.below | apply below_alloc | apply pw_below_drewN | apply below_drew1 | exact Below.drew HB.out.below) | exact HB.out.below))).a.look_ok ha) ?_; try rw [K9])
    | ((with_reducible refine gate_dst (N := 154) rfl ?_); refine op_look rfl (N := 154) rfl rfl rfl rfl ((HB.out.same (by simp [drawnN_heap, World.drew]) (by repeat (first | (with_reducible first | exact HB.out.below | apply below_alloc | apply pw_below_drewN | apply below_drew1 | exact Below.drew HB.out.below) | exact HB.out.below))).a.look ha) ?_))
  refine wp_bd (HB.out.same (by simp [drawnN_heap, World.drew]) (by repeat (first | (with_reducible first | exact HB.out.below | apply below_alloc | apply pw_below_drewN | apply below_drew1 | exact Below.drew HB.out.below) | exact HB.out.below))) ?_
  intro W hBW
  clear hz0 hz1
  obtain ⟨v0, v1, st, st', x1, x2, x3, x4, r1, r2, r3, r4, hB4⟩ := hBW.two (by have := HN.out; omega) hm ha c7n c8
  have hz0 := hBW.z0
  have hz1 := hBW.z1
  have hz4 := hB4.z2
  have hf4 := hB4.fz 2
  have B4 := Aside0.mk hB4
  clear hBW hB4
  go_region
  all_goals
    clear hz0 hz1 r1 r2 r3 r4
    go_wp2
    go_ret
    exact ⟨rfl, (B4.out.set 2 _ rfl).mono (by omega)⟩

set_option maxHeartbeats 8000000 in
set_option maxRecDepth 100000 in
theorem add_s2 (w0 w : World) (p ba bu n : Nat) (A : Int → Option Int) (U : Int → Bool) (b1 b2 b3 : Int) (hB : Bd w0 w p ba bu n A U b1 b2 b3) (hn : n + 4 < maxLen) (ad : Addr) (c0 : Nat) (m a : Int)
    (g0 : w.cell? ad = some (.int .i64 2)) (g1 : w.cell? ⟨ad.block, ad.off + 1, none⟩ = some (.int .i64 m)) (g2 : w.cell? ⟨ad.block, ad.off + 2, none⟩ = some (.int .i64 a))
    (c2 : 1 ≤ m) (c3 : m ≤ 99) (c4 : 1 ≤ a) (c5 : a ≤ 1000) (c7 : (A m).isSome = true) (c8 : ¬ (a ≥ (A m).getD 0)) :
    Calls Try.prog 25 #[.pointer (some ⟨p, 0, none⟩), .slice (some ad) 3 c0] w fun ev w' => ev = .returned (.bool true) ∧ Bd w0 w' p ba bu (n + 2) (upd A m (some (wrap64 ((A m).getD 0 - a)))) U b1 (wrap64 (b2 + a)) b3 := by
  have HB := Aside0.mk hB
  have HN := Aside0.mk hn
  have hz0 := hB.z0
  have hz1 := hB.z1
  clear hB hn
  have hw1 : (decide (1 ≤ m) && decide (m ≤ 99)) = true := by simp [c2, c3]
  have hm : okI m := okI_small (by omega) (by omega)
  have hw2 : (decide (1 ≤ a) && decide (a ≤ 1000)) = true := by simp [c4, c5]
  have ha : okI a := okI_small (by omega) (by omega)
  have d6 : decide (a < 1) = false := decide_eq_false (by omega)
  have K7 : (A m).isSome = true := c7
  have K8 : U m = U m := rfl
  have K9 : (A a).isSome = (A a).isSome := rfl
  have d8 : decide ((A m).getD 0 ≤ a) = false := decide_eq_false c8
  go_enter Try.func25, Try.ntmps25
  go_wp2_with (first
    | (go_at_call 32; (with_reducible refine (within_calls _ _ _ _).mono ?_); (first | rw [hw1] | rw [hw2]); rintro ev w1 ⟨rfl, ⟨m1, rfl⟩⟩)
    | ((with_reducible refine gate_dst (N := 38) rfl ?_); refine op_look rfl (N := 38) rfl rfl rfl rfl ((HB.out.same (by simp [drawnN_heap, World.drew]) (by repeat (first | (with_reducible first | exact HB.out.below | apply below_alloc | apply pw_below_drewN | apply below_drew1 | exact Below.drew HB.out.below) | exact HB.out.below))).a.look_ok hm) ?_; try rw [K7])
    | ((with_reducible refine gate_dst (N := 66) rfl ?_); refine op_look rfl (N := 66) rfl rfl rfl rfl ((HB.out.same (by simp [drawnN_heap, World.drew]) (by repeat (first | (with_reducible first | exact HB.out.below | apply below_alloc | apply pw_below_drewN | apply below_drew1 | exact Below.drew HB.out.below) | exact HB.out.below))).u.look hm) ?_; try rw [K8])
    | ((with_reducible refine gate_dst (N := 139) rfl ?_); refine op_look rfl (N := 139) rfl rfl rfl rfl ((HB.out.same (by simp [drawnN_heap, World.drew]) (by repeat (first | (with_reducible first | exact HB.out.below | apply below_alloc | apply pw_below_drewN | apply below_drew1 | exact Below.drew HB.out.below) | exact HB.out.below))).a.look_ok ha) ?_; try rw [K9])
    | ((with_reducible refine gate_dst (N := 154) rfl ?_); refine op_look rfl (N := 154) rfl rfl rfl rfl ((HB.out.same (by simp [drawnN_heap, World.drew]) (by repeat (first | (with_reducible first | exact HB.out.below | apply below_alloc | apply pw_below_drewN | apply below_drew1 | exact Below.drew HB.out.below) | exact HB.out.below))).a.look ha) ?_))
  go_region_held3 (fun w' => w'.cell? ad = some (.int .i64 2) ∧ w'.cell? ⟨ad.block, ad.off + 1, none⟩ = some (.int .i64 m) ∧ w'.cell? ⟨ad.block, ad.off + 2, none⟩ = some (.int .i64 a)) (go_keep) (fail)
  clear g0 g1 g2
  go_wp2_with (first
    | (go_at_call 32; (with_reducible refine (within_calls _ _ _ _).mono ?_); (first | rw [hw1] | rw [hw2]); rintro ev w1 ⟨rfl, ⟨m1, rfl⟩⟩)
    | ((with_reducible refine gate_dst (N := 38) rfl ?_); refine op_look rfl (N := 38) rfl rfl rfl rfl ((HB.out.same (by simp [drawnN_heap, World.drew]) (by repeat (first | (with_reducible first | exact HB.out.below | apply below_alloc | apply pw_below_drewN | apply below_drew1 | exact Below.drew HB.out.below) | exact HB.out.below))).a.look_ok hm) ?_; try rw [K7])
    | ((with_reducible refine gate_dst (N := 66) rfl ?_); refine op_look rfl (N := 66) rfl rfl rfl rfl ((HB.out.same (by simp [drawnN_heap, World.drew]) (by repeat (first | (with_reducible first | exact HB.out.below | apply below_alloc | apply pw_below_drewN | apply below_drew1 | exact Below.drew HB.out.below) | exact HB.out.below))).u.look hm) ?_; try rw [K8])
    | ((with_reducible refine gate_dst (N := 139) rfl ?_); refine op_look rfl (N := 139) rfl rfl rfl rfl ((HB.out.same (by simp [drawnN_heap, World.drew]) (by repeat (first | (with_reducible first | exact HB.out.below | apply below_alloc | apply pw_below_drewN | apply below_drew1 | exact Below.drew HB.out.below) | exact HB.out.below))).a.look_ok ha) ?_; try rw [K9])
    | ((with_reducible refine gate_dst (N := 154) rfl ?_); refine op_look rfl (N := 154) rfl rfl rfl rfl ((HB.out.same (by simp [drawnN_heap, World.drew]) (by repeat (first | (with_reducible first | exact HB.out.below | apply below_alloc | apply pw_below_drewN | apply below_drew1 | exact Below.drew HB.out.below) | exact HB.out.below))).a.look ha) ?_)
    | ((at_mapUpdate; refine op_put rfl rfl rfl rfl rfl rfl (HB.out.same (by simp [drawnN_heap, World.drew]) (by repeat (first | (with_reducible first | exact HB.out.below | apply below_alloc | apply pw_below_drewN | apply below_drew1 | exact Below.drew HB.out.below) | exact HB.out.below))) (by have := HN.out; omega) hm (okI_wrap _) ?_; intro x1 hB1; have hz3 := hB1.z3; have hf3 := hB1.fz 3; have hz0 := hB1.z0; have hz1 := hB1.z1; have B1 := Aside0.mk hB1; clear hB1)))
  go_ret
  exact ⟨rfl, (B1.out.set 3 _ rfl).mono (by omega)⟩

set_option maxHeartbeats 8000000 in
set_option maxRecDepth 100000 in
theorem add_s3 (w0 w : World) (p ba bu n : Nat) (A : Int → Option Int) (U : Int → Bool) (b1 b2 b3 : Int) (hB : Bd w0 w p ba bu n A U b1 b2 b3) (hn : n + 4 < maxLen) (ad : Addr) (c0 : Nat) (m a : Int)
    (g0 : w.cell? ad = some (.int .i64 3)) (g1 : w.cell? ⟨ad.block, ad.off + 1, none⟩ = some (.int .i64 m)) (g2 : w.cell? ⟨ad.block, ad.off + 2, none⟩ = some (.int .i64 a))
    (c2 : 1 ≤ m) (c3 : m ≤ 99) (c4 : 1 ≤ a) (c5 : a ≤ 1000) (c7 : (A m).isSome = true) (c8 : ¬ (a ≥ (A m).getD 0)) (nx : Int) (hnx : 1 ≤ nx ∧ nx ≤ 1000 ∧ U nx = false ∧ ∀ j, 1 ≤ j → j < nx → U j = true) (hfree : A nx = none) :
    Calls Try.prog 25 #[.pointer (some ⟨p, 0, none⟩), .slice (some ad) 3 c0] w fun ev w' => ev = .returned (.bool true) ∧ Bd w0 w' p ba bu (n + 2) (upd (upd A m (some (wrap64 ((A m).getD 0 - a)))) nx (some a)) (upd U nx true) b1 b2 b3 := by
  have HB := Aside0.mk hB
  have HN := Aside0.mk hn
  have hz0 := hB.z0
  have hz1 := hB.z1
  clear hB hn
  have hw1 : (decide (1 ≤ m) && decide (m ≤ 99)) = true := by simp [c2, c3]
  have hm : okI m := okI_small (by omega) (by omega)
  have hw2 : (decide (1 ≤ a) && decide (a ≤ 1000)) = true := by simp [c4, c5]
  have ha : okI a := okI_small (by omega) (by omega)
  have d6 : decide (a < 1) = false := decide_eq_false (by omega)
  have K7 : (A m).isSome = true := c7
  have K8 : U m = U m := rfl
  have K9 : (A a).isSome = (A a).isSome := rfl
  have d8 : decide ((A m).getD 0 ≤ a) = false := decide_eq_false c8
  have hk : okI nx := okI_small (by omega) (by omega)
  have NX := Aside0.mk hnx
  have hfr : upd A m (some (wrap64 ((A m).getD 0 - a))) nx = none := by rw [upd_other _ _ (fun e => by rw [e] at hfree; rw [hfree] at c7; cases c7)]; exact hfree
  clear hnx
  go_enter Try.func25, Try.ntmps25
  go_wp2_with (first
    | (go_at_call 32; (with_reducible refine (within_calls _ _ _ _).mono ?_); (first | rw [hw1] | rw [hw2]); rintro ev w1 ⟨rfl, ⟨m1, rfl⟩⟩)
    | ((with_reducible refine gate_dst (N := 38) rfl ?_); refine op_look rfl (N := 38) rfl rfl rfl rfl ((HB.out.same (by simp [drawnN_heap, World.drew]) (by repeat (first | (with_reducible first | exact HB.out.below | apply below_alloc | apply pw_below_drewN | apply below_drew1 | exact Below.drew HB.out.below) | exact HB.out.below))).a.look_ok hm) ?_; try rw [K7])
    | ((with_reducible refine gate_dst (N := 66) rfl ?_); refine op_look rfl (N := 66) rfl rfl rfl rfl ((HB.out.same (by simp [drawnN_heap, World.drew]) (by repeat (first | (with_reducible first | exact HB.out.below | apply below_alloc | apply pw_below_drewN | apply below_drew1 | exact Below.drew HB.out.below) | exact HB.out.below))).u.look hm) ?_; try rw [K8])
    | ((with_reducible refine gate_dst (N := 139) rfl ?_); refine op_look rfl (N := 139) rfl rfl rfl rfl ((HB.out.same (by simp [drawnN_heap, World.drew]) (by repeat (first | (with_reducible first | exact HB.out.below | apply below_alloc | apply pw_below_drewN | apply below_drew1 | exact Below.drew HB.out.below) | exact HB.out.below))).a.look_ok ha) ?_; try rw [K9])
    | ((with_reducible refine gate_dst (N := 154) rfl ?_); refine op_look rfl (N := 154) rfl rfl rfl rfl ((HB.out.same (by simp [drawnN_heap, World.drew]) (by repeat (first | (with_reducible first | exact HB.out.below | apply below_alloc | apply pw_below_drewN | apply below_drew1 | exact Below.drew HB.out.below) | exact HB.out.below))).a.look ha) ?_))
  go_region_held3 (fun w' => w'.cell? ad = some (.int .i64 3) ∧ w'.cell? ⟨ad.block, ad.off + 1, none⟩ = some (.int .i64 m) ∧ w'.cell? ⟨ad.block, ad.off + 2, none⟩ = some (.int .i64 a)) (go_keep) (fail)
  clear g0 g1 g2
  go_upto_region 22 with (first
    | (go_at_call 32; (with_reducible refine (within_calls _ _ _ _).mono ?_); (first | rw [hw1] | rw [hw2]); rintro ev w1 ⟨rfl, ⟨m1, rfl⟩⟩)
    | ((with_reducible refine gate_dst (N := 38) rfl ?_); refine op_look rfl (N := 38) rfl rfl rfl rfl ((HB.out.same (by simp [drawnN_heap, World.drew]) (by repeat (first | (with_reducible first | exact HB.out.below | apply below_alloc | apply pw_below_drewN | apply below_drew1 | exact Below.drew HB.out.below) | exact HB.out.below))).a.look_ok hm) ?_; try rw [K7])
    | ((with_reducible refine gate_dst (N := 66) rfl ?_); refine op_look rfl (N := 66) rfl rfl rfl rfl ((HB.out.same (by simp [drawnN_heap, World.drew]) (by repeat (first | (with_reducible first | exact HB.out.below | apply below_alloc | apply pw_below_drewN | apply below_drew1 | exact Below.drew HB.out.below) | exact HB.out.below))).u.look hm) ?_; try rw [K8])
    | ((with_reducible refine gate_dst (N := 139) rfl ?_); refine op_look rfl (N := 139) rfl rfl rfl rfl ((HB.out.same (by simp [drawnN_heap, World.drew]) (by repeat (first | (with_reducible first | exact HB.out.below | apply below_alloc | apply pw_below_drewN | apply below_drew1 | exact Below.drew HB.out.below) | exact HB.out.below))).a.look_ok ha) ?_; try rw [K9])
    | ((with_reducible refine gate_dst (N := 154) rfl ?_); refine op_look rfl (N := 154) rfl rfl rfl rfl ((HB.out.same (by simp [drawnN_heap, World.drew]) (by repeat (first | (with_reducible first | exact HB.out.below | apply below_alloc | apply pw_below_drewN | apply below_drew1 | exact Below.drew HB.out.below) | exact HB.out.below))).a.look ha) ?_)
    | ((at_mapUpdate; refine op_put rfl rfl rfl rfl rfl rfl (HB.out.same (by simp [drawnN_heap, World.drew]) (by repeat (first | (with_reducible first | exact HB.out.below | apply below_alloc | apply pw_below_drewN | apply below_drew1 | exact Below.drew HB.out.below) | exact HB.out.below))) (by have := HN.out; omega) hm (okI_wrap _) ?_; intro x1 hB1; have hz3 := hB1.z3; have hf3 := hB1.fz 3; have hz0 := hB1.z0; have hz1 := hB1.z1; have B1 := Aside0.mk hB1; clear hB1))
    | (go_at_call 17; (with_reducible refine (next_calls U nx p bu _ _ _ _ _ _ B1.out.bk B1.out.u NX.out.1 NX.out.2.1 NX.out.2.2.1 NX.out.2.2.2).mono ?_); rintro ev w2 ⟨rfl, ⟨m2, rfl⟩⟩))
  refine wp_bd (B1.out.same (by simp [drawnN_heap, World.drew]) (by repeat (first | (with_reducible first | exact B1.out.below | apply below_alloc | apply pw_below_drewN | apply below_drew1 | exact Below.drew B1.out.below) | exact B1.out.below))) ?_
  intro W hBW
  clear hz0 hz1 hz3 hf3
  obtain ⟨v0, v1, st, st', y1, y2, y3, y4, r1, r2, r3, r4, hB4⟩ := hBW.two (by have := HN.out; omega) hk ha hfr NX.out.2.2.1
  have hz0 := hBW.z0
  have hz1 := hBW.z1
  have B4 := Aside0.mk hB4
  clear hBW hB4
  go_region
  all_goals
    clear hz0 hz1 r1 r2 r3 r4
    go_wp2
    go_ret
    exact ⟨rfl, B4.out⟩

set_option maxHeartbeats 8000000 in
set_option maxRecDepth 100000 in
theorem add_s4 (w0 w : World) (p ba bu n : Nat) (A : Int → Option Int) (U : Int → Bool) (b1 b2 b3 : Int) (hB : Bd w0 w p ba bu n A U b1 b2 b3) (hn : n + 4 < maxLen) (ad : Addr) (c0 : Nat) (m a : Int)
    (g0 : w.cell? ad = some (.int .i64 4)) (g1 : w.cell? ⟨ad.block, ad.off + 1, none⟩ = some (.int .i64 m)) (g2 : w.cell? ⟨ad.block, ad.off + 2, none⟩ = some (.int .i64 a))
    (c2 : 1 ≤ m) (c3 : m ≤ 99) (c4 : 1 ≤ a) (c5 : a ≤ 1000) (c7 : (A m).isSome = true) (c8 : (A a).isSome = true) (c9 : ¬ a = m) :
    Calls Try.prog 25 #[.pointer (some ⟨p, 0, none⟩), .slice (some ad) 3 c0] w fun ev w' => ev = .returned (.bool true) ∧ Bd w0 w' p ba bu (n + 2) (upd (upd A a (some (wrap64 ((A a).getD 0 + (A m).getD 0)))) m none) U b1 b2 b3 := by
  have HB := Aside0.mk hB
  have HN := Aside0.mk hn
  have hz0 := hB.z0
  have hz1 := hB.z1
  clear hB hn
  have hw1 : (decide (1 ≤ m) && decide (m ≤ 99)) = true := by simp [c2, c3]
  have hm : okI m := okI_small (by omega) (by omega)
  have hw2 : (decide (1 ≤ a) && decide (a ≤ 1000)) = true := by simp [c4, c5]
  have ha : okI a := okI_small (by omega) (by omega)
  have d6 : decide (a < 1) = false := decide_eq_false (by omega)
  have K7 : (A m).isSome = true := c7
  have K8 : U m = U m := rfl
  have K9 := c8
  have d9 : (a == m) = false := beq_eq_false_iff_ne.mpr c9
  go_enter Try.func25, Try.ntmps25
  go_wp2_with (first
    | (go_at_call 32; (with_reducible refine (within_calls _ _ _ _).mono ?_); (first | rw [hw1] | rw [hw2]); rintro ev w1 ⟨rfl, ⟨m1, rfl⟩⟩)
    | ((with_reducible refine gate_dst (N := 38) rfl ?_); refine op_look rfl (N := 38) rfl rfl rfl rfl ((HB.out.same (by simp [drawnN_heap, World.drew]) (by repeat (first | (with_reducible first | exact HB.out.below | apply below_alloc | apply pw_below_drewN | apply below_drew1 | exact Below.drew HB.out.below) | exact HB.out.below))).a.look_ok hm) ?_; try rw [K7])
    | ((with_reducible refine gate_dst (N := 66) rfl ?_); refine op_look rfl (N := 66) rfl rfl rfl rfl ((HB.out.same (by simp [drawnN_heap, World.drew]) (by repeat (first | (with_reducible first | exact HB.out.below | apply below_alloc | apply pw_below_drewN | apply below_drew1 | exact Below.drew HB.out.below) | exact HB.out.below))).u.look hm) ?_; try rw [K8])
    | ((with_reducible refine gate_dst (N := 139) rfl ?_); refine op_look rfl (N := 139) rfl rfl rfl rfl ((HB.out.same (by simp [drawnN_heap, World.drew]) (by repeat (first | (with_reducible first | exact HB.out.below | apply below_alloc | apply pw_below_drewN | apply below_drew1 | exact Below.drew HB.out.below) | exact HB.out.below))).a.look_ok ha) ?_; try rw [K9])
    | ((with_reducible refine gate_dst (N := 154) rfl ?_); refine op_look rfl (N := 154) rfl rfl rfl rfl ((HB.out.same (by simp [drawnN_heap, World.drew]) (by repeat (first | (with_reducible first | exact HB.out.below | apply below_alloc | apply pw_below_drewN | apply below_drew1 | exact Below.drew HB.out.below) | exact HB.out.below))).a.look ha) ?_))
  go_region_held3 (fun w' => w'.cell? ad = some (.int .i64 4) ∧ w'.cell? ⟨ad.block, ad.off + 1, none⟩ = some (.int .i64 m) ∧ w'.cell? ⟨ad.block, ad.off + 2, none⟩ = some (.int .i64 a)) (go_keep) (fail)
  clear g0 g1 g2
  go_wp2_with (first
    | (go_at_call 32; (with_reducible refine (within_calls _ _ _ _).mono ?_); (first | rw [hw1] | rw [hw2]); rintro ev w1 ⟨rfl, ⟨m1, rfl⟩⟩)
    | ((with_reducible refine gate_dst (N := 38) rfl ?_); refine op_look rfl (N := 38) rfl rfl rfl rfl ((HB.out.same (by simp [drawnN_heap, World.drew]) (by repeat (first | (with_reducible first | exact HB.out.below | apply below_alloc | apply pw_below_drewN | apply below_drew1 | exact Below.drew HB.out.below) | exact HB.out.below))).a.look_ok hm) ?_; try rw [K7])
    | ((with_reducible refine gate_dst (N := 66) rfl ?_); refine op_look rfl (N := 66) rfl rfl rfl rfl ((HB.out.same (by simp [drawnN_heap, World.drew]) (by repeat (first | (with_reducible first | exact HB.out.below | apply below_alloc | apply pw_below_drewN | apply below_drew1 | exact Below.drew HB.out.below) | exact HB.out.below))).u.look hm) ?_; try rw [K8])
    | ((with_reducible refine gate_dst (N := 139) rfl ?_); refine op_look rfl (N := 139) rfl rfl rfl rfl ((HB.out.same (by simp [drawnN_heap, World.drew]) (by repeat (first | (with_reducible first | exact HB.out.below | apply below_alloc | apply pw_below_drewN | apply below_drew1 | exact Below.drew HB.out.below) | exact HB.out.below))).a.look_ok ha) ?_; try rw [K9])
    | ((with_reducible refine gate_dst (N := 154) rfl ?_); refine op_look rfl (N := 154) rfl rfl rfl rfl ((HB.out.same (by simp [drawnN_heap, World.drew]) (by repeat (first | (with_reducible first | exact HB.out.below | apply below_alloc | apply pw_below_drewN | apply below_drew1 | exact Below.drew HB.out.below) | exact HB.out.below))).a.look ha) ?_)
    | ((at_mapUpdate; refine op_put rfl rfl rfl rfl rfl rfl (HB.out.same (by simp [drawnN_heap, World.drew]) (by repeat (first | (with_reducible first | exact HB.out.below | apply below_alloc | apply pw_below_drewN | apply below_drew1 | exact Below.drew HB.out.below) | exact HB.out.below))) (by have := HN.out; omega) ha (okI_wrap _) ?_; intro x1 hB1; have hz0 := hB1.z0; have hz1 := hB1.z1; have B1 := Aside0.mk hB1; clear hB1))
    | ((at_delete; refine op_dele rfl rfl rfl rfl rfl (B1.out.same (by simp [drawnN_heap, World.drew]) (by repeat (first | (with_reducible first | exact B1.out.below | apply below_alloc | apply pw_below_drewN | apply below_drew1 | exact Below.drew B1.out.below) | exact B1.out.below))) hm ?_; intro x2 hB2; have B2 := Aside0.mk hB2; clear hB2)))
  go_ret
  exact ⟨rfl, B2.out.mono (by omega)⟩

set_option maxHeartbeats 8000000 in
set_option maxRecDepth 100000 in
theorem add_s5 (w0 w : World) (p ba bu n : Nat) (A : Int → Option Int) (U : Int → Bool) (b1 b2 b3 : Int) (hB : Bd w0 w p ba bu n A U b1 b2 b3) (hn : n + 4 < maxLen) (ad : Addr) (c0 : Nat) (m a : Int)
    (g0 : w.cell? ad = some (.int .i64 5)) (g1 : w.cell? ⟨ad.block, ad.off + 1, none⟩ = some (.int .i64 m)) (g2 : w.cell? ⟨ad.block, ad.off + 2, none⟩ = some (.int .i64 a))
    (c2 : 1 ≤ m) (c3 : m ≤ 99) (c4 : 1 ≤ a) (c7 : (A m).isSome = true) (c8 : a = (A m).getD 0) :
    Calls Try.prog 25 #[.pointer (some ⟨p, 0, none⟩), .slice (some ad) 3 c0] w fun ev w' => ev = .returned (.bool true) ∧ Bd w0 w' p ba bu (n + 2) (upd A m none) U b1 b2 (wrap64 (b3 + a)) := by
  have HB := Aside0.mk hB
  have HN := Aside0.mk hn
  have hz0 := hB.z0
  have hz1 := hB.z1
  clear hB hn
  have hw1 : (decide (1 ≤ m) && decide (m ≤ 99)) = true := by simp [c2, c3]
  have hm : okI m := okI_small (by omega) (by omega)
  have hw2 := hw1
  have ha := hm
  have d6 : decide (a < 1) = false := decide_eq_false (by omega)
  have K7 : (A m).isSome = true := c7
  have K8 : U m = U m := rfl
  have K9 : (A a).isSome = (A a).isSome := rfl
  have d8 : (a != (A m).getD 0) = false := bne_eq_false_iff_eq.mpr c8
  have d9 : (a == (A m).getD 0) = true := beq_iff_eq.mpr c8
  have hz4 := HB.out.z4
  have hf4 := HB.out.fz 4
  clear c8
  go_enter Try.func25, Try.ntmps25
  go_wp2_with (first
    | (go_at_call 32; (with_reducible refine (within_calls _ _ _ _).mono ?_); (first | rw [hw1] | rw [hw2]); rintro ev w1 ⟨rfl, ⟨m1, rfl⟩⟩)
    | ((with_reducible refine gate_dst (N := 38) rfl ?_); refine op_look rfl (N := 38) rfl rfl rfl rfl ((HB.out.same (by simp [drawnN_heap, World.drew]) (by repeat (first | (with_reducible first | exact HB.out.below | apply below_alloc | apply pw_below_drewN | apply below_drew1 | exact Below.drew HB.out.below) | exact HB.out.below))).a.look_ok hm) ?_; try rw [K7])
    | ((with_reducible refine gate_dst (N := 66) rfl ?_); refine op_look rfl (N := 66) rfl rfl rfl rfl ((HB.out.same (by simp [drawnN_heap, World.drew]) (by repeat (first | (with_reducible first | exact HB.out.below | apply below_alloc | apply pw_below_drewN | apply below_drew1 | exact Below.drew HB.out.below) | exact HB.out.below))).u.look hm) ?_; try rw [K8])
    | ((with_reducible refine gate_dst (N := 139) rfl ?_); refine op_look rfl (N := 139) rfl rfl rfl rfl ((HB.out.same (by simp [drawnN_heap, World.drew]) (by repeat (first | (with_reducible first | exact HB.out.below | apply below_alloc | apply pw_below_drewN | apply below_drew1 | exact Below.drew HB.out.below) | exact HB.out.below))).a.look_ok ha) ?_; try rw [K9])
    | ((with_reducible refine gate_dst (N := 154) rfl ?_); refine op_look rfl (N := 154) rfl rfl rfl rfl ((HB.out.same (by simp [drawnN_heap, World.drew]) (by repeat (first | (with_reducible first | exact HB.out.below | apply below_alloc | apply pw_below_drewN | apply below_drew1 | exact Below.drew HB.out.below) | exact HB.out.below))).a.look ha) ?_))
  go_region_held3 (fun w' => w'.cell? ad = some (.int .i64 5) ∧ w'.cell? ⟨ad.block, ad.off + 1, none⟩ = some (.int .i64 m) ∧ w'.cell? ⟨ad.block, ad.off + 2, none⟩ = some (.int .i64 a)) (go_keep) (fail)
  clear g0 g1 g2
  go_wp2_with (first
    | (go_at_call 32; (with_reducible refine (within_calls _ _ _ _).mono ?_); (first | rw [hw1] | rw [hw2]); rintro ev w1 ⟨rfl, ⟨m1, rfl⟩⟩)
    | ((with_reducible refine gate_dst (N := 38) rfl ?_); refine op_look rfl (N := 38) rfl rfl rfl rfl ((HB.out.same (by simp [drawnN_heap, World.drew]) (by repeat (first | (with_reducible first | exact HB.out.below | apply below_alloc | apply pw_below_drewN | apply below_drew1 | exact Below.drew HB.out.below) | exact HB.out.below))).a.look_ok hm) ?_; try rw [K7])
    | ((with_reducible refine gate_dst (N := 66) rfl ?_); refine op_look rfl (N := 66) rfl rfl rfl rfl ((HB.out.same (by simp [drawnN_heap, World.drew]) (by repeat (first | (with_reducible first | exact HB.out.below | apply below_alloc | apply pw_below_drewN | apply below_drew1 | exact Below.drew HB.out.below) | exact HB.out.below))).u.look hm) ?_; try rw [K8])
    | ((with_reducible refine gate_dst (N := 139) rfl ?_); refine op_look rfl (N := 139) rfl rfl rfl rfl ((HB.out.same (by simp [drawnN_heap, World.drew]) (by repeat (first | (with_reducible first | exact HB.out.below | apply below_alloc | apply pw_below_drewN | apply below_drew1 | exact Below.drew HB.out.below) | exact HB.out.below))).a.look_ok ha) ?_; try rw [K9])
    | ((with_reducible refine gate_dst (N := 154) rfl ?_); refine op_look rfl (N := 154) rfl rfl rfl rfl ((HB.out.same (by simp [drawnN_heap, World.drew]) (by repeat (first | (with_reducible first | exact HB.out.below | apply below_alloc | apply pw_below_drewN | apply below_drew1 | exact Below.drew HB.out.below) | exact HB.out.below))).a.look ha) ?_)
    | ((at_delete; refine op_dele rfl rfl rfl rfl rfl (((HB.out.same (by simp [drawnN_heap, World.drew]) (by repeat (first | (with_reducible first | exact HB.out.below | apply below_alloc | apply pw_below_drewN | apply below_drew1 | exact Below.drew HB.out.below) | exact HB.out.below)))).set 4 _ rfl) hm ?_; intro x2 hB2; have B2 := Aside0.mk hB2; clear hB2)))
  go_ret
  exact ⟨rfl, B2.out.mono (by omega)⟩

end Go.Proofs.Ytpmpcaahbhdiiaa.Ledger

