-- Printed for this claim by a changed copy of the kit's print (the session's own; own contracts in place of some functions).
import Derived.Test.YtelhjgkjnlcomaaDoorQFnExactStoreLinex0
import Derived.Test.YtelhjgkjnlcomaaDoorQFnExactStoreLinex1
namespace Go.Proofs.YtelhjgkjnlcomaaDoor.QFnExactStoreLine
open Go.RowKit Go.Proofs.YtelhjgkjnlcomaaDoorW.PrintWords Go.Proofs.YtelhjgkjnlcomaaDoorW.PrintLast Go.Proofs.YtelhjgkjnlcomaaDoorW.PrintMore
attribute [local go_sem] max2_int min2_int max_two min_two max_three min_three max_four min_four   -- for this text's walks alone
set_option linter.unusedVariables false
set_option linter.unusedSimpArgs false

/-! ### spec_SortStore: function 35 -/
--import Derived.WalkSpells
--import Derived.Deep.QuietTactic
--import Derived.Deep.CutBlock
--import Derived.BigQuiet
--import Derived.Deep.RegionHeld3
def spec_SortStore.row (r : List Int) : Bool := decide (r.length = 2) && ((decide (1 ≤ rd r 0) && decide (rd r 0 ≤ 100)) && (decide (1 ≤ rd r 1) && decide (rd r 1 ≤ 100)))
def spec_SortStore.gt (s r : List Int) : Bool := decide (rd r 0 * rd r 1 < rd s 0 * rd s 1) || (decide (rd s 0 * rd s 1 = rd r 0 * rd r 1) && decide (rd r 0 < rd s 0))
def spec_SortStore.pos (o : List (List Int)) (r : List Int) : Nat → Nat
  | 0 => 0
  | k + 1 => if spec_SortStore.gt (o.getD k []) r = true then spec_SortStore.pos o r k else k + 1
def spec_SortStore.ins (o : List (List Int)) (r : List Int) : List (List Int) := (o.take (spec_SortStore.pos o r o.length) ++ [[rd r 0, rd r 1]]) ++ o.drop (spec_SortStore.pos o r o.length)
def spec_SortStore.run (l : List (List Int)) : List (List Int) := l.foldl spec_SortStore.ins []
def spec_SortStore.f (k : Nat) (l0 : List (List Int)) : Option (List (List Int)) := (spec_StoreOk.f k l0).bind fun t => if t = true then (if l0.all spec_SortStore.row = true ∧ l0.length ≤ 20 then some (spec_SortStore.run l0) else none) else some []
theorem spec_SortStore.mono : ∀ a0 k, LeO (spec_SortStore.f k a0) (spec_SortStore.f (k + 1) a0) := by
  intro a0 k
  unfold spec_SortStore.f
  exact LeO.bind (spec_StoreOk.mono _ _) (fun _ => LeO.refl _)
theorem spec_SortStore.pos_le (o : List (List Int)) (r : List Int) : ∀ k, spec_SortStore.pos o r k ≤ k
  | 0 => Nat.le_refl _
  | k + 1 => by
    rw [spec_SortStore.pos]
    split
    · have := spec_SortStore.pos_le o r k; omega
    · omega
theorem spec_SortStore.row_ok {r : List Int} (h : spec_SortStore.row r = true) : r.length = 2 ∧ (1 ≤ rd r 0 ∧ rd r 0 ≤ 100) ∧ (1 ≤ rd r 1 ∧ rd r 1 ≤ 100) := by
  unfold spec_SortStore.row at h
  simp only [Bool.and_eq_true, decide_eq_true_eq] at h
  exact ⟨h.1, h.2.1, h.2.2⟩
theorem spec_SortStore.ins_row {o : List (List Int)} {r : List Int} (ho : ∀ s ∈ o, spec_SortStore.row s = true) (hr : spec_SortStore.row r = true) : ∀ s ∈ spec_SortStore.ins o r, spec_SortStore.row s = true := by
  intro s hs
  unfold spec_SortStore.ins at hs
  rw [List.mem_append, List.mem_append, List.mem_singleton] at hs
  rcases hs with (hs | rfl) | hs
  · exact ho s (List.mem_of_mem_take hs)
  · unfold spec_SortStore.row at hr ⊢
    simp only [Bool.and_eq_true, decide_eq_true_eq] at hr ⊢
    exact ⟨rfl, hr.2⟩
  · exact ho s (List.mem_of_mem_drop hs)
theorem spec_SortStore.ins_len (o : List (List Int)) (r : List Int) : (spec_SortStore.ins o r).length = o.length + 1 := by
  have := spec_SortStore.pos_le o r o.length
  unfold spec_SortStore.ins
  rw [List.length_append, List.length_append, List.length_take, List.length_drop, List.length_singleton]
  omega
theorem spec_SortStore.fold_ok : ∀ (l o : List (List Int)), (∀ s ∈ l, spec_SortStore.row s = true) → (∀ s ∈ o, spec_SortStore.row s = true) → (∀ s ∈ l.foldl spec_SortStore.ins o, spec_SortStore.row s = true) ∧ (l.foldl spec_SortStore.ins o).length = o.length + l.length
  | [], o, _, ho => ⟨ho, rfl⟩
  | r :: l, o, hl, ho => by
    have h := spec_SortStore.fold_ok l (spec_SortStore.ins o r) (fun s hs => hl s (List.mem_cons_of_mem _ hs)) (spec_SortStore.ins_row ho (hl r (List.mem_cons_self ..)))
    refine ⟨h.1, ?_⟩
    have h2 := h.2
    rw [spec_SortStore.ins_len] at h2
    rw [List.foldl_cons, h2, List.length_cons]
    omega
theorem spec_SortStore.run_take (l : List (List Int)) (j : Nat) (h : j < l.length) : spec_SortStore.run (l.take (j + 1)) = spec_SortStore.ins (spec_SortStore.run (l.take j)) (l.getD j []) := by
  have e : l.take (j + 1) = l.take j ++ [l.getD j []] := by
    rw [List.take_succ_eq_append_getElem h]
    congr 1
    simp [List.getD_eq_getElem?_getD, List.getElem?_eq_getElem h]
  unfold spec_SortStore.run
  rw [e, List.foldl_append]
  rfl
theorem spec_SortStore.rowAt {w : World} {A : Option Addr} {n : Nat} {xs : List (List Int)} (h : Kd.C (Kd.slice 3 (Kd.int .i64)) w A n xs) (i : Int) (h0 : 0 ≤ i) (h1 : i < n) : ∃ ad A0 c0, A = some ad ∧ w.cell? (ad.add i.toNat) = some (.slice A0 (xs.getD i.toNat []).length c0) ∧ (Kd.int .i64).C w A0 (xs.getD i.toNat []).length (xs.getD i.toNat []) := by
  obtain ⟨ad, c, e, _, hK, hc0⟩ := Kd.C_get h ([] : List Int) i h0 h1
  have hc : ∀ j u, c[j]? = some u → w.cell? (ad.add (i.toNat * 1 + j)) = some u := hc0
  obtain ⟨A0, c0, rfl, l0, g0⟩ := hK
  exact ⟨ad, A0, c0, e, by have hq := hc 0 _ rfl; rwa [Nat.mul_one, Nat.add_zero] at hq, g0⟩
theorem spec_SortStore.two {w : World} {A : Option Addr} {r : List Int} (h : (Kd.int .i64).C w A r.length r) (h2 : r.length = 2) : ∃ a, A = some a ∧ w.cell? a = some (.int .i64 (rd r 0)) ∧ w.cell? (a.add 1) = some (.int .i64 (rd r 1)) := by
  obtain ⟨a, e, h0⟩ := Kd.at_int h 0 (by omega) (by omega)
  obtain ⟨a', e', h1⟩ := Kd.at_int h 1 (by omega) (by omega)
  rw [e] at e'
  obtain rfl : a = a' := by injection e'
  refine ⟨a, e, ?_, h1⟩
  rw [show ((0 : Int)).toNat = 0 from rfl, Addr.add_zero'] at h0; exact h0
theorem spec_SortStore.mul_w {a b : Int} (ha : 1 ≤ a ∧ a ≤ 100) (hb : 1 ≤ b ∧ b ≤ 100) : wrap64 (a * b) = a * b := by
  have h1 : 1 * 1 ≤ a * b := Int.mul_le_mul ha.1 hb.1 (by omega) (by omega)
  have h2 : a * b ≤ 100 * 100 := Int.mul_le_mul ha.2 hb.2 (by omega) (by omega)
  unfold wrap64; omega
def spec_SortStore.T11 : Bool × List (List Nat × List Nat) := (true, [([], []), ([], []), ([1], [1]), ([2], [2]), ([], []), ([4], [4]), ([5], [5]), ([3, 6], [3, 6]), ([7], [7]), ([0, 8], [0, 8]), ([9, 9, 0, 1, 2, 3, 4, 5, 6, 7, 8, 9], [0, 9])])
def spec_SortStore.B11 : List Nat := [0, 0, 2, 6, 0, 16, 48, 126, 254, 511, 1023]
theorem spec_SortStore.tab11 : rtab .any (opsOf Tryd.f35 11) = spec_SortStore.T11 := by kernel_rfl
theorem spec_SortStore.bits11 : waitsOk spec_SortStore.T11.2 spec_SortStore.B11 = true := by kernel_rfl
theorem spec_SortStore.b1 {w : World} {g : Nat} {o : Obj} (h : w.heap[g]? = some o) (n : Nat) : (w.drewN n).heap[g]? = some o := blk_drewN h n
theorem spec_SortStore.b2 {w : World} {g : Nat} {o : Obj} (h : w.heap[g]? = some o) : w.drew.heap[g]? = some o := blk_drew h
theorem spec_SortStore.b3 {w : World} {g : Nat} {o : Obj} (h : w.heap[g]? = some o) (o' : Obj) : (w.alloc o').heap[g]? = some o := blk_alloc h o'
theorem spec_SortStore.c1 {w W : World} (h : Below w.heap.size w W) (o : Obj) : Below w.heap.size w (W.alloc o) := below_alloc h o
theorem spec_SortStore.c2 {B : Nat} {w W : World} (h : Below B w W) (n : Nat) : Below B w (W.drewN n) := pw_below_drewN h n
theorem spec_SortStore.c3 {base : Nat} {w W : World} (h : Below base w W) : Below base w W.drew := below_drew1 h
theorem spec_SortStore.c4 {w W : World} {g j : Nat} {v : Value} (h : Below w.heap.size w W) (hg : w.heap.size ≤ g) : Below w.heap.size w (W.setCell ⟨g, j, none⟩ v) := below_set h hg
theorem spec_SortStore.c5 {w W : World} (h : Below w.heap.size w W) : w.heap.size ≤ W.heap.size := below_size h
theorem spec_SortStore.c6 {w W w2 : World} (h : Below w.heap.size w W) (k : Below W.heap.size W w2) : Below w.heap.size w w2 := below_step h k
theorem spec_SortStore.d1 {w w1 : World} {g : Nat} {o : Obj} (h : w.heap[g]? = some o) (hb : Below w.heap.size w w1) : w1.heap[g]? = some o := blk_below h hb
theorem spec_SortStore.d2 {w : World} {g : Nat} {o : Obj} (h : w.heap[g]? = some o) : g < w.heap.size := blk_lt h
theorem spec_SortStore.m1 {p : Prop} (h : p) : Aside0 p := ⟨h⟩
structure spec_SortStore.Kp (w W : World) : Prop where
  k : ∀ (g : Nat) (o : Obj), w.heap[g]? = some o → W.heap[g]? = some o
attribute [class] spec_SortStore.Kp
instance spec_SortStore.i0 (w : World) : spec_SortStore.Kp w w := ⟨fun _ _ h => h⟩
instance spec_SortStore.i1 (w W : World) (n : Nat) [i : spec_SortStore.Kp w W] : spec_SortStore.Kp w (W.drewN n) := ⟨fun g o h => blk_drewN (i.k g o h) n⟩
instance spec_SortStore.i2 (w W : World) [i : spec_SortStore.Kp w W] : spec_SortStore.Kp w W.drew := ⟨fun g o h => blk_drew (i.k g o h)⟩
instance spec_SortStore.i3 (w W : World) (o' : Obj) [i : spec_SortStore.Kp w W] : spec_SortStore.Kp w (W.alloc o') := ⟨fun g o h => blk_alloc (i.k g o h) o'⟩
theorem spec_SortStore.b4 {w W : World} {g : Nat} {o : Obj} (h : w.heap[g]? = some o) [i : spec_SortStore.Kp w W] : W.heap[g]? = some o := i.k g o h
abbrev spec_SortStore.Y : Bool := true
abbrev spec_SortStore.Z : Bool := false
theorem spec_SortStore.q1 {α : Type} (l : List α) (i : Nat) (a : α) : l.toArray.setIfInBounds i a = (l.set i a).toArray := List.setIfInBounds_toArray ..
theorem spec_SortStore.q2 {α : Type} (x a : α) (l : List α) : (x :: l).set 0 a = a :: l := List.set_cons_zero ..
theorem spec_SortStore.q3 {α : Type} (x a : α) (l : List α) (n : Nat) : (x :: l).set (n + 1) a = x :: l.set n a := List.set_cons_succ ..
abbrev spec_SortStore.sA := @Kd.S_alloc
abbrev spec_SortStore.sB := @Kd.S_drewN
abbrev spec_SortStore.sC := @Kd.S_drew
abbrev spec_SortStore.rA := @Kd.R_alloc
abbrev spec_SortStore.rB := @Kd.R_drewN
abbrev spec_SortStore.rC := @Kd.R_drew
set_option maxHeartbeats 8000000 in
set_option maxRecDepth 100000 in
theorem spec_SortStore.calls (k : Nat) (A0 : Option Addr) (c0 : Nat) (l0 : List (List Int)) (r : List (List Int)) (w : World) (hr0 : Kd.C (Kd.slice 3 (Kd.int .i64)) w A0 l0.length l0) (hc0 : l0.length ≤ c0) (h : spec_SortStore.f k l0 = some r) :
    Calls Tryd.prog 35 #[.slice A0 l0.length c0] w fun e w' => ∃ v0_ : Value, e = .returned (v0_) ∧ Kd.N (Kd.slice 3 (Kd.int .i64)) 22 w' w.heap.size (fun k_ => (w.heap.size ≤ k_)) v0_ r ∧ Below w.heap.size w w' := by
  have HR0 := m1 hr0
  have HC0 := m1 hc0
  clear hr0 hc0
  have HB := m1 (Below.refl w.heap.size w)
  unfold spec_SortStore.f at h
  rw [Option.bind_eq_some_iff] at h
  obtain ⟨t, ht, h⟩ := h
  have A2 := m1 ht
  clear ht
  cases t with
  | false =>
    rw [if_neg (by decide)] at h
    obtain rfl := Option.some.inj h
    clear h
    go_enter Tryd.func35, Tryd.ntmps35
    go_wp2_with (first | ((with_reducible refine gate_callee (f := 34) rfl ?_); refine goesL_ (some 9) rfl rfl Tryd.func34 (by kernel_rfl) rfl #[.slice A0 l0.length c0] rfl (by (try simp only [List.map_toArray, List.map_cons, List.map_nil]); first | done | rfl) ?_; (with_reducible refine (spec_StoreOk.calls k _ _ l0 false _ HR0.out HC0.out A2.out).mono ?_); rintro e w' ⟨rfl, ⟨nd, rfl⟩⟩; refine ⟨_, rfl, ?_⟩))
    go_ret
    exact ⟨_, by first | rfl | (simp [*]; done), Kd.N_nil _ _ _ _ _, by repeat (first | (with_reducible first | exact HB.out | apply c1 | apply c2 | apply c3) | exact HB.out)⟩
  | true =>
    rw [if_pos rfl] at h
    by_cases hall : l0.all spec_SortStore.row = true ∧ l0.length ≤ 20
    case neg => rw [if_neg hall] at h; cases h
    rw [if_pos hall] at h
    obtain rfl := Option.some.inj h
    have ALL := m1 (List.all_eq_true.1 hall.1)
    have L20 := m1 hall.2
    clear h hall
    obtain ⟨y122, hy122⟩ : ∃ y_ : List (List Int), y_ = (([] : List (List Int))) := ⟨_, rfl⟩
    have Ny122 := m1 hy122
    clear hy122
    go_enter Tryd.func35, Tryd.ntmps35
    go_wp2_with (first | ((with_reducible refine gate_callee (f := 34) rfl ?_); refine goesL_ (some 9) rfl rfl Tryd.func34 (by kernel_rfl) rfl #[.slice A0 l0.length c0] rfl (by (try simp only [List.map_toArray, List.map_cons, List.map_nil]); first | done | rfl) ?_; (with_reducible refine (spec_StoreOk.calls k _ _ l0 true _ HR0.out HC0.out A2.out).mono ?_); rintro e w' ⟨rfl, ⟨nd, rfl⟩⟩; refine ⟨_, rfl, ?_⟩) | ((with_reducible refine gate_dst (N := 11) rfl ?_); refine Kd.N_lit (Kd.slice 3 (Kd.int .i64)) _ 22 ?hg (N' := 11) ?hd (xs := ([] : List (List Int))) (inner := []) (ok := (fun k_ => (w.heap.size ≤ k_))) (okp := (fun k_ => (w.heap.size ≤ k_))) ?hr ?hp (fun _ hk => hk) ((show ∀ k_, w.heap.size ≤ k_ → (fun k_ => (w.heap.size ≤ k_)) k_ from fun k_ hk => (Nat.le_trans (c5 (by repeat (first | (with_reducible first | exact HB.out | apply c1 | apply c2 | apply c3) | exact HB.out))) hk)) _ (Nat.le_refl _)) (Below.refl _ _) (Nat.le_refl _) (by simp) ?_; (case hd => rfl); (case hg => rfl); (case hr => first | (go_simp; done) | (go_simp; rfl)); (case hp => exact (Reps.none _ _)); intro v123 w4 ho5 hb hg_ hnew_; clear hg_ hnew_; (first | rw [← Ny122.out] at ho5 | (simp only [Int.reduceToNat] at ho5; rw [← Ny122.out] at ho5)); have n0_ := m1 (Kd.N_lower ho5 (c5 (by repeat (first | (with_reducible first | exact HB.out | apply c1 | apply c2 | apply c3) | exact HB.out)))); have n1_ := m1 (c6 (by repeat (first | (with_reducible first | exact HB.out | apply c1 | apply c2 | apply c3) | exact HB.out)) hb); clear HB; have HO124 := n0_; have HB := n1_; clear n0_ n1_; clear hb ho5))
    go_loopg [3, 14] l0.length (fun kq v3 v14 w' => ∃ (x3_1 : List (List Int)) (j : Nat), v14 = .int .i64 (j : Int) ∧ Aside0 (x3_1 = spec_SortStore.run (l0.take j)) ∧ Aside0 (j + kq = l0.length) ∧ Aside0 (Kd.N (Kd.slice 3 (Kd.int .i64)) 22 w' w.heap.size (fun k_ => (w.heap.size ≤ k_)) v3 x3_1) ∧ Aside0 (Below w.heap.size w w'))
    case atStart => exact ⟨y122, 0, (by first | rfl | (simp; done) | (simp [*]; done)), ⟨Ny122.out⟩, ⟨Nat.zero_add _⟩, ⟨by (with_reducible repeat (first | apply Kd.N_alloc | apply Kd.N_drewN | apply Kd.N_drew)); exact HO124.out⟩, ⟨by repeat (first | (with_reducible first | exact HB.out | apply c1 | apply c2 | apply c3) | exact HB.out)⟩⟩
    case round =>
      clear HB HO124
      obtain ⟨x3_1, j, rfl, HX, HJ, HO_3, HB⟩ := hrel
      by_cases c : j < l0.length
      · have CJ := m1 c
        have c6b0 : decide ((j : Int) < (l0.length : Int)) = true := decide_eq_true (by omega)
        obtain ⟨ad125, A125_0, c125_0, e125, hx125_0, hi125_0⟩ := spec_SortStore.rowAt HR0.out (j : Int) (by omega) (by omega)
        cases e125
        replace hx125_0 : w.cell? (ad125.add j) = some (.slice A125_0 (l0.getD j []).length c125_0) := hx125_0
        replace hi125_0 : (Kd.int .i64).C w A125_0 (l0.getD j []).length (l0.getD j []) := hi125_0
        obtain ⟨r5, h5⟩ : ∃ r5, r5 = l0.getD j [] := ⟨_, rfl⟩
        rw [← h5] at hx125_0 hi125_0
        have h5m : spec_SortStore.row r5 = true := ALL.out r5 (by rw [h5, List.getD_eq_getElem?_getD, List.getElem?_eq_getElem c]; exact List.getElem_mem c)
        have H5 := m1 h5
        have OK5 := m1 (spec_SortStore.row_ok h5m)
        have ROW5 := m1 h5m
        have hxr := (HB.out.cell (World.block_lt_of_cell? w _ hx125_0)).trans hx125_0
        have HXO := m1 (show (∀ s ∈ x3_1, spec_SortStore.row s = true) ∧ x3_1.length = j from by
          have h := spec_SortStore.fold_ok (l0.take j) [] (fun s hs => ALL.out s (List.mem_of_mem_take hs)) (fun s hs => by cases hs)
          rw [HX.out]
          refine ⟨h.1, ?_⟩
          have h2 := h.2
          rw [List.length_take, List.length_nil] at h2
          show (List.foldl spec_SortStore.ins [] (l0.take j)).length = j
          rw [h2]
          omega)
        have HR125_0 := m1 hi125_0
        obtain ⟨Ao9, co9, eo9⟩ := Kd.N_slice HO_3.out
        subst eo9
        have p0 : (0 : Int) ≤ (j : Int) := by omega
        have p1 : (j : Int) < (l0.length : Int) := by omega
        replace p0 := eq_true p0
        replace p1 := eq_true p1
        clear c h5 h5m hi125_0 hx125_0
        go_upto_block 2 with (fail)
        go_cut [6] (fun v6 wc => ∃ x6 : Int, v6 = .int .i64 x6 ∧ Aside0 (x6 = (spec_SortStore.pos x3_1 r5 x3_1.length : Int)) ∧ ∃ m, wc = wr.drewN m)
        case first =>
          go_wp2
          go_loopg [6] x3_1.length (fun kq v6 w' => ∃ x6 : Int, v6 = .int .i64 x6 ∧ (∃ p : Nat, Aside0 (x6 = (p : Int)) ∧ Aside0 (spec_SortStore.pos x3_1 r5 p = spec_SortStore.pos x3_1 r5 x3_1.length) ∧ Aside0 (p ≤ x3_1.length ∧ p ≤ kq)) ∧ ∃ m, w' = wr.drewN m)
          case atStart => exact ⟨(x3_1.length : Int), (by first | rfl | (simp; done) | (simp [*]; done)), ⟨x3_1.length, ⟨rfl⟩, ⟨rfl⟩, ⟨⟨Nat.le_refl _, Nat.le_refl _⟩⟩⟩, ⟨0, rfl⟩⟩
          case round =>
            obtain ⟨x6, rfl, ⟨p, HP6, HPP, HPL⟩, ⟨m0, hm0⟩⟩ := hrel
            cases p with
            | zero =>
              have HP7 := m1 (show x6 = 0 from HP6.out)
              have b0 : decide (0 < x6) = false := decide_eq_false (by have := HP7.out; omega)
              have HPP2 := m1 (show x6 = (spec_SortStore.pos x3_1 r5 x3_1.length : Int) by rw [HP7.out, ← HPP.out]; rfl)
              subst hm0
              clear HP6
              go_wp2
              try simp only [List.append_eq, List.cons_append, List.nil_append]
              go_quiet (fail)
              all_goals
                go_wp2
                go_meet
                case rel => exact ⟨x6, rfl, HPP2, by first | exact ⟨_, rfl⟩ | (simp; exact ⟨_, rfl⟩)⟩
            | succ q =>
              have hq := HPL.out.1
              have hx6 := HP6.out
              have b0 : decide (0 < x6) = true := decide_eq_true (by omega)
              obtain ⟨ji, hji⟩ : ∃ ji : Int, ji = (q : Int) := ⟨_, rfl⟩
              have L20' := L20.out
              have CJ' := CJ.out
              have XL := HXO.out.2
              have hjw : IntKind.i64.wrap (x6 - 1) = ji := by rw [i64_w]; unfold wrap64; omega
              have j0 : 0 ≤ ji := by omega
              have j1 : ji < (x3_1.length : Int) := by omega
              subst hm0
              obtain ⟨_, _, hC⟩ := Kd.N_reads' HO_3.out
              obtain ⟨ad9, A9, c9, e9, hx9, hC9⟩ := spec_SortStore.rowAt hC ji j0 j1
              cases e9
              have eq_ : ji.toNat = q := by omega
              have hs : spec_SortStore.row (x3_1.getD ji.toNat []) = true := HXO.out.1 _ (by rw [eq_, List.getD_eq_getElem?_getD, List.getElem?_eq_getElem (by omega)]; exact List.getElem_mem _)
              obtain ⟨s9, hs9⟩ : ∃ s9, s9 = x3_1.getD ji.toNat [] := ⟨_, rfl⟩
              rw [← hs9] at hx9 hC9 hs
              have hok9 := spec_SortStore.row_ok hs
              obtain ⟨a9, e9, hy0, hy1⟩ := spec_SortStore.two hC9 hok9.1
              subst e9
              rw [hok9.1] at hx9
              have hb5 : Kd.C (Kd.int .i64) wr A125_0 r5.length r5 := Kd.C_below HR125_0.out HB.out
              obtain ⟨a5, e5, hz0, hz1⟩ := spec_SortStore.two hb5 OK5.out.1
              cases e5
              have HPQ := m1 (show spec_SortStore.pos x3_1 r5 x3_1.length = if spec_SortStore.gt s9 r5 = true then spec_SortStore.pos x3_1 r5 q else q + 1 by rw [← HPP.out, hs9, eq_]; rfl)
              have HJQ := m1 hji
              have HQL := m1 (show q ≤ x3_1.length ∧ q + 1 ≤ gk by have := HPL.out.2; omega)
              have HX6 := m1 hx6
              have mw1 := spec_SortStore.mul_w hok9.2.1 hok9.2.2
              have mw2 := spec_SortStore.mul_w OK5.out.2.1 OK5.out.2.2
              obtain ⟨P1, hP1⟩ : ∃ P1, P1 = rd s9 0 * rd s9 1 := ⟨_, rfl⟩
              obtain ⟨P2, hP2⟩ : ∃ P2, P2 = rd r5 0 * rd r5 1 := ⟨_, rfl⟩
              have HG := m1 (show spec_SortStore.gt s9 r5 = (decide (P2 < P1) || (decide (P1 = P2) && decide (rd r5 0 < rd s9 0))) by rw [hP1, hP2]; rfl)
              replace mw1 := mw1.trans hP1.symm
              replace mw2 := mw2.trans hP2.symm
              have hlen5 := OK5.out.1
              have hl5 : (0 : Int) < (r5.length : Int) := by omega
              have hl5' : (1 : Int) < (r5.length : Int) := by omega
              have hn5 : 0 < r5.length := by omega
              have hn5' : 1 < r5.length := by omega
              have R5L := m1 hlen5
              clear hlen5
              obtain ⟨t0, ht0⟩ : ∃ t0, t0 = rd s9 0 := ⟨_, rfl⟩
              obtain ⟨t1, ht1⟩ : ∃ t1, t1 = rd s9 1 := ⟨_, rfl⟩
              obtain ⟨z0, hzz0⟩ : ∃ z0, z0 = rd r5 0 := ⟨_, rfl⟩
              obtain ⟨z1, hzz1⟩ : ∃ z1, z1 = rd r5 1 := ⟨_, rfl⟩
              rw [← ht0] at hy0 mw1
              rw [← ht1] at hy1 mw1
              rw [← hzz0] at hz0 mw2
              rw [← hzz1] at hz1 mw2
              have HG2 := m1 (show spec_SortStore.gt s9 r5 = (decide (P2 < P1) || (decide (P1 = P2) && decide (z0 < t0))) by rw [HG.out, hzz0, ht0])
              have hy2 := hy1
              have hz2 := hz1
              simp only [Nat.reduceMul, Nat.reduceEqDiff, Go.Addr.add, ↓reduceIte] at hy1 hz1
              clear HG hP1 hP2 ht0 ht1 hzz0 hzz1 hji hx6 hq hs hs9 hok9 hC hC9 hb5 eq_ L20' CJ' XL HPP HPL HP6
              replace j0 := eq_true j0
              replace j1 := eq_true j1
              replace hl5 := eq_true hl5
              replace hl5' := eq_true hl5'
              replace hn5 := eq_true hn5
              replace hn5' := eq_true hn5'
              by_cases d1 : P2 < P1
              · have d1b : decide (P2 < P1) = true := decide_eq_true d1
                have HN := m1 (show spec_SortStore.gt s9 r5 = true by rw [HG2.out, d1b]; rfl)
                clear d1
                go_wp2
                try simp only [List.append_eq, List.cons_append, List.nil_append]
                go_quiet (fail)
                go_wp2
                go_roundg q
                case measure => have := HQL.out; omega
                case rel => exact ⟨ji, rfl, ⟨q, HJQ, ⟨by rw [HPQ.out, if_pos HN.out]⟩, ⟨⟨HQL.out.1, Nat.le_refl _⟩⟩⟩, by first | exact ⟨_, rfl⟩ | (simp; exact ⟨_, rfl⟩)⟩
              · have d1b : decide (P2 < P1) = false := decide_eq_false d1
                by_cases d2 : P1 = P2
                · have d2b : (P1 == P2) = true := beq_iff_eq.mpr d2
                  by_cases d3 : z0 < t0
                  · have d3b : decide (z0 < t0) = true := decide_eq_true d3
                    have HN := m1 (show spec_SortStore.gt s9 r5 = true by rw [HG2.out, d1b, decide_eq_true d2, d3b]; rfl)
                    clear d1 d2 d3
                    go_wp2
                    try simp only [List.append_eq, List.cons_append, List.nil_append]
                    go_quiet (fail)
                    go_wp2
                    go_roundg q
                    case measure => have := HQL.out; omega
                    case rel => exact ⟨ji, rfl, ⟨q, HJQ, ⟨by rw [HPQ.out, if_pos HN.out]⟩, ⟨⟨HQL.out.1, Nat.le_refl _⟩⟩⟩, by first | exact ⟨_, rfl⟩ | (simp; exact ⟨_, rfl⟩)⟩
                  · have d3b : decide (z0 < t0) = false := decide_eq_false d3
                    have HN := m1 (show spec_SortStore.gt s9 r5 = false by rw [HG2.out, d1b, d3b, Bool.and_false]; rfl)
                    clear d1 d2 d3
                    go_wp2
                    try simp only [List.append_eq, List.cons_append, List.nil_append]
                    go_quiet (fail)
                    go_wp2
                    go_meet
                    case rel => exact ⟨x6, rfl, ⟨by rw [HPQ.out, HN.out, HX6.out]; rfl⟩, by first | exact ⟨_, rfl⟩ | (simp; exact ⟨_, rfl⟩)⟩
                · have d2b : (P1 == P2) = false := beq_eq_false_iff_ne.mpr d2
                  have HN := m1 (show spec_SortStore.gt s9 r5 = false by rw [HG2.out, d1b, decide_eq_false d2]; rfl)
                  clear d1 d2
                  go_wp2
                  try simp only [List.append_eq, List.cons_append, List.nil_append]
                  go_quiet (fail)
                  go_wp2
                  go_meet
                  case rel => exact ⟨x6, rfl, ⟨by rw [HPQ.out, HN.out, HX6.out]; rfl⟩, by first | exact ⟨_, rfl⟩ | (simp; exact ⟨_, rfl⟩)⟩
        case rest =>
          obtain ⟨x6_2, rfl, HX6, ⟨m0, hm0⟩⟩ := hcut
          have HO_3' := m1 (by rw [hm0]; exact Kd.N_drewN HO_3.out m0 : Kd.N (Kd.slice 3 (Kd.int .i64)) 22 wc w.heap.size (fun k_ => (w.heap.size ≤ k_)) (.slice Ao9 x3_1.length co9) x3_1)
          have HB' := m1 (by rw [hm0]; exact c2 HB.out m0 : Below w.heap.size w wc)
          clear HO_3 HB hxr hm0
          have HO_3 := HO_3'
          have HB := HB'
          clear HO_3' HB'
          obtain ⟨x14_1, h14⟩ : ∃ x : Int, x = (j : Int) := ⟨_, rfl⟩
          have HX14 := m1 h14
          have hple := spec_SortStore.pos_le x3_1 r5 x3_1.length
          have hx6 := HX6.out
          have HPI := m1 (show x6_2.toNat = spec_SortStore.pos x3_1 r5 x3_1.length by omega)
          have cq0 : decide (0 ≤ x6_2) = true := decide_eq_true (by omega)
          have cq1 : decide (x6_2 ≤ (x3_1.length : Int)) = true := decide_eq_true (by omega)
          have cq2 : (0 ≤ x6_2) = True := eq_true (by omega)
          have cq3 : (x6_2 ≤ (x3_1.length : Int)) = True := eq_true (by omega)
          have hr5 := OK5.out.1
          have c64b0 : decide (0 < (r5.length : Int)) = true := decide_eq_true (by omega)
          have c64b1 : decide (0 < r5.length) = true := decide_eq_true (by omega)
          have c65b0 : decide (1 < (r5.length : Int)) = true := decide_eq_true (by omega)
          have c65b1 : decide (1 < r5.length) = true := decide_eq_true (by omega)
          have XL := HXO.out.2
          have CJ' := CJ.out
          have L20' := L20.out
          obtain ⟨y195, hy195⟩ : ∃ y_ : List (List Int), y_ = (([] : List (List Int))) := ⟨_, rfl⟩
          obtain ⟨y198, hy198⟩ : ∃ y_ : List (List Int), y_ = (x3_1.take (x6_2 : Int).toNat) := ⟨_, rfl⟩
          obtain ⟨y203, hy203⟩ : ∃ y_ : List (List Int), y_ = (y195 ++ y198) := ⟨_, rfl⟩
          obtain ⟨y208, hy208⟩ : ∃ y_ : List Int, y_ = (([rd r5 0, rd r5 1] : List Int)) := ⟨_, rfl⟩
          obtain ⟨y211, hy211⟩ : ∃ y_ : List (List Int), y_ = (y203 ++ [y208]) := ⟨_, rfl⟩
          obtain ⟨y214, hy214⟩ : ∃ y_ : List (List Int), y_ = (x3_1.drop (x6_2 : Int).toNat) := ⟨_, rfl⟩
          obtain ⟨y219, hy219⟩ : ∃ y_ : List (List Int), y_ = (y211 ++ y214) := ⟨_, rfl⟩
          have e195 : y195.length = 0 := by rw [hy195]; rfl
          have e198 : y198.length ≤ 20 := by rw [hy198, List.length_take]; omega
          have e203 : y203.length ≤ 20 := by rw [hy203, List.length_append]; omega
          have e211 : y211.length ≤ 21 := by rw [hy211, List.length_append, List.length_singleton]; omega
          have e214 : y214.length ≤ 20 := by rw [hy214, List.length_drop]; omega
          have LMc63 := m1 (show y195.length + y198.length < 5864062014805 by omega)
          have LMc66 := m1 (show y203.length < 5864062014805 by omega)
          have LMc69 := m1 (show y211.length + y214.length < 5864062014805 by omega)
          have HRES := m1 (show y219 = spec_SortStore.ins x3_1 r5 by rw [hy219, hy211, hy203, hy208, hy214, hy198, hy195, List.nil_append, HPI.out]; rfl)
          have Ny195 := m1 hy195
          have Ny198 := m1 hy198
          have Ny203 := m1 hy203
          have Ny208 := m1 hy208
          have Ny211 := m1 hy211
          have Ny214 := m1 hy214
          have Ny219 := m1 hy219
          clear hy195 hy198 hy203 hy208 hy211 hy214 hy219 e195 e198 e203 e211 e214 XL CJ' L20' hr5 hx6 hple h14
          try go_wp2_with (first | ((with_reducible refine gate_dst (N := 87) rfl ?_); refine Kd.N_lit (Kd.slice 3 (Kd.int .i64)) _ 22 ?hg (N' := 87) ?hd (xs := ([] : List (List Int))) (inner := []) (ok := (fun k_ => (w.heap.size ≤ k_) ∧ some k_ ≠ (.slice Ao9 x3_1.length co9 : Value).ownBlock)) (okp := (fun k_ => (w.heap.size ≤ k_) ∧ some k_ ≠ (.slice Ao9 x3_1.length co9 : Value).ownBlock)) ?hr ?hp (fun _ hk => hk) ((show ∀ k_, wc.heap.size ≤ k_ → (fun k_ => (w.heap.size ≤ k_) ∧ some k_ ≠ (.slice Ao9 x3_1.length co9 : Value).ownBlock) k_ from fun k_ hk => ⟨(Nat.le_trans (c5 (by repeat (first | (with_reducible first | exact HB.out | apply c1 | apply c2 | apply c3) | exact HB.out))) hk), Kd.fresh' (Kd.N_lt (by (with_reducible repeat (first | apply Kd.N_alloc | apply Kd.N_drewN | apply Kd.N_drew)); exact HO_3.out)) k_ hk⟩) _ (Nat.le_refl _)) (Below.refl _ _) (Nat.le_refl _) (by simp) ?_; (case hd => rfl); (case hg => rfl); (case hr => first | (go_simp; done) | (go_simp; rfl)); (case hp => exact (Reps.none _ _)); intro v196 w71 ho72 hb hg_ hnew_; clear hg_ hnew_; (first | rw [← Ny195.out] at ho72 | (simp only [Int.reduceToNat] at ho72; rw [← Ny195.out] at ho72)); have n0_ := m1 (Kd.N_elder' (by (with_reducible repeat (first | apply Kd.N_alloc | apply Kd.N_drewN | apply Kd.N_drew)); exact HO_3.out) (Kd.N_base ho72) hb); have n1_ := m1 (Kd.N_lower ho72 (c5 (by repeat (first | (with_reducible first | exact HB.out | apply c1 | apply c2 | apply c3) | exact HB.out)))); have n2_ := m1 (c6 (by repeat (first | (with_reducible first | exact HB.out | apply c1 | apply c2 | apply c3) | exact HB.out)) hb); clear HO_3; clear HB; have HO_3 := n0_; have HO197 := n1_; have HB := n2_; clear n0_ n1_ n2_; clear hb ho72; have q73 : (x6_2 : Int) ≤ ((x3_1.length : Int) : Int) := of_decide_eq_true (by first | (with_reducible assumption) | assumption); obtain ⟨i073, hi073, _, hsz73, _⟩ := info_parts info22; have hroom73 : x3_1.length ≤ co9 := (Kd.N_reads' HO_3.out).2.1; have hC73 : Kd.F (Kd.slice 3 (Kd.int .i64)) _ _ Ao9 x3_1.length x3_1 := (Kd.V_at (base := w.heap.size) (Kd.N_V HO_3.out)).2.2; have hcut73 := cut_to (P := Tryd.prog) 27 22 .i64 Tryd.underlying27 hi073 Ao9 x3_1.length co9 x6_2 (of_decide_eq_true (by first | (with_reducible assumption) | assumption)) q73 hroom73; have hr73 := Kd.F_take (m := (x6_2 : Int).toNat) hC73 (by omega); have hy73 : y198.length = (x6_2 : Int).toNat := (by rw [Ny198.out, List.length_take]; omega); rw [← Ny198.out] at hr73; rw [← hy73] at hcut73; have HO202 := m1 (show Kd.V (Kd.slice 3 (Kd.int .i64)) 22 _ w.heap.size _ (.slice Ao9 y198.length co9) y198 from Kd.V_mk (by omega) hr73); have HC202 := m1 (show y198.length ≤ co9 from by omega); clear hr73 hC73 hroom73 hi073 hsz73; have KY73 := m1 hy73; clear hy73; replace q73 := eq_true q73) | ((with_reducible refine gate_builtin (b := .append) (xs := #[.tmp 87, .tmp 90]) rfl ?_); at_builtin; refine Kd.N_append_rows (Kd.slice 3 (Kd.int .i64)) (w0 := w) w.heap.size rfl (.tmp 87) (.tmp 90) 27 22 (.slice none 0 0) 24 rfl Tryd.underlying27 info22 rfl (by decide) (by omega) v196 y195 y198 _ _ _ (fun k_ => (w.heap.size ≤ k_)) (fun k_ => ((fun k_ => (w.heap.size ≤ k_))) k_ ∧ some k_ ≠ (v196 : Value).ownBlock) rfl rfl ?aO ?aR (fun _ hk => hk) ?aF ?aB ?aS ?aL ?_; (case aR => exact (by skip; exact Kd.V_F (Kd.V_mono (ok' := (fun k_ => ((fun k_ => (w.heap.size ≤ k_))) k_ ∧ some k_ ≠ (v196 : Value).ownBlock)) (HO202.out) (fun k_ hk => ⟨hk.1, hk.2⟩)))); (case aB => exact (by repeat (first | (with_reducible first | exact HB.out | apply c1 | apply c2 | apply c3) | exact HB.out))); (case aF => exact (fun k_ hk => (Nat.le_trans (c5 (by repeat (first | (with_reducible first | exact HB.out | apply c1 | apply c2 | apply c3) | exact HB.out))) hk))); (case aO => exact (by (with_reducible repeat (first | apply Kd.N_alloc | apply Kd.N_drewN | apply Kd.N_drew)); exact Kd.N_mono HO197.out (fun _ hk => hk.1))); (case aS => exact (c5 (by repeat (first | (with_reducible first | exact HB.out | apply c1 | apply c2 | apply c3) | exact HB.out)))); (case aL => have := LMc63.out; omega); intro v204 w74 ho hb hg hat; rw [← Ny203.out] at ho; have n0_ := m1 (Kd.N_afterv (ok := (fun k_ => (w.heap.size ≤ k_))) (by (with_reducible repeat (first | apply Kd.N_alloc | apply Kd.N_drewN | apply Kd.N_drew)); exact HO_3.out) hg hat); have n1_ := m1 (Kd.V_afterv (ok := (fun k_ => (w.heap.size ≤ k_))) (by (with_reducible repeat (first | apply Kd.V_alloc | apply Kd.V_drewN | apply Kd.V_drew)); exact HO202.out) hg hat); have n2_ := m1 (hb); have n3_ := m1 (ho); clear HO_3; clear HO202; clear HB; clear HO197; have HO_3 := n0_; have HO202 := n1_; have HB := n2_; have HO205 := n3_; clear n0_ n1_ n2_ n3_; clear ho hb hg hat))
          have n0_ := m1 (Kd.N_drew HO_3.out); have n1_ := m1 (Kd.V_drew HO202.out); have n2_ := m1 (Kd.N_drew HO205.out); have n3_ := m1 (below_drew1 HB.out); clear HO_3 HO202 HO205 HB; have HO_3 := n0_; have HO202 := n1_; have HO205 := n2_; have HB := n3_; clear n0_ n1_ n2_ n3_; have p206 : 0 ≤ (0 : Int) := (by omega)
          have q206 : 0 < (r5.length : Int) := of_decide_eq_true (by first | (with_reducible assumption) | assumption)
          obtain ⟨ad206, e206, hx206_0⟩ := Kd.at_int HR125_0.out 0 p206 q206; have hw206_0 := hx206_0; (try rw [show ((0 : Int)).toNat = 0 from rfl] at hw206_0)
          (try rw [show 0 * 1 = 0 from rfl] at hw206_0)
          (try rw [Addr.add_zero'] at hw206_0)
          cases e206
          have qi206 : (0 < r5.length) = True := eq_true (by omega)
          (try rw [show ((0 : Int)).toNat = 0 from rfl] at hx206_0)
          (try rw [Addr.add_zero'] at hx206_0)
          (try replace hx206_0 := (HB.out.cell (World.block_lt_of_cell? w _ hx206_0)).trans hx206_0)
          replace p206 := eq_true p206; replace q206 := eq_true q206; have p207 : 0 ≤ (1 : Int) := (by omega)
          have q207 : 1 < (r5.length : Int) := of_decide_eq_true (by first | (with_reducible assumption) | assumption)
          obtain ⟨ad207, e207, hx207_0⟩ := Kd.at_int HR125_0.out 1 p207 q207; have hw207_0 := hx207_0; (try rw [show ((1 : Int)).toNat = 1 from rfl] at hw207_0)
          (try rw [show 1 * 1 = 1 from rfl] at hw207_0)
          (try simp only [Nat.reduceMul, Nat.reduceEqDiff, Go.Addr.add, ↓reduceIte] at hw207_0)
          obtain rfl : ad206 = ad207 := (by injection e207)
          (try simp only [show (1 : Int).toNat = 1 from rfl, Nat.reduceMul, Nat.reduceEqDiff, Go.Addr.add, ↓reduceIte] at hx207_0)
          have qi207 : (1 < r5.length) = True := eq_true (by omega)
          (try rw [show ((1 : Int)).toNat = 1 from rfl] at hx207_0)
          (try replace hx207_0 := (HB.out.cell (World.block_lt_of_cell? w _ hx207_0)).trans hx207_0)
          replace p207 := eq_true p207; replace q207 := eq_true q207; refine start_ (n := 11) (S := fun w' => w'.cell? ad206 = some (.int .i64 (rd r5 0)) ∧ w'.cell? ⟨ad206.block, ad206.off + 1, none⟩ = some (.int .i64 (rd r5 1))) (ds := []) #[Z,Z,Z,Z,Z,Z,Z,Z,Z,Z,Z] (by kernel_rfl) rfl rfl ⟨((HB.out.cell (World.block_lt_of_cell? w _ hw206_0)).trans hw206_0), ((HB.out.cell (World.block_lt_of_cell? w _ hw207_0)).trans hw207_0)⟩ (fun hHeld => ?_); refine with_tabW spec_SortStore.tab11 spec_SortStore.bits11 (fun HT_ HW_ => ?_)
          generalize w74.drew = w75 at HO_3 HO202 HO205 HB hx206_0 hx207_0 hHeld ⊢
          refine pure_ (i := 0) (N := some 92) (v := ?_) (a' := ?_) #[Y,Z,Z,Z,Z,Z,Z,Z,Z,Z,Z] rfl rfl (any_of HT_.out (by kernel_rfl)) (fun _ _ _ h => h) (Or.inl ⟨by rfl, ?_⟩) ?_ ?_
          rotate_left
          ·intro w'
           go_simp; with_reducible rfl
          rotate_left
          ·simp only [Act.put, q1, q2, q3, i64_w, i32_w]
           rfl
          refine pure_ (i := 1) (N := some 93) (v := ?_) (a' := ?_) #[Y,Y,Z,Z,Z,Z,Z,Z,Z,Z,Z] rfl rfl (any_of HT_.out (by kernel_rfl)) (fun _ _ _ h => h) (Or.inl ⟨by rfl, ?_⟩) ?_ ?_
          rotate_left
          ·intro w'
           go_simp; with_reducible rfl
          rotate_left
          ·simp only [Act.put, q1, q2, q3, i64_w, i32_w]
           rfl
          refine pure_ (i := 2) (N := some 94) (v := ?_) (a' := ?_) #[Y,Y,Y,Z,Z,Z,Z,Z,Z,Z,Z] rfl rfl (any_of HT_.out (by kernel_rfl)) (fun _ _ _ h => h) (Or.inl ⟨by rfl, ?_⟩) ?_ ?_
          rotate_left
          ·intro w'
           go_simp; with_reducible rfl
          rotate_left
          ·simp only [Act.put, q1, q2, q3, i64_w, i32_w]
           rfl
          refine pure_ (i := 4) (N := some 96) (v := ?_) (a' := ?_) #[Y,Y,Y,Z,Y,Z,Z,Z,Z,Z,Z] rfl rfl (any_of HT_.out (by kernel_rfl)) (fun _ _ _ h => h) (Or.inl ⟨by rfl, ?_⟩) ?_ ?_
          rotate_left
          ·intro w'
           go_simp; with_reducible rfl
          rotate_left
          ·simp only [Act.put, q1, q2, q3, i64_w, i32_w]
           rfl
          refine pure_ (i := 5) (N := some 97) (v := ?_) (a' := ?_) #[Y,Y,Y,Z,Y,Y,Z,Z,Z,Z,Z] rfl rfl (any_of HT_.out (by kernel_rfl)) (fun _ _ _ h => h) (Or.inl ⟨by rfl, ?_⟩) ?_ ?_
          rotate_left
          ·intro w'
           go_simp; with_reducible rfl
          rotate_left
          ·simp only [Act.put, q1, q2, q3, i64_w, i32_w]
           rfl
          refine take_ (i := 3) (N := some 95) (v := ?_) (a' := ?_) #[Y,Y,Y,Y,Y,Y,Z,Z,Z,Z,Z] rfl rfl (take_ofW HT_.out HW_.out (by kernel_rfl)) (fun _ _ _ h => h) (Or.inl ⟨by rfl, ?_⟩) hHeld ?_ ?_
          rotate_left
          ·rintro w' ⟨s0, s1⟩
           go_simp; with_reducible rfl
          rotate_left
          ·simp only [Act.put, q1, q2, q3, i64_w, i32_w]
           rfl
          refine take_ (i := 6) (N := some 98) (v := ?_) (a' := ?_) #[Y,Y,Y,Y,Y,Y,Y,Z,Z,Z,Z] rfl rfl (take_ofW HT_.out HW_.out (by kernel_rfl)) (fun _ _ _ h => h) (Or.inl ⟨by rfl, ?_⟩) hHeld ?_ ?_
          rotate_left
          ·rintro w' ⟨s0, s1⟩
           go_simp; with_reducible rfl
          rotate_left
          ·simp only [Act.put, q1, q2, q3, i64_w, i32_w]
           rfl
          refine one_ (i := 7) (N := some 99) #[Y,Y,Y,Y,Y,Y,Y,Y,Z,Z,Z] rfl rfl (one_of HT_.out (by kernel_rfl)) (by decide) (fun K hK => ?_)
          refine Kd.R_lit_step (Kd.int .i64) _ 3 ?hg (N := 99) ?hd (xs := ([rd r5 0, rd r5 1] : List Int)) (inner := [.int .i64 (rd r5 0), .int .i64 (rd r5 1)]) (ok := fun _ => True) (okp := fun _ => True) ?hr ?hp (fun _ hk => hk) trivial (Below.refl _ _) (Nat.le_refl _) (by simp) ?_; (case hd => rfl); (case hg => rfl); (case hr => first | (go_simp; done) | (go_simp; rfl)); (case hp => exact (Reps.one (show Kd.M (Kd.int .i64) _ _ _ (rd r5 0) [.int .i64 (rd r5 0)] from rfl) (Reps.one (show Kd.M (Kd.int .i64) _ _ _ (rd r5 1) [.int .i64 (rd r5 1)] from rfl) (Reps.none _ _))))
          intro v209 w76 ho77 hb hg_ hnew_; clear hg_ hnew_; (first | rw [← Ny208.out] at ho77 | (simp only [Int.reduceToNat] at ho77; rw [← Ny208.out] at ho77))
          have n0_ := m1 (Kd.N_elder' (by (with_reducible repeat (first | apply Kd.N_alloc | apply Kd.N_drewN | apply Kd.N_drew)); exact HO_3.out) (Kd.R_base ho77) hb)
          have n1_ := m1 (Kd.V_elder' (by (with_reducible repeat (first | apply Kd.V_alloc | apply Kd.V_drewN | apply Kd.V_drew)); exact HO202.out) (Kd.R_base ho77) hb)
          have n2_ := m1 (Kd.N_elder' (by (with_reducible repeat (first | apply Kd.N_alloc | apply Kd.N_drewN | apply Kd.N_drew)); exact HO205.out) (Kd.R_base ho77) hb)
          have n3_ := m1 (Kd.R_lower (Kd.R_newM (M := fun k_ => (w.heap.size ≤ k_)) ho77 (c5 (by repeat (first | (with_reducible first | exact HB.out | apply c1 | apply c2 | apply c3) | exact HB.out))) (fun k_ h_ => h_)) (c5 (by repeat (first | (with_reducible first | exact HB.out | apply c1 | apply c2 | apply c3) | exact HB.out))))
          have n4_ := m1 (c6 (by repeat (first | (with_reducible first | exact HB.out | apply c1 | apply c2 | apply c3) | exact HB.out)) hb)
          clear HO_3 HO202 HO205 HB; have HO_3 := n0_; have HO202 := n1_; have HO205 := n2_; have HO210 := n3_; have HB := n4_; clear n0_ n1_ n2_ n3_ n4_ hb ho77; obtain ⟨Ao79, co79, eo79⟩ := Kd.R_slice HO210.out; (first | subst eo79 | (injection eo79 with f1_ f2_ f3_; have f4_ := f1_.symm; have f5_ := f3_.symm; clear f1_ f2_ f3_; subst f4_; subst f5_))
          refine hK.out _ _ ⟨((HB.out.cell (World.block_lt_of_cell? w _ hw206_0)).trans hw206_0), ((HB.out.cell (World.block_lt_of_cell? w _ hw207_0)).trans hw207_0)⟩ (fun hHeld => ?_)
          clear hK K; refine norm_ (a' := ?_) ?_ ?_; rotate_left
          ·show Act.put _ (some 99) _ = _
           simp only [Act.put, q1, q2, q3, i64_w, i32_w]; rfl
          refine one_ (i := 8) (N := some 100) #[Y,Y,Y,Y,Y,Y,Y,Y,Y,Z,Z] rfl rfl (one_of HT_.out (by kernel_rfl)) (by decide) (fun K hK => ?_)
          refine value_ (w1 := ?_) (v := ?_) (by rfl) rfl ?_ ?_
          rotate_left 2
          ·go_simp
           constructor
           ·rfl
           ·rfl
          refine hK.out _ _ ⟨(World.cell?_alloc_lt _ _ _ (World.block_lt_of_cell? _ _ (((HB.out.cell (World.block_lt_of_cell? w _ hw206_0)).trans hw206_0)))).trans (((HB.out.cell (World.block_lt_of_cell? w _ hw206_0)).trans hw206_0)), (World.cell?_alloc_lt _ _ _ (World.block_lt_of_cell? _ _ (((HB.out.cell (World.block_lt_of_cell? w _ hw207_0)).trans hw207_0)))).trans (((HB.out.cell (World.block_lt_of_cell? w _ hw207_0)).trans hw207_0))⟩ (fun hHeld => ?_)
          clear hK K; refine norm_ (a' := ?_) ?_ ?_; rotate_left
          ·show Act.put _ (some 100) _ = _
           simp only [Act.put, q1, q2, q3, i64_w, i32_w]; rfl
          refine one_ (i := 9) (N := some 101) #[Y,Y,Y,Y,Y,Y,Y,Y,Y,Y,Z] rfl rfl (one_of HT_.out (by kernel_rfl)) (by decide) (fun K hK => ?_)
          refine Kd.N_append_step (Kd.slice 3 (Kd.int .i64)) (w0 := w) w.heap.size (by rfl) (.tmp 92) (.tmp 100) 27 22 (.slice none 0 0) 24 rfl Tryd.underlying27 info22 rfl (by decide) (by omega) v204 y203 y208 [.slice Ao79 y208.length co79] (fun k_ => (w.heap.size ≤ k_)) (fun k_ => ((fun k_ => (w.heap.size ≤ k_))) k_ ∧ some k_ ≠ (v204 : Value).ownBlock) rfl rfl ?aP (fun _ hk => hk) ?aF ?aO ?aB ?aS ?aL ?_
          (case aP => exact (Kd.FK_slice_mk (Kd.R_reads' (Kd.R_mono (ok' := (fun k_ => ((fun k_ => (w.heap.size ≤ k_))) k_ ∧ some k_ ≠ (v204 : Value).ownBlock)) (Kd.R_apart' (HO210.out) (Kd.N_typed HO205.out) (by decide)) (fun k_ hk => ⟨hk.1.1, hk.2⟩))).2.1 (Kd.R_F (Kd.R_mono (ok' := (fun k_ => ((fun k_ => (w.heap.size ≤ k_))) k_ ∧ some k_ ≠ (v204 : Value).ownBlock)) (Kd.R_apart' (HO210.out) (Kd.N_typed HO205.out) (by decide)) (fun k_ hk => ⟨hk.1.1, hk.2⟩)))))
          (case aB => exact (by repeat (first | (with_reducible first | exact HB.out | apply c1 | apply c2 | apply c3) | exact HB.out)))
          (case aF => exact (fun k_ hk => (Nat.le_trans (c5 (by repeat (first | (with_reducible first | exact HB.out | apply c1 | apply c2 | apply c3) | exact HB.out))) hk)))
          (case aO => exact (by (with_reducible repeat (first | apply Kd.N_alloc | apply Kd.N_drewN | apply Kd.N_drew)); exact Kd.N_mono HO205.out (fun _ hk => hk.1)))
          (case aS => exact (c5 (by repeat (first | (with_reducible first | exact HB.out | apply c1 | apply c2 | apply c3) | exact HB.out))))
          (case aL => have := LMc66.out; omega)
          intro v212 w78 ho hb hg hat; rw [← Ny211.out] at ho; have n0_ := m1 (Kd.N_afterv (ok := (fun k_ => (w.heap.size ≤ k_) ∧ some k_ ≠ (.slice Ao79 y208.length co79 : Value).ownBlock)) (by (with_reducible repeat (first | apply Kd.N_alloc | apply Kd.N_drewN | apply Kd.N_drew)); exact Kd.N_mono HO_3.out (fun _ hk => ⟨⟨hk.1.1, hk.2⟩, hk.1.2⟩)) hg hat)
          have n1_ := m1 (Kd.V_afterv (ok := (fun k_ => (w.heap.size ≤ k_) ∧ some k_ ≠ (.slice Ao79 y208.length co79 : Value).ownBlock)) (by (with_reducible repeat (first | apply Kd.V_alloc | apply Kd.V_drewN | apply Kd.V_drew)); exact Kd.V_mono HO202.out (fun _ hk => ⟨⟨hk.1.1, hk.2⟩, hk.1.2⟩)) hg hat)
          have n2_ := m1 (hb); have n3_ := m1 (ho); clear HO_3 HO202 HB HO205 HO210; have HO_3 := n0_; have HO202 := n1_; have HB := n2_; have HO213 := n3_; clear n0_ n1_ n2_ n3_ ho hb hg hat; refine hK.out _ _ ⟨((HB.out.cell (World.block_lt_of_cell? w _ hw206_0)).trans hw206_0), ((HB.out.cell (World.block_lt_of_cell? w _ hw207_0)).trans hw207_0)⟩ (fun hHeld => ?_)
          clear hK K; refine norm_ (a' := ?_) ?_ ?_; rotate_left
          ·show Act.put _ (some 101) _ = _
           simp only [Act.put, q1, q2, q3, i64_w, i32_w]; rfl
          refine pure_ (i := 10) (N := some 7) (v := ?_) (a' := ?_) #[Y,Y,Y,Y,Y,Y,Y,Y,Y,Y,Y] rfl rfl (any_of HT_.out (by kernel_rfl)) (fun _ _ _ h => h) (Or.inl ⟨by rfl, ?_⟩) ?_ ?_
          rotate_left
          ·intro w'
           go_simp; with_reducible rfl
          rotate_left
          ·simp only [Act.put, q1, q2, q3, i64_w, i32_w]
           rfl
          refine done_ (done_of HT_.out (by kernel_rfl)) ?_
          have q80 : (x6_2 : Int) ≤ ((x3_1.length : Int) : Int) := of_decide_eq_true (by first | (with_reducible assumption) | assumption)
          obtain ⟨i080, hi080, _, hsz80, _⟩ := info_parts info22; have hroom80 : x3_1.length ≤ co9 := (Kd.N_reads' HO_3.out).2.1; have hC80 : Kd.F (Kd.slice 3 (Kd.int .i64)) _ _ Ao9 x3_1.length x3_1 := (Kd.V_at (base := w.heap.size) (Kd.N_V HO_3.out)).2.2; have q080 : (0 : Int) ≤ (x6_2 : Int) := of_decide_eq_true (by first | (with_reducible assumption) | assumption)
          have hcut80 := cut_from (P := Tryd.prog) 27 22 .i64 Tryd.underlying27 hi080 1 hsz80 Ao9 x3_1.length co9 x6_2 q080 q80; have hr80 := Kd.F_cut (m := (x6_2 : Int).toNat) (c := co9) hC80 (by omega) hroom80
          obtain ⟨A80, hA80⟩ : ∃ A1, A1 = (if co9 = (x6_2 : Int).toNat then Ao9 else (Ao9 : Option Addr).map (·.add ((x6_2 : Int).toNat * 1))) := ⟨_, rfl⟩; obtain ⟨c80, hc80⟩ : ∃ c1, c1 = co9 - (x6_2 : Int).toNat := ⟨_, rfl⟩; have hy80 : y214.length = x3_1.length - (x6_2 : Int).toNat := (by rw [Ny214.out, List.length_drop] <;> omega)
          rw [show (x3_1).drop (x6_2 : Int).toNat = y214 from Ny214.out.symm] at hr80; replace hr80 : Kd.F (Kd.slice 3 (Kd.int .i64)) _ _ A80 y214.length y214 := (by rw [hA80]; exact hr80)
          rw [← hy80, ← hA80, ← hc80] at hcut80; have HO218 := m1 (show Kd.V (Kd.slice 3 (Kd.int .i64)) 22 _ w.heap.size _ (.slice A80 y214.length c80) y214 from Kd.V_mk (by rw [hy80, hc80]; exact Nat.sub_le_sub_right hroom80 _) hr80)
          have HC218 := m1 (show y214.length ≤ c80 from by rw [hy80, hc80]; exact Nat.sub_le_sub_right hroom80 _)
          clear hr80 hC80 hroom80 hi080 hsz80 hc80; have KY80 := m1 hy80; have KA80 := m1 hA80; clear hy80 hA80; replace q80 := eq_true q80; try go_wp2_with (first | ((with_reducible refine gate_builtin (b := .append) (xs := #[.tmp 102, .tmp 105]) rfl ?_); at_builtin; refine Kd.N_append_rows (Kd.slice 3 (Kd.int .i64)) (w0 := w) w.heap.size rfl (.tmp 102) (.tmp 105) 27 22 (.slice none 0 0) 24 rfl Tryd.underlying27 info22 rfl (by decide) (by omega) v212 y211 y214 _ _ _ (fun k_ => (w.heap.size ≤ k_)) (fun k_ => ((fun k_ => (w.heap.size ≤ k_))) k_ ∧ some k_ ≠ (v212 : Value).ownBlock) rfl rfl ?aO ?aR (fun _ hk => hk) ?aF ?aB ?aS ?aL ?_; (case aR => exact (by skip; exact Kd.V_F (Kd.V_mono (ok' := (fun k_ => ((fun k_ => (w.heap.size ≤ k_))) k_ ∧ some k_ ≠ (v212 : Value).ownBlock)) (HO218.out) (fun k_ hk => ⟨hk.1.1, hk.2⟩)))); (case aB => exact (by repeat (first | (with_reducible first | exact HB.out | apply c1 | apply c2 | apply c3) | exact HB.out))); (case aF => exact (fun k_ hk => (Nat.le_trans (c5 (by repeat (first | (with_reducible first | exact HB.out | apply c1 | apply c2 | apply c3) | exact HB.out))) hk))); (case aO => exact (by (with_reducible repeat (first | apply Kd.N_alloc | apply Kd.N_drewN | apply Kd.N_drew)); exact HO213.out)); (case aS => exact (c5 (by repeat (first | (with_reducible first | exact HB.out | apply c1 | apply c2 | apply c3) | exact HB.out)))); (case aL => have := LMc69.out; omega); intro v220 w81 ho hb hg hat; rw [← Ny219.out] at ho; have n0_ := m1 (Kd.N_afterv (ok := (fun k_ => (w.heap.size ≤ k_))) (by (with_reducible repeat (first | apply Kd.N_alloc | apply Kd.N_drewN | apply Kd.N_drew)); exact Kd.N_mono HO_3.out (fun _ hk => ⟨hk.1.1, hk.2⟩)) hg hat); have n1_ := m1 (Kd.V_afterv (ok := (fun k_ => (w.heap.size ≤ k_))) (by (with_reducible repeat (first | apply Kd.V_alloc | apply Kd.V_drewN | apply Kd.V_drew)); exact Kd.V_mono HO202.out (fun _ hk => ⟨hk.1.1, hk.2⟩)) hg hat); have n2_ := m1 (Kd.V_afterv (ok := (fun k_ => (w.heap.size ≤ k_))) (by (with_reducible repeat (first | apply Kd.V_alloc | apply Kd.V_drewN | apply Kd.V_drew)); exact Kd.V_mono HO218.out (fun _ hk => ⟨hk.1.1, hk.2⟩)) hg hat); have n3_ := m1 (hb); have n4_ := m1 (ho); clear HO_3; clear HO202; clear HO218; clear HB; clear HO213; have HO_3 := n0_; have HO202 := n1_; have HO218 := n2_; have HB := n3_; have HO221 := n4_; clear n0_ n1_ n2_ n3_ n4_; clear ho hb hg hat))
          go_roundg (l0.length - (j + 1))
          case measure => have := HJ.out; have := CJ.out; omega
          case rel => exact ⟨y219, j + 1, (by have := L20.out; have := CJ.out; rw [show wrap64 ((j : Int) + 1) = ((j + 1 : Nat) : Int) by unfold wrap64; omega]), ⟨by rw [HRES.out, spec_SortStore.run_take _ _ CJ.out, ← H5.out, ← HX.out]⟩, ⟨by have := CJ.out; omega⟩, ⟨by (with_reducible repeat (first | apply Kd.N_alloc | apply Kd.N_drewN | apply Kd.N_drew)); exact HO221.out⟩, ⟨by repeat (first | (with_reducible first | exact HB.out | apply c1 | apply c2 | apply c3) | exact HB.out)⟩⟩
      · have ej : j = l0.length := by have := HJ.out; omega
        subst ej
        rw [List.take_length] at HX
        have c' : decide (((l0.length : Nat) : Int) < (l0.length : Int)) = false := decide_eq_false (by omega)
        clear c
        go_wp2
        go_ret
        exact ⟨_, by first | rfl | (simp [*]; done), by rw [← HX.out]; (with_reducible repeat (first | apply Kd.N_alloc | apply Kd.N_drewN | apply Kd.N_drew)); exact HO_3.out, by repeat (first | (with_reducible first | exact HB.out | apply c1 | apply c2 | apply c3) | exact HB.out)⟩

/-! ### spec_Join: function 36 -/
def spec_Join.l0 : Nat → ByteArray → ByteArray → List ByteArray → Int → Int → Option (ByteArray)
  | 0, _, _, _, _, _ => none
  | k + 1, x1, x5, x8, x9, x10 => if x10 < x9 then (if 0 ≤ x10 then (if x10 < (x8.length : Int) then (if x10 > 0 then (if x5.size + x1.size ≤ 9223372036854775807 then (if (x5 ++ x1).size + (rdOf ByteArray.empty x8 x10).size ≤ 9223372036854775807 then (spec_Join.l0 k x1 ((x5 ++ x1) ++ (rdOf ByteArray.empty x8 x10)) x8 x9 (wrap64 (x10 + 1))) else (none)) else (none)) else (if x5.size + (rdOf ByteArray.empty x8 x10).size ≤ 9223372036854775807 then (spec_Join.l0 k x1 (x5 ++ (rdOf ByteArray.empty x8 x10)) x8 x9 (wrap64 (x10 + 1))) else (none))) else (none)) else (none)) else (some x5)
def spec_Join.f (k : Nat) (l0 : List ByteArray) (a1 : ByteArray) : Option (ByteArray) := spec_Join.l0 k a1 (⟨#[]⟩ : ByteArray) l0 (l0.length : Int) 0
theorem spec_Join.mono_l : ∀ k, (∀ y0 y1 y2 y3 y4, LeO (spec_Join.l0 k y0 y1 y2 y3 y4) (spec_Join.l0 (k + 1) y0 y1 y2 y3 y4))
  | 0 => fun _ _ _ _ _ r h => by simp [spec_Join.l0] at h
  | k + 1 => by
    have ih0 := spec_Join.mono_l k
    · intro y0 y1 y2 y3 y4
      unfold spec_Join.l0
      repeat' first
      | (with_reducible exact ih0 _ _ _ _ _)
      | (with_reducible exact LeO.refl _)
      | (with_reducible exact LeO.none _)
      | (with_reducible refine LeO.ite ?_ ?_)
      | (with_reducible refine LeO.bind ?_ (fun _ => ?_))
      | exact ih0 _ _ _ _ _
      | exact LeO.none _
      | refine LeO.ite ?_ ?_
      | refine LeO.bind ?_ (fun _ => ?_)
theorem spec_Join.mono : ∀ a0 a1 k, LeO (spec_Join.f k a0 a1) (spec_Join.f (k + 1) a0 a1) := by
  intro a0 a1 k
  have ih0 := spec_Join.mono_l k
  unfold spec_Join.f
  repeat' first
      | (with_reducible exact ih0 _ _ _ _ _)
      | (with_reducible exact LeO.refl _)
      | (with_reducible exact LeO.none _)
      | (with_reducible refine LeO.ite ?_ ?_)
      | (with_reducible refine LeO.bind ?_ (fun _ => ?_))
      | exact ih0 _ _ _ _ _
      | exact LeO.none _
      | refine LeO.ite ?_ ?_
      | refine LeO.bind ?_ (fun _ => ?_)
set_option maxHeartbeats 8000000 in
set_option maxRecDepth 100000 in
theorem spec_Join.calls (k : Nat) (A0 : Option Addr) (c0 : Nat) (l0 : List ByteArray) (a1 : ByteArray) (r : ByteArray) (w : World) (hr0 : Kd.C Kd.string w A0 l0.length l0) (hc0 : l0.length ≤ c0) (h : spec_Join.f k l0 a1 = some r) :
    Calls Tryd.prog 36 #[.slice A0 l0.length c0, .string a1] w fun e w' => e = .returned (.string r) ∧ Drawn0 w w' := by
  have HR0 := Aside0.mk hr0
  have HC0 := Aside0.mk hc0
  clear hr0 hc0
  have H : (spec_Join.l0 k a1 (⟨#[]⟩ : ByteArray) l0 (l0.length : Int) 0) = some r := h
  clear h
  have H' := Aside0.mk H
  clear H
  go_enter Tryd.func36, Tryd.ntmps36
  go_wp2
  go_loopg [5, 10] k (fun kq v5 v10 w' => ∃ (x5_1 : ByteArray) (x10_1 : Int), v5 = .string x5_1 ∧ v10 = .int .i64 x10_1 ∧ Aside0 (spec_Join.l0 kq a1 x5_1 l0 (l0.length : Int) x10_1 = some r) ∧ Aside0 (kq ≤ k) ∧ Drawn0 w w')
  case atStart => exact ⟨((⟨#[]⟩ : ByteArray)), (0), (by first | rfl | (simp; done) | (simp [*]; done)), (by first | rfl | (simp; done) | (simp [*]; done)), H', ⟨Nat.le_refl _⟩, by repeat (first | exact Drawn0.refl _ | apply Drawn0.step)⟩
  case round =>
    clear H'
    try clear p2
    obtain ⟨x5_1, x10_1, rfl, rfl, HA, HK1, ⟨m1, rfl⟩⟩ := hrel
    cases gk with
    | zero => exact absurd HA.out (by simp [spec_Join.l0])
    | succ k1 =>
      have H := HA.out
      clear HA
      simp only [spec_Join.l0] at H
      by_cases c3 : x10_1 < (l0.length : Int)
      · rw [if_pos c3] at H
        have c3b0 : decide (x10_1 < (l0.length : Int)) = true := decide_eq_true c3
        clear c3
        by_cases c4 : 0 ≤ x10_1
        · rw [if_pos c4] at H
          have c4b0 : decide (0 ≤ x10_1) = true := decide_eq_true c4
          clear c4
          by_cases c5 : x10_1 < (l0.length : Int)
          · rw [if_pos c5] at H
            have c5b0 : decide (x10_1 < (l0.length : Int)) = true := decide_eq_true c5
            clear c5
            by_cases c6 : x10_1 > 0
            · rw [if_pos c6] at H
              have c6b0 : decide (0 < x10_1) = true := decide_eq_true c6
              clear c6
              by_cases c7 : x5_1.size + a1.size ≤ 9223372036854775807
              · rw [if_pos c7] at H
                have c7b0 := eq_true c7
                have c7b1 : decide (x5_1.size + a1.size ≤ 9223372036854775807) = true := decide_eq_true c7
                try have c7b2 : (9223372036854775807 < x5_1.size + a1.size) = False := eq_false (Nat.not_lt.2 c7)
                by_cases c8 : (x5_1 ++ a1).size + (rdOf ByteArray.empty l0 x10_1).size ≤ 9223372036854775807
                · rw [if_pos c8] at H
                  have c8b0 := eq_true c8
                  have c8b1 : decide ((x5_1 ++ a1).size + (rdOf ByteArray.empty l0 x10_1).size ≤ 9223372036854775807) = true := decide_eq_true c8
                  try have c8b2 : (9223372036854775807 < (x5_1 ++ a1).size + (rdOf ByteArray.empty l0 x10_1).size) = False := eq_false (Nat.not_lt.2 c8)
                  try have c8b3 : (9223372036854775807 < x5_1.size + a1.size + (rdOf ByteArray.empty l0 x10_1).size) = False := eq_false (by have h_ := c8; simp only [ByteArray.size_append] at h_; omega)
                  have H' := Aside0.mk H
                  clear H
                  have p121 : 0 ≤ (x10_1 : Int) := of_decide_eq_true (by first | (with_reducible assumption) | assumption)
                  have q121 : x10_1 < (l0.length : Int) := of_decide_eq_true (by first | (with_reducible assumption) | assumption)
                  obtain ⟨ad121, e121, hx121_0⟩ := Kd.at_string HR0.out x10_1 p121 q121
                  cases e121
                  replace p121 := eq_true p121
                  replace q121 := eq_true q121
                  go_wp2
                  go_roundg k1
                  case measure => have := HK1.out; omega
                  case rel => exact ⟨((x5_1 ++ a1) ++ (rdOf ByteArray.empty l0 x10_1)), (wrap64 (x10_1 + 1)), (by first | rfl | (simp; done) | (simp [*]; done)), (by first | rfl | (simp; done) | (simp [*]; done)), H', ⟨by have := HK1.out; omega⟩, by repeat (first | exact Drawn0.refl _ | apply Drawn0.step)⟩
                · rw [if_neg c8] at H
                  exact absurd H (by simp)
              · rw [if_neg c7] at H
                exact absurd H (by simp)
            · rw [if_neg c6] at H
              have c6b0 : decide (0 < x10_1) = false := decide_eq_false c6
              clear c6
              by_cases c9 : x5_1.size + (rdOf ByteArray.empty l0 x10_1).size ≤ 9223372036854775807
              · rw [if_pos c9] at H
                have c9b0 := eq_true c9
                have c9b1 : decide (x5_1.size + (rdOf ByteArray.empty l0 x10_1).size ≤ 9223372036854775807) = true := decide_eq_true c9
                try have c9b2 : (9223372036854775807 < x5_1.size + (rdOf ByteArray.empty l0 x10_1).size) = False := eq_false (Nat.not_lt.2 c9)
                have H' := Aside0.mk H
                clear H
                have p121 : 0 ≤ (x10_1 : Int) := of_decide_eq_true (by first | (with_reducible assumption) | assumption)
                have q121 : x10_1 < (l0.length : Int) := of_decide_eq_true (by first | (with_reducible assumption) | assumption)
                obtain ⟨ad121, e121, hx121_0⟩ := Kd.at_string HR0.out x10_1 p121 q121
                cases e121
                replace p121 := eq_true p121
                replace q121 := eq_true q121
                go_wp2
                go_roundg k1
                case measure => have := HK1.out; omega
                case rel => exact ⟨(x5_1 ++ (rdOf ByteArray.empty l0 x10_1)), (wrap64 (x10_1 + 1)), (by first | rfl | (simp; done) | (simp [*]; done)), (by first | rfl | (simp; done) | (simp [*]; done)), H', ⟨by have := HK1.out; omega⟩, by repeat (first | exact Drawn0.refl _ | apply Drawn0.step)⟩
              · rw [if_neg c9] at H
                exact absurd H (by simp)
          · rw [if_neg c5] at H
            exact absurd H (by simp)
        · rw [if_neg c4] at H
          exact absurd H (by simp)
      · rw [if_neg c3] at H
        have c3b0 : decide (x10_1 < (l0.length : Int)) = false := decide_eq_false c3
        clear c3
        obtain rfl := Option.some.inj H
        go_wp2
        go_ret
        exact ⟨by first | rfl | (simp; done) | (simp [*]; done), by repeat (first | exact Drawn0.refl _ | apply Drawn0.step)⟩

end Go.Proofs.YtelhjgkjnlcomaaDoor.QFnExactStoreLine
