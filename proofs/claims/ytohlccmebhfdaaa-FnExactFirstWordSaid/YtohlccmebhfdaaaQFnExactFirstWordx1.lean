-- Printed for this claim by a changed copy of the kit's print (the session's own; own contracts in place of some functions).
import Derived.Test.YtohlccmebhfdaaaQFnExactFirstWordx0
namespace Go.Proofs.Ytohlccmebhfdaaa.QFnExactFirstWord
open Go.RowKit Go.Proofs.YtohlccmebhfdaaaW.PrintWords Go.Proofs.YtohlccmebhfdaaaW.PrintLast Go.Proofs.YtohlccmebhfdaaaW.PrintMore
attribute [local go_sem] max2_int min2_int max_two min_two max_three min_three max_four min_four   -- for this text's walks alone
set_option linter.unusedVariables false
set_option linter.unusedSimpArgs false

/-! ### spec_FoldWordOk: function 9 -/
def spec_FoldWordOk.l0 : Nat → ByteArray → Int → Option (Bool)
  | 0, _, _ => none
  | k + 1, x0, x3 => if x3 < (x0.size : Int) then (if 0 ≤ x3 then (if (bt x0 x3) = 82 then (spec_FoldWordOk.l0 k x0 (wrap64 (x3 + 1))) else (if (bt x0 x3) = 76 then (spec_FoldWordOk.l0 k x0 (wrap64 (x3 + 1))) else (some false))) else (none)) else (some true)
def spec_FoldWordOk.f (k : Nat) (a0 : ByteArray) : Option (Bool) := if (a0.size : Int) > 5 then (some false) else (spec_FoldWordOk.l0 k a0 0)
theorem spec_FoldWordOk.mono_l : ∀ k, (∀ y0 y1, LeO (spec_FoldWordOk.l0 k y0 y1) (spec_FoldWordOk.l0 (k + 1) y0 y1))
  | 0 => fun _ _ r h => by simp [spec_FoldWordOk.l0] at h
  | k + 1 => by
    have ih0 := spec_FoldWordOk.mono_l k
    · intro y0 y1
      unfold spec_FoldWordOk.l0
      repeat' first
      | (with_reducible exact ih0 _ _)
      | (with_reducible exact LeO.refl _)
      | (with_reducible exact LeO.none _)
      | (with_reducible refine LeO.ite ?_ ?_)
      | (with_reducible refine LeO.bind ?_ (fun _ => ?_))
      | exact ih0 _ _
      | exact LeO.none _
      | refine LeO.ite ?_ ?_
      | refine LeO.bind ?_ (fun _ => ?_)
theorem spec_FoldWordOk.mono : ∀ a0 k, LeO (spec_FoldWordOk.f k a0) (spec_FoldWordOk.f (k + 1) a0) := by
  intro a0 k
  have ih0 := spec_FoldWordOk.mono_l k
  unfold spec_FoldWordOk.f
  repeat' first
      | (with_reducible exact ih0 _ _)
      | (with_reducible exact LeO.refl _)
      | (with_reducible exact LeO.none _)
      | (with_reducible refine LeO.ite ?_ ?_)
      | (with_reducible refine LeO.bind ?_ (fun _ => ?_))
      | exact ih0 _ _
      | exact LeO.none _
      | refine LeO.ite ?_ ?_
      | refine LeO.bind ?_ (fun _ => ?_)
set_option maxHeartbeats 8000000 in
set_option maxRecDepth 100000 in
theorem spec_FoldWordOk.calls (k : Nat) (a0 : ByteArray) (r : Bool) (w : World) (h : spec_FoldWordOk.f k a0 = some r) :
    Calls Try.prog 9 #[.string a0] w fun e w' => e = .returned (.bool r) ∧ Drawn0 w w' := by
  have H : (if (a0.size : Int) > 5 then (some false) else (spec_FoldWordOk.l0 k a0 0)) = some r := h
  clear h
  by_cases c2 : (a0.size : Int) > 5
  · rw [if_pos c2] at H
    have c2b0 : decide (5 < (a0.size : Int)) = true := decide_eq_true c2
    have c2b1 : decide (5 < a0.size) = true := decide_eq_true (by omega)
    clear c2
    obtain rfl := Option.some.inj H
    go_enter Try.func9, Try.ntmps9
    go_wp2
    go_ret
    exact ⟨by first | rfl | (simp; done) | (simp [*]; done), by repeat (first | exact Drawn0.refl _ | apply Drawn0.step)⟩
  · rw [if_neg c2] at H
    have c2b0 : decide (5 < (a0.size : Int)) = false := decide_eq_false c2
    have c2b1 : decide (5 < a0.size) = false := decide_eq_false (by omega)
    clear c2
    have H' := Aside0.mk H
    clear H
    go_enter Try.func9, Try.ntmps9
    go_wp2
    go_loopg [3] k (fun kq v3 w' => ∃ (x3_1 : Int), v3 = .int .i64 x3_1 ∧ Aside0 (spec_FoldWordOk.l0 kq a0 x3_1 = some r) ∧ Aside0 (kq ≤ k) ∧ Drawn0 w w')
    case atStart => exact ⟨(0), (by first | rfl | (simp; done) | (simp [*]; done)), H', ⟨Nat.le_refl _⟩, by repeat (first | exact Drawn0.refl _ | apply Drawn0.step)⟩
    case round =>
      clear H'
      try clear c2
      try clear c2b0
      try clear c2b1
      try clear p2
      obtain ⟨x3_1, rfl, HA, HK1, ⟨m1, rfl⟩⟩ := hrel
      cases gk with
      | zero => exact absurd HA.out (by simp [spec_FoldWordOk.l0])
      | succ k1 =>
        have H := HA.out
        clear HA
        simp only [spec_FoldWordOk.l0] at H
        by_cases c3 : x3_1 < (a0.size : Int)
        · rw [if_pos c3] at H
          have c3b0 : decide (x3_1 < (a0.size : Int)) = true := decide_eq_true c3
          clear c3
          by_cases c4 : 0 ≤ x3_1
          · rw [if_pos c4] at H
            have c4b0 : decide (0 ≤ x3_1) = true := decide_eq_true c4
            clear c4
            by_cases c6 : (bt a0 x3_1) = 82
            · rw [if_pos c6] at H
              have c6b0 : ((bt a0 x3_1) == 82) = true := beq_iff_eq.mpr c6
              have c6b1 : ((bt a0 x3_1) != 82) = false := bne_eq_false_iff_eq.mpr c6
              clear c6
              have H' := Aside0.mk H
              clear H
              have p5 : 0 ≤ (x3_1 : Int) := of_decide_eq_true (by first | (with_reducible assumption) | assumption)
              have q5 : x3_1 < (a0.size : Int) := of_decide_eq_true (by first | (with_reducible assumption) | assumption)
              have hx5 := bt_at a0 x3_1
              replace p5 := eq_true p5
              replace q5 := eq_true q5
              go_wp2
              go_roundg k1
              case measure => have := HK1.out; omega
              case rel => exact ⟨(wrap64 (x3_1 + 1)), (by first | rfl | (simp; done) | (simp [*]; done)), H', ⟨by have := HK1.out; omega⟩, by repeat (first | exact Drawn0.refl _ | apply Drawn0.step)⟩
            · rw [if_neg c6] at H
              have c6b0 : ((bt a0 x3_1) == 82) = false := beq_eq_false_iff_ne.mpr c6
              have c6b1 : ((bt a0 x3_1) != 82) = true := bne_iff_ne.mpr c6
              by_cases c8 : (bt a0 x3_1) = 76
              · rw [if_pos c8] at H
                have c8b0 : ((bt a0 x3_1) == 76) = true := beq_iff_eq.mpr c8
                have c8b1 : ((bt a0 x3_1) != 76) = false := bne_eq_false_iff_eq.mpr c8
                clear c8
                have H' := Aside0.mk H
                clear H
                have p5 : 0 ≤ (x3_1 : Int) := of_decide_eq_true (by first | (with_reducible assumption) | assumption)
                have q5 : x3_1 < (a0.size : Int) := of_decide_eq_true (by first | (with_reducible assumption) | assumption)
                have hx5 := bt_at a0 x3_1
                replace p5 := eq_true p5
                replace q5 := eq_true q5
                have p7 : 0 ≤ (x3_1 : Int) := of_decide_eq_true (by first | (with_reducible assumption) | assumption)
                have q7 : x3_1 < (a0.size : Int) := of_decide_eq_true (by first | (with_reducible assumption) | assumption)
                have hx7 := bt_at a0 x3_1
                replace p7 := eq_true p7
                replace q7 := eq_true q7
                go_wp2
                go_roundg k1
                case measure => have := HK1.out; omega
                case rel => exact ⟨(wrap64 (x3_1 + 1)), (by first | rfl | (simp; done) | (simp [*]; done)), H', ⟨by have := HK1.out; omega⟩, by repeat (first | exact Drawn0.refl _ | apply Drawn0.step)⟩
              · rw [if_neg c8] at H
                have c8b0 : ((bt a0 x3_1) == 76) = false := beq_eq_false_iff_ne.mpr c8
                have c8b1 : ((bt a0 x3_1) != 76) = true := bne_iff_ne.mpr c8
                obtain rfl := Option.some.inj H
                have p5 : 0 ≤ (x3_1 : Int) := of_decide_eq_true (by first | (with_reducible assumption) | assumption)
                have q5 : x3_1 < (a0.size : Int) := of_decide_eq_true (by first | (with_reducible assumption) | assumption)
                have hx5 := bt_at a0 x3_1
                replace p5 := eq_true p5
                replace q5 := eq_true q5
                have p7 : 0 ≤ (x3_1 : Int) := of_decide_eq_true (by first | (with_reducible assumption) | assumption)
                have q7 : x3_1 < (a0.size : Int) := of_decide_eq_true (by first | (with_reducible assumption) | assumption)
                have hx7 := bt_at a0 x3_1
                replace p7 := eq_true p7
                replace q7 := eq_true q7
                go_wp2
                go_ret
                exact ⟨by first | rfl | (simp; done) | (simp [*]; done), by repeat (first | exact Drawn0.refl _ | apply Drawn0.step)⟩
          · rw [if_neg c4] at H
            exact absurd H (by simp)
        · rw [if_neg c3] at H
          have c3b0 : decide (x3_1 < (a0.size : Int)) = false := decide_eq_false c3
          clear c3
          obtain rfl := Option.some.inj H
          go_wp2
          go_ret
          exact ⟨by first | rfl | (simp; done) | (simp [*]; done), by repeat (first | exact Drawn0.refl _ | apply Drawn0.step)⟩

/-! ### spec_l28Fold: function 10 -/
--import Derived.WalkSpells
def spec_l28Fold.xr (v : Int) : Int := Go.bits .xor .i64 v 1
def spec_l28Fold.ix (a b : List Int) (t : Int) : Int := mx (wrap64 (Int.tdiv (rd a t) 2)) (wrap64 (Int.tdiv (rd b t) 2))
def spec_l28Fold.mk (a : List Int) (t : Int) : Int := if Int.tmod (rd a t) 2 = 1 then 109 else 118
def spec_l28Fold.crs (a b : List Int) (cr : List Int) : Nat → List Int
  | 0 => cr
  | t + 1 => (spec_l28Fold.crs a b cr t).set (spec_l28Fold.ix a b (t : Int)).toNat (spec_l28Fold.mk a (t : Int))
theorem spec_l28Fold.crs_len (a b cr : List Int) : ∀ t, (spec_l28Fold.crs a b cr t).length = cr.length
  | 0 => rfl
  | t + 1 => by rw [spec_l28Fold.crs, List.length_set, spec_l28Fold.crs_len a b cr t]
def spec_l28Fold.okM (a b cr : List Int) : Bool := (List.range a.length).all (fun t => decide (t < b.length) && (decide (0 ≤ spec_l28Fold.ix a b (t : Int)) && decide (spec_l28Fold.ix a b (t : Int) < (cr.length : Int))))
theorem spec_l28Fold.okM_at {a b cr : List Int} (h : spec_l28Fold.okM a b cr = true) {t : Nat} (ht : t < a.length) : t < b.length ∧ 0 ≤ spec_l28Fold.ix a b (t : Int) ∧ spec_l28Fold.ix a b (t : Int) < (cr.length : Int) := by
  unfold spec_l28Fold.okM at h
  rw [List.all_eq_true] at h
  have h2 := h t (List.mem_range.2 ht)
  simpa using h2
def spec_l28Fold.col (u o : List Int) : List Int := u ++ o.reverse.map spec_l28Fold.xr
def spec_l28Fold.cut (c : Int) (cols : List (List Int)) (i : Nat) : List Int := if c = 76 then spec_l28Fold.col (cols.getD (cols.length / 2 + i) []) (cols.getD (cols.length / 2 - 1 - i) []) else spec_l28Fold.col (cols.getD i []) (cols.getD (cols.length - 1 - i) [])
def spec_l28Fold.nexts (c : Int) (cols : List (List Int)) (i : Nat) : List (List Int) := (List.range i).map (spec_l28Fold.cut c cols)
theorem spec_l28Fold.nexts_succ (c : Int) (cols : List (List Int)) (i : Nat) : spec_l28Fold.nexts c cols (i + 1) = spec_l28Fold.nexts c cols i ++ [spec_l28Fold.cut c cols i] := by simp [spec_l28Fold.nexts, List.range_succ]
theorem spec_l28Fold.nexts_len (c : Int) (cols : List (List Int)) (i : Nat) : (spec_l28Fold.nexts c cols i).length = i := by simp [spec_l28Fold.nexts]
def spec_l28Fold.okC (cols : List (List Int)) : Bool := decide (2 ≤ cols.length) && (decide (cols.length ≤ 64) && cols.all (fun r => decide (r.length ≤ 64)))
theorem spec_l28Fold.okC_of {cols : List (List Int)} (h : spec_l28Fold.okC cols = true) : 2 ≤ cols.length ∧ cols.length ≤ 64 ∧ ∀ i : Nat, (cols.getD i []).length ≤ 64 := by
  unfold spec_l28Fold.okC at h
  simp only [Bool.and_eq_true, decide_eq_true_eq, List.all_eq_true] at h
  refine ⟨h.1, h.2.1, fun i => ?_⟩
  rw [List.getD_eq_getElem?_getD]
  cases hi : cols[i]? with
  | none => simp
  | some x => exact h.2.2 x (List.mem_of_getElem? hi)
def spec_l28Fold.go (a0 : ByteArray) : Nat → Nat → List (List Int) → List Int → Option (List (List Int) × List Int)
  | 0, _, cols, cr => some (cols, cr)
  | d + 1, j, cols, cr => if (spec_l28Fold.okC cols && spec_l28Fold.okM (cols.getD (cols.length / 2 - 1) []) (cols.getD (cols.length / 2) []) cr) = true then spec_l28Fold.go a0 d (j + 1) (spec_l28Fold.nexts (bt a0 (j : Int)) cols (cols.length / 2)) (spec_l28Fold.crs (cols.getD (cols.length / 2 - 1) []) (cols.getD (cols.length / 2) []) cr (cols.getD (cols.length / 2 - 1) []).length) else none
def spec_l28Fold.init (n : Nat) : List (List Int) := (List.range n).map (fun (i : Nat) => [wrap64 (2 * (i : Int))])
theorem spec_l28Fold.init_succ (n : Nat) : spec_l28Fold.init (n + 1) = spec_l28Fold.init n ++ [[wrap64 (2 * (n : Int))]] := by simp [spec_l28Fold.init, List.range_succ]
theorem spec_l28Fold.init_len (n : Nat) : (spec_l28Fold.init n).length = n := by simp [spec_l28Fold.init]
def spec_l28Fold.f (a0 : ByteArray) : Option (List Int × List Int) := if a0.size ≤ 5 then ((spec_l28Fold.go a0 a0.size 0 (spec_l28Fold.init (2 ^ a0.size)) (List.replicate (2 ^ a0.size) 0)).bind fun p => if 1 ≤ p.1.length ∧ 1 ≤ p.2.length then some (p.1.getD 0 [], p.2.drop 1) else none) else none
theorem spec_l28Fold.pow (s : Nat) (h : s ≤ 5) : shl .i64 1 (s : Int) = ((2 ^ s : Nat) : Int) ∧ 1 ≤ 2 ^ s ∧ 2 ^ s ≤ 32 := by
  match s, h with
  | 0, _ => exact ⟨by kernel_rfl, by decide, by decide⟩
  | 1, _ => exact ⟨by kernel_rfl, by decide, by decide⟩
  | 2, _ => exact ⟨by kernel_rfl, by decide, by decide⟩
  | 3, _ => exact ⟨by kernel_rfl, by decide, by decide⟩
  | 4, _ => exact ⟨by kernel_rfl, by decide, by decide⟩
  | 5, _ => exact ⟨by kernel_rfl, by decide, by decide⟩
theorem spec_l28Fold.inf3 : (Try.prog.info? 3).map (fun i => (i.zero, i.size, i.bytes)) = some (some (.int .i64 0), 1, 8) := by kernel_rfl
theorem spec_l28Fold.inf5 : (Try.prog.info? 5).map (fun i => (i.zero, i.size, i.bytes)) = some (some (.int .u8 0), 1, 1) := by kernel_rfl
theorem spec_l28Fold.inf25 : (Try.prog.info? 28).map (fun i => (i.zero, i.size, i.bytes)) = some (some (.slice none 0 0), 1, 24) := by kernel_rfl
theorem spec_l28Fold.row {W : World} {base : Nat} {ok : Nat → Prop} {g n cap : Nat} {cols : List (List Int)} (h : Kd.R (Kd.slice 3 (Kd.int .i64)) 28 W base ok (.slice (some ⟨g, 0, none⟩) n cap) cols) (i : Int) (h0 : 0 ≤ i) (h1 : i < n) :
    ∃ A c, W.cell? ⟨g, i.toNat, none⟩ = some (.slice A (cols.getD i.toNat []).length c) ∧ Kd.R (Kd.int .i64) 3 W base ok (.slice A (cols.getD i.toNat []).length c) (cols.getD i.toNat []) := by
  obtain ⟨c, hcl, hM, hcc, _⟩ := Kd.R_elem h [] i h0 h1
  obtain ⟨v, rfl, hR⟩ := hM
  obtain ⟨A, c, e⟩ := Kd.R_slice hR
  subst e
  refine ⟨A, c, ?_, Kd.R_mono hR (fun k hk => hk.1)⟩
  have hq := hcc 0 _ rfl
  rwa [Nat.add_zero, show ((Kd.slice 3 (Kd.int .i64)) : Kd (List Int)).sz = 1 from rfl, Nat.mul_one] at hq
set_option maxHeartbeats 16000000 in
set_option maxRecDepth 100000 in
theorem spec_l28Fold.calls (a0 : ByteArray) (r1 r2 : List Int) (w : World) (h : spec_l28Fold.f a0 = some (r1, r2)) :
    Calls Try.prog 10 #[.string a0] w fun e w' => ∃ v0_ v1_ : Value, e = .returned (.tuple #[v0_, v1_]) ∧ Kd.R (Kd.int .i64) 3 w' w.heap.size (fun _ => True) v0_ r1 ∧ Kd.Q (Kd.int .u8) 5 w' w.heap.size (fun _ => True) v1_ r2 ∧ Below w.heap.size w w' := by
  unfold spec_l28Fold.f at h
  by_cases hs : a0.size ≤ 5
  case neg => rw [if_neg hs] at h; cases h
  rw [if_pos hs, Option.bind_eq_some_iff] at h
  obtain ⟨⟨co, cf⟩, hgo, hfin⟩ := h
  obtain ⟨hp0, hp1, hp2⟩ := spec_l28Fold.pow a0.size hs
  obtain ⟨ji2, hji2⟩ : ∃ j_ : Int, (shl .i64 1 (a0.size : Int)) = j_ := ⟨_, rfl⟩
  have hN : ji2 = ((2 ^ a0.size : Nat) : Int) := hji2.symm.trans hp0
  have HN := Aside0.mk (show ji2 = ((2 ^ a0.size : Nat) : Int) ∧ 1 ≤ ji2 ∧ ji2 ≤ 32 ∧ a0.size ≤ 5 from ⟨hN, by rw [hN]; omega, by rw [hN]; omega, hs⟩)
  have HGO := Aside0.mk hgo
  have HFIN := Aside0.mk hfin
  clear hgo hfin hp0 hp1 hp2 hN hs
  have hji2_ : (IntKind.i64.wrap (1 * 2 ^ min (a0.size : Int).toNat 64)) = ji2 := hji2
  have hji2z : (a0.size : Int) ≤ 64 → (IntKind.i64.wrap (1 * 2 ^ (a0.size : Int).toNat)) = ji2 := shl_small hji2
  have hji2u : (IntKind.i64.wrap (2 ^ min (a0.size : Int).toNat 64)) = ji2 := by have h_ := hji2_; rw [Int.one_mul] at h_; exact h_
  have hji2v : (a0.size : Int) ≤ 64 → (IntKind.i64.wrap (2 ^ (a0.size : Int).toNat)) = ji2 := fun hle_ => by have h_ := hji2z hle_; rw [Int.one_mul] at h_; exact h_
  have hji2y : (wrap64 (1 * 2 ^ min (a0.size : Int).toNat 64)) = ji2 := (i64_w _).symm.trans hji2_
  have hji2x : (a0.size : Int) ≤ 64 → (wrap64 (1 * 2 ^ (a0.size : Int).toNat)) = ji2 := fun h_ => (i64_w _).symm.trans (hji2z h_)
  (try (have hji2s_ := hji2y; simp only [Int.one_mul, Int.toNat_natCast] at hji2s_))
  have HB := Aside0.mk (Below.refl w.heap.size w)
  go_enter Try.func10, Try.ntmps10
  go_wp2_with (first | ((with_reducible refine gate_dst (N := 23) rfl ?_); refine Kd.R_lit (Kd.slice 3 (Kd.int .i64)) _ 28 ?hg (N := 23) ?hd (xs := ([] : List (List Int))) (inner := []) (ok := fun _ => True) (okp := fun _ => True) ?hr ?hp (fun _ hk => hk) trivial (Below.refl _ _) (Nat.le_refl _) (by simp) ?_; (case hd => rfl); (case hg => rfl); (case hr => first | (go_simp; done) | (go_simp; rfl)); (case hp => exact (Reps.none _ _)); intro vn wn ho hb _ _; have nHB := Aside0.mk (below_step HB.out hb); have nHC := Aside0.mk (Kd.R_lower ho HB.out.size); clear HB; have HB := nHB; have HC := nHC; clear nHB nHC; clear ho hb))
  go_loopg [5, 6] ji2.toNat (fun kq v5 v6 w' => ∃ (i : Int), v6 = .int .i64 i ∧ Aside0 (0 ≤ i ∧ i + kq = ji2) ∧ Aside0 (Kd.R (Kd.slice 3 (Kd.int .i64)) 28 w' w.heap.size (fun _ => True) v5 (spec_l28Fold.init i.toNat)) ∧ Aside0 (Below w.heap.size w w'))
  case atStart => exact ⟨0, (by first | rfl | (simp; done) | (simp [*]; done)), ⟨by have := HN.out; omega⟩, ⟨by exact HC.out⟩, HB⟩
  case round =>
    clear HC HB
    obtain ⟨i, rfl, HI, HC, HB⟩ := hrel
    obtain ⟨cs, hcs⟩ : ∃ cs, cs = spec_l28Fold.init i.toNat := ⟨_, rfl⟩
    rw [← hcs] at HC
    have HCS := Aside0.mk hcs
    clear hcs
    by_cases c5 : i < ji2
    · have c5b : decide (i < ji2) = true := decide_eq_true c5
      have HI5 := Aside0.mk c5
      obtain ⟨yl, hyl⟩ : ∃ y : List Int, y = [wrap64 (2 * i)] := ⟨_, rfl⟩
      have NY := Aside0.mk hyl
      clear c5 hyl
      go_wp2_with (first | ((with_reducible refine gate_dst (N := 32) rfl ?_); refine Kd.R_lit (Kd.int .i64) _ 3 ?hg (N := 32) ?hd (xs := ([wrap64 (2 * i)] : List Int)) (inner := [.int .i64 (wrap64 (2 * i))]) (ok := fun _ => True) (okp := fun _ => True) ?hr ?hp (fun _ hk => hk) trivial (Below.refl _ _) (Nat.le_refl _) (by simp) ?_; (case hd => rfl); (case hg => rfl); (case hr => first | (go_simp; done) | (go_simp; rfl)); (case hp => exact (Reps.one (show Kd.M (Kd.int .i64) _ _ _ (wrap64 (2 * i)) [.int .i64 (wrap64 (2 * i))] from rfl) (Reps.none _ _))); intro vn wn ho hb _ _; rw [← NY.out] at ho; have nHC := Aside0.mk (Kd.R_below HC.out hb); have nHB := Aside0.mk (below_step HB.out hb); have nHNW := Aside0.mk (Kd.R_lower ho HB.out.size); clear HC HB; have HC := nHC; have HB := nHB; have HNW := nHNW; clear nHC nHB nHNW; clear ho hb; obtain ⟨An, cn, en⟩ := Kd.R_slice HNW.out; subst en) | ((with_reducible refine gate_builtin (b := .append) (xs := #[.tmp 29, .tmp 33]) rfl ?_); at_builtin; refine Kd.R_append (Kd.slice 3 (Kd.int .i64)) (w0 := w) w.heap.size rfl (.tmp 29) (.tmp 33) 36 28 (.slice none 0 0) 24 rfl Try.underlying36 spec_l28Fold.inf25 rfl (by decide) (by omega) u5 cs yl [.slice An yl.length cn] (fun _ => True) (fun k_ => some k_ = (.slice An yl.length cn : Value).ownBlock) rfl rfl ?aP ?aK ?aF ?aO ?aB ?aS ?aL ?_; (case aP => exact Kd.M_row (Kd.R_mono (Kd.R_tight rfl HNW.out) (fun _ h_ => h_))); (case aK => exact fun k_ hk_ => ⟨trivial, (Kd.R_apart' HNW.out (Kd.R_typed HC.out) (by decide)).1 k_ hk_.symm |>.2⟩); (case aF => exact fun _ _ => trivial); (case aO => exact HC.out); (case aB => exact HB.out); (case aS => exact HB.out.size); (case aL => have := HCS.out; have := HI.out; have := HN.out; have hl_ : cs.length = i.toNat := (by rw [HCS.out]; exact spec_l28Fold.init_len _); omega); intro v1 w1 ho hb hg hat; have nHB := Aside0.mk (hb); have nHC2 := Aside0.mk (ho); clear HB; have HB := nHB; have HC2 := nHC2; clear nHB nHC2; clear ho hb hg hat))
      go_roundg (ji2.toNat - (i.toNat + 1))
      case measure => have := HI.out; have := HI5.out; omega
      case rel => exact ⟨i + 1, (by have := HI.out; have := HI5.out; have := HN.out; rw [show wrap64 (i + 1) = i + 1 by unfold wrap64; omega]), ⟨by have := HI.out; have := HI5.out; omega⟩, ⟨by
        have hi := HI.out
        have e : spec_l28Fold.init (i + 1).toNat = cs ++ [yl] := by
          rw [show (i + 1).toNat = i.toNat + 1 by omega, spec_l28Fold.init_succ, ← HCS.out, show ((i.toNat : Nat) : Int) = i by omega, ← NY.out]
        rw [e]; exact HC2.out⟩, HB⟩
    · have c5b : decide (i < ji2) = false := decide_eq_false c5
      have hie : i = ji2 := by have := HI.out; omega
      have hcs2 : cs = spec_l28Fold.init (2 ^ a0.size) := by rw [HCS.out, hie, HN.out.1]; rfl
      have HCS2 := Aside0.mk hcs2
      clear hie hcs2 c5
      have hj1 : decide (0 ≤ ji2) = true := decide_eq_true (by have := HN.out; omega)
      have hj2 : 0 ≤ ji2 := by have := HN.out; omega
      have HJ2 := Aside0.mk hj2
      clear hj2
      go_wp2_with (first | ((with_reducible refine gate_dst (N := 36) rfl ?_); refine Kd.R_make (Kd.int .u8) _ 5 rfl (N := 36) rfl 27 _ _ rfl ji2 rfl rfl Try.underlying27 (.int .u8 0) 1 spec_l28Fold.inf5 rfl (by decide) (by omega) 0 (ok := fun _ => True) (okp := fun _ => True) rfl (fun _ hk => hk) trivial HJ2.out (by have := HN.out; omega) (Below.refl _ _) (Nat.le_refl _) ?_; intro vb wb ho hb _ _; have nHC := Aside0.mk (Kd.R_below HC.out hb); have nHB := Aside0.mk (below_step HB.out hb); have nHR := Aside0.mk (Kd.R_lower ho HB.out.size); clear HC HB; have HC := nHC; have HB := nHB; have HR := nHR; clear nHC nHB nHR; clear ho hb))
      obtain ⟨cr0, hcr0⟩ : ∃ cr0, cr0 = List.replicate ji2.toNat (0 : Int) := ⟨_, rfl⟩
      rw [← hcr0] at HR
      have HG := Aside0.mk (show spec_l28Fold.go a0 a0.size 0 cs cr0 = some (co, cf) by rw [HCS2.out, hcr0, show ji2.toNat = 2 ^ a0.size by rw [HN.out.1]; exact Int.toNat_natCast _]; exact HGO.out)
      clear hcr0 HCS HCS2 HI c5b
      go_loopg [5, 8] a0.size (fun kq v5 v8 w' => ∃ (cols : List (List Int)) (cr : List Int) (j : Int), v8 = .int .i64 j ∧ Aside0 (0 ≤ j ∧ j + kq = (a0.size : Int)) ∧ Aside0 (spec_l28Fold.go a0 kq j.toNat cols cr = some (co, cf)) ∧ Aside0 (Kd.R (Kd.slice 3 (Kd.int .i64)) 28 w' w.heap.size (fun _ => True) v5 cols) ∧ Aside0 (Kd.R (Kd.int .u8) 5 w' w.heap.size (fun _ => True) vb cr) ∧ Aside0 (Below w.heap.size w w'))
      case atStart => exact ⟨cs, cr0, 0, (by first | rfl | (simp; done) | (simp [*]; done)), ⟨by omega⟩, HG, HC, HR, HB⟩
      case round =>
        clear HG HC HR HB
        obtain ⟨cols, cr, j, rfl, HJ, HG, HC, HR, HB⟩ := hrel
        by_cases c6 : j < (a0.size : Int)
        · have c6b : decide (j < (a0.size : Int)) = true := decide_eq_true c6
          obtain ⟨kq, rfl⟩ : ∃ q, gk = q + 1 := ⟨gk - 1, by have := HJ.out; omega⟩
          have hg := HG.out
          rw [spec_l28Fold.go] at hg
          by_cases hok : (spec_l28Fold.okC cols && spec_l28Fold.okM (cols.getD (cols.length / 2 - 1) []) (cols.getD (cols.length / 2) []) cr) = true
          case neg => rw [if_neg hok] at hg; cases hg
          rw [if_pos hok] at hg
          rw [Bool.and_eq_true] at hok
          obtain ⟨hc1, hc2, hc3⟩ := spec_l28Fold.okC_of hok.1
          have HM := Aside0.mk hok.2
          have HC1 := Aside0.mk (show 2 ≤ cols.length ∧ cols.length ≤ 64 from ⟨hc1, hc2⟩)
          have HC3 := Aside0.mk hc3
          have HG2 := Aside0.mk hg
          have HJ6 := Aside0.mk c6
          clear hg hok hc3 c6 HG
          obtain ⟨hh, hhh⟩ : ∃ hh : Int, (wrap64 ((cols.length : Int) / 2)) = hh := ⟨_, rfl⟩
          have hhw : (IntKind.i64.wrap ((cols.length : Int) / 2)) = hh := (i64_w _).trans hhh
          have HH := Aside0.mk (show hh = ((cols.length / 2 : Nat) : Int) ∧ 1 ≤ hh by rw [← hhh]; unfold wrap64; omega)
          obtain ⟨h1, hh1⟩ : ∃ h1 : Int, (wrap64 (hh - 1)) = h1 := ⟨_, rfl⟩
          have hh1w : (IntKind.i64.wrap (hh - 1)) = h1 := (i64_w _).trans hh1
          have HH1 := Aside0.mk (show h1 = hh - 1 by have := HH.out; rw [← hh1]; unfold wrap64; omega)
          clear hc1 hc2
          obtain ⟨gc, cc, ec, _, _, _⟩ := Kd.R_form HC.out (by have := HC1.out; omega)
          subst ec
          have p1 : 0 ≤ h1 := by have := HH.out; have := HH1.out; omega
          have q1 : h1 < (cols.length : Int) := by have := HH.out; have := HH1.out; omega
          obtain ⟨Aa, ca, hxa, hRa⟩ := spec_l28Fold.row HC.out h1 p1 q1
          rw [show h1.toNat = cols.length / 2 - 1 by have := HH.out; have := HH1.out; omega] at hRa
          have hxa' := hxa
          rw [show h1.toNat = cols.length / 2 - 1 by have := HH.out; have := HH1.out; omega] at hxa
          have hea : (cols.getD h1.toNat []) = cols.getD (cols.length / 2 - 1) [] := by rw [show h1.toNat = cols.length / 2 - 1 by have := HH.out; have := HH1.out; omega]
          rw [hea] at hxa'
          clear hxa hea
          obtain ⟨ra, hra⟩ : ∃ r, r = cols.getD (cols.length / 2 - 1) [] := ⟨_, rfl⟩
          obtain ⟨rb, hrb⟩ : ∃ r, r = cols.getD (cols.length / 2) [] := ⟨_, rfl⟩
          rw [← hra] at hRa hxa' HM HG2
          rw [← hrb] at HM HG2
          have HRA := Aside0.mk hra
          have HRB := Aside0.mk hrb
          have HA := Aside0.mk hRa
          clear hra hrb hRa
          have hxa := hxa'
          clear hxa'
          replace p1 := eq_true p1
          replace q1 := eq_true q1
          go_wp2
          clear hxa p1 q1
          go_loopg [52] ra.length (fun kt v52 w' => ∃ (t : Int), v52 = .int .i64 t ∧ Aside0 (0 ≤ t ∧ t + kt = (ra.length : Int)) ∧ Aside0 (Kd.R (Kd.slice 3 (Kd.int .i64)) 28 w' w.heap.size (fun _ => True) (.slice (some ⟨gc, 0, none⟩) cols.length cc) cols) ∧ Aside0 (Kd.R (Kd.int .u8) 5 w' w.heap.size (fun _ => True) vb (spec_l28Fold.crs ra rb cr t.toNat)) ∧ Aside0 (Kd.R (Kd.int .i64) 3 w' w.heap.size (fun _ => True) (.slice Aa ra.length ca) ra) ∧ Aside0 (Below w.heap.size w w'))
          case atStart => exact ⟨0, (by first | rfl | (simp; done) | (simp [*]; done)), ⟨by omega⟩, HC, HR, HA, HB⟩
          case round =>
            clear HC HR HA HB
            obtain ⟨t, rfl, HT, HC, HR, HA, HB⟩ := hrel
            obtain ⟨cr1, hcr1⟩ : ∃ c, c = spec_l28Fold.crs ra rb cr t.toNat := ⟨_, rfl⟩
            rw [← hcr1] at HR
            have HCR := Aside0.mk hcr1
            clear hcr1
            by_cases c7 : t < (ra.length : Int)
            · have c7b : decide (t < (ra.length : Int)) = true := decide_eq_true c7
              have HT7 := Aside0.mk c7
              obtain ⟨hm1, hm2, hm3⟩ := spec_l28Fold.okM_at HM.out (t := t.toNat) (by have := HT.out; omega)
              have ht0 : ((t.toNat : Nat) : Int) = t := by have := HT.out; omega
              rw [ht0] at hm2 hm3
              have hl1 : cr1.length = cr.length := by rw [HCR.out]; exact spec_l28Fold.crs_len _ _ _ _
              have p2 : 0 ≤ t := HT.out.1
              obtain ⟨ada, ea, hxt⟩ := Kd.at_int (Kd.R_reads' HA.out).2.2 t p2 c7
              subst ea
              have p3 : 0 ≤ hh := by have := HH.out; omega
              have q3 : hh < (cols.length : Int) := by have := HH.out; have := HC1.out; omega
              obtain ⟨Ab, cb, hxb, hRb⟩ := spec_l28Fold.row HC.out hh p3 q3
              rw [show hh.toNat = cols.length / 2 by have := HH.out; omega] at hRb
              have heb : (cols.getD hh.toNat []) = rb := by rw [show hh.toNat = cols.length / 2 by have := HH.out; omega]; exact HRB.out.symm
              rw [heb] at hxb
              rw [← HRB.out] at hRb
              clear heb
              have q4 : t < (rb.length : Int) := by omega
              obtain ⟨adb, eb, hxu⟩ := Kd.at_int (Kd.R_reads' hRb).2.2 t p2 q4
              subst eb
              clear hRb
              obtain ⟨ix, hix⟩ : ∃ x, x = spec_l28Fold.ix ra rb t := ⟨_, rfl⟩
              rw [← hix] at hm2 hm3
              have hix_ : (if (wrap64 (Int.tdiv (rd ra t) 2)) < (wrap64 (Int.tdiv (rd rb t) 2)) then (wrap64 (Int.tdiv (rd rb t) 2)) else (wrap64 (Int.tdiv (rd ra t) 2))) = ix := hix.symm
              have hixm : (mx (wrap64 (Int.tdiv (rd ra t) 2)) (wrap64 (Int.tdiv (rd rb t) 2))) = ix := hix.symm
              have HIX := Aside0.mk hix
              have q5 : ix < (cr1.length : Int) := by rw [hl1]; exact hm3
              obtain ⟨gb, cb2, ebb, hgb, _, _⟩ := Kd.R_form HR.out (by omega)
              subst ebb
              have HGB := Aside0.mk hgb
              obtain ⟨hxs, hfs⟩ := Kd.R_celln 0 HR.out ix hm2 q5
              have HT0 := Aside0.mk ht0
              clear hgb hix hl1 hm1 hm3 ht0
              replace p2 := eq_true p2
              replace p3 := eq_true p3
              replace q3 := eq_true q3
              replace q4 := eq_true q4
              replace q5 := eq_true q5
              replace hm2 := eq_true hm2
              replace c7 := eq_true c7
              by_cases c8 : (Int.tmod (rd ra t) 2) = 1
              · have c8b : ((Int.tmod (rd ra t) 2) == 1) = true := beq_iff_eq.mpr c8
                have HMK := Aside0.mk (show spec_l28Fold.mk ra t = 109 by unfold spec_l28Fold.mk; rw [if_pos c8])
                clear c8
                have HP := Kd.R_putg HR.out ix 109
                go_wp2_with (first | ((with_reducible refine gate_store (t := 5) (p := 74) rfl ?_); refine store_event (t := 5) (p := 74) (v := ?vo) (w1 := (wr.setCell ⟨gb, ix.toNat, none⟩ (.int .u8 109))) ?hg ?ho ?hn ?hr ?_; (case ho => rfl); (case hg => rfl); (case hn => rfl); (case hr => first | (go_simp; done) | (go_simp; rfl)); intro ws hw; have hg : wr.grownBy ws (some gb) := (by rw [hw]; exact HP.2); have hp_ : Kd.R (Kd.int .u8) 5 ws w.heap.size (fun _ => True) (.slice (some ⟨gb, 0, none⟩) cr1.length cb2) (cr1.set ix.toNat 109) := (by rw [hw]; exact HP.1); clear HP; have nHC := Aside0.mk (Kd.R_over' (v := (.slice (some ⟨gb, 0, none⟩) cr1.length cb2)) HC.out (Kd.R_typed HR.out) (by decide) hg); have nHA := Aside0.mk (Kd.R_over' (v := (.slice (some ⟨gb, 0, none⟩) cr1.length cb2)) HA.out (Kd.R_typed HR.out) (by decide) hg); have nHR := Aside0.mk (hp_); have nHB := Aside0.mk ((by rw [hw]; exact below_set HB.out HGB.out : Below w.heap.size w ws)); clear HC HA HR HB; have HC := nHC; have HA := nHA; have HR := nHR; have HB := nHB; clear nHC nHA nHR nHB; clear hg hw hp_))
                go_roundg (ra.length - (t.toNat + 1))
                case measure => have := HT.out; have := HT7.out; omega
                case rel => exact ⟨t + 1, (by have := HT.out; have := HT7.out; have := Kd.C_max (Kd.R_reads' HA.out).2.2; rw [show wrap64 (t + 1) = t + 1 by unfold wrap64; omega]), ⟨by have := HT.out; have := HT7.out; omega⟩, HC, ⟨by
                  have ht := HT.out
                  have e : spec_l28Fold.crs ra rb cr (t + 1).toNat = cr1.set ix.toNat 109 := by
                    rw [show (t + 1).toNat = t.toNat + 1 by omega, spec_l28Fold.crs, ← HCR.out, HT0.out, ← HIX.out, HMK.out]
                  rw [e]; exact HR.out⟩, HA, HB⟩
              · have c8b : ((Int.tmod (rd ra t) 2) == 1) = false := beq_eq_false_iff_ne.mpr c8
                have HMK := Aside0.mk (show spec_l28Fold.mk ra t = 118 by unfold spec_l28Fold.mk; rw [if_neg c8])
                clear c8
                have HP := Kd.R_putg HR.out ix 118
                go_wp2_with (first | ((with_reducible refine gate_store (t := 5) (p := 74) rfl ?_); refine store_event (t := 5) (p := 74) (v := ?vo) (w1 := (wr.setCell ⟨gb, ix.toNat, none⟩ (.int .u8 118))) ?hg ?ho ?hn ?hr ?_; (case ho => rfl); (case hg => rfl); (case hn => rfl); (case hr => first | (go_simp; done) | (go_simp; rfl)); intro ws hw; have hg : wr.grownBy ws (some gb) := (by rw [hw]; exact HP.2); have hp_ : Kd.R (Kd.int .u8) 5 ws w.heap.size (fun _ => True) (.slice (some ⟨gb, 0, none⟩) cr1.length cb2) (cr1.set ix.toNat 118) := (by rw [hw]; exact HP.1); clear HP; have nHC := Aside0.mk (Kd.R_over' (v := (.slice (some ⟨gb, 0, none⟩) cr1.length cb2)) HC.out (Kd.R_typed HR.out) (by decide) hg); have nHA := Aside0.mk (Kd.R_over' (v := (.slice (some ⟨gb, 0, none⟩) cr1.length cb2)) HA.out (Kd.R_typed HR.out) (by decide) hg); have nHR := Aside0.mk (hp_); have nHB := Aside0.mk ((by rw [hw]; exact below_set HB.out HGB.out : Below w.heap.size w ws)); clear HC HA HR HB; have HC := nHC; have HA := nHA; have HR := nHR; have HB := nHB; clear nHC nHA nHR nHB; clear hg hw hp_))
                go_roundg (ra.length - (t.toNat + 1))
                case measure => have := HT.out; have := HT7.out; omega
                case rel => exact ⟨t + 1, (by have := HT.out; have := HT7.out; have := Kd.C_max (Kd.R_reads' HA.out).2.2; rw [show wrap64 (t + 1) = t + 1 by unfold wrap64; omega]), ⟨by have := HT.out; have := HT7.out; omega⟩, HC, ⟨by
                  have ht := HT.out
                  have e : spec_l28Fold.crs ra rb cr (t + 1).toNat = cr1.set ix.toNat 118 := by
                    rw [show (t + 1).toNat = t.toNat + 1 by omega, spec_l28Fold.crs, ← HCR.out, HT0.out, ← HIX.out, HMK.out]
                  rw [e]; exact HR.out⟩, HA, HB⟩
            · have c7b : decide (t < (ra.length : Int)) = false := decide_eq_false c7
              have HTE := Aside0.mk (show cr1 = spec_l28Fold.crs ra rb cr ra.length by rw [HCR.out, show t.toNat = ra.length by have := HT.out; omega])
              clear c7 HCR HA
              go_wp2_with (first | ((with_reducible refine gate_dst (N := 76) rfl ?_); refine Kd.R_lit (Kd.slice 3 (Kd.int .i64)) _ 28 ?hg (N := 76) ?hd (xs := ([] : List (List Int))) (inner := []) (ok := fun _ => True) (okp := fun _ => True) ?hr ?hp (fun _ hk => hk) trivial (Below.refl _ _) (Nat.le_refl _) (by simp) ?_; (case hd => rfl); (case hg => rfl); (case hr => first | (go_simp; done) | (go_simp; rfl)); (case hp => exact (Reps.none _ _)); intro vn wn ho hb _ _; have W1C := Aside0.mk (Kd.R_mono (Kd.R_below (Kd.R_bound HC.out) hb) (ok' := fun k => k < wr.heap.size) (fun k hk => hk.2.2.1)); have W1R := Aside0.mk (Kd.R_mono (Kd.R_below (Kd.R_bound HR.out) hb) (ok' := fun k => k < wr.heap.size) (fun k hk => hk.2.2.1)); have HX := Aside0.mk ho; have HB1 := Aside0.mk hb; clear HC HR ho hb; have HC := W1C; have HR := W1R; clear W1C W1R))
              obtain ⟨W1, hW1⟩ : ∃ W1, W1 = wr := ⟨_, rfl⟩
              rw [← hW1] at HC HR HX HB1 HB
              clear hW1
              go_loopg [14, 15] hh.toNat (fun ki v14 v15 w' => ∃ (i : Int), v15 = .int .i64 i ∧ Aside0 (0 ≤ i ∧ i + ki = hh) ∧ Aside0 (Kd.R (Kd.slice 3 (Kd.int .i64)) 28 w' w.heap.size (fun k => k < W1.heap.size) (.slice (some ⟨gc, 0, none⟩) cols.length cc) cols) ∧ Aside0 (Kd.R (Kd.int .u8) 5 w' w.heap.size (fun k => k < W1.heap.size) vb cr1) ∧ Aside0 (Kd.R (Kd.slice 3 (Kd.int .i64)) 28 w' W1.heap.size (fun _ => True) v14 (spec_l28Fold.nexts (bt a0 j) cols i.toNat)) ∧ Aside0 (Below W1.heap.size W1 w'))
              case atStart => exact ⟨0, (by first | rfl | (simp; done) | (simp [*]; done)), ⟨by have := HH.out; omega⟩, HC, HR, ⟨by exact HX.out⟩, HB1⟩
              case round =>
                clear HC HR HX HB1
                obtain ⟨i, rfl, HI, HC, HR, HX, HB1⟩ := hrel
                obtain ⟨nx, hnx⟩ : ∃ n, n = spec_l28Fold.nexts (bt a0 j) cols i.toNat := ⟨_, rfl⟩
                rw [← hnx] at HX
                have HNX := Aside0.mk hnx
                clear hnx
                by_cases c9 : i < hh
                · have c9b : decide (i < hh) = true := decide_eq_true c9
                  have HI9 := Aside0.mk c9
                  obtain ⟨l1, hl1⟩ : ∃ l1 : Int, (wrap64 ((wrap64 ((cols.length : Int) - 1)) - i)) = l1 := ⟨_, rfl⟩
                  have hlz : (wrap64 ((cols.length : Int) - 1)) = (cols.length : Int) - 1 := by have := HC1.out; unfold wrap64; omega
                  have HL1 := Aside0.mk (show l1 = (cols.length : Int) - 1 - i by have := HC1.out; have := HI.out; have := HH.out; rw [← hl1, hlz]; unfold wrap64; omega)
                  clear hlz
                  have hl1w : (IntKind.i64.wrap ((wrap64 ((cols.length : Int) - 1)) - i)) = l1 := (i64_w _).trans hl1
                  have p4 : 0 ≤ i := HI.out.1
                  have q4 : i < (cols.length : Int) := by have := HH.out; have := HC1.out; omega
                  have p5 : 0 ≤ l1 := by have := HL1.out; have := HH.out; omega
                  have q5 : l1 < (cols.length : Int) := by have := HL1.out; omega
                  obtain ⟨Au, cu, hxu, hRu⟩ := spec_l28Fold.row HC.out i p4 q4
                  obtain ⟨Av, cv, hxv, hRv⟩ := spec_l28Fold.row HC.out l1 p5 q5
                  obtain ⟨ru, hru⟩ : ∃ r, r = cols.getD i.toNat [] := ⟨_, rfl⟩
                  obtain ⟨rv, hrv⟩ : ∃ r, r = cols.getD l1.toNat [] := ⟨_, rfl⟩
                  rw [← hru] at hRu hxu
                  rw [← hrv] at hRv hxv
                  have HU := Aside0.mk hRu
                  have HV := Aside0.mk hRv
                  have HRU := Aside0.mk hru
                  have HRV := Aside0.mk hrv
                  have p6 : 0 ≤ j := HJ.out.1
                  have q6 : j < (a0.size : Int) := HJ6.out
                  clear hRu hRv hru hrv c9
                  replace p4 := eq_true p4
                  replace q4 := eq_true q4
                  replace p5 := eq_true p5
                  replace q5 := eq_true q5
                  have hxj := bt_at a0 j
                  replace p6 := eq_true p6
                  replace q6 := eq_true q6
                  have HB1R := Aside0.mk HB1.out
                  have Z1 := Aside0.mk (show w.heap.size ≤ W1.heap.size from HB.out.size)
                  by_cases c76 : bt a0 j = 76
                  · have c76b : ((bt a0 j) == 76) = true := beq_iff_eq.mpr c76
                    have H76 := Aside0.mk c76
                    clear c76
                    obtain ⟨m1, hm1⟩ : ∃ m1 : Int, (wrap64 (hh + i)) = m1 := ⟨_, rfl⟩
                    have hm1w : (IntKind.i64.wrap (hh + i)) = m1 := (i64_w _).trans hm1
                    have HM1 := Aside0.mk (show m1 = hh + i by have h1_ := HH.out; have h2_ := HI.out; have h3_ := HC1.out; rw [← hm1]; unfold wrap64; omega)
                    obtain ⟨m2, hm2⟩ : ∃ m2 : Int, (wrap64 (h1 - i)) = m2 := ⟨_, rfl⟩
                    have hm2w : (IntKind.i64.wrap (h1 - i)) = m2 := (i64_w _).trans hm2
                    have HM2 := Aside0.mk (show m2 = hh - 1 - i by have h1_ := HH.out; have h2_ := HI.out; have h3_ := HC1.out; have h4_ := HH1.out; rw [← hm2]; unfold wrap64; omega)
                    have p8 : 0 ≤ m1 := by have h1_ := HM1.out; have h2_ := HH.out; have h3_ := HI.out; omega
                    have q8 : m1 < (cols.length : Int) := by have h1_ := HM1.out; have h2_ := HH.out; have h3_ := HI9.out; omega
                    have p9 : 0 ≤ m2 := by have h1_ := HM2.out; have h3_ := HI9.out; omega
                    have q9 : m2 < (cols.length : Int) := by have h1_ := HM2.out; have h2_ := HH.out; have h3_ := HI.out; omega
                    obtain ⟨Ax, cx, hxx, hRx⟩ := spec_l28Fold.row HC.out m1 p8 q8
                    obtain ⟨Ay, cy, hxy, hRy⟩ := spec_l28Fold.row HC.out m2 p9 q9
                    obtain ⟨rx, hrx⟩ : ∃ r, r = cols.getD m1.toNat [] := ⟨_, rfl⟩
                    obtain ⟨ry, hry⟩ : ∃ r, r = cols.getD m2.toNat [] := ⟨_, rfl⟩
                    rw [← hrx] at hRx hxx
                    rw [← hry] at hRy hxy
                    have HXX := Aside0.mk hRx
                    have HYY := Aside0.mk hRy
                    have HRX := Aside0.mk hrx
                    have HRY := Aside0.mk hry
                    clear hRx hRy hrx hry HU HV
                    replace p8 := eq_true p8
                    replace q8 := eq_true q8
                    replace p9 := eq_true p9
                    replace q9 := eq_true q9
                    have HLU := Aside0.mk (show rx.length ≤ 64 by rw [HRX.out]; exact HC3.out _)
                    have HLV := Aside0.mk (show ry.length ≤ 64 by rw [HRY.out]; exact HC3.out _)
                    go_wp2_with (first | ((with_reducible refine gate_dst (N := 111) rfl ?_); refine Kd.R_lit (Kd.int .i64) _ 3 ?hg (N := 111) ?hd (xs := ([] : List Int)) (inner := []) (ok := fun _ => True) (okp := fun _ => True) ?hr ?hp (fun _ hk => hk) trivial (Below.refl _ _) (Nat.le_refl _) (by simp) ?_; (case hd => rfl); (case hg => rfl); (case hr => first | (go_simp; done) | (go_simp; rfl)); (case hp => exact (Reps.none _ _)); intro vn wn ho hb _ _; have Z2 := Aside0.mk (show W1.heap.size ≤ wr.heap.size from HB1R.out.size); have nHC := Aside0.mk (Kd.R_below HC.out hb); have nHR := Aside0.mk (Kd.R_below HR.out hb); have nHX := Aside0.mk (Kd.R_mono (Kd.R_below (Kd.R_bound HX.out) hb) (ok' := fun k => k < wr.heap.size) (fun k hk => hk.2.2.1)); have nHXX := Aside0.mk (Kd.R_below HXX.out hb); have nHYY := Aside0.mk (Kd.R_below HYY.out hb); have nHCo := Aside0.mk (ho); have nHB2 := Aside0.mk (hb); clear HC HR HX HXX HYY; have HC := nHC; have HR := nHR; have HX := nHX; have HXX := nHXX; have HYY := nHYY; have HCo := nHCo; have HB2 := nHB2; clear nHC nHR nHX nHXX nHYY nHCo nHB2; clear ho hb) | ((with_reducible refine gate_builtin (b := .append) (xs := #[.tmp 111, .tmp 112]) rfl ?_); at_builtin; refine Kd.R_append_rows (Kd.int .i64) (w0 := wr) wr.heap.size rfl (.tmp 111) (.tmp 112) 28 3 (.int .i64 0) 8 rfl Try.underlying28 spec_l28Fold.inf3 rfl (by decide) (by omega) vn ([] : List Int) rx _ _ _ (fun _ => True) (fun _ => False) rfl rfl ?aO ?aR (fun _ _ h => h) (fun _ h => h.elim) ?aF ?aB ?aS ?aL ?_; (case aO => exact HCo.out); (case aR => exact (Kd.R_reads' HXX.out).2.2); (case aF => exact fun _ _ => trivial); (case aB => exact HB2.out); (case aS => exact HB2.out.size); (case aL => have := HLU.out; simp only [List.length_nil]; omega); intro v1 w1 ho hb hg hat; have nHC := Aside0.mk (Kd.R_grown HC.out hg (fun k hk e => by have h1_ := Kd.R_base HCo.out k e.symm; have h2_ := Z2.out; omega)); have nHR := Aside0.mk (Kd.R_grown HR.out hg (fun k hk e => by have h1_ := Kd.R_base HCo.out k e.symm; have h2_ := Z2.out; omega)); have nHX := Aside0.mk (Kd.R_grown HX.out hg (fun k hk e => by have h1_ := Kd.R_base HCo.out k e.symm; have h2_ := Z2.out; omega)); have nHXX := Aside0.mk (Kd.R_grown HXX.out hg (fun k hk e => by have h1_ := Kd.R_base HCo.out k e.symm; have h2_ := Z2.out; omega)); have nHYY := Aside0.mk (Kd.R_grown HYY.out hg (fun k hk e => by have h1_ := Kd.R_base HCo.out k e.symm; have h2_ := Z2.out; omega)); have nHCo := Aside0.mk (ho); have nHB2 := Aside0.mk (hb); clear HC HR HX HXX HYY HCo HB2; have HC := nHC; have HR := nHR; have HX := nHX; have HXX := nHXX; have HYY := nHYY; have HCo := nHCo; have HB2 := nHB2; clear nHC nHR nHX nHXX nHYY nHCo nHB2; clear ho hb hg hat))
                    obtain ⟨W2, hW2⟩ : ∃ W2, W2 = wr := ⟨_, rfl⟩
                    rw [← hW2] at HX HCo HB2 HB1R Z2
                    clear hW2 HXX
                    go_loopg [18, 19] ry.length (fun kt v18 v19 w' => ∃ (t : Int), v19 = .int .i64 t ∧ Aside0 (-1 ≤ t ∧ t + 1 = (kt : Int) ∧ t < (ry.length : Int)) ∧ Aside0 (Kd.R (Kd.slice 3 (Kd.int .i64)) 28 w' w.heap.size (fun k => k < W1.heap.size) (.slice (some ⟨gc, 0, none⟩) cols.length cc) cols) ∧ Aside0 (Kd.R (Kd.int .u8) 5 w' w.heap.size (fun k => k < W1.heap.size) vb cr1) ∧ Aside0 (Kd.R (Kd.slice 3 (Kd.int .i64)) 28 w' W1.heap.size (fun k => k < W2.heap.size) u14 nx) ∧ Aside0 (Kd.R (Kd.int .i64) 3 w' w.heap.size (fun k => k < W1.heap.size) (.slice Ay ry.length cy) ry) ∧ Aside0 (Kd.R (Kd.int .i64) 3 w' W2.heap.size (fun _ => True) v18 (rx ++ (ry.drop (t + 1).toNat).reverse.map spec_l28Fold.xr)) ∧ Aside0 (Below W2.heap.size W2 w'))
                    case atStart => exact ⟨(ry.length : Int) - 1, (by have := HLV.out; first | rfl | (rw [show wrap64 ((ry.length : Int) - 1) = (ry.length : Int) - 1 by unfold wrap64; omega])), ⟨by omega⟩, HC, HR, HX, HYY, ⟨by
                      rw [show ((ry.length : Int) - 1 + 1).toNat = ry.length by omega, List.drop_length]
                      simpa using HCo.out⟩, HB2⟩
                    case round =>
                      clear HC HR HX HYY HCo HB2
                      obtain ⟨t, rfl, HT, HC, HR, HX, HYY, HCo, HB2⟩ := hrel
                      obtain ⟨cl, hcl⟩ : ∃ c, c = rx ++ (ry.drop (t + 1).toNat).reverse.map spec_l28Fold.xr := ⟨_, rfl⟩
                      rw [← hcl] at HCo
                      have HCL := Aside0.mk hcl
                      have HCLL := Aside0.mk (show cl.length ≤ 128 by have h1_ := HLU.out; have h2_ := HLV.out; rw [hcl]; simp only [List.length_append, List.length_map, List.length_reverse, List.length_drop]; omega)
                      clear hcl
                      by_cases c10 : 0 ≤ t
                      · have c10b : decide (0 ≤ t) = true := decide_eq_true c10
                        have HT10 := Aside0.mk c10
                        have q7 : t < (ry.length : Int) := HT.out.2.2
                        obtain ⟨ade, ee, hxe⟩ := Kd.at_int (Kd.R_reads' HYY.out).2.2 t c10 q7
                        have hee := ee
                        subst ee
                        replace c10 := eq_true c10
                        replace q7 := eq_true q7
                        go_wp2_with (first | ((with_reducible refine gate_builtin (b := .append) (xs := #[.tmp 121, .tmp 127]) rfl ?_); at_builtin; refine Kd.R_append (Kd.int .i64) (w0 := W2) W2.heap.size rfl (.tmp 121) (.tmp 127) 28 3 (.int .i64 0) 8 rfl Try.underlying28 spec_l28Fold.inf3 rfl (by decide) (by omega) u18 cl (Go.bits .xor .i64 (rd ry t) 1) [.int .i64 (Go.bits .xor .i64 (rd ry t) 1)] (fun _ => True) (fun _ => False) rfl rfl ?aP (fun _ hk => hk.elim) ?aF ?aO ?aB ?aS ?aL ?_; (case aP => exact rfl); (case aF => exact (fun _ _ => trivial)); (case aO => exact HCo.out); (case aB => exact HB2.out); (case aS => exact HB2.out.size); (case aL => have := HCLL.out; omega); intro v1 w1 ho hb hg hat; have nHC := Aside0.mk (Kd.R_grown HC.out hg (fun k hk e => by have h1_ := Kd.R_base HCo.out k e.symm; have h2_ := Z2.out; omega)); have nHR := Aside0.mk (Kd.R_grown HR.out hg (fun k hk e => by have h1_ := Kd.R_base HCo.out k e.symm; have h2_ := Z2.out; omega)); have nHX := Aside0.mk (Kd.R_grown HX.out hg (fun k hk e => by have h1_ := Kd.R_base HCo.out k e.symm; have h2_ := Z2.out; omega)); have nHYY := Aside0.mk (Kd.R_grown HYY.out hg (fun k hk e => by have h1_ := Kd.R_base HCo.out k e.symm; have h2_ := Z2.out; omega)); have nHCo := Aside0.mk (ho); have nHB2 := Aside0.mk (hb); clear HC HR HX HYY HCo HB2; have HC := nHC; have HR := nHR; have HX := nHX; have HYY := nHYY; have HCo := nHCo; have HB2 := nHB2; clear nHC nHR nHX nHYY nHCo nHB2; clear ho hb hg hat))
                        go_roundg t.toNat
                        case measure => have := HT.out; have := HT10.out; omega
                        case rel => exact ⟨t - 1, (by have := HT.out; have := HT10.out; have := HLV.out; rw [show wrap64 (t - 1) = t - 1 by unfold wrap64; omega]), ⟨by have := HT.out; have := HT10.out; omega⟩, HC, HR, HX, HYY, ⟨by
                          have ht := HT.out
                          have ht2 := HT10.out
                          have e : rx ++ (ry.drop (t - 1 + 1).toNat).reverse.map spec_l28Fold.xr = cl ++ [Go.bits .xor .i64 (rd ry t) 1] := by
                            have hlt : t.toNat < ry.length := by omega
                            rw [show (t - 1 + 1).toNat = t.toNat by omega, List.drop_eq_getElem_cons hlt, HCL.out, show (t + 1).toNat = t.toNat + 1 by omega]
                            have hrd : rd ry t = ry[t.toNat] := by unfold rd; rw [List.getD_eq_getElem?_getD, List.getElem?_eq_getElem hlt]; rfl
                            rw [hrd, List.reverse_cons, List.map_append, List.append_assoc]
                            rfl
                          rw [e]; exact HCo.out⟩, HB2⟩
                      · have c10b : decide (0 ≤ t) = false := decide_eq_false c10
                        have HCL2 := Aside0.mk (show cl = spec_l28Fold.cut (bt a0 j) cols i.toNat by
                          have ht := HT.out
                          rw [HCL.out, show (t + 1).toNat = 0 by omega, List.drop_zero]
                          unfold spec_l28Fold.cut; rw [if_pos H76.out, HRX.out, HRY.out, show m1.toNat = cols.length / 2 + i.toNat by have h1_ := HM1.out; have h2_ := HH.out; have h3_ := HI.out; omega, show m2.toNat = cols.length / 2 - 1 - i.toNat by have h1_ := HM2.out; have h2_ := HH.out; have h3_ := HI.out; omega]; rfl)
                        have HNW := Aside0.mk (Kd.R_lower HCo.out Z2.out)
                        clear HCo c10
                        obtain ⟨An, cn, en⟩ := Kd.R_slice HNW.out
                        subst en
                        go_wp2_with (first | ((with_reducible refine gate_builtin (b := .append) (xs := #[.tmp 129, .tmp 131]) rfl ?_); at_builtin; refine Kd.R_append (Kd.slice 3 (Kd.int .i64)) (w0 := W1) W1.heap.size rfl (.tmp 129) (.tmp 131) 36 28 (.slice none 0 0) 24 rfl Try.underlying36 spec_l28Fold.inf25 rfl (by decide) (by omega) u14 nx cl [.slice An cl.length cn] (fun _ => True) (fun k_ => some k_ = (.slice An cl.length cn : Value).ownBlock) rfl rfl ?aP ?aK ?aF ?aO ?aB ?aS ?aL ?_; (case aP => exact Kd.M_row (Kd.R_mono (Kd.R_tight rfl HNW.out) (fun _ h_ => h_))); (case aK => exact fun k_ hk_ => ⟨trivial, (Kd.R_apart' HNW.out (Kd.R_typed HX.out) (by decide)).1 k_ hk_.symm |>.2⟩); (case aF => exact fun _ _ => trivial); (case aO => exact (Kd.R_mono HX.out (fun _ _ => trivial))); (case aB => exact (below_step HB1R.out HB2.out)); (case aS => exact (below_step HB1R.out HB2.out).size); (case aL => have h1_ := HI.out; have h2_ := HH.out; have h3_ := HC1.out; have hl_ : nx.length = i.toNat := (by rw [HNX.out]; exact spec_l28Fold.nexts_len _ _ _); have h4_ := HI9.out; omega); intro v1 w1 ho hb hg hat; have nHC := Aside0.mk (Kd.R_grown HC.out hg (fun k hk e => by have h1_ := Kd.R_base HX.out k e.symm; omega)); have nHR := Aside0.mk (Kd.R_grown HR.out hg (fun k hk e => by have h1_ := Kd.R_base HX.out k e.symm; omega)); have nHX := Aside0.mk (ho); have nHB1 := Aside0.mk (hb); clear HC HR HX; have HC := nHC; have HR := nHR; have HX := nHX; have HB1 := nHB1; clear nHC nHR nHX nHB1; clear ho hb hg hat))
                        go_roundg (hh.toNat - (i.toNat + 1))
                        case measure => have := HI.out; have := HI9.out; omega
                        case rel => exact ⟨i + 1, (by have h1_ := HI.out; have h2_ := HI9.out; have h3_ := HH.out; have h4_ := HC1.out; rw [show wrap64 (i + 1) = i + 1 by unfold wrap64; omega]), ⟨by have := HI.out; have := HI9.out; omega⟩, HC, HR, ⟨by
                          have hi := HI.out
                          have e : spec_l28Fold.nexts (bt a0 j) cols (i + 1).toNat = nx ++ [cl] := by
                            rw [show (i + 1).toNat = i.toNat + 1 by omega, spec_l28Fold.nexts_succ, ← HNX.out, HCL2.out]
                          rw [e]; exact HX.out⟩, HB1⟩
                  · have c76b : ((bt a0 j) == 76) = false := beq_eq_false_iff_ne.mpr c76
                    have H76 := Aside0.mk c76
                    clear c76
                    have HLU := Aside0.mk (show ru.length ≤ 64 by rw [HRU.out]; exact HC3.out _)
                    have HLV := Aside0.mk (show rv.length ≤ 64 by rw [HRV.out]; exact HC3.out _)
                    go_wp2_with (first | ((with_reducible refine gate_dst (N := 111) rfl ?_); refine Kd.R_lit (Kd.int .i64) _ 3 ?hg (N := 111) ?hd (xs := ([] : List Int)) (inner := []) (ok := fun _ => True) (okp := fun _ => True) ?hr ?hp (fun _ hk => hk) trivial (Below.refl _ _) (Nat.le_refl _) (by simp) ?_; (case hd => rfl); (case hg => rfl); (case hr => first | (go_simp; done) | (go_simp; rfl)); (case hp => exact (Reps.none _ _)); intro vn wn ho hb _ _; have Z2 := Aside0.mk (show W1.heap.size ≤ wr.heap.size from HB1R.out.size); have nHC := Aside0.mk (Kd.R_below HC.out hb); have nHR := Aside0.mk (Kd.R_below HR.out hb); have nHX := Aside0.mk (Kd.R_mono (Kd.R_below (Kd.R_bound HX.out) hb) (ok' := fun k => k < wr.heap.size) (fun k hk => hk.2.2.1)); have nHU := Aside0.mk (Kd.R_below HU.out hb); have nHV := Aside0.mk (Kd.R_below HV.out hb); have nHCo := Aside0.mk (ho); have nHB2 := Aside0.mk (hb); clear HC HR HX HU HV; have HC := nHC; have HR := nHR; have HX := nHX; have HU := nHU; have HV := nHV; have HCo := nHCo; have HB2 := nHB2; clear nHC nHR nHX nHU nHV nHCo nHB2; clear ho hb) | ((with_reducible refine gate_builtin (b := .append) (xs := #[.tmp 111, .tmp 112]) rfl ?_); at_builtin; refine Kd.R_append_rows (Kd.int .i64) (w0 := wr) wr.heap.size rfl (.tmp 111) (.tmp 112) 28 3 (.int .i64 0) 8 rfl Try.underlying28 spec_l28Fold.inf3 rfl (by decide) (by omega) vn ([] : List Int) ru _ _ _ (fun _ => True) (fun _ => False) rfl rfl ?aO ?aR (fun _ _ h => h) (fun _ h => h.elim) ?aF ?aB ?aS ?aL ?_; (case aO => exact HCo.out); (case aR => exact (Kd.R_reads' HU.out).2.2); (case aF => exact fun _ _ => trivial); (case aB => exact HB2.out); (case aS => exact HB2.out.size); (case aL => have := HLU.out; simp only [List.length_nil]; omega); intro v1 w1 ho hb hg hat; have nHC := Aside0.mk (Kd.R_grown HC.out hg (fun k hk e => by have h1_ := Kd.R_base HCo.out k e.symm; have h2_ := Z2.out; omega)); have nHR := Aside0.mk (Kd.R_grown HR.out hg (fun k hk e => by have h1_ := Kd.R_base HCo.out k e.symm; have h2_ := Z2.out; omega)); have nHX := Aside0.mk (Kd.R_grown HX.out hg (fun k hk e => by have h1_ := Kd.R_base HCo.out k e.symm; have h2_ := Z2.out; omega)); have nHU := Aside0.mk (Kd.R_grown HU.out hg (fun k hk e => by have h1_ := Kd.R_base HCo.out k e.symm; have h2_ := Z2.out; omega)); have nHV := Aside0.mk (Kd.R_grown HV.out hg (fun k hk e => by have h1_ := Kd.R_base HCo.out k e.symm; have h2_ := Z2.out; omega)); have nHCo := Aside0.mk (ho); have nHB2 := Aside0.mk (hb); clear HC HR HX HU HV HCo HB2; have HC := nHC; have HR := nHR; have HX := nHX; have HU := nHU; have HV := nHV; have HCo := nHCo; have HB2 := nHB2; clear nHC nHR nHX nHU nHV nHCo nHB2; clear ho hb hg hat))
                    obtain ⟨W2, hW2⟩ : ∃ W2, W2 = wr := ⟨_, rfl⟩
                    rw [← hW2] at HX HCo HB2 HB1R Z2
                    clear hW2 HU
                    go_loopg [18, 19] rv.length (fun kt v18 v19 w' => ∃ (t : Int), v19 = .int .i64 t ∧ Aside0 (-1 ≤ t ∧ t + 1 = (kt : Int) ∧ t < (rv.length : Int)) ∧ Aside0 (Kd.R (Kd.slice 3 (Kd.int .i64)) 28 w' w.heap.size (fun k => k < W1.heap.size) (.slice (some ⟨gc, 0, none⟩) cols.length cc) cols) ∧ Aside0 (Kd.R (Kd.int .u8) 5 w' w.heap.size (fun k => k < W1.heap.size) vb cr1) ∧ Aside0 (Kd.R (Kd.slice 3 (Kd.int .i64)) 28 w' W1.heap.size (fun k => k < W2.heap.size) u14 nx) ∧ Aside0 (Kd.R (Kd.int .i64) 3 w' w.heap.size (fun k => k < W1.heap.size) (.slice Av rv.length cv) rv) ∧ Aside0 (Kd.R (Kd.int .i64) 3 w' W2.heap.size (fun _ => True) v18 (ru ++ (rv.drop (t + 1).toNat).reverse.map spec_l28Fold.xr)) ∧ Aside0 (Below W2.heap.size W2 w'))
                    case atStart => exact ⟨(rv.length : Int) - 1, (by have := HLV.out; first | rfl | (rw [show wrap64 ((rv.length : Int) - 1) = (rv.length : Int) - 1 by unfold wrap64; omega])), ⟨by omega⟩, HC, HR, HX, HV, ⟨by
                      rw [show ((rv.length : Int) - 1 + 1).toNat = rv.length by omega, List.drop_length]
                      simpa using HCo.out⟩, HB2⟩
                    case round =>
                      clear HC HR HX HV HCo HB2
                      obtain ⟨t, rfl, HT, HC, HR, HX, HV, HCo, HB2⟩ := hrel
                      obtain ⟨cl, hcl⟩ : ∃ c, c = ru ++ (rv.drop (t + 1).toNat).reverse.map spec_l28Fold.xr := ⟨_, rfl⟩
                      rw [← hcl] at HCo
                      have HCL := Aside0.mk hcl
                      have HCLL := Aside0.mk (show cl.length ≤ 128 by have h1_ := HLU.out; have h2_ := HLV.out; rw [hcl]; simp only [List.length_append, List.length_map, List.length_reverse, List.length_drop]; omega)
                      clear hcl
                      by_cases c10 : 0 ≤ t
                      · have c10b : decide (0 ≤ t) = true := decide_eq_true c10
                        have HT10 := Aside0.mk c10
                        have q7 : t < (rv.length : Int) := HT.out.2.2
                        obtain ⟨ade, ee, hxe⟩ := Kd.at_int (Kd.R_reads' HV.out).2.2 t c10 q7
                        have hee := ee
                        subst ee
                        replace c10 := eq_true c10
                        replace q7 := eq_true q7
                        go_wp2_with (first | ((with_reducible refine gate_builtin (b := .append) (xs := #[.tmp 121, .tmp 127]) rfl ?_); at_builtin; refine Kd.R_append (Kd.int .i64) (w0 := W2) W2.heap.size rfl (.tmp 121) (.tmp 127) 28 3 (.int .i64 0) 8 rfl Try.underlying28 spec_l28Fold.inf3 rfl (by decide) (by omega) u18 cl (Go.bits .xor .i64 (rd rv t) 1) [.int .i64 (Go.bits .xor .i64 (rd rv t) 1)] (fun _ => True) (fun _ => False) rfl rfl ?aP (fun _ hk => hk.elim) ?aF ?aO ?aB ?aS ?aL ?_; (case aP => exact rfl); (case aF => exact (fun _ _ => trivial)); (case aO => exact HCo.out); (case aB => exact HB2.out); (case aS => exact HB2.out.size); (case aL => have := HCLL.out; omega); intro v1 w1 ho hb hg hat; have nHC := Aside0.mk (Kd.R_grown HC.out hg (fun k hk e => by have h1_ := Kd.R_base HCo.out k e.symm; have h2_ := Z2.out; omega)); have nHR := Aside0.mk (Kd.R_grown HR.out hg (fun k hk e => by have h1_ := Kd.R_base HCo.out k e.symm; have h2_ := Z2.out; omega)); have nHX := Aside0.mk (Kd.R_grown HX.out hg (fun k hk e => by have h1_ := Kd.R_base HCo.out k e.symm; have h2_ := Z2.out; omega)); have nHV := Aside0.mk (Kd.R_grown HV.out hg (fun k hk e => by have h1_ := Kd.R_base HCo.out k e.symm; have h2_ := Z2.out; omega)); have nHCo := Aside0.mk (ho); have nHB2 := Aside0.mk (hb); clear HC HR HX HV HCo HB2; have HC := nHC; have HR := nHR; have HX := nHX; have HV := nHV; have HCo := nHCo; have HB2 := nHB2; clear nHC nHR nHX nHV nHCo nHB2; clear ho hb hg hat))
                        go_roundg t.toNat
                        case measure => have := HT.out; have := HT10.out; omega
                        case rel => exact ⟨t - 1, (by have := HT.out; have := HT10.out; have := HLV.out; rw [show wrap64 (t - 1) = t - 1 by unfold wrap64; omega]), ⟨by have := HT.out; have := HT10.out; omega⟩, HC, HR, HX, HV, ⟨by
                          have ht := HT.out
                          have ht2 := HT10.out
                          have e : ru ++ (rv.drop (t - 1 + 1).toNat).reverse.map spec_l28Fold.xr = cl ++ [Go.bits .xor .i64 (rd rv t) 1] := by
                            have hlt : t.toNat < rv.length := by omega
                            rw [show (t - 1 + 1).toNat = t.toNat by omega, List.drop_eq_getElem_cons hlt, HCL.out, show (t + 1).toNat = t.toNat + 1 by omega]
                            have hrd : rd rv t = rv[t.toNat] := by unfold rd; rw [List.getD_eq_getElem?_getD, List.getElem?_eq_getElem hlt]; rfl
                            rw [hrd, List.reverse_cons, List.map_append, List.append_assoc]
                            rfl
                          rw [e]; exact HCo.out⟩, HB2⟩
                      · have c10b : decide (0 ≤ t) = false := decide_eq_false c10
                        have HCL2 := Aside0.mk (show cl = spec_l28Fold.cut (bt a0 j) cols i.toNat by
                          have ht := HT.out
                          rw [HCL.out, show (t + 1).toNat = 0 by omega, List.drop_zero]
                          unfold spec_l28Fold.cut; rw [if_neg H76.out, HRU.out, HRV.out, show l1.toNat = cols.length - 1 - i.toNat by have h1_ := HL1.out; have h2_ := HC1.out; have h3_ := HI.out; omega]; rfl)
                        have HNW := Aside0.mk (Kd.R_lower HCo.out Z2.out)
                        clear HCo c10
                        obtain ⟨An, cn, en⟩ := Kd.R_slice HNW.out
                        subst en
                        go_wp2_with (first | ((with_reducible refine gate_builtin (b := .append) (xs := #[.tmp 129, .tmp 131]) rfl ?_); at_builtin; refine Kd.R_append (Kd.slice 3 (Kd.int .i64)) (w0 := W1) W1.heap.size rfl (.tmp 129) (.tmp 131) 36 28 (.slice none 0 0) 24 rfl Try.underlying36 spec_l28Fold.inf25 rfl (by decide) (by omega) u14 nx cl [.slice An cl.length cn] (fun _ => True) (fun k_ => some k_ = (.slice An cl.length cn : Value).ownBlock) rfl rfl ?aP ?aK ?aF ?aO ?aB ?aS ?aL ?_; (case aP => exact Kd.M_row (Kd.R_mono (Kd.R_tight rfl HNW.out) (fun _ h_ => h_))); (case aK => exact fun k_ hk_ => ⟨trivial, (Kd.R_apart' HNW.out (Kd.R_typed HX.out) (by decide)).1 k_ hk_.symm |>.2⟩); (case aF => exact fun _ _ => trivial); (case aO => exact (Kd.R_mono HX.out (fun _ _ => trivial))); (case aB => exact (below_step HB1R.out HB2.out)); (case aS => exact (below_step HB1R.out HB2.out).size); (case aL => have h1_ := HI.out; have h2_ := HH.out; have h3_ := HC1.out; have hl_ : nx.length = i.toNat := (by rw [HNX.out]; exact spec_l28Fold.nexts_len _ _ _); have h4_ := HI9.out; omega); intro v1 w1 ho hb hg hat; have nHC := Aside0.mk (Kd.R_grown HC.out hg (fun k hk e => by have h1_ := Kd.R_base HX.out k e.symm; omega)); have nHR := Aside0.mk (Kd.R_grown HR.out hg (fun k hk e => by have h1_ := Kd.R_base HX.out k e.symm; omega)); have nHX := Aside0.mk (ho); have nHB1 := Aside0.mk (hb); clear HC HR HX; have HC := nHC; have HR := nHR; have HX := nHX; have HB1 := nHB1; clear nHC nHR nHX nHB1; clear ho hb hg hat))
                        go_roundg (hh.toNat - (i.toNat + 1))
                        case measure => have := HI.out; have := HI9.out; omega
                        case rel => exact ⟨i + 1, (by have h1_ := HI.out; have h2_ := HI9.out; have h3_ := HH.out; have h4_ := HC1.out; rw [show wrap64 (i + 1) = i + 1 by unfold wrap64; omega]), ⟨by have := HI.out; have := HI9.out; omega⟩, HC, HR, ⟨by
                          have hi := HI.out
                          have e : spec_l28Fold.nexts (bt a0 j) cols (i + 1).toNat = nx ++ [cl] := by
                            rw [show (i + 1).toNat = i.toNat + 1 by omega, spec_l28Fold.nexts_succ, ← HNX.out, HCL2.out]
                          rw [e]; exact HX.out⟩, HB1⟩
                · have c9b : decide (i < hh) = false := decide_eq_false c9
                  have HIE := Aside0.mk (show i.toNat = cols.length / 2 by have h1_ := HI.out; have h2_ := HH.out; omega)
                  clear c9
                  go_wp2
                  go_roundg kq
                  case measure => omega
                  case rel => exact ⟨nx, cr1, j + 1, (by have h1_ := HJ.out; have h2_ := HJ6.out; have h3_ := HN.out; rw [show wrap64 (j + 1) = j + 1 by unfold wrap64; omega]), ⟨by have := HJ.out; omega⟩, ⟨by
                    have hj := HJ.out
                    have hg := HG2.out
                    rw [show (j + 1).toNat = j.toNat + 1 by omega, HNX.out, HIE.out, HTE.out]
                    rw [show ((j.toNat : Nat) : Int) = j by omega] at hg
                    exact hg⟩, ⟨Kd.R_mono (Kd.R_lower HX.out HB.out.size) (fun _ _ => trivial)⟩, ⟨Kd.R_mono HR.out (fun _ _ => trivial)⟩, ⟨below_step HB.out HB1.out⟩⟩
        · have c6b : decide (j < (a0.size : Int)) = false := decide_eq_false c6
          have hk0 : gk = 0 := by have := HJ.out; omega
          subst hk0
          have hg := HG.out
          rw [spec_l28Fold.go] at hg
          injection hg with hg
          injection hg with hg1 hg2
          subst hg1
          subst hg2
          have hf := HFIN.out
          (try simp only at hf)
          by_cases cf : 1 ≤ cols.length ∧ 1 ≤ cr.length
          case neg => rw [if_neg cf] at hf; cases hf
          rw [if_pos cf] at hf
          injection hf with hf
          injection hf with hf1 hf2
          obtain ⟨gc, cc, ec, _, _, _⟩ := Kd.R_form HC.out (by omega)
          subst ec
          have q1 : (0 : Int) < (cols.length : Int) := by omega
          obtain ⟨Aa, ca, hxa, hRa⟩ := spec_l28Fold.row HC.out 0 (by omega) q1
          have hx0 := hxa
          rw [show ((0 : Int)).toNat = 0 from rfl] at hx0 hRa
          rw [hf1] at hx0 hRa
          have HRa := Aside0.mk hRa
          have qi : (0 < cols.length) = True := eq_true (by omega)
          clear hxa hRa hf1
          replace q1 := eq_true q1
          obtain ⟨Ar, cr2, er⟩ := Kd.R_slice HR.out
          subst er
          have q86 : (1 : Int) ≤ ((cr.length : Int) : Int) := by omega
          obtain ⟨i086, hi086, _, hsz86, _⟩ := info_parts spec_l28Fold.inf5
          have hcut86 := cut_from (P := Try.prog) 27 5 .i64 Try.underlying27 hi086 1 hsz86 Ar cr.length cr2 1 (by omega) q86
          have hr86 := Kd.Q_drop (k := (1 : Int).toNat) (Kd.Q_of_R HR.out) (by omega)
          obtain ⟨A86, hA86⟩ : ∃ A1, A1 = (if cr2 = (1 : Int).toNat then Ar else (Ar : Option Addr).map (·.add ((1 : Int).toNat * 1))) := ⟨_, rfl⟩
          obtain ⟨c86, hc86⟩ : ∃ c1, c1 = cr2 - (1 : Int).toNat := ⟨_, rfl⟩
          have hy86 : r2.length = cr.length - (1 : Int).toNat := (by rw [← hf2, List.length_drop]; rfl)
          rw [show cr.drop ((1 : Int).toNat) = r2 from hf2] at hr86
          rw [← hy86, ← hA86, ← hc86] at hcut86
          replace hr86 : Kd.Q (Kd.int .u8) 5 wr w.heap.size (fun _ => True) (.slice A86 r2.length c86) r2 := (by rw [hA86, hc86, hy86]; exact hr86)
          have HQ := Aside0.mk hr86
          clear hy86 hi086 hsz86 HR hA86 hc86 hr86 cf hf2 c6
          replace q86 := eq_true q86
          go_wp2
          repeat (go_quiet (fail); try go_wp2)
          go_ret2
          exact ⟨_, _, by first | rfl | simp, by (with_reducible repeat (first | apply Kd.R_alloc | apply Kd.R_drewN | apply Kd.R_drew)); exact Kd.R_mono HRa.out (fun _ _ => trivial), by (with_reducible repeat (first | apply Kd.Q_alloc | apply Kd.Q_drewN | apply Kd.Q_drew)); exact HQ.out, by repeat (first | exact HB.out | apply pw_below_drewN | apply below_drew1)⟩

/-! ### spec_CreasesOf: function 6 -/
def spec_CreasesOf.f (k : Nat) (a0 : ByteArray) : Option (ByteArray) := (spec_FoldWordOk.f k a0).bind fun t101 => (if t101 = true then ((spec_l28Fold.f a0).bind fun bt102 => (some (strOfNums bt102.2))) else (some (⟨#[]⟩ : ByteArray)))
theorem spec_CreasesOf.mono : ∀ a0 k, LeO (spec_CreasesOf.f k a0) (spec_CreasesOf.f (k + 1) a0) := by
  intro a0 k
  unfold spec_CreasesOf.f
  repeat' first
      | (with_reducible exact spec_FoldWordOk.mono _ _)
      | (with_reducible exact LeO.refl _)
      | (with_reducible exact LeO.none _)
      | (with_reducible refine LeO.ite ?_ ?_)
      | (with_reducible refine LeO.bind ?_ (fun _ => ?_))
      | exact spec_FoldWordOk.mono _ _
      | exact LeO.none _
      | refine LeO.ite ?_ ?_
      | refine LeO.bind ?_ (fun _ => ?_)
set_option maxHeartbeats 8000000 in
set_option maxRecDepth 100000 in
theorem spec_CreasesOf.calls (k : Nat) (a0 : ByteArray) (r : ByteArray) (w : World) (h : spec_CreasesOf.f k a0 = some r) :
    Calls Try.prog 6 #[.string a0] w fun e w' => e = .returned (.string r) ∧ Below w.heap.size w w' := by
  have HB := Aside0.mk (Below.refl w.heap.size w)
  have H : ((spec_FoldWordOk.f k a0).bind fun t101 => (if t101 = true then ((spec_l28Fold.f a0).bind fun bt102 => (some (strOfNums bt102.2))) else (some (⟨#[]⟩ : ByteArray)))) = some r := h
  clear h
  replace H := Option.bind_eq_some_iff.mp H
  obtain ⟨t101, A20, H⟩ := H
  replace H : (if t101 = true then ((spec_l28Fold.f a0).bind fun bt102 => (some (strOfNums bt102.2))) else (some (⟨#[]⟩ : ByteArray))) = some r := H
  have A2 := Aside0.mk A20
  clear A20
  by_cases c3 : t101 = true
  · subst c3
    have H1 : ((spec_l28Fold.f a0).bind fun bt102 => (some (strOfNums bt102.2))) = some r := by rw [if_pos rfl] at H; exact H
    clear H
    have H := H1
    clear H1
    replace H := Option.bind_eq_some_iff.mp H
    obtain ⟨⟨t102, t103⟩, A40, H⟩ := H
    replace H : (some (strOfNums t103)) = some r := H
    have A4 := Aside0.mk A40
    clear A40
    obtain rfl := Option.some.inj H
    go_enter Try.func6, Try.ntmps6
    go_wp2_with (first | ((with_reducible refine gate_callee (f := 9) rfl ?_); refine goesL_ (some 6) rfl rfl Try.func9 (by kernel_rfl) rfl #[.string a0] rfl (by (try simp only [List.map_toArray, List.map_cons, List.map_nil]); first | done | rfl | (simp only [List.length_drop, List.length_take]; rfl)) ?_; (with_reducible refine (spec_FoldWordOk.calls k a0 true _ A2.out).mono ?_); rintro e w' ⟨rfl, ⟨nd, rfl⟩⟩; refine ⟨_, rfl, ?_⟩) | ((with_reducible refine gate_callee (f := 10) rfl ?_); refine goesL_ (some 10) rfl rfl Try.func10 (by kernel_rfl) rfl #[.string a0] rfl (by (try simp only [List.map_toArray, List.map_cons, List.map_nil]); first | done | rfl | (simp only [List.length_drop, List.length_take]; rfl)) ?_; (with_reducible refine (spec_l28Fold.calls a0 t102 t103 _ A4.out).mono ?_); rintro e w5 ⟨v104, v106, rfl, ho0, ho1, hb⟩; refine ⟨_, rfl, ?_⟩; have n0_ := Aside0.mk (Kd.R_lower ho0 (below_size (by repeat (first | (with_reducible first | exact HB.out | apply below_alloc | apply pw_below_drewN | apply below_drew1) | exact HB.out)))); have n1_ := Aside0.mk (Kd.Q_lower ho1 (below_size (by repeat (first | (with_reducible first | exact HB.out | apply below_alloc | apply pw_below_drewN | apply below_drew1) | exact HB.out)))); have n2_ := Aside0.mk (below_step (by repeat (first | (with_reducible first | exact HB.out | apply below_alloc | apply pw_below_drewN | apply below_drew1) | exact HB.out)) hb); clear HB; have HO105 := n0_; have HO107 := n1_; have HB := n2_; clear n0_ n1_ n2_; (try clear hb); (try clear hb2); (try clear hk); (try clear hi); (try clear ho0); (try clear ho1); (first | have hcv6 := own_string (P := Try.prog) Try.underlying27 Try.underlying5 Try.underlying9 (Kd.own_of_R HO107.out) | (obtain ⟨A_, c_, e_, _⟩ := Kd.Q_slice HO107.out; subst e_; have hcv6 := Kd.C_string (P := Try.prog) (c := c_) Try.underlying27 Try.underlying5 Try.underlying9 (Kd.Q_reads' HO107.out).2.2))))
    go_ret
    exact ⟨by first | rfl | (simp [errW_none, errW_some] <;> rfl) | (simp [*, errW_none, errW_some] <;> rfl), by repeat (first | (with_reducible first | exact HB.out | apply below_alloc | apply pw_below_drewN | apply below_drew1) | exact HB.out)⟩
  · replace c3 := Bool.eq_false_iff.mpr c3
    subst c3
    have H1 : (some (⟨#[]⟩ : ByteArray)) = some r := by rw [if_neg (show ¬ (false = true) by decide)] at H; exact H
    clear H
    have H := H1
    clear H1
    obtain rfl := Option.some.inj H
    go_enter Try.func6, Try.ntmps6
    go_wp2_with (first | ((with_reducible refine gate_callee (f := 9) rfl ?_); refine goesL_ (some 6) rfl rfl Try.func9 (by kernel_rfl) rfl #[.string a0] rfl (by (try simp only [List.map_toArray, List.map_cons, List.map_nil]); first | done | rfl | (simp only [List.length_drop, List.length_take]; rfl)) ?_; (with_reducible refine (spec_FoldWordOk.calls k a0 false _ A2.out).mono ?_); rintro e w' ⟨rfl, ⟨nd, rfl⟩⟩; refine ⟨_, rfl, ?_⟩))
    go_ret
    exact ⟨by first | rfl | (simp [errW_none, errW_some] <;> rfl) | (simp [*, errW_none, errW_some] <;> rfl), by repeat (first | (with_reducible first | exact HB.out | apply below_alloc | apply pw_below_drewN | apply below_drew1) | exact HB.out)⟩

/-! ### spec_l28Word: function 7 -/
def spec_l28Word.l0 : Nat → Int → ByteArray → Int → Option (ByteArray)
  | 0, _, _, _ => none
  | k + 1, x1, x5, x6 => if x6 ≥ 0 then (if 0 ≤ x6 then (if (Go.bits .and .i64 (shr .i64 x1 x6) 1) = 1 then (if x5.size + 1 ≤ 9223372036854775807 then (spec_l28Word.l0 k x1 (x5 ++ (⟨#[82]⟩ : ByteArray)) (wrap64 (x6 - 1))) else (none)) else (if x5.size + 1 ≤ 9223372036854775807 then (spec_l28Word.l0 k x1 (x5 ++ (⟨#[76]⟩ : ByteArray)) (wrap64 (x6 - 1))) else (none))) else (none)) else (some x5)
def spec_l28Word.f (k : Nat) (a0 : Int) (a1 : Int) : Option (ByteArray) := spec_l28Word.l0 k a1 (⟨#[]⟩ : ByteArray) (wrap64 (a0 - 1))
theorem spec_l28Word.mono_l : ∀ k, (∀ y0 y1 y2, LeO (spec_l28Word.l0 k y0 y1 y2) (spec_l28Word.l0 (k + 1) y0 y1 y2))
  | 0 => fun _ _ _ r h => by simp [spec_l28Word.l0] at h
  | k + 1 => by
    have ih0 := spec_l28Word.mono_l k
    · intro y0 y1 y2
      unfold spec_l28Word.l0
      repeat' first
      | (with_reducible exact ih0 _ _ _)
      | (with_reducible exact LeO.refl _)
      | (with_reducible exact LeO.none _)
      | (with_reducible refine LeO.ite ?_ ?_)
      | (with_reducible refine LeO.bind ?_ (fun _ => ?_))
      | exact ih0 _ _ _
      | exact LeO.none _
      | refine LeO.ite ?_ ?_
      | refine LeO.bind ?_ (fun _ => ?_)
theorem spec_l28Word.mono : ∀ a0 a1 k, LeO (spec_l28Word.f k a0 a1) (spec_l28Word.f (k + 1) a0 a1) := by
  intro a0 a1 k
  have ih0 := spec_l28Word.mono_l k
  unfold spec_l28Word.f
  repeat' first
      | (with_reducible exact ih0 _ _ _)
      | (with_reducible exact LeO.refl _)
      | (with_reducible exact LeO.none _)
      | (with_reducible refine LeO.ite ?_ ?_)
      | (with_reducible refine LeO.bind ?_ (fun _ => ?_))
      | exact ih0 _ _ _
      | exact LeO.none _
      | refine LeO.ite ?_ ?_
      | refine LeO.bind ?_ (fun _ => ?_)
set_option maxHeartbeats 8000000 in
set_option maxRecDepth 100000 in
theorem spec_l28Word.calls (k : Nat) (a0 : Int) (a1 : Int) (r : ByteArray) (w : World) (h : spec_l28Word.f k a0 a1 = some r) :
    Calls Try.prog 7 #[.int .i64 a0, .int .i64 a1] w fun e w' => e = .returned (.string r) ∧ Drawn0 w w' := by
  have H : (spec_l28Word.l0 k a1 (⟨#[]⟩ : ByteArray) (wrap64 (a0 - 1))) = some r := h
  clear h
  have H' := Aside0.mk H
  clear H
  go_enter Try.func7, Try.ntmps7
  go_wp2
  go_loopg [5, 6] k (fun kq v5 v6 w' => ∃ (x5_1 : ByteArray) (x6_1 : Int), v5 = .string x5_1 ∧ v6 = .int .i64 x6_1 ∧ Aside0 (spec_l28Word.l0 kq a1 x5_1 x6_1 = some r) ∧ Aside0 (kq ≤ k) ∧ Drawn0 w w')
  case atStart => exact ⟨((⟨#[]⟩ : ByteArray)), (wrap64 (a0 - 1)), (by first | rfl | (simp; done) | (simp [*]; done)), (by first | rfl | (simp; done) | (simp [*]; done)), H', ⟨Nat.le_refl _⟩, by repeat (first | exact Drawn0.refl _ | apply Drawn0.step)⟩
  case round =>
    clear H'
    try clear p2
    obtain ⟨x5_1, x6_1, rfl, rfl, HA, HK1, ⟨m1, rfl⟩⟩ := hrel
    cases gk with
    | zero => exact absurd HA.out (by simp [spec_l28Word.l0])
    | succ k1 =>
      have H := HA.out
      clear HA
      simp only [spec_l28Word.l0] at H
      by_cases c3 : x6_1 ≥ 0
      · rw [if_pos c3] at H
        have c3b0 : decide (0 ≤ x6_1) = true := decide_eq_true c3
        clear c3
        by_cases c4 : 0 ≤ x6_1
        · rw [if_pos c4] at H
          have c4b0 := eq_true c4
          have c4b1 : decide (0 ≤ x6_1) = true := decide_eq_true c4
          clear c4
          obtain ⟨ji5, hji5⟩ : ∃ j_ : Int, (shr .i64 a1 x6_1) = j_ := ⟨_, rfl⟩
          replace H : (if (Go.bits .and .i64 (ji5) 1) = 1 then (if x5_1.size + 1 ≤ 9223372036854775807 then (spec_l28Word.l0 k1 a1 (x5_1 ++ (⟨#[82]⟩ : ByteArray)) (wrap64 (x6_1 - 1))) else (none)) else (if x5_1.size + 1 ≤ 9223372036854775807 then (spec_l28Word.l0 k1 a1 (x5_1 ++ (⟨#[76]⟩ : ByteArray)) (wrap64 (x6_1 - 1))) else (none))) = some r := by first | (rw [hji5] at H; exact H) | (simp only [hji5] at H ⊢; exact H)
          have hji5_ : (a1 / 2 ^ min x6_1.toNat 64) = ji5 := hji5
          have hji5z : x6_1 ≤ 64 → (a1 / 2 ^ x6_1.toNat) = ji5 := shr_small hji5
          by_cases c6 : (Go.bits .and .i64 (ji5) 1) = 1
          · rw [if_pos c6] at H
            have c6b0 : ((Go.bits .and .i64 (ji5) 1) == 1) = true := beq_iff_eq.mpr c6
            have c6b1 : ((Go.bits .and .i64 (ji5) 1) != 1) = false := bne_eq_false_iff_eq.mpr c6
            clear c6
            by_cases c7 : x5_1.size + 1 ≤ 9223372036854775807
            · rw [if_pos c7] at H
              have c7b0 := eq_true c7
              have c7b1 : decide (x5_1.size + 1 ≤ 9223372036854775807) = true := decide_eq_true c7
              try have c7b2 : (9223372036854775807 < x5_1.size + 1) = False := eq_false (Nat.not_lt.2 c7)
              have H' := Aside0.mk H
              clear H
              go_wp2
              go_roundg k1
              case measure => have := HK1.out; omega
              case rel => exact ⟨(x5_1 ++ (⟨#[82]⟩ : ByteArray)), (wrap64 (x6_1 - 1)), (by first | rfl | (simp; done) | (simp [*]; done)), (by first | rfl | (simp; done) | (simp [*]; done)), H', ⟨by have := HK1.out; omega⟩, by repeat (first | exact Drawn0.refl _ | apply Drawn0.step)⟩
            · rw [if_neg c7] at H
              exact absurd H (by simp)
          · rw [if_neg c6] at H
            have c6b0 : ((Go.bits .and .i64 (ji5) 1) == 1) = false := beq_eq_false_iff_ne.mpr c6
            have c6b1 : ((Go.bits .and .i64 (ji5) 1) != 1) = true := bne_iff_ne.mpr c6
            by_cases c8 : x5_1.size + 1 ≤ 9223372036854775807
            · rw [if_pos c8] at H
              have c8b0 := eq_true c8
              have c8b1 : decide (x5_1.size + 1 ≤ 9223372036854775807) = true := decide_eq_true c8
              try have c8b2 : (9223372036854775807 < x5_1.size + 1) = False := eq_false (Nat.not_lt.2 c8)
              have H' := Aside0.mk H
              clear H
              go_wp2
              go_roundg k1
              case measure => have := HK1.out; omega
              case rel => exact ⟨(x5_1 ++ (⟨#[76]⟩ : ByteArray)), (wrap64 (x6_1 - 1)), (by first | rfl | (simp; done) | (simp [*]; done)), (by first | rfl | (simp; done) | (simp [*]; done)), H', ⟨by have := HK1.out; omega⟩, by repeat (first | exact Drawn0.refl _ | apply Drawn0.step)⟩
            · rw [if_neg c8] at H
              exact absurd H (by simp)
        · rw [if_neg c4] at H
          exact absurd H (by simp)
      · rw [if_neg c3] at H
        have c3b0 : decide (0 ≤ x6_1) = false := decide_eq_false c3
        clear c3
        obtain rfl := Option.some.inj H
        go_wp2
        go_ret
        exact ⟨by first | rfl | (simp; done) | (simp [*]; done), by repeat (first | exact Drawn0.refl _ | apply Drawn0.step)⟩

end Go.Proofs.Ytohlccmebhfdaaa.QFnExactFirstWord
