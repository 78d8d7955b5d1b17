-- Printed for this claim by a changed copy of the kit's print (the session's own; own contracts in place of some functions).
import Derived.Test.YtndlmckfacegeaaDoorQFnExactSquareLinex0
import Derived.Test.YtndlmckfacegeaaDoorQFnExactSquareLinex1
namespace Go.Proofs.YtndlmckfacegeaaDoor.QFnExactSquareLine
open Go.RowKit Go.Proofs.YtndlmckfacegeaaDoorW.PrintWords Go.Proofs.YtndlmckfacegeaaDoorW.PrintLast Go.Proofs.YtndlmckfacegeaaDoorW.PrintMore
attribute [local go_sem] max2_int min2_int max_two min_two max_three min_three max_four min_four   -- for this text's walks alone
set_option linter.unusedVariables false
set_option linter.unusedSimpArgs false

/-! ### spec_QuotientsOf: function 36 -/
--import Derived.WalkSpells
def spec_QuotientsOf.go (t : List Int) : Nat → List Int
  | 0 => []
  | i + 1 => if 0 < i ∧ rd t (i : Int) = rd t ((i : Int) - 1) then (spec_QuotientsOf.go t i).set ((spec_QuotientsOf.go t i).length - 1) (wrap64 (rd (spec_QuotientsOf.go t i) (((spec_QuotientsOf.go t i).length : Int) - 1) + 1)) else spec_QuotientsOf.go t i ++ [1]
theorem spec_QuotientsOf.go_len (t : List Int) : ∀ i, (spec_QuotientsOf.go t i).length ≤ i ∧ (0 < i → 0 < (spec_QuotientsOf.go t i).length)
  | 0 => ⟨Nat.le_refl _, fun h => absurd h (Nat.lt_irrefl 0)⟩
  | i + 1 => by
    have ih := spec_QuotientsOf.go_len t i
    rw [spec_QuotientsOf.go]
    split
    · rename_i h
      rw [List.length_set]
      exact ⟨by omega, fun _ => ih.2 h.1⟩
    · rw [List.length_append, List.length_singleton]
      exact ⟨by omega, fun _ => by omega⟩
theorem spec_QuotientsOf.add0 (g n : Nat) : (⟨g, 0, none⟩ : Addr).add n = ⟨g, n, none⟩ := by cases n <;> simp [Addr.add]
def spec_QuotientsOf.ok (a : Int) : Bool := decide (1 ≤ a) && decide (a ≤ 1000)
def spec_QuotientsOf.f (k : Nat) (a0 a1 : Int) : Option (List Int) := (spec_GreedySquares.f k a0 a1).bind fun t => if t.length ≤ 1048576 then some (spec_QuotientsOf.go t t.length) else none
theorem spec_QuotientsOf.mono : ∀ a0 a1 k, LeO (spec_QuotientsOf.f k a0 a1) (spec_QuotientsOf.f (k + 1) a0 a1) := fun a0 a1 k => LeO.bind (spec_GreedySquares.mono _ _ _) (fun _ => LeO.refl _)
theorem spec_QuotientsOf.one (o : List Int) : (o ++ [0]).set o.length (wrap64 (rd (o ++ [0]) (((o ++ [0]).length : Int) - 1) + 1)) = o ++ [1] := by
  have h : rd (o ++ [0]) (((o ++ [0]).length : Int) - 1) = 0 := by
    unfold rd
    rw [List.length_append, List.length_singleton, show (((o.length + 1 : Nat) : Int) - 1).toNat = o.length by omega]
    simp
  rw [h, show wrap64 (0 + 1) = 1 by unfold wrap64; omega, List.set_append_right _ _ (Nat.le_refl _), Nat.sub_self, List.set_cons_zero]
set_option maxHeartbeats 16000000 in
set_option maxRecDepth 100000 in
theorem spec_QuotientsOf.calls (k : Nat) (a0 a1 : Int) (r : List Int) (w : World) (h : spec_QuotientsOf.f k a0 a1 = some r) :
    Calls Tryd.prog 36 #[.int .i64 a0, .int .i64 a1] w fun e w' => ∃ v0_ : Value, e = .returned v0_ ∧ Kd.R (Kd.int .i64) 3 w' w.heap.size (fun _ => True) v0_ r ∧ Below w.heap.size w w' := by
  unfold spec_QuotientsOf.f at h
  rw [Option.bind_eq_some_iff] at h
  obtain ⟨t, ht, h⟩ := h
  by_cases hl : t.length ≤ 1048576
  case neg => rw [if_neg hl] at h; cases h
  rw [if_pos hl] at h
  have HT := Aside0.mk ht
  have HN := Aside0.mk hl
  have HL := Aside0.mk (show t.length ≤ 1048576 by omega)
  have HR := Aside0.mk (Option.some.inj h)
  clear ht hl h
  go_enter Tryd.func36, Tryd.ntmps36
  go_wp2_with (first | (go_at_call 70; (with_reducible refine (spec_GreedySquares.calls k a0 a1 t _ HT.out).mono ?_); rintro e w1 ⟨v, rfl, ho, hb⟩; obtain ⟨As, cs, es⟩ := Kd.R_slice ho; subst es; have HS := Aside0.mk (Kd.R_reads' ho).2.2; have HW := Aside0.mk hb;  clear ho hb) | ((with_reducible refine gate_dst (N := 12) rfl ?_); refine Kd.R_lit (Kd.int .i64) _ 3 ?hg (N := 12) ?hd (xs := ([] : List Int)) (inner := []) (ok := fun _ => True) (okp := fun _ => True) ?hr ?hp (fun _ hk => hk) trivial (Below.refl _ _) (Nat.le_refl _) (by simp) ?_; (case hd => rfl); (case hg => rfl); (case hr => first | (go_simp; done) | (go_simp; rfl)); (case hp => exact (Reps.none _ _)); intro vo w8 ho9 hb hg_ hnew_; clear hg_ hnew_; obtain ⟨Ao, co, eo⟩ := Kd.R_slice ho9; subst eo; have HO := Aside0.mk ho9; have HB := Aside0.mk hb; clear hb ho9))
  go_loopg [6, 15] t.length (fun kq v6 v15 w' => ∃ (i : Int) (Ao : Option Addr) (co : Nat) (o : List Int), v6 = .slice Ao o.length co ∧ v15 = .int .i64 i ∧ Aside0 (0 ≤ i ∧ i + kq = (t.length : Int)) ∧ Aside0 (o = spec_QuotientsOf.go t i.toNat) ∧ Aside0 (Kd.R (Kd.int .i64) 3 w' w1.heap.size (fun _ => True) (.slice Ao o.length co) o) ∧ Aside0 (Below w1.heap.size w1 w'))
  case atStart => exact ⟨0, _, _, [], rfl, rfl, ⟨by omega⟩, ⟨rfl⟩, HO, HB⟩
  case round =>
    clear HO HB
    obtain ⟨i, Ao, co, o, rfl, rfl, HI, EO, HO, HB⟩ := hrel
    by_cases c1 : i < (t.length : Int)
    · have c1b : decide (i < (t.length : Int)) = true := decide_eq_true c1
      have HC1 := Aside0.mk c1
      have p1 : 0 ≤ i := HI.out.1
      have gl := spec_QuotientsOf.go_len t i.toNat
      rw [← EO.out] at gl
      have LO := Aside0.mk gl
      obtain ⟨ad, ead, hx⟩ := Kd.at_int (Kd.C_below HS.out HB.out) i p1 c1
      cases ead
      skip
      obtain ⟨u, hu⟩ : ∃ u, u = rd t i := ⟨_, rfl⟩
      rw [← hu] at hx
      have EU := Aside0.mk hu
      clear hu gl
      have e1 := Aside0.mk (show i = ((i.toNat : Nat) : Int) by omega)
      have iw : wrap64 (i + 1) = i + 1 := by have := HL.out; unfold wrap64; omega
      by_cases c0 : 0 < i
      · have c0b : decide (0 < i) = true := decide_eq_true c0
        have c0c : (i == 0) = false := by rw [beq_eq_false_iff_ne]; omega
        have HC0 := Aside0.mk c0
        obtain ⟨j, hj⟩ : ∃ j : Int, wrap64 (i - 1) = j := ⟨_, rfl⟩
        have hjw : IntKind.i64.wrap (i - 1) = j := (i64_w _).trans hj
        have EJ := Aside0.mk (show j = i - 1 by have := HL.out; rw [← hj]; unfold wrap64; omega)
        have p2 : 0 ≤ j := by have := EJ.out; omega
        have q2 : j < (t.length : Int) := by have := EJ.out; omega
        obtain ⟨ad2, ead2, hx2⟩ := Kd.at_int (Kd.C_below HS.out HB.out) j p2 q2
        cases ead2
        skip
        obtain ⟨v, hv⟩ : ∃ v, v = rd t j := ⟨_, rfl⟩
        rw [← hv] at hx2
        have EV := Aside0.mk hv
        clear hv c0
        replace p1 := eq_true p1
        replace c1 := eq_true c1
        replace p2 := eq_true p2
        replace q2 := eq_true q2
        by_cases c3 : u = v
        · have c3b : (u == v) = true := by rw [beq_iff_eq]; exact c3
          have c3c : (u != v) = false := by rw [bne_eq_false_iff_eq]; exact c3
          have HC3 := Aside0.mk c3
          clear c3
          have hlp : 0 < (o).length := LO.out.2 (by have := HC0.out; omega)
          obtain ⟨L, hL⟩ : ∃ j : Int, wrap64 (((o).length : Int) - 1) = j := ⟨_, rfl⟩
          have hLw : IntKind.i64.wrap (((o).length : Int) - 1) = L := (i64_w _).trans hL
          have EL := Aside0.mk (show L = ((o).length : Int) - 1 by have := LO.out; have := HL.out; have := HC1.out; rw [← hL]; unfold wrap64; omega)
          have p3 : 0 ≤ L := by have := EL.out; omega
          have q3 : L < ((o).length : Int) := by have := EL.out; omega
          obtain ⟨go, co2, eo, hg0, _, _⟩ := Kd.R_form HO.out hlp
          injection eo with ea _ ec
          subst ea
          subst ec
          obtain ⟨hy, hyf⟩ := Kd.R_celln 0 HO.out L p3 q3
          obtain ⟨z, hz⟩ : ∃ z, z = rdOf 0 (o) L := ⟨_, rfl⟩
          rw [← hz] at hy
          obtain ⟨z1, hz1⟩ : ∃ x, x = wrap64 (z + 1) := ⟨_, rfl⟩
          have hzw : IntKind.i64.wrap (z + 1) = z1 := by rw [i64_w]; exact hz1.symm
          have EZ := Aside0.mk (show z1 = wrap64 (rd (o) (((o).length : Int) - 1) + 1) by rw [hz1, hz, EL.out]; rfl)
          obtain ⟨hP, hg⟩ := Kd.R_putg HO.out L z1
          have HP := Aside0.mk hP
          have HBn := Aside0.mk (below_set (j := L.toNat) (v := .int .i64 z1) HB.out hg0)
          clear hP hg hg0 hz hz1 hL hlp
          replace p3 := eq_true p3
          replace q3 := eq_true q3
          go_wp2
          go_roundg (t.length - (i.toNat + 1))
          case measure => have := HI.out; have := HC1.out; omega
          case rel =>
            refine ⟨i + 1, _, _, (o).set L.toNat z1, (by rw [List.length_set]), (by first | rfl | rw [iw]), ⟨by have := HI.out; have := HC1.out; omega⟩, ⟨?_⟩, ⟨by rw [List.length_set]; exact HP.out⟩, HBn⟩
            rw [show (i + 1).toNat = i.toNat + 1 by have := HI.out; omega, spec_QuotientsOf.go, ← EO.out, ← e1.out, if_pos ⟨by have := HC0.out; omega, by rw [← EU.out, ← EJ.out, ← EV.out]; exact HC3.out⟩, EZ.out, show L.toNat = o.length - 1 by have := EL.out; omega]
        · have c3b : (u == v) = false := by rw [beq_eq_false_iff_ne]; exact c3
          have c3c : (u != v) = true := by rw [bne_iff_ne]; exact c3
          have HC3 := Aside0.mk c3
          clear c3
          obtain ⟨O, hO⟩ : ∃ O, O = o ++ [0] := ⟨_, rfl⟩
          have NO := Aside0.mk hO
          clear hO
          go_upto_region 8 with (first | ((with_reducible refine gate_builtin (b := .append) (xs := #[.tmp 31, .tmp 32]) rfl ?_); at_builtin; refine Kd.R_append (Kd.int .i64) (w0 := w1) w1.heap.size rfl (.tmp 31) (.tmp 32) 30 3 (.int .i64 0) 8 rfl Tryd.underlying30 info3 rfl (by decide) (by omega) (.slice Ao o.length co) o 0 [.int .i64 0] (fun _ => True) (fun _ => False) rfl rfl ?aP (fun _ hk => hk.elim) ?aF ?aO ?aB ?aS ?aL ?_; (case aP => exact rfl); (case aB => exact (by repeat (first | (with_reducible first | exact HB.out | apply below_alloc | apply pw_below_drewN | apply below_drew1) | exact HB.out))); (case aF => exact (fun _ _ => trivial)); (case aO => exact (by (with_reducible repeat (first | apply Kd.R_alloc | apply Kd.R_drewN | apply Kd.R_drew)); exact HO.out)); (case aS => exact (below_size (by repeat (first | (with_reducible first | exact HB.out | apply below_alloc | apply pw_below_drewN | apply below_drew1) | exact HB.out)))); (case aL => have := LO.out; have := HL.out; have := HC1.out; omega); intro v120 w15 ho hb hg hat; rw [← NO.out] at ho; obtain ⟨A2, c2, e2⟩ := Kd.R_slice ho; subst e2; clear HB HO; have HB := Aside0.mk hb; have HO := Aside0.mk ho; clear ho hb hg hat))
          have hlp : 0 < (O).length := (by rw [NO.out, List.length_append, List.length_singleton]; omega)
          obtain ⟨L, hL⟩ : ∃ j : Int, wrap64 (((O).length : Int) - 1) = j := ⟨_, rfl⟩
          have hLw : IntKind.i64.wrap (((O).length : Int) - 1) = L := (i64_w _).trans hL
          have EL := Aside0.mk (show L = ((O).length : Int) - 1 by have := LO.out; have := HL.out; have := HC1.out; rw [← hL]; have hq := congrArg List.length NO.out; rw [List.length_append, List.length_singleton] at hq; unfold wrap64; omega)
          have p3 : 0 ≤ L := by have := EL.out; omega
          have q3 : L < ((O).length : Int) := by have := EL.out; omega
          obtain ⟨go, co2, eo, hg0, _, _⟩ := Kd.R_form HO.out hlp
          injection eo with ea _ ec
          subst ea
          subst ec
          obtain ⟨hy, hyf⟩ := Kd.R_celln 0 HO.out L p3 q3
          obtain ⟨z, hz⟩ : ∃ z, z = rdOf 0 (O) L := ⟨_, rfl⟩
          rw [← hz] at hy
          obtain ⟨z1, hz1⟩ : ∃ x, x = wrap64 (z + 1) := ⟨_, rfl⟩
          have hzw : IntKind.i64.wrap (z + 1) = z1 := by rw [i64_w]; exact hz1.symm
          have EZ := Aside0.mk (show z1 = wrap64 (rd (O) (((O).length : Int) - 1) + 1) by rw [hz1, hz, EL.out]; rfl)
          obtain ⟨hP, hg⟩ := Kd.R_putg HO.out L z1
          have HP := Aside0.mk hP
          have HBn := Aside0.mk (below_set (j := L.toNat) (v := .int .i64 z1) HB.out hg0)
          clear hP hg hg0 hz hz1 hL hlp
          replace p3 := eq_true p3
          replace q3 := eq_true q3
          go_wp2
          go_roundg (t.length - (i.toNat + 1))
          case measure => have := HI.out; have := HC1.out; omega
          case rel =>
            refine ⟨i + 1, _, _, (O).set L.toNat z1, (by rw [List.length_set]), (by first | rfl | rw [iw]), ⟨by have := HI.out; have := HC1.out; omega⟩, ⟨?_⟩, ⟨by rw [List.length_set]; exact HP.out⟩, HBn⟩
            rw [show (i + 1).toNat = i.toNat + 1 by have := HI.out; omega, spec_QuotientsOf.go, ← EO.out, ← e1.out, if_neg (fun h => HC3.out (by rw [EU.out, EV.out, EJ.out]; exact h.2)), show L.toNat = o.length by have := EL.out; rw [NO.out, List.length_append, List.length_singleton] at this; omega, EZ.out, NO.out, spec_QuotientsOf.one o]
      · have c0b : decide (0 < i) = false := decide_eq_false c0
        have i0 : i = 0 := by omega
        have c0c : (i == 0) = true := by rw [beq_iff_eq]; exact i0
        have I0 := Aside0.mk i0
        clear i0
        clear c0
        replace p1 := eq_true p1
        replace c1 := eq_true c1
        obtain ⟨O, hO⟩ : ∃ O, O = o ++ [0] := ⟨_, rfl⟩
        have NO := Aside0.mk hO
        clear hO
        go_upto_region 8 with (first | ((with_reducible refine gate_builtin (b := .append) (xs := #[.tmp 31, .tmp 32]) rfl ?_); at_builtin; refine Kd.R_append (Kd.int .i64) (w0 := w1) w1.heap.size rfl (.tmp 31) (.tmp 32) 30 3 (.int .i64 0) 8 rfl Tryd.underlying30 info3 rfl (by decide) (by omega) (.slice Ao o.length co) o 0 [.int .i64 0] (fun _ => True) (fun _ => False) rfl rfl ?aP (fun _ hk => hk.elim) ?aF ?aO ?aB ?aS ?aL ?_; (case aP => exact rfl); (case aB => exact (by repeat (first | (with_reducible first | exact HB.out | apply below_alloc | apply pw_below_drewN | apply below_drew1) | exact HB.out))); (case aF => exact (fun _ _ => trivial)); (case aO => exact (by (with_reducible repeat (first | apply Kd.R_alloc | apply Kd.R_drewN | apply Kd.R_drew)); exact HO.out)); (case aS => exact (below_size (by repeat (first | (with_reducible first | exact HB.out | apply below_alloc | apply pw_below_drewN | apply below_drew1) | exact HB.out)))); (case aL => have := LO.out; have := HL.out; have := HC1.out; omega); intro v120 w15 ho hb hg hat; rw [← NO.out] at ho; obtain ⟨A2, c2, e2⟩ := Kd.R_slice ho; subst e2; clear HB HO; have HB := Aside0.mk hb; have HO := Aside0.mk ho; clear ho hb hg hat))
        have hlp : 0 < (O).length := (by rw [NO.out, List.length_append, List.length_singleton]; omega)
        obtain ⟨L, hL⟩ : ∃ j : Int, wrap64 (((O).length : Int) - 1) = j := ⟨_, rfl⟩
        have hLw : IntKind.i64.wrap (((O).length : Int) - 1) = L := (i64_w _).trans hL
        have EL := Aside0.mk (show L = ((O).length : Int) - 1 by have := LO.out; have := HL.out; have := HC1.out; rw [← hL]; have hq := congrArg List.length NO.out; rw [List.length_append, List.length_singleton] at hq; unfold wrap64; omega)
        have p3 : 0 ≤ L := by have := EL.out; omega
        have q3 : L < ((O).length : Int) := by have := EL.out; omega
        obtain ⟨go, co2, eo, hg0, _, _⟩ := Kd.R_form HO.out hlp
        injection eo with ea _ ec
        subst ea
        subst ec
        obtain ⟨hy, hyf⟩ := Kd.R_celln 0 HO.out L p3 q3
        obtain ⟨z, hz⟩ : ∃ z, z = rdOf 0 (O) L := ⟨_, rfl⟩
        rw [← hz] at hy
        obtain ⟨z1, hz1⟩ : ∃ x, x = wrap64 (z + 1) := ⟨_, rfl⟩
        have hzw : IntKind.i64.wrap (z + 1) = z1 := by rw [i64_w]; exact hz1.symm
        have EZ := Aside0.mk (show z1 = wrap64 (rd (O) (((O).length : Int) - 1) + 1) by rw [hz1, hz, EL.out]; rfl)
        obtain ⟨hP, hg⟩ := Kd.R_putg HO.out L z1
        have HP := Aside0.mk hP
        have HBn := Aside0.mk (below_set (j := L.toNat) (v := .int .i64 z1) HB.out hg0)
        clear hP hg hg0 hz hz1 hL hlp
        replace p3 := eq_true p3
        replace q3 := eq_true q3
        go_wp2
        go_roundg (t.length - (i.toNat + 1))
        case measure => have := HI.out; have := HC1.out; omega
        case rel =>
          refine ⟨i + 1, _, _, (O).set L.toNat z1, (by rw [List.length_set]), (by first | rfl | rw [iw]), ⟨by have := HI.out; have := HC1.out; omega⟩, ⟨?_⟩, ⟨by rw [List.length_set]; exact HP.out⟩, HBn⟩
          rw [show (i + 1).toNat = i.toNat + 1 by have := HI.out; omega, spec_QuotientsOf.go, ← EO.out, if_neg (fun h => by have := I0.out; have := h.1; omega), show L.toNat = o.length by have := EL.out; rw [NO.out, List.length_append, List.length_singleton] at this; omega, EZ.out, NO.out, spec_QuotientsOf.one o]
    · have c1b : decide (i < (t.length : Int)) = false := decide_eq_false c1
      have hi : i.toNat = t.length := by have := HI.out; omega
      rw [hi] at EO
      have er : o = r := EO.out.trans HR.out
      subst er
      clear hi c1 EO HI
      go_wp2
      go_ret
      exact ⟨_, rfl, Kd.R_lower HO.out HW.out.size, below_step HW.out HB.out⟩

/-! ### spec_Join: function 54 -/
def spec_Join.l0 : Nat → ByteArray → ByteArray → List ByteArray → Int → Int → Option (ByteArray)
  | 0, _, _, _, _, _ => none
  | k + 1, x1, x5, x8, x9, x10 => if x10 < x9 then (if 0 ≤ x10 then (if x10 < (x8.length : Int) then (if x10 > 0 then (if x5.size + x1.size ≤ 9223372036854775807 then (if (x5 ++ x1).size + (rdOf ByteArray.empty x8 x10).size ≤ 9223372036854775807 then (spec_Join.l0 k x1 ((x5 ++ x1) ++ (rdOf ByteArray.empty x8 x10)) x8 x9 (wrap64 (x10 + 1))) else (none)) else (none)) else (if x5.size + (rdOf ByteArray.empty x8 x10).size ≤ 9223372036854775807 then (spec_Join.l0 k x1 (x5 ++ (rdOf ByteArray.empty x8 x10)) x8 x9 (wrap64 (x10 + 1))) else (none))) else (none)) else (none)) else (some x5)
def spec_Join.f (k : Nat) (l0 : List ByteArray) (a1 : ByteArray) : Option (ByteArray) := spec_Join.l0 k a1 (⟨#[]⟩ : ByteArray) l0 (l0.length : Int) 0
theorem spec_Join.mono_l : ∀ k, (∀ y0 y1 y2 y3 y4, LeO (spec_Join.l0 k y0 y1 y2 y3 y4) (spec_Join.l0 (k + 1) y0 y1 y2 y3 y4))
  | 0 => fun _ _ _ _ _ r h => by simp [spec_Join.l0] at h
  | k + 1 => by
    have ih0 := spec_Join.mono_l k
    · intro y0 y1 y2 y3 y4
      unfold spec_Join.l0
      repeat' first
      | (with_reducible exact ih0 _ _ _ _ _)
      | (with_reducible exact LeO.refl _)
      | (with_reducible exact LeO.none _)
      | (with_reducible refine LeO.ite ?_ ?_)
      | (with_reducible refine LeO.bind ?_ (fun _ => ?_))
      | exact ih0 _ _ _ _ _
      | exact LeO.none _
      | refine LeO.ite ?_ ?_
      | refine LeO.bind ?_ (fun _ => ?_)
theorem spec_Join.mono : ∀ a0 a1 k, LeO (spec_Join.f k a0 a1) (spec_Join.f (k + 1) a0 a1) := by
  intro a0 a1 k
  have ih0 := spec_Join.mono_l k
  unfold spec_Join.f
  repeat' first
      | (with_reducible exact ih0 _ _ _ _ _)
      | (with_reducible exact LeO.refl _)
      | (with_reducible exact LeO.none _)
      | (with_reducible refine LeO.ite ?_ ?_)
      | (with_reducible refine LeO.bind ?_ (fun _ => ?_))
      | exact ih0 _ _ _ _ _
      | exact LeO.none _
      | refine LeO.ite ?_ ?_
      | refine LeO.bind ?_ (fun _ => ?_)
set_option maxHeartbeats 8000000 in
set_option maxRecDepth 100000 in
theorem spec_Join.calls (k : Nat) (A0 : Option Addr) (c0 : Nat) (l0 : List ByteArray) (a1 : ByteArray) (r : ByteArray) (w : World) (hr0 : Kd.C Kd.string w A0 l0.length l0) (hc0 : l0.length ≤ c0) (h : spec_Join.f k l0 a1 = some r) :
    Calls Tryd.prog 54 #[.slice A0 l0.length c0, .string a1] w fun e w' => e = .returned (.string r) ∧ Drawn0 w w' := by
  have HR0 := Aside0.mk hr0
  have HC0 := Aside0.mk hc0
  clear hr0 hc0
  have H : (spec_Join.l0 k a1 (⟨#[]⟩ : ByteArray) l0 (l0.length : Int) 0) = some r := h
  clear h
  have H' := Aside0.mk H
  clear H
  go_enter Tryd.func54, Tryd.ntmps54
  go_wp2
  go_loopg [5, 10] k (fun kq v5 v10 w' => ∃ (x5_1 : ByteArray) (x10_1 : Int), v5 = .string x5_1 ∧ v10 = .int .i64 x10_1 ∧ Aside0 (spec_Join.l0 kq a1 x5_1 l0 (l0.length : Int) x10_1 = some r) ∧ Aside0 (kq ≤ k) ∧ Drawn0 w w')
  case atStart => exact ⟨((⟨#[]⟩ : ByteArray)), (0), (by first | rfl | (simp; done) | (simp [*]; done)), (by first | rfl | (simp; done) | (simp [*]; done)), H', ⟨Nat.le_refl _⟩, by repeat (first | exact Drawn0.refl _ | apply Drawn0.step)⟩
  case round =>
    clear H'
    try clear p2
    obtain ⟨x5_1, x10_1, rfl, rfl, HA, HK1, ⟨m1, rfl⟩⟩ := hrel
    cases gk with
    | zero => exact absurd HA.out (by simp [spec_Join.l0])
    | succ k1 =>
      have H := HA.out
      clear HA
      simp only [spec_Join.l0] at H
      by_cases c3 : x10_1 < (l0.length : Int)
      · rw [if_pos c3] at H
        have c3b0 : decide (x10_1 < (l0.length : Int)) = true := decide_eq_true c3
        clear c3
        by_cases c4 : 0 ≤ x10_1
        · rw [if_pos c4] at H
          have c4b0 : decide (0 ≤ x10_1) = true := decide_eq_true c4
          clear c4
          by_cases c5 : x10_1 < (l0.length : Int)
          · rw [if_pos c5] at H
            have c5b0 : decide (x10_1 < (l0.length : Int)) = true := decide_eq_true c5
            clear c5
            by_cases c6 : x10_1 > 0
            · rw [if_pos c6] at H
              have c6b0 : decide (0 < x10_1) = true := decide_eq_true c6
              clear c6
              by_cases c7 : x5_1.size + a1.size ≤ 9223372036854775807
              · rw [if_pos c7] at H
                have c7b0 := eq_true c7
                have c7b1 : decide (x5_1.size + a1.size ≤ 9223372036854775807) = true := decide_eq_true c7
                try have c7b2 : (9223372036854775807 < x5_1.size + a1.size) = False := eq_false (Nat.not_lt.2 c7)
                by_cases c8 : (x5_1 ++ a1).size + (rdOf ByteArray.empty l0 x10_1).size ≤ 9223372036854775807
                · rw [if_pos c8] at H
                  have c8b0 := eq_true c8
                  have c8b1 : decide ((x5_1 ++ a1).size + (rdOf ByteArray.empty l0 x10_1).size ≤ 9223372036854775807) = true := decide_eq_true c8
                  try have c8b2 : (9223372036854775807 < (x5_1 ++ a1).size + (rdOf ByteArray.empty l0 x10_1).size) = False := eq_false (Nat.not_lt.2 c8)
                  try have c8b3 : (9223372036854775807 < x5_1.size + a1.size + (rdOf ByteArray.empty l0 x10_1).size) = False := eq_false (by have h_ := c8; simp only [ByteArray.size_append] at h_; omega)
                  have H' := Aside0.mk H
                  clear H
                  have p122 : 0 ≤ (x10_1 : Int) := of_decide_eq_true (by first | (with_reducible assumption) | assumption)
                  have q122 : x10_1 < (l0.length : Int) := of_decide_eq_true (by first | (with_reducible assumption) | assumption)
                  obtain ⟨ad122, e122, hx122_0⟩ := Kd.at_string HR0.out x10_1 p122 q122
                  cases e122
                  replace p122 := eq_true p122
                  replace q122 := eq_true q122
                  go_wp2
                  go_roundg k1
                  case measure => have := HK1.out; omega
                  case rel => exact ⟨((x5_1 ++ a1) ++ (rdOf ByteArray.empty l0 x10_1)), (wrap64 (x10_1 + 1)), (by first | rfl | (simp; done) | (simp [*]; done)), (by first | rfl | (simp; done) | (simp [*]; done)), H', ⟨by have := HK1.out; omega⟩, by repeat (first | exact Drawn0.refl _ | apply Drawn0.step)⟩
                · rw [if_neg c8] at H
                  exact absurd H (by simp)
              · rw [if_neg c7] at H
                exact absurd H (by simp)
            · rw [if_neg c6] at H
              have c6b0 : decide (0 < x10_1) = false := decide_eq_false c6
              clear c6
              by_cases c9 : x5_1.size + (rdOf ByteArray.empty l0 x10_1).size ≤ 9223372036854775807
              · rw [if_pos c9] at H
                have c9b0 := eq_true c9
                have c9b1 : decide (x5_1.size + (rdOf ByteArray.empty l0 x10_1).size ≤ 9223372036854775807) = true := decide_eq_true c9
                try have c9b2 : (9223372036854775807 < x5_1.size + (rdOf ByteArray.empty l0 x10_1).size) = False := eq_false (Nat.not_lt.2 c9)
                have H' := Aside0.mk H
                clear H
                have p122 : 0 ≤ (x10_1 : Int) := of_decide_eq_true (by first | (with_reducible assumption) | assumption)
                have q122 : x10_1 < (l0.length : Int) := of_decide_eq_true (by first | (with_reducible assumption) | assumption)
                obtain ⟨ad122, e122, hx122_0⟩ := Kd.at_string HR0.out x10_1 p122 q122
                cases e122
                replace p122 := eq_true p122
                replace q122 := eq_true q122
                go_wp2
                go_roundg k1
                case measure => have := HK1.out; omega
                case rel => exact ⟨(x5_1 ++ (rdOf ByteArray.empty l0 x10_1)), (wrap64 (x10_1 + 1)), (by first | rfl | (simp; done) | (simp [*]; done)), (by first | rfl | (simp; done) | (simp [*]; done)), H', ⟨by have := HK1.out; omega⟩, by repeat (first | exact Drawn0.refl _ | apply Drawn0.step)⟩
              · rw [if_neg c9] at H
                exact absurd H (by simp)
          · rw [if_neg c5] at H
            exact absurd H (by simp)
        · rw [if_neg c4] at H
          exact absurd H (by simp)
      · rw [if_neg c3] at H
        have c3b0 : decide (x10_1 < (l0.length : Int)) = false := decide_eq_false c3
        clear c3
        obtain rfl := Option.some.inj H
        go_wp2
        go_ret
        exact ⟨by first | rfl | (simp; done) | (simp [*]; done), by repeat (first | exact Drawn0.refl _ | apply Drawn0.step)⟩

/-! ### spec_FormatNumbers: function 37 -/
def spec_FormatNumbers.l0 : Nat → List ByteArray → List Int → Int → Int → Option (ByteArray)
  | 0, _, _, _, _ => none
  | k + 1, x3, x10, x11, x12 => if x12 < x11 then (if 0 ≤ x12 then (if x12 < (x10.length : Int) then ((spec_FormatInt.f k (rd x10 x12)).bind fun t127 => (if x3.length < 8796093022208 then (spec_FormatNumbers.l0 k (x3 ++ [t127]) x10 x11 (wrap64 (x12 + 1))) else (none))) else (none)) else (none)) else (if (x3.length : Int) = 0 then (some (⟨#[45]⟩ : ByteArray)) else ((spec_Join.f k x3 (⟨#[44]⟩ : ByteArray)).bind fun t131 => (some t131)))
def spec_FormatNumbers.f (k : Nat) (l0 : List Int) : Option (ByteArray) := if (l0.length : Int) > 40 then (some (⟨#[]⟩ : ByteArray)) else (spec_FormatNumbers.l0 k (([] : List ByteArray)) l0 (l0.length : Int) 0)
theorem spec_FormatNumbers.mono_l : ∀ k, (∀ y0 y1 y2 y3, LeO (spec_FormatNumbers.l0 k y0 y1 y2 y3) (spec_FormatNumbers.l0 (k + 1) y0 y1 y2 y3))
  | 0 => fun _ _ _ _ r h => by simp [spec_FormatNumbers.l0] at h
  | k + 1 => by
    have ih0 := spec_FormatNumbers.mono_l k
    · intro y0 y1 y2 y3
      unfold spec_FormatNumbers.l0
      repeat' first
      | (with_reducible exact ih0 _ _ _ _)
      | (with_reducible exact spec_FormatInt.mono _ _)
      | (with_reducible exact spec_Join.mono _ _ _)
      | (with_reducible exact LeO.refl _)
      | (with_reducible exact LeO.none _)
      | (with_reducible refine LeO.ite ?_ ?_)
      | (with_reducible refine LeO.bind ?_ (fun _ => ?_))
      | exact ih0 _ _ _ _
      | exact spec_FormatInt.mono _ _
      | exact spec_Join.mono _ _ _
      | exact LeO.none _
      | refine LeO.ite ?_ ?_
      | refine LeO.bind ?_ (fun _ => ?_)
theorem spec_FormatNumbers.mono : ∀ a0 k, LeO (spec_FormatNumbers.f k a0) (spec_FormatNumbers.f (k + 1) a0) := by
  intro a0 k
  have ih0 := spec_FormatNumbers.mono_l k
  unfold spec_FormatNumbers.f
  repeat' first
      | (with_reducible exact ih0 _ _ _ _)
      | (with_reducible exact spec_FormatInt.mono _ _)
      | (with_reducible exact spec_Join.mono _ _ _)
      | (with_reducible exact LeO.refl _)
      | (with_reducible exact LeO.none _)
      | (with_reducible refine LeO.ite ?_ ?_)
      | (with_reducible refine LeO.bind ?_ (fun _ => ?_))
      | exact ih0 _ _ _ _
      | exact spec_FormatInt.mono _ _
      | exact spec_Join.mono _ _ _
      | exact LeO.none _
      | refine LeO.ite ?_ ?_
      | refine LeO.bind ?_ (fun _ => ?_)
set_option maxHeartbeats 8000000 in
set_option maxRecDepth 100000 in
theorem spec_FormatNumbers.calls (k : Nat) (A0 : Option Addr) (c0 : Nat) (l0 : List Int) (r : ByteArray) (w : World) (hr0 : Kd.C (Kd.int .i64) w A0 l0.length l0) (hc0 : l0.length ≤ c0) (h : spec_FormatNumbers.f k l0 = some r) :
    Calls Tryd.prog 37 #[.slice A0 l0.length c0] w fun e w' => e = .returned (.string r) ∧ Below w.heap.size w w' := by
  have HR0 := Aside0.mk hr0
  have HC0 := Aside0.mk hc0
  clear hr0 hc0
  have HB := Aside0.mk (Below.refl w.heap.size w)
  have H : (if (l0.length : Int) > 40 then (some (⟨#[]⟩ : ByteArray)) else (spec_FormatNumbers.l0 k (([] : List ByteArray)) l0 (l0.length : Int) 0)) = some r := h
  clear h
  by_cases c2 : (l0.length : Int) > 40
  · rw [if_pos c2] at H
    have c2b0 : decide (40 < (l0.length : Int)) = true := decide_eq_true c2
    have c2b1 : decide (40 < l0.length) = true := decide_eq_true (by omega)
    clear c2
    obtain rfl := Option.some.inj H
    go_enter Tryd.func37, Tryd.ntmps37
    go_wp2
    go_ret
    exact ⟨by first | rfl | (simp [errW_none, errW_some] <;> rfl) | (simp [*, errW_none, errW_some] <;> rfl), by repeat (first | (with_reducible first | exact HB.out | apply below_alloc | apply pw_below_drewN | apply below_drew1) | exact HB.out)⟩
  · rw [if_neg c2] at H
    have c2b0 : decide (40 < (l0.length : Int)) = false := decide_eq_false c2
    have c2b1 : decide (40 < l0.length) = false := decide_eq_false (by omega)
    clear c2
    obtain ⟨y123, hy123⟩ : ∃ y_ : List ByteArray, y_ = (([] : List ByteArray)) := ⟨_, rfl⟩
    replace H : (spec_FormatNumbers.l0 k y123 l0 (l0.length : Int) 0) = some r := by first | (rw [hy123]; with_reducible exact H) | (have H2_ := (Option.bind_some _ _).symm.trans H; rw [hy123]; with_reducible exact H2_) | (have H2_ := (Option.bind_some _ _).symm.trans H; with_reducible exact H2_) | with_reducible exact H | (rw [hy123]; exact H) | exact H
    have Ny123 := Aside0.mk hy123
    clear hy123
    have H' := Aside0.mk H
    clear H
    go_enter Tryd.func37, Tryd.ntmps37
    go_wp2_with (first | ((with_reducible refine gate_dst (N := 9) rfl ?_); refine Kd.R_lit Kd.string _ 9 ?hg (N := 9) ?hd (xs := ([] : List ByteArray)) (inner := []) (ok := fun _ => True) (okp := fun _ => True) ?hr ?hp (fun _ hk => hk) trivial (Below.refl _ _) (Nat.le_refl _) (by simp) ?_; (case hd => rfl); (case hg => rfl); (case hr => first | (go_simp; done) | (go_simp; rfl)); (case hp => exact (Reps.none _ _)); intro v124 w3 ho4 hb hg_ hnew_; clear hg_ hnew_; (first | rw [← Ny123.out] at ho4 | (simp only [Int.reduceToNat] at ho4; rw [← Ny123.out] at ho4)); have n0_ := Aside0.mk (Kd.R_lower ho4 (below_size (by repeat (first | (with_reducible first | exact HB.out | apply below_alloc | apply pw_below_drewN | apply below_drew1) | exact HB.out)))); have n1_ := Aside0.mk (below_step (by repeat (first | (with_reducible first | exact HB.out | apply below_alloc | apply pw_below_drewN | apply below_drew1) | exact HB.out)) hb); clear HB; have HO125 := n0_; have HB := n1_; clear n0_ n1_; clear hb ho4))
    go_loopg [3, 12] k (fun kq v3 v12 w' => ∃ (x3_1 : List ByteArray) (x12_1 : Int), v12 = .int .i64 x12_1 ∧ Aside0 (spec_FormatNumbers.l0 kq x3_1 l0 (l0.length : Int) x12_1 = some r) ∧ Aside0 (kq ≤ k) ∧ Aside0 (Kd.R Kd.string 9 w' w.heap.size (fun _ => True) v3 x3_1) ∧ Aside0 (Below w.heap.size w w'))
    case atStart => exact ⟨(y123), (0), (by first | rfl | (simp; done) | (simp [*]; done)), H', ⟨Nat.le_refl _⟩, ⟨by (with_reducible repeat (first | apply Kd.R_alloc | apply Kd.R_drewN | apply Kd.R_drew)); exact HO125.out⟩, ⟨by repeat (first | (with_reducible first | exact HB.out | apply below_alloc | apply pw_below_drewN | apply below_drew1) | exact HB.out)⟩⟩
    case round =>
      clear H'
      try clear c2
      try clear c2b0
      try clear c2b1
      try clear p2
      try clear c3
      obtain ⟨x3_1, x12_1, rfl, HA, HK1, HO_3, HB⟩ := hrel
      cases gk with
      | zero => exact absurd HA.out (by simp [spec_FormatNumbers.l0])
      | succ k1 =>
        have H := HA.out
        clear HA
        simp only [spec_FormatNumbers.l0] at H
        by_cases c5 : x12_1 < (l0.length : Int)
        · rw [if_pos c5] at H
          have c5b0 : decide (x12_1 < (l0.length : Int)) = true := decide_eq_true c5
          clear c5
          by_cases c6 : 0 ≤ x12_1
          · rw [if_pos c6] at H
            have c6b0 : decide (0 ≤ x12_1) = true := decide_eq_true c6
            clear c6
            by_cases c7 : x12_1 < (l0.length : Int)
            · rw [if_pos c7] at H
              have c7b0 : decide (x12_1 < (l0.length : Int)) = true := decide_eq_true c7
              clear c7
              replace H := Option.bind_eq_some_iff.mp H
              obtain ⟨t127, A80, H⟩ := H
              replace H : (if x3_1.length < 8796093022208 then (spec_FormatNumbers.l0 k1 (x3_1 ++ [t127]) l0 (l0.length : Int) (wrap64 (x12_1 + 1))) else (none)) = some r := H
              have A8 := Aside0.mk A80
              clear A80
              by_cases c9 : x3_1.length < 8796093022208
              · rw [if_pos c9] at H
                have LMc9 := Aside0.mk c9
                clear c9
                obtain ⟨y128, hy128⟩ : ∃ y_ : List ByteArray, y_ = (x3_1 ++ [t127]) := ⟨_, rfl⟩
                replace H : (spec_FormatNumbers.l0 k1 y128 l0 (l0.length : Int) (wrap64 (x12_1 + 1))) = some r := by first | (rw [hy128]; with_reducible exact H) | (have H2_ := (Option.bind_some _ _).symm.trans H; rw [hy128]; with_reducible exact H2_) | (have H2_ := (Option.bind_some _ _).symm.trans H; with_reducible exact H2_) | with_reducible exact H | (rw [hy128]; exact H) | exact H
                have Ny128 := Aside0.mk hy128
                clear hy128
                have H' := Aside0.mk H
                clear H
                have p126 : 0 ≤ (x12_1 : Int) := of_decide_eq_true (by first | (with_reducible assumption) | assumption)
                have q126 : x12_1 < (l0.length : Int) := of_decide_eq_true (by first | (with_reducible assumption) | assumption)
                obtain ⟨ad126, e126, hx126_0⟩ := Kd.at_int HR0.out x12_1 p126 q126
                cases e126
                (try replace hx126_0 := (HB.out.cell (World.block_lt_of_cell? w _ hx126_0)).trans hx126_0)
                replace p126 := eq_true p126
                replace q126 := eq_true q126
                go_wp2_with (first | ((with_reducible refine gate_callee (f := 31) rfl ?_); refine goesL_ (some 18) rfl rfl Tryd.func31 (by kernel_rfl) rfl #[.int .i64 (rd l0 x12_1)] rfl (by (try simp only [List.map_toArray, List.map_cons, List.map_nil]); first | done | rfl | (simp only [List.length_drop, List.length_take]; rfl)) ?_; (with_reducible refine (spec_FormatInt.calls k1 (rd l0 x12_1) t127 _ A8.out).mono ?_); rintro e w10 ⟨rfl, hb⟩; refine ⟨_, rfl, ?_⟩; have n0_ := Aside0.mk (Kd.R_below (by (with_reducible repeat (first | apply Kd.R_alloc | apply Kd.R_drewN | apply Kd.R_drew)); exact HO_3.out) hb); have n1_ := Aside0.mk (below_step (by repeat (first | (with_reducible first | exact HB.out | apply below_alloc | apply pw_below_drewN | apply below_drew1) | exact HB.out)) hb); clear HO_3; clear HB; have HO_3 := n0_; have HB := n1_; clear n0_ n1_; (try clear hb); (try clear hb2); (try clear hk); (try clear hi)) | ((with_reducible refine gate_builtin (b := .append) (xs := #[.tmp 16, .tmp 19]) rfl ?_); at_builtin; refine Kd.R_append Kd.string (w0 := w) w.heap.size rfl (.tmp 16) (.tmp 19) 57 9 (.string ⟨#[]⟩) 16 rfl Tryd.underlying57 info9 rfl (by decide) (by omega) u3 x3_1 t127 [.string t127] (fun _ => True) (fun _ => False) rfl rfl ?aP (fun _ hk => hk.elim) ?aF ?aO ?aB ?aS ?aL ?_; (case aP => exact rfl); (case aB => exact (by repeat (first | (with_reducible first | exact HB.out | apply below_alloc | apply pw_below_drewN | apply below_drew1) | exact HB.out))); (case aF => exact (fun _ _ => trivial)); (case aO => exact (by (with_reducible repeat (first | apply Kd.R_alloc | apply Kd.R_drewN | apply Kd.R_drew)); exact HO_3.out)); (case aS => exact (below_size (by repeat (first | (with_reducible first | exact HB.out | apply below_alloc | apply pw_below_drewN | apply below_drew1) | exact HB.out)))); (case aL => have := LMc9.out; omega); intro v129 w11 ho hb hg hat; rw [← Ny128.out] at ho; have n0_ := Aside0.mk (hb); have n1_ := Aside0.mk (ho); clear HB; clear HO_3; have HB := n0_; have HO130 := n1_; clear n0_ n1_; clear ho hb hg hat))
                go_roundg k1
                case measure => have := HK1.out; omega
                case rel => exact ⟨(y128), (wrap64 (x12_1 + 1)), (by first | rfl | (simp; done) | (simp [*]; done)), H', ⟨by have := HK1.out; omega⟩, ⟨by (with_reducible repeat (first | apply Kd.R_alloc | apply Kd.R_drewN | apply Kd.R_drew)); exact HO130.out⟩, ⟨by repeat (first | (with_reducible first | exact HB.out | apply below_alloc | apply pw_below_drewN | apply below_drew1) | exact HB.out)⟩⟩
              · rw [if_neg c9] at H
                exact absurd H (by simp)
            · rw [if_neg c7] at H
              exact absurd H (by simp)
          · rw [if_neg c6] at H
            exact absurd H (by simp)
        · rw [if_neg c5] at H
          have c5b0 : decide (x12_1 < (l0.length : Int)) = false := decide_eq_false c5
          clear c5
          by_cases c12 : (x3_1.length : Int) = 0
          · rw [if_pos c12] at H
            have c12b0 : ((x3_1.length : Int) == 0) = true := beq_iff_eq.mpr c12
            have c12b1 : ((x3_1.length : Int) != 0) = false := bne_eq_false_iff_eq.mpr c12
            clear c12
            obtain rfl := Option.some.inj H
            obtain ⟨Ao13, co13, eo13⟩ := Kd.R_slice HO_3.out
            subst eo13
            go_wp2
            go_ret
            exact ⟨by first | rfl | (simp [errW_none, errW_some] <;> rfl) | (simp [*, errW_none, errW_some] <;> rfl), by repeat (first | (with_reducible first | exact HB.out | apply below_alloc | apply pw_below_drewN | apply below_drew1) | exact HB.out)⟩
          · rw [if_neg c12] at H
            have c12b0 : ((x3_1.length : Int) == 0) = false := beq_eq_false_iff_ne.mpr c12
            have c12b1 : ((x3_1.length : Int) != 0) = true := bne_iff_ne.mpr c12
            have c12b2 : ¬ (x3_1 = []) := fun h_ => c12 (by rw [h_]; rfl)
            replace H := Option.bind_eq_some_iff.mp H
            obtain ⟨t131, A140, H⟩ := H
            replace H : (some t131) = some r := H
            have A14 := Aside0.mk A140
            clear A140
            obtain rfl := Option.some.inj H
            obtain ⟨Ao15, co15, eo15⟩ := Kd.R_slice HO_3.out
            subst eo15
            go_wp2_with (first | ((with_reducible refine gate_callee (f := 54) rfl ?_); refine goesL_ (some 26) rfl rfl Tryd.func54 (by kernel_rfl) rfl #[.slice Ao15 x3_1.length co15, .string (⟨#[44]⟩ : ByteArray)] rfl (by (try simp only [List.map_toArray, List.map_cons, List.map_nil]); first | done | rfl | (simp only [List.length_drop, List.length_take]; rfl)) ?_; (with_reducible refine (spec_Join.calls k1 _ _ x3_1 (⟨#[44]⟩ : ByteArray) t131 _ ?side1 ?side2 A14.out).mono ?_); (case side1 => repeat (first | exact (Kd.R_reads' HO_3.out).2.2 | (with_reducible refine Kd.C_alloc ?_ _) | (with_reducible refine Kd.C_drewN ?_ _) | (with_reducible refine Kd.C_drew ?_))); (case side2 => exact (Kd.R_reads' HO_3.out).2.1); rintro e w' ⟨rfl, ⟨nd, rfl⟩⟩; refine ⟨_, rfl, ?_⟩))
            go_ret
            exact ⟨by first | rfl | (simp [errW_none, errW_some] <;> rfl) | (simp [*, errW_none, errW_some] <;> rfl), by repeat (first | (with_reducible first | exact HB.out | apply below_alloc | apply pw_below_drewN | apply below_drew1) | exact HB.out)⟩

end Go.Proofs.YtndlmckfacegeaaDoor.QFnExactSquareLine
