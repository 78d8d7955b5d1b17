-- Printed for this claim by a changed copy of the kit's print (the session's own; own contracts in place of some functions).
import Derived.Test.YtohlccmebhfdaaaQFnExactFirstWordx0
import Derived.Test.YtohlccmebhfdaaaQFnExactFirstWordx2
import Derived.Test.YtohlccmebhfdaaaQFnExactFirstWordx3
namespace Go.Proofs.Ytohlccmebhfdaaa.QFnExactFirstWord
open Go.RowKit Go.Proofs.YtohlccmebhfdaaaW.PrintWords Go.Proofs.YtohlccmebhfdaaaW.PrintLast Go.Proofs.YtohlccmebhfdaaaW.PrintMore
attribute [local go_sem] max2_int min2_int max_two min_two max_three min_three max_four min_four   -- for this text's walks alone
set_option linter.unusedVariables false
set_option linter.unusedSimpArgs false

/-! ### impl_creases: function 8 -/
--import Derived.WalkSpells
--import Derived.RegionTactic
--import Derived.Deep.RegionLaw
--import Derived.Deep.DeepCutAuto
def impl_creases.ats (t : List S35) : Nat → List Int
  | 0 => List.replicate t.length 0
  | i + 1 => (impl_creases.ats t i).set (rd_T35 t (i : Int)).f0.toNat (i : Int)
def impl_creases.ups (t : List S35) : Nat → List Bool
  | 0 => List.replicate t.length false
  | i + 1 => (impl_creases.ups t i).set (rd_T35 t (i : Int)).f0.toNat (rd_T35 t (i : Int)).f1
theorem impl_creases.ats_len (t : List S35) : ∀ i, (impl_creases.ats t i).length = t.length
  | 0 => by simp [impl_creases.ats]
  | i + 1 => by simp [impl_creases.ats, impl_creases.ats_len t i]
theorem impl_creases.ups_len (t : List S35) : ∀ i, (impl_creases.ups t i).length = t.length
  | 0 => by simp [impl_creases.ups]
  | i + 1 => by simp [impl_creases.ups, impl_creases.ups_len t i]
def impl_creases.okT (t : List S35) : Bool := (List.range t.length).all (fun i => decide (0 ≤ (rd_T35 t (i : Int)).f0) && decide ((rd_T35 t (i : Int)).f0 < (t.length : Int)))
theorem impl_creases.okT_at {t : List S35} (h : impl_creases.okT t = true) (i : Int) (h0 : 0 ≤ i) (h1 : i < (t.length : Int)) : 0 ≤ (rd_T35 t i).f0 ∧ (rd_T35 t i).f0 < (t.length : Int) := by
  unfold impl_creases.okT at h
  rw [List.all_eq_true] at h
  have h2 := h i.toNat (List.mem_range.2 (by omega))
  rw [show ((i.toNat : Nat) : Int) = i by omega] at h2
  simpa using h2
def impl_creases.mk (a : List Int) (u : List Bool) (j : Int) : Int := if (decide (rdOf 0 a j < rdOf 0 a (j + 1)) == rdOf false u j) = true then 118 else 109
def impl_creases.out (a : List Int) (u : List Bool) (n : Nat) : List Int := (List.range n).map (fun (j : Nat) => impl_creases.mk a u (j : Int))
theorem impl_creases.out_succ (a : List Int) (u : List Bool) (n : Nat) : impl_creases.out a u (n + 1) = impl_creases.out a u n ++ [impl_creases.mk a u (n : Int)] := by simp [impl_creases.out, List.range_succ]
theorem impl_creases.out_len (a : List Int) (u : List Bool) (n : Nat) : (impl_creases.out a u n).length = n := by simp [impl_creases.out]
def impl_creases.g (t : List S35) : Option ByteArray := if (impl_creases.okT t && decide (1 ≤ t.length ∧ t.length ≤ 1048576)) = true then some (strOfNums (impl_creases.out (impl_creases.ats t t.length) (impl_creases.ups t t.length) (t.length - 1))) else none
def impl_creases.f (k : Nat) (a0 : ByteArray) : Option ByteArray := (impl_folded.f k a0).bind impl_creases.g
theorem impl_creases.mono : ∀ a0 k, LeO (impl_creases.f k a0) (impl_creases.f (k + 1) a0) := fun a0 k => LeO.bind (impl_folded.mono _ _) (fun _ => LeO.refl _)
theorem impl_creases.mkrun {P : Program} {t e : TypeId} (ht : P.underlying t = some (.slice e)) (z : Value) (bytes : Nat) (hinfo : (P.info? e).map (fun i => (i.zero, i.size, i.bytes)) = some (some z, 1, bytes)) (hb : bytes ≤ 8) (m : Nat) (hm : m ≤ 1048576) (W : World) :
    (Instr.makeSlice t (.int .i64 (m : Int)) (.int .i64 (m : Int))).run P W = .ok (.slice (some ⟨W.heap.size, 0, none⟩) m m) (W.alloc (.cells (madeCells z.cells (m * 1)) e)) := by
  obtain ⟨i0, hi, hzz⟩ := Option.map_eq_some_iff.1 hinfo
  simp only [Prod.mk.injEq] at hzz
  obtain ⟨hz0, hz1, hz2⟩ := hzz
  have h3 : i0.bytes * m ≤ 8 * 1048576 := Nat.mul_le_mul (by omega) hm
  have hr := run_make (P := P) W t e i0 z ht hi hz0 .i64 .i64 (m : Int) (m : Int) (by omega) (by omega) (by rw [← Int.natCast_mul]; omega) (by omega)
  simp only [Int.toNat_natCast] at hr
  rw [hz1] at hr
  exact hr
theorem impl_creases.mkR {α : Type} (enc : α → Value) {h1 : ∀ x : α, (enc x).oneCell' = true} (e : Nat) (z0 : α) (m : Nat) (W : World) (base : Nat) (hb : base ≤ W.heap.size) (hm : m ≤ 1048576) (hz : (enc z0).cells = #[enc z0]) :
    (Kd.scalar enc h1).R e (W.alloc (.cells (madeCells (enc z0).cells (m * 1)) e)) base (fun _ => True) (.slice (some ⟨W.heap.size, 0, none⟩) m m) (List.replicate m z0) := by
  refine ⟨fun _ _ => trivial, (madeCells (enc z0).cells (m * 1)).toList, ?_, Kd.reps_made (by rw [hz]; rfl) (by show 0 < 1; decide) (by rw [hz]; rfl) m⟩
  have h2 := World.ownsRow_lit (base := base) (e := e) (size := 1) W (madeCells (enc z0).cells (m * 1)) (List.replicate m z0).length hb (by simp [maxLen]; omega) (by simp [size_madeCells])
  rw [List.length_replicate] at h2
  show World.ownsRow _ _ _ 1 _ _ _
  simpa using h2
theorem impl_creases.inf3 : (Try.prog.info? 3).map (fun i => (i.zero, i.size, i.bytes)) = some (some (.int .i64 0), 1, 8) := by kernel_rfl
theorem impl_creases.inf4 : (Try.prog.info? 4).map (fun i => (i.zero, i.size, i.bytes)) = some (some (.bool false), 1, 1) := by kernel_rfl
theorem impl_creases.inf5 : (Try.prog.info? 5).map (fun i => (i.zero, i.size, i.bytes)) = some (some (.int .u8 0), 1, 1) := by kernel_rfl
set_option maxHeartbeats 16000000 in
set_option maxRecDepth 100000 in
theorem impl_creases.calls (k : Nat) (a0 : ByteArray) (r : ByteArray) (w : World) (h : impl_creases.f k a0 = some r) :
    Calls Try.prog 8 #[.string a0] w fun e w' => e = .returned (.string r) ∧ Below w.heap.size w w' := by
  have HB := Aside0.mk (Below.refl w.heap.size w)
  unfold impl_creases.f at h
  rw [Option.bind_eq_some_iff] at h
  obtain ⟨t, ht, h⟩ := h
  unfold impl_creases.g at h
  by_cases hok : (impl_creases.okT t && decide (1 ≤ t.length ∧ t.length ≤ 1048576)) = true
  case neg => rw [if_neg hok] at h; cases h
  rw [if_pos hok] at h
  obtain rfl := Option.some.inj h
  rw [Bool.and_eq_true, decide_eq_true_eq] at hok
  have HT := Aside0.mk ht
  have HOK := Aside0.mk hok.1
  have HN := Aside0.mk hok.2
  clear ht hok h
  go_enter Try.func8, Try.ntmps8
  go_upto_region 2 with (first | ((with_reducible refine gate_callee (f := 11) rfl ?_); refine goesL_ (some 11) rfl rfl Try.func11 (by kernel_rfl) rfl #[.string a0] rfl (by (try simp only [List.map_toArray, List.map_cons, List.map_nil]); first | done | rfl) ?_; (with_reducible refine (impl_folded.calls k a0 t _ HT.out).mono ?_); rintro e w8 ⟨v153, rfl, ho0, hb⟩; refine ⟨_, rfl, ?_⟩; have nHB := Aside0.mk (below_step (by repeat (first | (with_reducible first | exact HB.out | apply below_alloc | apply pw_below_drewN | apply below_drew1) | exact HB.out)) hb); have nHL := Aside0.mk (Kd.R_lower ho0 (below_size (by repeat (first | (with_reducible first | exact HB.out | apply below_alloc | apply pw_below_drewN | apply below_drew1) | exact HB.out)))); clear HB; have HB := nHB; have HL := nHL; clear nHB nHL; clear hb ho0; obtain ⟨Al, cl, el⟩ := Kd.R_slice HL.out; subst el))
  go_cut [4, 5] (fun s4 s5 wx => Aside0 (Kd.R (Kd.int .i64) 3 wx w.heap.size (fun _ => True) s4 (List.replicate t.length 0)) ∧ Aside0 (Kd.R Kd.bool 4 wx w.heap.size (fun _ => True) s5 (List.replicate t.length false)) ∧ Aside0 (Kd.R k35 35 wx w.heap.size (fun _ => True) (.slice Al t.length cl) t) ∧ Aside0 (Below w.heap.size w wx))
  case first =>
    obtain ⟨CA, hCA⟩ : ∃ c, c = madeCells (Value.int .i64 0).cells (t.length * 1) := ⟨_, rfl⟩
    obtain ⟨CU, hCU⟩ : ∃ c, c = madeCells (Value.bool false).cells (t.length * 1) := ⟨_, rfl⟩
    have hmA := impl_creases.mkrun (t := 28) Try.underlying28 (.int .i64 0) 8 impl_creases.inf3 (by decide) t.length HN.out.2
    have hmU := impl_creases.mkrun (t := 33) Try.underlying33 (.bool false) 1 impl_creases.inf4 (by decide) t.length HN.out.2
    rw [← hCA] at hmA
    rw [← hCU] at hmU
    have NA := Aside0.mk hCA
    have NU := Aside0.mk hCU
    clear hCA hCU
    go_region
    all_goals (go_wp2_with fail; go_meet; exact ⟨⟨(by rw [NA.out]; have hs_ : w.heap.size ≤ w8.heap.size := (below_size HB.out); have hz_ : (w8.alloc (.cells CU 4)).heap.size = w8.heap.size + 1 := (by simp); apply Kd.R_drew; first | (exact Kd.R_alloc (impl_creases.mkR (h1 := fun _ => rfl) (Value.int .i64) 3 (0 : Int) t.length w8 w.heap.size hs_ HN.out.2 rfl) _) | (have h_ := impl_creases.mkR (h1 := fun _ => rfl) (Value.int .i64) 3 (0 : Int) t.length (w8.alloc (.cells CU 4)) w.heap.size (by rw [hz_]; omega) HN.out.2 rfl; rw [hz_] at h_; exact h_))⟩, ⟨(by rw [NU.out]; have hs_ : w.heap.size ≤ w8.heap.size := (below_size HB.out); have hz_ : (w8.alloc (.cells CA 3)).heap.size = w8.heap.size + 1 := (by simp); apply Kd.R_drew; first | (exact Kd.R_alloc (impl_creases.mkR (h1 := fun _ => rfl) Value.bool 4 false t.length w8 w.heap.size hs_ HN.out.2 rfl) _) | (have h_ := impl_creases.mkR (h1 := fun _ => rfl) Value.bool 4 false t.length (w8.alloc (.cells CA 3)) w.heap.size (by rw [hz_]; omega) HN.out.2 rfl; rw [hz_] at h_; exact h_))⟩, ⟨(by (with_reducible repeat (first | apply Kd.R_alloc | apply Kd.R_drewN | apply Kd.R_drew)); exact HL.out)⟩, ⟨(by repeat (first | (with_reducible first | exact HB.out | apply below_alloc | apply pw_below_drewN | apply below_drew1) | exact HB.out))⟩⟩)
  case rest =>
    clear HL HB
    obtain ⟨HA, HU, HL, HB⟩ := hcut
    obtain ⟨gA, cA, eA, hgA, _, _⟩ := Kd.R_form HA.out (by rw [List.length_replicate]; exact HN.out.1)
    obtain ⟨gU, cU, eU, hgU, _, _⟩ := Kd.R_form HU.out (by rw [List.length_replicate]; exact HN.out.1)
    rw [List.length_replicate] at eA eU
    subst eA
    subst eU
    have HGA := Aside0.mk hgA
    have HGU := Aside0.mk hgU
    clear hgA hgU
    go_wp2_with fail
    go_loopg [20] t.length (fun kq v20 w' => ∃ (i : Int), v20 = .int .i64 i ∧ Aside0 (0 ≤ i ∧ i + kq = (t.length : Int)) ∧ Aside0 (Kd.R k35 35 w' w.heap.size (fun _ => True) (.slice Al t.length cl) t) ∧ Aside0 (Kd.R (Kd.int .i64) 3 w' w.heap.size (fun _ => True) (.slice (some ⟨gA, 0, none⟩) t.length cA) (impl_creases.ats t i.toNat)) ∧ Aside0 (Kd.R Kd.bool 4 w' w.heap.size (fun _ => True) (.slice (some ⟨gU, 0, none⟩) t.length cU) (impl_creases.ups t i.toNat)) ∧ Aside0 (Below w.heap.size w w'))
    case atStart => exact ⟨0, (by first | rfl | (simp; done) | (simp [*]; done)), ⟨by omega⟩, HL, ⟨HA.out⟩, ⟨HU.out⟩, HB⟩
    case round =>
      clear HL HA HU HB
      obtain ⟨i, rfl, HI, HL, HA, HU, HB⟩ := hrel
      by_cases c5 : i < (t.length : Int)
      · have c5b : decide (i < (t.length : Int)) = true := decide_eq_true c5
        have HI5 := Aside0.mk c5
        have p5 : 0 ≤ i := HI.out.1
        obtain ⟨hu0, hu1⟩ := impl_creases.okT_at HOK.out i p5 c5
        obtain ⟨ad, ead, hx0, hx1⟩ := at_T35 (Kd.R_reads' HL.out).2.2 i p5 c5
        cases ead
        obtain ⟨u, hu⟩ : ∃ u, u = (rd_T35 t i).f0 := ⟨_, rfl⟩
        obtain ⟨b, hb⟩ : ∃ b, b = (rd_T35 t i).f1 := ⟨_, rfl⟩
        rw [← hu] at hu0 hu1 hx0
        rw [← hb] at hx1
        have EU := Aside0.mk hu
        have EB := Aside0.mk hb
        have HU0 := Aside0.mk hu0
        have HU1 := Aside0.mk hu1
        clear hu hb hu0 hu1
        replace p5 := eq_true p5
        replace c5 := eq_true c5
        go_wp2_with (first | ((with_reducible refine gate_dst (N := 7) rfl ?_); refine box_event ?hg (N := 7) ?hd (cs := #[.int .i64 0, .bool false]) (t := 35) ?hr ?_; (case hd => rfl); (case hg => rfl); (case hr => first | (go_simp; done) | (go_simp; rfl)); intro gb hg w16 hbox hb; have nHL := Aside0.mk (Kd.R_below (Kd.R_elderB (by (with_reducible repeat (first | apply Kd.R_alloc | apply Kd.R_drewN | apply Kd.R_drew)); exact HL.out) gb (Nat.le_of_eq hg.symm)) hb); have nHA := Aside0.mk (Kd.R_below (by (with_reducible repeat (first | apply Kd.R_alloc | apply Kd.R_drewN | apply Kd.R_drew)); exact HA.out) hb); have nHU := Aside0.mk (Kd.R_below (by (with_reducible repeat (first | apply Kd.R_alloc | apply Kd.R_drewN | apply Kd.R_drew)); exact HU.out) hb); have nHB := Aside0.mk (below_step (by repeat (first | (with_reducible first | exact HB.out | apply below_alloc | apply pw_below_drewN | apply below_drew1) | exact HB.out)) hb); have nBK := Aside0.mk (hbox); have nGW := Aside0.mk ((by rw [hg]; exact (below_size (by repeat (first | (with_reducible first | exact HB.out | apply below_alloc | apply pw_below_drewN | apply below_drew1) | exact HB.out))) : w.heap.size ≤ gb)); clear HL HA HU HB; have HL := nHL; have HA := nHA; have HU := nHU; have HB := nHB; have BK := nBK; have GW := nGW; clear nHL nHA nHU nHB nBK nGW; clear hb hbox hg; have hcz0 : w16.cell? ⟨gb, 0, none⟩ = some (.int .i64 0) := (blk_cell BK.out 0).trans rfl; have hcz1 : w16.cell? ⟨gb, 1, none⟩ = some (.bool false) := (blk_cell BK.out 1).trans rfl; have hfz0 := blk_frozen BK.out 0; have hfz1 := blk_frozen BK.out 1))
        obtain ⟨W, hW⟩ : ∃ W, W = ((w16.setCell ⟨gb, 0, none⟩ (.int .i64 u)).setCell ⟨gb, 1, none⟩ (.bool b)) := ⟨_, rfl⟩
        rw [← hW]
        have HL2 : Aside0 (Kd.R k35 35 W w.heap.size (fun _ => True) (.slice (some ad) t.length cl) t) := ⟨by rw [hW]; exact Kd.R_mono (Kd.R_far (p := ⟨gb, 1, none⟩) (Kd.R_far (p := ⟨gb, 0, none⟩) (Kd.R_mono HL.out (fun k_ hk => (⟨hk, hk.2⟩ : _ ∧ k_ ≠ gb))) (fun _ hk => hk.2) (.int .i64 u)) (fun _ hk => hk.2) (.bool b)) (fun _ _ => trivial)⟩
        have HA2 : Aside0 (Kd.R (Kd.int .i64) 3 W w.heap.size (fun _ => True) (.slice (some ⟨gA, 0, none⟩) t.length cA) (impl_creases.ats t i.toNat)) := ⟨by rw [hW]; exact Kd.R_mono (Kd.R_far (p := ⟨gb, 1, none⟩) (Kd.R_far (p := ⟨gb, 0, none⟩) (Kd.R_types HA.out BK.out (by decide)) (fun _ hk => hk.2) (.int .i64 u)) (fun _ hk => hk.2) (.bool b)) (fun _ _ => trivial)⟩
        have HU2 : Aside0 (Kd.R Kd.bool 4 W w.heap.size (fun _ => True) (.slice (some ⟨gU, 0, none⟩) t.length cU) (impl_creases.ups t i.toNat)) := ⟨by rw [hW]; exact Kd.R_mono (Kd.R_far (p := ⟨gb, 1, none⟩) (Kd.R_far (p := ⟨gb, 0, none⟩) (Kd.R_types HU.out BK.out (by decide)) (fun _ hk => hk.2) (.int .i64 u)) (fun _ hk => hk.2) (.bool b)) (fun _ _ => trivial)⟩
        have HB2 : Aside0 (Below w.heap.size w W) := ⟨by rw [hW]; exact below_set (below_set HB.out GW.out) GW.out⟩
        have BW : Aside0 (W.heap[gb]? = some (.cells #[.int .i64 u, .bool b] 35 (0, 0))) := ⟨by rw [hW]; exact blk_put (blk_put BK.out 0 _ rfl) 1 _ rfl⟩
        clear hW HL HA HU HB BK hcz0 hcz1 hfz0 hfz1 hx0 hx1
        obtain ⟨hA0, hAf⟩ := Kd.R_celln 0 HA2.out u HU0.out HU1.out
        obtain ⟨hU0, hUf⟩ := Kd.R_celln false HU2.out u HU0.out HU1.out
        obtain ⟨hPA, hgA⟩ := Kd.R_putg HA2.out u i
        have hU3 := Kd.R_over' (v := (.slice (some ⟨gA, 0, none⟩) t.length cA)) HU2.out (Kd.R_typed HA2.out) (by decide) hgA
        have HL3 := Aside0.mk (Kd.R_over' (v := (.slice (some ⟨gA, 0, none⟩) t.length cA)) HL2.out (Kd.R_typed HA2.out) (by decide) hgA)
        have hB3 : Below w.heap.size w (W.setCell ⟨gA, u.toNat, none⟩ (.int .i64 i)) := below_set HB2.out HGA.out
        have hbk3 := blk_grown BW.out hgA (Kd.R_ne HA2.out BW.out (by decide))
        obtain ⟨hU0', hUf'⟩ := Kd.R_celln false hU3 u HU0.out HU1.out
        obtain ⟨hPU, hgU⟩ := Kd.R_putg hU3 u b
        have HPA := Aside0.mk (Kd.R_over' (v := (.slice (some ⟨gU, 0, none⟩) t.length cU)) hPA (Kd.R_typed hU3) (by decide) hgU)
        have HL4 := Aside0.mk (Kd.R_over' (v := (.slice (some ⟨gU, 0, none⟩) t.length cU)) HL3.out (Kd.R_typed hU3) (by decide) hgU)
        have HPU := Aside0.mk hPU
        have HB4 : Aside0 (Below w.heap.size w ((W.setCell ⟨gA, u.toNat, none⟩ (.int .i64 i)).setCell ⟨gU, u.toNat, none⟩ (.bool b))) := ⟨below_set hB3 HGU.out⟩
        have hb0 : W.cell? ⟨gb, 0, none⟩ = some (.int .i64 u) := (blk_cell BW.out 0).trans rfl
        have hb1 : W.cell? ⟨gb, 1, none⟩ = some (.bool b) := (blk_cell BW.out 1).trans rfl
        have hb0' : (W.setCell ⟨gA, u.toNat, none⟩ (.int .i64 i)).cell? ⟨gb, 0, none⟩ = some (.int .i64 u) := (blk_cell hbk3 0).trans rfl
        have hb1' : (W.setCell ⟨gA, u.toNat, none⟩ (.int .i64 i)).cell? ⟨gb, 1, none⟩ = some (.bool b) := (blk_cell hbk3 1).trans rfl
        have q0 := eq_true HU0.out
        have q1 := eq_true HU1.out
        clear hPA hgA hU3 HL3 hB3 hbk3 hPU hgU HA2 HU2 HL2 HB2 BW
        go_region
        go_wp2_with fail
        go_roundg (t.length - (i.toNat + 1))
        case measure => have := HI.out; have := HI5.out; omega
        case rel => exact ⟨i + 1, (by have := HI.out; have := HI5.out; have := HN.out; rw [show wrap64 (i + 1) = i + 1 by unfold wrap64; omega]), ⟨by have := HI.out; have := HI5.out; omega⟩, ⟨(by (with_reducible repeat (first | apply Kd.R_alloc | apply Kd.R_drewN | apply Kd.R_drew)); exact HL4.out)⟩, ⟨by
          rw [show (i + 1).toNat = i.toNat + 1 by have := HI.out; omega, impl_creases.ats, show ((i.toNat : Nat) : Int) = i by have := HI.out; omega, ← EU.out]; exact (by (with_reducible repeat (first | apply Kd.R_alloc | apply Kd.R_drewN | apply Kd.R_drew)); exact HPA.out)⟩, ⟨by
          rw [show (i + 1).toNat = i.toNat + 1 by have := HI.out; omega, impl_creases.ups, show ((i.toNat : Nat) : Int) = i by have := HI.out; omega, ← EU.out, ← EB.out]; exact (by (with_reducible repeat (first | apply Kd.R_alloc | apply Kd.R_drewN | apply Kd.R_drew)); exact HPU.out)⟩, ⟨by repeat (first | exact HB4.out | apply pw_below_drewN | apply below_drew1)⟩⟩
      · have c5b : decide (i < (t.length : Int)) = false := decide_eq_false c5
        have hie : i = (t.length : Int) := by have := HI.out; omega
        rw [hie, Int.toNat_natCast] at HA HU
        clear hie c5 HI
        obtain ⟨A, hA⟩ : ∃ A, A = impl_creases.ats t t.length := ⟨_, rfl⟩
        obtain ⟨U, hU⟩ : ∃ U, U = impl_creases.ups t t.length := ⟨_, rfl⟩
        have hAl : A.length = t.length := by rw [hA, impl_creases.ats_len]
        have hUl : U.length = t.length := by rw [hU, impl_creases.ups_len]
        rw [← hA] at HA
        rw [← hU] at HU
        have EA := Aside0.mk hA
        have EU := Aside0.mk hU
        have LA := Aside0.mk hAl
        have LU := Aside0.mk hUl
        clear hA hU hAl hUl
        obtain ⟨m, hm⟩ : ∃ m : Int, (wrap64 ((t.length : Int) - 1)) = m := ⟨_, rfl⟩
        have hmw : (IntKind.i64.wrap ((t.length : Int) - 1)) = m := (i64_w _).trans hm
        have HM := Aside0.mk (show m = (t.length : Int) - 1 ∧ 0 ≤ m by have := HN.out; rw [← hm]; unfold wrap64; omega)
        clear HL
        go_wp2_with (first | ((with_reducible refine gate_dst (N := 37) rfl ?_); refine Kd.R_lit (Kd.int .u8) _ 5 ?hg (N := 37) ?hd (xs := ([] : List Int)) (inner := []) (ok := fun _ => True) (okp := fun _ => True) ?hr ?hp (fun _ hk => hk) trivial (Below.refl _ _) (Nat.le_refl _) (by simp) ?_; (case hd => rfl); (case hg => rfl); (case hr => first | (go_simp; done) | (go_simp; rfl)); (case hp => exact (Reps.none _ _)); intro vo wo ho hb _ _; have nHA := Aside0.mk (Kd.R_below (by (with_reducible repeat (first | apply Kd.R_alloc | apply Kd.R_drewN | apply Kd.R_drew)); exact HA.out) hb); have nHU := Aside0.mk (Kd.R_below (by (with_reducible repeat (first | apply Kd.R_alloc | apply Kd.R_drewN | apply Kd.R_drew)); exact HU.out) hb); have nHB := Aside0.mk (below_step (by repeat (first | (with_reducible first | exact HB.out | apply below_alloc | apply pw_below_drewN | apply below_drew1) | exact HB.out)) hb); have nHO := Aside0.mk (Kd.R_lower ho (below_size (by repeat (first | (with_reducible first | exact HB.out | apply below_alloc | apply pw_below_drewN | apply below_drew1) | exact HB.out)))); clear HA HU HB; have HA := nHA; have HU := nHU; have HB := nHB; have HO := nHO; clear nHA nHU nHB nHO; clear hb ho))
        go_loopg [8, 41] (t.length - 1) (fun kq v8 v41 w' => ∃ (j : Int), v41 = .int .i64 j ∧ Aside0 (0 ≤ j ∧ j + kq = m) ∧ Aside0 (Kd.R (Kd.int .i64) 3 w' w.heap.size (fun _ => True) (.slice (some ⟨gA, 0, none⟩) t.length cA) A) ∧ Aside0 (Kd.R Kd.bool 4 w' w.heap.size (fun _ => True) (.slice (some ⟨gU, 0, none⟩) t.length cU) U) ∧ Aside0 (Kd.R (Kd.int .u8) 5 w' w.heap.size (fun _ => True) v8 (impl_creases.out A U j.toNat)) ∧ Aside0 (Below w.heap.size w w'))
        case atStart => exact ⟨0, (by first | rfl | (simp; done) | (simp [*]; done)), ⟨by have := HM.out; omega⟩, HA, HU, ⟨by exact HO.out⟩, HB⟩
        case round =>
          clear HA HU HO HB
          obtain ⟨j, rfl, HJ, HA, HU, HO, HB⟩ := hrel
          obtain ⟨ol, hol⟩ : ∃ ol, ol = impl_creases.out A U j.toNat := ⟨_, rfl⟩
          rw [← hol] at HO
          have EO := Aside0.mk hol
          clear hol
          by_cases c6 : j < m
          · have c6b : decide (j < m) = true := decide_eq_true c6
            have HJ6 := Aside0.mk c6
            have p6 : 0 ≤ j := HJ.out.1
            have q6 : j < (t.length : Int) := by have := HM.out; omega
            obtain ⟨j1, hj1⟩ : ∃ j1 : Int, (wrap64 (j + 1)) = j1 := ⟨_, rfl⟩
            have hj1w : (IntKind.i64.wrap (j + 1)) = j1 := (i64_w _).trans hj1
            have HJ1 := Aside0.mk (show j1 = j + 1 by have := HN.out; rw [← hj1]; unfold wrap64; omega)
            have p7 : 0 ≤ j1 := by have := HJ1.out; omega
            have q7 : j1 < (t.length : Int) := by have := HJ1.out; have := HM.out; omega
            obtain ⟨hx0, _⟩ := Kd.R_celln 0 HA.out j p6 q6
            obtain ⟨hx1, _⟩ := Kd.R_celln 0 HA.out j1 p7 q7
            obtain ⟨hx2, _⟩ := Kd.R_celln false HU.out j p6 q6
            obtain ⟨xa, hxa⟩ : ∃ x, x = rdOf 0 A j := ⟨_, rfl⟩
            obtain ⟨xb, hxb⟩ : ∃ x, x = rdOf 0 A j1 := ⟨_, rfl⟩
            obtain ⟨ub, hub⟩ : ∃ x, x = rdOf false U j := ⟨_, rfl⟩
            rw [← hxa] at hx0
            rw [← hxb] at hx1
            rw [← hub] at hx2
            have XA := Aside0.mk hxa
            have XB := Aside0.mk hxb
            have XU := Aside0.mk hub
            clear hxa hxb hub c6
            replace p6 := eq_true p6
            replace q6 := eq_true q6
            replace p7 := eq_true p7
            replace q7 := eq_true q7
            cases hd : (decide (xa < xb) == ub) with
            | true =>
              have HMK := Aside0.mk (show impl_creases.mk A U j = 118 by unfold impl_creases.mk; rw [← HJ1.out, ← XA.out, ← XB.out, ← XU.out, hd]; rfl)
              go_wp2_with fail
              go_quiet (fail)
              go_wp2_with (first | ((with_reducible refine gate_builtin (b := .append) (xs := #[.tmp 59, .tmp 60]) rfl ?_); at_builtin; refine Kd.R_append (Kd.int .u8) (w0 := w) w.heap.size rfl (.tmp 59) (.tmp 60) 27 5 (.int .u8 0) 1 rfl Try.underlying27 impl_creases.inf5 rfl (by decide) (by omega) u8 ol 118 [.int .u8 118] (fun _ => True) (fun _ => False) rfl (by first | (go_simp; done) | (go_simp; rfl)) ?aP (fun _ hk => hk.elim) ?aF ?aO ?aB ?aS ?aL ?_; (case aP => exact rfl); (case aB => exact (by repeat (first | (with_reducible first | exact HB.out | apply below_alloc | apply pw_below_drewN | apply below_drew1) | exact HB.out))); (case aF => exact (fun _ _ => trivial)); (case aO => exact (by (with_reducible repeat (first | apply Kd.R_alloc | apply Kd.R_drewN | apply Kd.R_drew)); exact HO.out)); (case aS => exact (below_size (by repeat (first | (with_reducible first | exact HB.out | apply below_alloc | apply pw_below_drewN | apply below_drew1) | exact HB.out)))); (case aL => have h1_ := EO.out; have h2_ := HJ6.out; have h3_ := HM.out; have h4_ := HN.out; have h5_ := HJ.out; have h6_ : ol.length = j.toNat := (by rw [h1_, impl_creases.out_len]); omega); intro v1 w18 ho hb hg hat; have nHA := Aside0.mk (Kd.R_over' (by (with_reducible repeat (first | apply Kd.R_alloc | apply Kd.R_drewN | apply Kd.R_drew)); exact HA.out) (Kd.R_typed (by (with_reducible repeat (first | apply Kd.R_alloc | apply Kd.R_drewN | apply Kd.R_drew)); exact HO.out)) (by decide) hg); have nHU := Aside0.mk (Kd.R_over' (by (with_reducible repeat (first | apply Kd.R_alloc | apply Kd.R_drewN | apply Kd.R_drew)); exact HU.out) (Kd.R_typed (by (with_reducible repeat (first | apply Kd.R_alloc | apply Kd.R_drewN | apply Kd.R_drew)); exact HO.out)) (by decide) hg); have nHO := Aside0.mk (ho); have nHB := Aside0.mk (hb); clear HA HU HO HB; have HA := nHA; have HU := nHU; have HO := nHO; have HB := nHB; clear nHA nHU nHO nHB; clear ho hb hg hat))
              go_roundg (t.length - 1 - (j.toNat + 1))
              case measure => have := HJ.out; have := HJ6.out; have := HM.out; omega
              case rel => exact ⟨j1, rfl, ⟨by have := HJ.out; have := HJ6.out; have := HM.out; have := HJ1.out; omega⟩, HA, HU, ⟨by
                have e : impl_creases.out A U j1.toNat = ol ++ [118] := by
                  rw [HJ1.out, show (j + 1).toNat = j.toNat + 1 by have := HJ.out; omega, impl_creases.out_succ, ← EO.out, show ((j.toNat : Nat) : Int) = j by have := HJ.out; omega, HMK.out]
                rw [e]; exact HO.out⟩, HB⟩
            | false =>
              have HMK := Aside0.mk (show impl_creases.mk A U j = 109 by unfold impl_creases.mk; rw [← HJ1.out, ← XA.out, ← XB.out, ← XU.out, hd]; rfl)
              go_wp2_with fail
              go_quiet (fail)
              go_wp2_with (first | ((with_reducible refine gate_builtin (b := .append) (xs := #[.tmp 62, .tmp 63]) rfl ?_); at_builtin; refine Kd.R_append (Kd.int .u8) (w0 := w) w.heap.size rfl (.tmp 62) (.tmp 63) 27 5 (.int .u8 0) 1 rfl Try.underlying27 impl_creases.inf5 rfl (by decide) (by omega) u8 ol 109 [.int .u8 109] (fun _ => True) (fun _ => False) rfl (by first | (go_simp; done) | (go_simp; rfl)) ?aP (fun _ hk => hk.elim) ?aF ?aO ?aB ?aS ?aL ?_; (case aP => exact rfl); (case aB => exact (by repeat (first | (with_reducible first | exact HB.out | apply below_alloc | apply pw_below_drewN | apply below_drew1) | exact HB.out))); (case aF => exact (fun _ _ => trivial)); (case aO => exact (by (with_reducible repeat (first | apply Kd.R_alloc | apply Kd.R_drewN | apply Kd.R_drew)); exact HO.out)); (case aS => exact (below_size (by repeat (first | (with_reducible first | exact HB.out | apply below_alloc | apply pw_below_drewN | apply below_drew1) | exact HB.out)))); (case aL => have h1_ := EO.out; have h2_ := HJ6.out; have h3_ := HM.out; have h4_ := HN.out; have h5_ := HJ.out; have h6_ : ol.length = j.toNat := (by rw [h1_, impl_creases.out_len]); omega); intro v1 w18 ho hb hg hat; have nHA := Aside0.mk (Kd.R_over' (by (with_reducible repeat (first | apply Kd.R_alloc | apply Kd.R_drewN | apply Kd.R_drew)); exact HA.out) (Kd.R_typed (by (with_reducible repeat (first | apply Kd.R_alloc | apply Kd.R_drewN | apply Kd.R_drew)); exact HO.out)) (by decide) hg); have nHU := Aside0.mk (Kd.R_over' (by (with_reducible repeat (first | apply Kd.R_alloc | apply Kd.R_drewN | apply Kd.R_drew)); exact HU.out) (Kd.R_typed (by (with_reducible repeat (first | apply Kd.R_alloc | apply Kd.R_drewN | apply Kd.R_drew)); exact HO.out)) (by decide) hg); have nHO := Aside0.mk (ho); have nHB := Aside0.mk (hb); clear HA HU HO HB; have HA := nHA; have HU := nHU; have HO := nHO; have HB := nHB; clear nHA nHU nHO nHB; clear ho hb hg hat))
              go_roundg (t.length - 1 - (j.toNat + 1))
              case measure => have := HJ.out; have := HJ6.out; have := HM.out; omega
              case rel => exact ⟨j1, rfl, ⟨by have := HJ.out; have := HJ6.out; have := HM.out; have := HJ1.out; omega⟩, HA, HU, ⟨by
                have e : impl_creases.out A U j1.toNat = ol ++ [109] := by
                  rw [HJ1.out, show (j + 1).toNat = j.toNat + 1 by have := HJ.out; omega, impl_creases.out_succ, ← EO.out, show ((j.toNat : Nat) : Int) = j by have := HJ.out; omega, HMK.out]
                rw [e]; exact HO.out⟩, HB⟩
          · have c6b : decide (j < m) = false := decide_eq_false c6
            have hje : j.toNat = t.length - 1 := by have := HJ.out; have := HM.out; omega
            have EO2 := Aside0.mk (show ol = impl_creases.out (impl_creases.ats t t.length) (impl_creases.ups t t.length) (t.length - 1) by rw [EO.out, hje, EA.out, EU.out])
            clear hje c6
            have hcv := own_string (P := Try.prog) Try.underlying27 Try.underlying5 Try.underlying9 (Kd.own_of_R HO.out)
            rw [EO2.out] at hcv
            go_wp2
            go_ret
            exact ⟨rfl, by repeat (first | exact HB.out | apply pw_below_drewN | apply below_drew1)⟩

/-! ### impl_FirstWord: function 5 -/
mutual
def impl_FirstWord.l0 : Nat → ByteArray → Int → Option (ByteArray × Bool)
  | 0, _, _ => none
  | k + 1, x0, x8 => if x8 < 6 then (if 0 ≤ x8 then (if (x0.size : Int) = (wrap64 ((shl .i64 1 x8) - 1)) then (impl_FirstWord.l1 k x0 x8 x8 (shl .i64 1 x8) 0) else (impl_FirstWord.l0 k x0 (wrap64 (x8 + 1)))) else (none)) else (some ((⟨#[]⟩ : ByteArray), false))
def impl_FirstWord.l1 : Nat → ByteArray → Int → Int → Int → Int → Option (ByteArray × Bool)
  | 0, _, _, _, _, _ => none
  | k + 1, x0, x4, x8, x18, x19 => if x19 < x18 then (impl_FirstWord.l2 k x0 x4 x19 (([] : List Int)) x8 x18 x19 x4 0) else (impl_FirstWord.l0 k x0 (wrap64 (x8 + 1)))
def impl_FirstWord.l2 : Nat → ByteArray → Int → Int → List Int → Int → Int → Int → Int → Int → Option (ByteArray × Bool)
  | 0, _, _, _, _, _, _, _, _, _ => none
  | k + 1, x0, x4, x5, x6, x8, x18, x19, x23, x24 => if x24 < x23 then (if 0 ≤ (wrap64 ((wrap64 (x4 - 1)) - x24)) then (if 0 ≤ (Go.bits .and .i64 (shr .i64 x5 (wrap64 ((wrap64 (x4 - 1)) - x24))) 1) then (if (Go.bits .and .i64 (shr .i64 x5 (wrap64 ((wrap64 (x4 - 1)) - x24))) 1) < 2 then (if x6.length < 140737488355328 then (impl_FirstWord.l2 k x0 x4 x5 (x6 ++ [bt (⟨#[76, 82]⟩ : ByteArray) (Go.bits .and .i64 (shr .i64 x5 (wrap64 ((wrap64 (x4 - 1)) - x24))) 1)]) x8 x18 x19 x23 (wrap64 (x24 + 1))) else (none)) else (none)) else (none)) else (none)) else ((impl_creases.f k (strOfNums x6)).bind fun t154 => (if t154.toList = x0.toList then (some (strOfNums x6, true)) else (impl_FirstWord.l1 k x0 x4 x8 x18 (wrap64 (x19 + 1)))))
end
def impl_FirstWord.f (k : Nat) (a0 : ByteArray) : Option (ByteArray × Bool) := impl_FirstWord.l0 k a0 0
theorem impl_FirstWord.mono_l : ∀ k, (∀ y0 y1, LeO (impl_FirstWord.l0 k y0 y1) (impl_FirstWord.l0 (k + 1) y0 y1)) ∧ (∀ y0 y1 y2 y3 y4, LeO (impl_FirstWord.l1 k y0 y1 y2 y3 y4) (impl_FirstWord.l1 (k + 1) y0 y1 y2 y3 y4)) ∧ (∀ y0 y1 y2 y3 y4 y5 y6 y7 y8, LeO (impl_FirstWord.l2 k y0 y1 y2 y3 y4 y5 y6 y7 y8) (impl_FirstWord.l2 (k + 1) y0 y1 y2 y3 y4 y5 y6 y7 y8))
  | 0 => ⟨fun _ _ r h => by simp [impl_FirstWord.l0] at h, fun _ _ _ _ _ r h => by simp [impl_FirstWord.l1] at h, fun _ _ _ _ _ _ _ _ _ r h => by simp [impl_FirstWord.l2] at h⟩
  | k + 1 => by
    obtain ⟨ih0, ih1, ih2⟩ := impl_FirstWord.mono_l k
    refine ⟨?_, ?_, ?_⟩
    · intro y0 y1
      unfold impl_FirstWord.l0
      repeat' first
      | (with_reducible exact ih0 _ _)
      | (with_reducible exact ih1 _ _ _ _ _)
      | (with_reducible exact ih2 _ _ _ _ _ _ _ _ _)
      | (with_reducible exact impl_creases.mono _ _)
      | (with_reducible exact LeO.refl _)
      | (with_reducible exact LeO.none _)
      | (with_reducible refine LeO.ite ?_ ?_)
      | (with_reducible refine LeO.bind ?_ (fun _ => ?_))
      | exact ih0 _ _
      | exact ih1 _ _ _ _ _
      | exact ih2 _ _ _ _ _ _ _ _ _
      | exact impl_creases.mono _ _
      | exact LeO.none _
      | refine LeO.ite ?_ ?_
      | refine LeO.bind ?_ (fun _ => ?_)
    · intro y0 y1 y2 y3 y4
      unfold impl_FirstWord.l1
      repeat' first
      | (with_reducible exact ih0 _ _)
      | (with_reducible exact ih1 _ _ _ _ _)
      | (with_reducible exact ih2 _ _ _ _ _ _ _ _ _)
      | (with_reducible exact impl_creases.mono _ _)
      | (with_reducible exact LeO.refl _)
      | (with_reducible exact LeO.none _)
      | (with_reducible refine LeO.ite ?_ ?_)
      | (with_reducible refine LeO.bind ?_ (fun _ => ?_))
      | exact ih0 _ _
      | exact ih1 _ _ _ _ _
      | exact ih2 _ _ _ _ _ _ _ _ _
      | exact impl_creases.mono _ _
      | exact LeO.none _
      | refine LeO.ite ?_ ?_
      | refine LeO.bind ?_ (fun _ => ?_)
    · intro y0 y1 y2 y3 y4 y5 y6 y7 y8
      unfold impl_FirstWord.l2
      repeat' first
      | (with_reducible exact ih0 _ _)
      | (with_reducible exact ih1 _ _ _ _ _)
      | (with_reducible exact ih2 _ _ _ _ _ _ _ _ _)
      | (with_reducible exact impl_creases.mono _ _)
      | (with_reducible exact LeO.refl _)
      | (with_reducible exact LeO.none _)
      | (with_reducible refine LeO.ite ?_ ?_)
      | (with_reducible refine LeO.bind ?_ (fun _ => ?_))
      | exact ih0 _ _
      | exact ih1 _ _ _ _ _
      | exact ih2 _ _ _ _ _ _ _ _ _
      | exact impl_creases.mono _ _
      | exact LeO.none _
      | refine LeO.ite ?_ ?_
      | refine LeO.bind ?_ (fun _ => ?_)
theorem impl_FirstWord.mono : ∀ a0 k, LeO (impl_FirstWord.f k a0) (impl_FirstWord.f (k + 1) a0) := by
  intro a0 k
  obtain ⟨ih0, ih1, ih2⟩ := impl_FirstWord.mono_l k
  unfold impl_FirstWord.f
  repeat' first
      | (with_reducible exact ih0 _ _)
      | (with_reducible exact ih1 _ _ _ _ _)
      | (with_reducible exact ih2 _ _ _ _ _ _ _ _ _)
      | (with_reducible exact impl_creases.mono _ _)
      | (with_reducible exact LeO.refl _)
      | (with_reducible exact LeO.none _)
      | (with_reducible refine LeO.ite ?_ ?_)
      | (with_reducible refine LeO.bind ?_ (fun _ => ?_))
      | exact ih0 _ _
      | exact ih1 _ _ _ _ _
      | exact ih2 _ _ _ _ _ _ _ _ _
      | exact impl_creases.mono _ _
      | exact LeO.none _
      | refine LeO.ite ?_ ?_
      | refine LeO.bind ?_ (fun _ => ?_)
set_option maxHeartbeats 8000000 in
set_option maxRecDepth 100000 in
theorem impl_FirstWord.calls (k : Nat) (a0 : ByteArray) (r1 : ByteArray) (r2 : Bool) (w : World) (h : impl_FirstWord.f k a0 = some (r1, r2)) :
    Calls Try.prog 5 #[.string a0] w fun e w' => e = .returned (.tuple #[.string r1, .bool r2]) ∧ Below w.heap.size w w' := by
  have HB := Aside0.mk (Below.refl w.heap.size w)
  have H : (impl_FirstWord.l0 k a0 0) = some (r1, r2) := h
  clear h
  have H' := Aside0.mk H
  clear H
  go_enter Try.func5, Try.ntmps5
  go_wp2
  go_loopg [8] k (fun kq v8 w' => ∃ (x8_1 : Int), v8 = .int .i64 x8_1 ∧ Aside0 (impl_FirstWord.l0 kq a0 x8_1 = some (r1, r2)) ∧ Aside0 (kq ≤ k) ∧ Aside0 (Below w.heap.size w w'))
  case atStart => exact ⟨(0), (by first | rfl | (simp; done) | (simp [*]; done)), H', ⟨Nat.le_refl _⟩, ⟨by repeat (first | (with_reducible first | exact HB.out | apply below_alloc | apply pw_below_drewN | apply below_drew1) | exact HB.out)⟩⟩
  case round =>
    clear H'
    obtain ⟨x8_1, rfl, HA, HK1, HB⟩ := hrel
    cases gk with
    | zero => exact absurd HA.out (by simp [impl_FirstWord.l0])
    | succ k1 =>
      have H := HA.out
      clear HA
      simp only [impl_FirstWord.l0] at H
      by_cases c2 : x8_1 < 6
      · rw [if_pos c2] at H
        have c2b0 : decide (x8_1 < 6) = true := decide_eq_true c2
        clear c2
        by_cases c3 : 0 ≤ x8_1
        · rw [if_pos c3] at H
          have c3b0 := eq_true c3
          have c3b1 : decide (0 ≤ x8_1) = true := decide_eq_true c3
          clear c3
          obtain ⟨ji4, hji4⟩ : ∃ j_ : Int, (shl .i64 1 x8_1) = j_ := ⟨_, rfl⟩
          replace H : (if (a0.size : Int) = (wrap64 ((ji4) - 1)) then (impl_FirstWord.l1 k1 a0 x8_1 x8_1 ji4 0) else (impl_FirstWord.l0 k1 a0 (wrap64 (x8_1 + 1)))) = some (r1, r2) := by first | (rw [hji4] at H; exact H) | (simp only [hji4] at H ⊢; exact H)
          have hji4_ : (IntKind.i64.wrap (1 * 2 ^ min x8_1.toNat 64)) = ji4 := hji4
          have hji4z : x8_1 ≤ 64 → (IntKind.i64.wrap (1 * 2 ^ x8_1.toNat)) = ji4 := shl_small hji4
          have hji4u : (IntKind.i64.wrap (2 ^ min x8_1.toNat 64)) = ji4 := by have h_ := hji4_; rw [Int.one_mul] at h_; exact h_
          have hji4v : x8_1 ≤ 64 → (IntKind.i64.wrap (2 ^ x8_1.toNat)) = ji4 := fun hle_ => by have h_ := hji4z hle_; rw [Int.one_mul] at h_; exact h_
          have hji4y : (wrap64 (1 * 2 ^ min x8_1.toNat 64)) = ji4 := (i64_w _).symm.trans hji4_
          have hji4x : x8_1 ≤ 64 → (wrap64 (1 * 2 ^ x8_1.toNat)) = ji4 := fun h_ => (i64_w _).symm.trans (hji4z h_)
          (try (have hji4s_ := hji4y; simp only [Int.one_mul, Int.toNat_natCast] at hji4s_))
          by_cases c5 : (a0.size : Int) = (wrap64 ((ji4) - 1))
          · rw [if_pos c5] at H
            have c5b0 : ((a0.size : Int) == (wrap64 ((ji4) - 1))) = true := beq_iff_eq.mpr c5
            have c5b1 : ((a0.size : Int) != (wrap64 ((ji4) - 1))) = false := bne_eq_false_iff_eq.mpr c5
            clear c5
            have c6b0 := eq_true (of_decide_eq_true (by first | (with_reducible assumption) | assumption) : 0 ≤ x8_1)
            have H' := Aside0.mk H
            clear H
            go_wp2
            go_loopg [19] k1 (fun kq v19 w' => ∃ (x19_2 : Int), v19 = .int .i64 x19_2 ∧ Aside0 (impl_FirstWord.l1 kq a0 x8_1 x8_1 ji4 x19_2 = some (r1, r2)) ∧ Aside0 (kq ≤ k1) ∧ Aside0 (Below w.heap.size w w'))
            case atStart => exact ⟨(0), (by first | rfl | (simp; done) | (simp [*]; done)), H', ⟨Nat.le_refl _⟩, ⟨by repeat (first | (with_reducible first | exact HB.out | apply below_alloc | apply pw_below_drewN | apply below_drew1) | exact HB.out)⟩⟩
            case round =>
              clear H'
              try clear c2
              try clear c2b0
              try clear p2
              try clear c3
              try clear c3b0
              try clear c3b1
              try clear c5
              try clear c5b0
              try clear c5b1
              try clear c6
              try clear c6b0
              try clear p6
              try clear c7
              try clear c7b0
              obtain ⟨x19_2, rfl, HA, HK2, HB⟩ := hrel
              cases gk with
              | zero => exact absurd HA.out (by simp [impl_FirstWord.l1])
              | succ k2 =>
                have H := HA.out
                clear HA
                simp only [impl_FirstWord.l1] at H
                by_cases c8 : x19_2 < ji4
                · rw [if_pos c8] at H
                  have c8b0 : decide (x19_2 < ji4) = true := decide_eq_true c8
                  clear c8
                  obtain ⟨y148, hy148⟩ : ∃ y_ : List Int, y_ = (([] : List Int)) := ⟨_, rfl⟩
                  replace H : (impl_FirstWord.l2 k2 a0 x8_1 x19_2 y148 x8_1 ji4 x19_2 x8_1 0) = some (r1, r2) := by first | (rw [hy148]; with_reducible exact H) | (have H2_ := (Option.bind_some _ _).symm.trans H; rw [hy148]; with_reducible exact H2_) | (have H2_ := (Option.bind_some _ _).symm.trans H; with_reducible exact H2_) | with_reducible exact H | (rw [hy148]; exact H) | exact H
                  have Ny148 := Aside0.mk hy148
                  clear hy148
                  have H' := Aside0.mk H
                  clear H
                  go_wp2_with (first | ((with_reducible refine gate_dst (N := 22) rfl ?_); refine Kd.R_lit (Kd.int .u8) _ 5 ?hg (N := 22) ?hd (xs := ([] : List Int)) (inner := []) (ok := fun _ => True) (okp := fun _ => True) ?hr ?hp (fun _ hk => hk) trivial (Below.refl _ _) (Nat.le_refl _) (by simp) ?_; (case hd => rfl); (case hg => rfl); (case hr => first | (go_simp; done) | (go_simp; rfl)); (case hp => exact (Reps.none _ _)); intro v149 w9 ho10 hb hg_ hnew_; clear hg_ hnew_; (first | rw [← Ny148.out] at ho10 | (simp only [Int.reduceToNat] at ho10; rw [← Ny148.out] at ho10)); have n0_ := Aside0.mk (Kd.R_lower ho10 (below_size (by repeat (first | (with_reducible first | exact HB.out | apply below_alloc | apply pw_below_drewN | apply below_drew1) | exact HB.out)))); have n1_ := Aside0.mk (below_step (by repeat (first | (with_reducible first | exact HB.out | apply below_alloc | apply pw_below_drewN | apply below_drew1) | exact HB.out)) hb); clear HB; have HO150 := n0_; have HB := n1_; clear n0_ n1_; clear hb ho10))
                  go_loopg [6, 24] k2 (fun kq v6 v24 w' => ∃ (x6_3 : List Int) (x24_3 : Int), v24 = .int .i64 x24_3 ∧ Aside0 (impl_FirstWord.l2 kq a0 x8_1 x19_2 x6_3 x8_1 ji4 x19_2 x8_1 x24_3 = some (r1, r2)) ∧ Aside0 (kq ≤ k2) ∧ Aside0 (Kd.R (Kd.int .u8) 5 w' w.heap.size (fun _ => True) v6 x6_3) ∧ Aside0 (Below w.heap.size w w'))
                  case atStart => exact ⟨(y148), (0), (by first | rfl | (simp; done) | (simp [*]; done)), H', ⟨Nat.le_refl _⟩, ⟨by (with_reducible repeat (first | apply Kd.R_alloc | apply Kd.R_drewN | apply Kd.R_drew)); exact HO150.out⟩, ⟨by repeat (first | (with_reducible first | exact HB.out | apply below_alloc | apply pw_below_drewN | apply below_drew1) | exact HB.out)⟩⟩
                  case round =>
                    clear H'
                    try clear c2
                    try clear c2b0
                    try clear p2
                    try clear c3
                    try clear c3b0
                    try clear c3b1
                    try clear c5
                    try clear c5b0
                    try clear c5b1
                    try clear c6
                    try clear c6b0
                    try clear p6
                    try clear c7
                    try clear c7b0
                    try clear c8
                    try clear c8b0
                    try clear p2
                    try clear p6
                    obtain ⟨x6_3, x24_3, rfl, HA, HK3, HO_6, HB⟩ := hrel
                    cases gk with
                    | zero => exact absurd HA.out (by simp [impl_FirstWord.l2])
                    | succ k3 =>
                      have H := HA.out
                      clear HA
                      simp only [impl_FirstWord.l2] at H
                      by_cases c11 : x24_3 < x8_1
                      · rw [if_pos c11] at H
                        have c11b0 : decide (x24_3 < x8_1) = true := decide_eq_true c11
                        clear c11
                        obtain ⟨ji12, hji12⟩ : ∃ j_ : Int, (wrap64 ((wrap64 (x8_1 - 1)) - x24_3)) = j_ := ⟨_, rfl⟩
                        replace H : (if 0 ≤ (ji12) then (if 0 ≤ (Go.bits .and .i64 (shr .i64 x19_2 (ji12)) 1) then (if (Go.bits .and .i64 (shr .i64 x19_2 (ji12)) 1) < 2 then (if x6_3.length < 140737488355328 then (impl_FirstWord.l2 k3 a0 x8_1 x19_2 (x6_3 ++ [bt (⟨#[76, 82]⟩ : ByteArray) (Go.bits .and .i64 (shr .i64 x19_2 (ji12)) 1)]) x8_1 ji4 x19_2 x8_1 (wrap64 (x24_3 + 1))) else (none)) else (none)) else (none)) else (none)) = some (r1, r2) := by first | (rw [hji12] at H; exact H) | (simp only [hji12] at H ⊢; exact H)
                        have hji12w : (IntKind.i64.wrap ((wrap64 (x8_1 - 1)) - x24_3)) = ji12 := (i64_w _).trans hji12
                        by_cases c13 : 0 ≤ (ji12)
                        · rw [if_pos c13] at H
                          have c13b0 := eq_true c13
                          have c13b1 : decide (0 ≤ (ji12)) = true := decide_eq_true c13
                          clear c13
                          obtain ⟨ji14, hji14⟩ : ∃ j_ : Int, (shr .i64 x19_2 (ji12)) = j_ := ⟨_, rfl⟩
                          replace H : (if 0 ≤ (Go.bits .and .i64 (ji14) 1) then (if (Go.bits .and .i64 (ji14) 1) < 2 then (if x6_3.length < 140737488355328 then (impl_FirstWord.l2 k3 a0 x8_1 x19_2 (x6_3 ++ [bt (⟨#[76, 82]⟩ : ByteArray) (Go.bits .and .i64 (ji14) 1)]) x8_1 ji4 x19_2 x8_1 (wrap64 (x24_3 + 1))) else (none)) else (none)) else (none)) = some (r1, r2) := by first | (rw [hji14] at H; exact H) | (simp only [hji14] at H ⊢; exact H)
                          have hji14_ : (x19_2 / 2 ^ min (ji12).toNat 64) = ji14 := hji14
                          have hji14z : (ji12) ≤ 64 → (x19_2 / 2 ^ (ji12).toNat) = ji14 := shr_small hji14
                          by_cases c15 : 0 ≤ (Go.bits .and .i64 (ji14) 1)
                          · rw [if_pos c15] at H
                            have c15b0 : decide (0 ≤ (Go.bits .and .i64 (ji14) 1)) = true := decide_eq_true c15
                            clear c15
                            by_cases c16 : (Go.bits .and .i64 (ji14) 1) < 2
                            · rw [if_pos c16] at H
                              have c16b0 : decide ((Go.bits .and .i64 (ji14) 1) < 2) = true := decide_eq_true c16
                              clear c16
                              by_cases c18 : x6_3.length < 140737488355328
                              · rw [if_pos c18] at H
                                have LMc18 := Aside0.mk c18
                                clear c18
                                obtain ⟨y151, hy151⟩ : ∃ y_ : List Int, y_ = (x6_3 ++ [bt (⟨#[76, 82]⟩ : ByteArray) (Go.bits .and .i64 (ji14) 1)]) := ⟨_, rfl⟩
                                replace H : (impl_FirstWord.l2 k3 a0 x8_1 x19_2 y151 x8_1 ji4 x19_2 x8_1 (wrap64 (x24_3 + 1))) = some (r1, r2) := by first | (rw [hy151]; with_reducible exact H) | (have H2_ := (Option.bind_some _ _).symm.trans H; rw [hy151]; with_reducible exact H2_) | (have H2_ := (Option.bind_some _ _).symm.trans H; with_reducible exact H2_) | with_reducible exact H | (rw [hy151]; exact H) | exact H
                                have Ny151 := Aside0.mk hy151
                                clear hy151
                                have H' := Aside0.mk H
                                clear H
                                have p17 : 0 ≤ ((Go.bits .and .i64 (ji14) 1) : Int) := of_decide_eq_true (by first | (with_reducible assumption) | assumption)
                                have q17 : (Go.bits .and .i64 (ji14) 1) < (2 : Int) := of_decide_eq_true (by first | (with_reducible assumption) | assumption)
                                have hx17 := bt_at (⟨#[76, 82]⟩ : ByteArray) (Go.bits .and .i64 (ji14) 1)
                                replace p17 := eq_true p17
                                replace q17 := eq_true q17
                                go_wp2_with (first | ((with_reducible refine gate_builtin (b := .append) (xs := #[.tmp 27, .tmp 36]) rfl ?_); at_builtin; refine Kd.R_append (Kd.int .u8) (w0 := w) w.heap.size rfl (.tmp 27) (.tmp 36) 27 5 (.int .u8 0) 1 rfl Try.underlying27 info5 rfl (by decide) (by omega) u6 x6_3 (bt (⟨#[76, 82]⟩ : ByteArray) (Go.bits .and .i64 (ji14) 1)) [.int .u8 (bt (⟨#[76, 82]⟩ : ByteArray) (Go.bits .and .i64 (ji14) 1))] (fun _ => True) (fun _ => False) rfl rfl ?aP (fun _ hk => hk.elim) ?aF ?aO ?aB ?aS ?aL ?_; (case aP => exact rfl); (case aB => exact (by repeat (first | (with_reducible first | exact HB.out | apply below_alloc | apply pw_below_drewN | apply below_drew1) | exact HB.out))); (case aF => exact (fun _ _ => trivial)); (case aO => exact (by (with_reducible repeat (first | apply Kd.R_alloc | apply Kd.R_drewN | apply Kd.R_drew)); exact HO_6.out)); (case aS => exact (below_size (by repeat (first | (with_reducible first | exact HB.out | apply below_alloc | apply pw_below_drewN | apply below_drew1) | exact HB.out)))); (case aL => have := LMc18.out; omega); intro v152 w19 ho hb hg hat; rw [← Ny151.out] at ho; have n0_ := Aside0.mk (hb); have n1_ := Aside0.mk (ho); clear HB; clear HO_6; have HB := n0_; have HO153 := n1_; clear n0_ n1_; clear ho hb hg hat))
                                go_roundg k3
                                case measure => have := HK1.out; have := HK2.out; have := HK3.out; omega
                                case rel => exact ⟨(y151), (wrap64 (x24_3 + 1)), (by first | rfl | (simp; done) | (simp [*]; done)), H', ⟨by have := HK1.out; have := HK2.out; have := HK3.out; omega⟩, ⟨by (with_reducible repeat (first | apply Kd.R_alloc | apply Kd.R_drewN | apply Kd.R_drew)); exact HO153.out⟩, ⟨by repeat (first | (with_reducible first | exact HB.out | apply below_alloc | apply pw_below_drewN | apply below_drew1) | exact HB.out)⟩⟩
                              · rw [if_neg c18] at H
                                exact absurd H (by simp)
                            · rw [if_neg c16] at H
                              exact absurd H (by simp)
                          · rw [if_neg c15] at H
                            exact absurd H (by simp)
                        · rw [if_neg c13] at H
                          exact absurd H (by simp)
                      · rw [if_neg c11] at H
                        have c11b0 : decide (x24_3 < x8_1) = false := decide_eq_false c11
                        clear c11
                        replace H := Option.bind_eq_some_iff.mp H
                        obtain ⟨t154, A200, H⟩ := H
                        replace H : (if t154.toList = a0.toList then (some (strOfNums x6_3, true)) else (impl_FirstWord.l1 k3 a0 x8_1 x8_1 ji4 (wrap64 (x19_2 + 1)))) = some (r1, r2) := H
                        have A20 := Aside0.mk A200
                        clear A200
                        by_cases c21 : t154.toList = a0.toList
                        · rw [if_pos c21] at H
                          have c21b0 : (t154.toList == a0.toList) = true := beq_iff_eq.mpr c21
                          have c21b1 : (t154.toList != a0.toList) = false := bne_eq_false_iff_eq.mpr c21
                          clear c21
                          simp only [Option.some.injEq, Prod.mk.injEq] at H
                          obtain ⟨rfl, rfl⟩ := H
                          (first | have hcv22 := own_string (P := Try.prog) Try.underlying27 Try.underlying5 Try.underlying9 (Kd.own_of_R HO_6.out) | (obtain ⟨A_, c_, e_, _⟩ := Kd.Q_slice HO_6.out; subst e_; have hcv22 := Kd.C_string (P := Try.prog) (c := c_) Try.underlying27 Try.underlying5 Try.underlying9 (Kd.Q_reads' HO_6.out).2.2))
                          go_wp2_with (first | ((with_reducible refine gate_callee (f := 8) rfl ?_); refine goesL_ (some 41) rfl rfl Try.func8 (by kernel_rfl) rfl #[.string (strOfNums x6_3)] rfl (by (try simp only [List.map_toArray, List.map_cons, List.map_nil]); first | done | rfl | (simp only [List.length_drop, List.length_take]; rfl)) ?_; (with_reducible refine (impl_creases.calls k3 (strOfNums x6_3) t154 _ A20.out).mono ?_); rintro e w23 ⟨rfl, hb⟩; refine ⟨_, rfl, ?_⟩; have n0_ := Aside0.mk (Kd.R_below (by (with_reducible repeat (first | apply Kd.R_alloc | apply Kd.R_drewN | apply Kd.R_drew)); exact HO_6.out) hb); have n1_ := Aside0.mk (below_step (by repeat (first | (with_reducible first | exact HB.out | apply below_alloc | apply pw_below_drewN | apply below_drew1) | exact HB.out)) hb); clear HO_6; clear HB; have HO_6 := n0_; have HB := n1_; clear n0_ n1_; (try clear hb); (try clear hb2); (try clear hk); (try clear hi); (first | have hcv24 := own_string (P := Try.prog) Try.underlying27 Try.underlying5 Try.underlying9 (Kd.own_of_R HO_6.out) | (obtain ⟨A_, c_, e_, _⟩ := Kd.Q_slice HO_6.out; subst e_; have hcv24 := Kd.C_string (P := Try.prog) (c := c_) Try.underlying27 Try.underlying5 Try.underlying9 (Kd.Q_reads' HO_6.out).2.2))))
                          go_ret2
                          exact ⟨by first | rfl | (simp [errW_none, errW_some] <;> rfl) | (simp only [← hji4]; first | rfl | (simp [errW_none, errW_some] <;> rfl)) | (simp [*, errW_none, errW_some] <;> rfl), by repeat (first | (with_reducible first | exact HB.out | apply below_alloc | apply pw_below_drewN | apply below_drew1) | exact HB.out)⟩
                        · rw [if_neg c21] at H
                          have c21b0 : (t154.toList == a0.toList) = false := beq_eq_false_iff_ne.mpr c21
                          have c21b1 : (t154.toList != a0.toList) = true := bne_iff_ne.mpr c21
                          have H' := Aside0.mk H
                          clear H
                          (first | have hcv25 := own_string (P := Try.prog) Try.underlying27 Try.underlying5 Try.underlying9 (Kd.own_of_R HO_6.out) | (obtain ⟨A_, c_, e_, _⟩ := Kd.Q_slice HO_6.out; subst e_; have hcv25 := Kd.C_string (P := Try.prog) (c := c_) Try.underlying27 Try.underlying5 Try.underlying9 (Kd.Q_reads' HO_6.out).2.2))
                          go_wp2_with (first | ((with_reducible refine gate_callee (f := 8) rfl ?_); refine goesL_ (some 41) rfl rfl Try.func8 (by kernel_rfl) rfl #[.string (strOfNums x6_3)] rfl (by (try simp only [List.map_toArray, List.map_cons, List.map_nil]); first | done | rfl | (simp only [List.length_drop, List.length_take]; rfl)) ?_; (with_reducible refine (impl_creases.calls k3 (strOfNums x6_3) t154 _ A20.out).mono ?_); rintro e w26 ⟨rfl, hb⟩; refine ⟨_, rfl, ?_⟩; have n0_ := Aside0.mk (Kd.R_below (by (with_reducible repeat (first | apply Kd.R_alloc | apply Kd.R_drewN | apply Kd.R_drew)); exact HO_6.out) hb); have n1_ := Aside0.mk (below_step (by repeat (first | (with_reducible first | exact HB.out | apply below_alloc | apply pw_below_drewN | apply below_drew1) | exact HB.out)) hb); clear HO_6; clear HB; have HO_6 := n0_; have HB := n1_; clear n0_ n1_; (try clear hb); (try clear hb2); (try clear hk); (try clear hi)))
                          go_roundg k3
                          case measure => have := HK1.out; have := HK2.out; have := HK3.out; omega
                          case rel => exact ⟨(wrap64 (x19_2 + 1)), (by first | rfl | (simp; done) | (simp [*]; done)), H', ⟨by have := HK1.out; have := HK2.out; have := HK3.out; omega⟩, ⟨by repeat (first | (with_reducible first | exact HB.out | apply below_alloc | apply pw_below_drewN | apply below_drew1) | exact HB.out)⟩⟩
                · rw [if_neg c8] at H
                  have c8b0 : decide (x19_2 < ji4) = false := decide_eq_false c8
                  clear c8
                  have H' := Aside0.mk H
                  clear H
                  go_wp2
                  go_roundg k2
                  case measure => have := HK1.out; have := HK2.out; omega
                  case rel => exact ⟨(wrap64 (x8_1 + 1)), (by first | rfl | (simp; done) | (simp [*]; done)), H', ⟨by have := HK1.out; have := HK2.out; omega⟩, ⟨by repeat (first | (with_reducible first | exact HB.out | apply below_alloc | apply pw_below_drewN | apply below_drew1) | exact HB.out)⟩⟩
          · rw [if_neg c5] at H
            have c5b0 : ((a0.size : Int) == (wrap64 ((ji4) - 1))) = false := beq_eq_false_iff_ne.mpr c5
            have c5b1 : ((a0.size : Int) != (wrap64 ((ji4) - 1))) = true := bne_iff_ne.mpr c5
            have H' := Aside0.mk H
            clear H
            go_wp2
            go_roundg k1
            case measure => have := HK1.out; omega
            case rel => exact ⟨(wrap64 (x8_1 + 1)), (by first | rfl | (simp; done) | (simp [*]; done)), H', ⟨by have := HK1.out; omega⟩, ⟨by repeat (first | (with_reducible first | exact HB.out | apply below_alloc | apply pw_below_drewN | apply below_drew1) | exact HB.out)⟩⟩
        · rw [if_neg c3] at H
          exact absurd H (by simp)
      · rw [if_neg c2] at H
        have c2b0 : decide (x8_1 < 6) = false := decide_eq_false c2
        clear c2
        simp only [Option.some.injEq, Prod.mk.injEq] at H
        obtain ⟨rfl, rfl⟩ := H
        go_wp2
        go_ret2
        exact ⟨by first | rfl | (simp [errW_none, errW_some] <;> rfl) | (simp [*, errW_none, errW_some] <;> rfl), by repeat (first | (with_reducible first | exact HB.out | apply below_alloc | apply pw_below_drewN | apply below_drew1) | exact HB.out)⟩

/-! ### laws_FnExactFirstWord: function 3 -/
def laws_FnExactFirstWord.f (k : Nat) (a0 : ByteArray) : Option (Bool) := if (a0.size : Int) > 1048576 then (some true) else ((spec_FirstWord.f k a0).bind fun bt155 => ((impl_FirstWord.f k a0).bind fun bt157 => (if bt157.1.toList = bt155.1.toList then (if (bt157.2 != bt155.2) = true then (some false) else (some true)) else (some false))))
theorem laws_FnExactFirstWord.mono : ∀ a0 k, LeO (laws_FnExactFirstWord.f k a0) (laws_FnExactFirstWord.f (k + 1) a0) := by
  intro a0 k
  unfold laws_FnExactFirstWord.f
  repeat' first
      | (with_reducible exact impl_FirstWord.mono _ _)
      | (with_reducible exact spec_FirstWord.mono _ _)
      | (with_reducible exact LeO.refl _)
      | (with_reducible exact LeO.none _)
      | (with_reducible refine LeO.ite ?_ ?_)
      | (with_reducible refine LeO.bind ?_ (fun _ => ?_))
      | exact impl_FirstWord.mono _ _
      | exact spec_FirstWord.mono _ _
      | exact LeO.none _
      | refine LeO.ite ?_ ?_
      | refine LeO.bind ?_ (fun _ => ?_)
set_option maxHeartbeats 8000000 in
set_option maxRecDepth 100000 in
theorem laws_FnExactFirstWord.calls (k : Nat) (a0 : ByteArray) (r : Bool) (w : World) (h : laws_FnExactFirstWord.f k a0 = some r) :
    Calls Try.prog 3 #[.string a0] w fun e w' => e = .returned (.bool r) ∧ Below w.heap.size w w' := by
  have HB := Aside0.mk (Below.refl w.heap.size w)
  have H : (if (a0.size : Int) > 1048576 then (some true) else ((spec_FirstWord.f k a0).bind fun bt155 => ((impl_FirstWord.f k a0).bind fun bt157 => (if bt157.1.toList = bt155.1.toList then (if (bt157.2 != bt155.2) = true then (some false) else (some true)) else (some false))))) = some r := h
  clear h
  by_cases c2 : (a0.size : Int) > 1048576
  · rw [if_pos c2] at H
    have c2b0 : decide (1048576 < (a0.size : Int)) = true := decide_eq_true c2
    have c2b1 : decide (1048576 < a0.size) = true := decide_eq_true (by omega)
    clear c2
    obtain rfl := Option.some.inj H
    go_enter Try.func3, Try.ntmps3
    go_wp2
    go_ret
    exact ⟨by first | rfl | (simp [errW_none, errW_some] <;> rfl) | (simp [*, errW_none, errW_some] <;> rfl), by repeat (first | (with_reducible first | exact HB.out | apply below_alloc | apply pw_below_drewN | apply below_drew1) | exact HB.out)⟩
  · rw [if_neg c2] at H
    have c2b0 : decide (1048576 < (a0.size : Int)) = false := decide_eq_false c2
    have c2b1 : decide (1048576 < a0.size) = false := decide_eq_false (by omega)
    clear c2
    replace H := Option.bind_eq_some_iff.mp H
    obtain ⟨⟨t155, t156⟩, A30, H⟩ := H
    replace H : ((impl_FirstWord.f k a0).bind fun bt157 => (if bt157.1.toList = t155.toList then (if (bt157.2 != t156) = true then (some false) else (some true)) else (some false))) = some r := H
    have A3 := Aside0.mk A30
    clear A30
    replace H := Option.bind_eq_some_iff.mp H
    obtain ⟨⟨t157, t158⟩, A40, H⟩ := H
    replace H : (if t157.toList = t155.toList then (if (t158 != t156) = true then (some false) else (some true)) else (some false)) = some r := H
    have A4 := Aside0.mk A40
    clear A40
    by_cases c5 : t157.toList = t155.toList
    · rw [if_pos c5] at H
      have c5b0 : (t157.toList == t155.toList) = true := beq_iff_eq.mpr c5
      have c5b1 : (t157.toList != t155.toList) = false := bne_eq_false_iff_eq.mpr c5
      clear c5
      by_cases c6 : (t158 != t156) = true
      · rw [if_pos c6] at H
        have c6b0 : (t158 != t156) = true := c6
        (try (have c6b1 : decide (t158 = t156) = false := by simpa using c6))
        (try (have c6b2 : (t158 == t156) = false := by simpa using c6))
        (try (have c6b3 : ¬ (t158 = t156) := by simpa using c6))
        clear c6
        obtain rfl := Option.some.inj H
        go_enter Try.func3, Try.ntmps3
        go_wp2_with (first | ((with_reducible refine gate_callee (f := 4) rfl ?_); refine goesL_ (some 12) rfl rfl Try.func4 (by kernel_rfl) rfl #[.string a0] rfl (by (try simp only [List.map_toArray, List.map_cons, List.map_nil]); first | done | rfl | (simp only [List.length_drop, List.length_take]; rfl)) ?_; (with_reducible refine (spec_FirstWord.calls k a0 t155 t156 _ A3.out).mono ?_); rintro e w7 ⟨rfl, hb⟩; refine ⟨_, rfl, ?_⟩; have n0_ := Aside0.mk (below_step (by repeat (first | (with_reducible first | exact HB.out | apply below_alloc | apply pw_below_drewN | apply below_drew1) | exact HB.out)) hb); clear HB; have HB := n0_; clear n0_; (try clear hb); (try clear hb2); (try clear hk); (try clear hi)) | ((with_reducible refine gate_callee (f := 5) rfl ?_); refine goesL_ (some 17) rfl rfl Try.func5 (by kernel_rfl) rfl #[.string a0] rfl (by (try simp only [List.map_toArray, List.map_cons, List.map_nil]); first | done | rfl | (simp only [List.length_drop, List.length_take]; rfl)) ?_; (with_reducible refine (impl_FirstWord.calls k a0 t157 t158 _ A4.out).mono ?_); rintro e w8 ⟨rfl, hb⟩; refine ⟨_, rfl, ?_⟩; have n0_ := Aside0.mk (below_step (by repeat (first | (with_reducible first | exact HB.out | apply below_alloc | apply pw_below_drewN | apply below_drew1) | exact HB.out)) hb); clear HB; have HB := n0_; clear n0_; (try clear hb); (try clear hb2); (try clear hk); (try clear hi)))
        go_ret
        exact ⟨by first | rfl | (simp [errW_none, errW_some] <;> rfl) | (simp [*, errW_none, errW_some] <;> rfl), by repeat (first | (with_reducible first | exact HB.out | apply below_alloc | apply pw_below_drewN | apply below_drew1) | exact HB.out)⟩
      · rw [if_neg c6] at H
        have c6b0 : (t158 != t156) = false := by simpa using c6
        (try (have c6b1 : decide (t158 = t156) = true := by simpa using c6))
        (try (have c6b2 : (t158 == t156) = true := by simpa using c6))
        clear c6
        obtain rfl := Option.some.inj H
        go_enter Try.func3, Try.ntmps3
        go_wp2_with (first | ((with_reducible refine gate_callee (f := 4) rfl ?_); refine goesL_ (some 12) rfl rfl Try.func4 (by kernel_rfl) rfl #[.string a0] rfl (by (try simp only [List.map_toArray, List.map_cons, List.map_nil]); first | done | rfl | (simp only [List.length_drop, List.length_take]; rfl)) ?_; (with_reducible refine (spec_FirstWord.calls k a0 t155 t156 _ A3.out).mono ?_); rintro e w9 ⟨rfl, hb⟩; refine ⟨_, rfl, ?_⟩; have n0_ := Aside0.mk (below_step (by repeat (first | (with_reducible first | exact HB.out | apply below_alloc | apply pw_below_drewN | apply below_drew1) | exact HB.out)) hb); clear HB; have HB := n0_; clear n0_; (try clear hb); (try clear hb2); (try clear hk); (try clear hi)) | ((with_reducible refine gate_callee (f := 5) rfl ?_); refine goesL_ (some 17) rfl rfl Try.func5 (by kernel_rfl) rfl #[.string a0] rfl (by (try simp only [List.map_toArray, List.map_cons, List.map_nil]); first | done | rfl | (simp only [List.length_drop, List.length_take]; rfl)) ?_; (with_reducible refine (impl_FirstWord.calls k a0 t157 t158 _ A4.out).mono ?_); rintro e w10 ⟨rfl, hb⟩; refine ⟨_, rfl, ?_⟩; have n0_ := Aside0.mk (below_step (by repeat (first | (with_reducible first | exact HB.out | apply below_alloc | apply pw_below_drewN | apply below_drew1) | exact HB.out)) hb); clear HB; have HB := n0_; clear n0_; (try clear hb); (try clear hb2); (try clear hk); (try clear hi)))
        go_ret
        exact ⟨by first | rfl | (simp [errW_none, errW_some] <;> rfl) | (simp [*, errW_none, errW_some] <;> rfl), by repeat (first | (with_reducible first | exact HB.out | apply below_alloc | apply pw_below_drewN | apply below_drew1) | exact HB.out)⟩
    · rw [if_neg c5] at H
      have c5b0 : (t157.toList == t155.toList) = false := beq_eq_false_iff_ne.mpr c5
      have c5b1 : (t157.toList != t155.toList) = true := bne_iff_ne.mpr c5
      obtain rfl := Option.some.inj H
      go_enter Try.func3, Try.ntmps3
      go_wp2_with (first | ((with_reducible refine gate_callee (f := 4) rfl ?_); refine goesL_ (some 12) rfl rfl Try.func4 (by kernel_rfl) rfl #[.string a0] rfl (by (try simp only [List.map_toArray, List.map_cons, List.map_nil]); first | done | rfl | (simp only [List.length_drop, List.length_take]; rfl)) ?_; (with_reducible refine (spec_FirstWord.calls k a0 t155 t156 _ A3.out).mono ?_); rintro e w11 ⟨rfl, hb⟩; refine ⟨_, rfl, ?_⟩; have n0_ := Aside0.mk (below_step (by repeat (first | (with_reducible first | exact HB.out | apply below_alloc | apply pw_below_drewN | apply below_drew1) | exact HB.out)) hb); clear HB; have HB := n0_; clear n0_; (try clear hb); (try clear hb2); (try clear hk); (try clear hi)) | ((with_reducible refine gate_callee (f := 5) rfl ?_); refine goesL_ (some 17) rfl rfl Try.func5 (by kernel_rfl) rfl #[.string a0] rfl (by (try simp only [List.map_toArray, List.map_cons, List.map_nil]); first | done | rfl | (simp only [List.length_drop, List.length_take]; rfl)) ?_; (with_reducible refine (impl_FirstWord.calls k a0 t157 t158 _ A4.out).mono ?_); rintro e w12 ⟨rfl, hb⟩; refine ⟨_, rfl, ?_⟩; have n0_ := Aside0.mk (below_step (by repeat (first | (with_reducible first | exact HB.out | apply below_alloc | apply pw_below_drewN | apply below_drew1) | exact HB.out)) hb); clear HB; have HB := n0_; clear n0_; (try clear hb); (try clear hb2); (try clear hk); (try clear hi)))
      go_ret
      exact ⟨by first | rfl | (simp [errW_none, errW_some] <;> rfl) | (simp [*, errW_none, errW_some] <;> rfl), by repeat (first | (with_reducible first | exact HB.out | apply below_alloc | apply pw_below_drewN | apply below_drew1) | exact HB.out)⟩

/-- THE ONE PURE STATEMENT of laws_FnExactFirstWord: yours. -/
def laws_FnExactFirstWord.Pure : Prop := ∀ (a0 : ByteArray), a0.size ≤ 140737488351232 → ∃ k, laws_FnExactFirstWord.f k a0 = some true
theorem laws_FnExactFirstWord.walk (P : laws_FnExactFirstWord.Pure) (a0 : ByteArray) (w : World) (w0 : a0.size ≤ 140737488351232) :
    Calls Try.prog 3 #[.string a0] w fun e w' => e = .returned (.bool true) ∧ Below w.heap.size w w' := by
  obtain ⟨k, h⟩ := P a0 w0
  refine (laws_FnExactFirstWord.calls k a0 true w h).mono ?_
  rintro e w' ⟨rfl, hd⟩
  exact ⟨rfl, hd⟩

end Go.Proofs.Ytohlccmebhfdaaa.QFnExactFirstWord
