-- Printed for this claim by a changed copy of the kit's print (the session's own; own contracts in place of some functions).
import Derived.Test.YtndlmckfacegeaaDoorQFnExactPlanLinex0
import Derived.Test.YtndlmckfacegeaaDoorQFnExactPlanLinex5
namespace Go.Proofs.YtndlmckfacegeaaDoor.QFnExactPlanLine
open Go.RowKit Go.Proofs.YtndlmckfacegeaaDoorW.PrintWords Go.Proofs.YtndlmckfacegeaaDoorW.PrintLast Go.Proofs.YtndlmckfacegeaaDoorW.PrintMore
attribute [local go_sem] max2_int min2_int max_two min_two max_three min_three max_four min_four   -- for this text's walks alone
set_option linter.unusedVariables false
set_option linter.unusedSimpArgs false

/-! ### impl_BestValue: function 33 -/
--import Derived.WalkSpells
--import Derived.RegionTactic
--import Derived.Deep.RegionLaw
--import Derived.Deep.DeepCutAuto
--import Derived.Deep.WholeRow
--import Derived.Laws.CopyRow
--import Derived.Laws.Rows
--import Derived.Laws.Tables
--import Derived.Laws.CopyOwn
def impl_bestValues.ix (a b : Nat) : Nat := a * 17 + b
def impl_bestValues.g (xs : List Int) (a b : Nat) : Int := xs.getD (a * 17 + b) 0
def impl_bestValues.kA (xs : List Int) (a b : Nat) : Nat → List Int
  | 0 => xs
  | j + 1 => (impl_bestValues.kA xs a b j).set (a * 17 + b) (mx (impl_bestValues.g (impl_bestValues.kA xs a b j) a b) (wrap64 (impl_bestValues.g (impl_bestValues.kA xs a b j) (j + 1) b + impl_bestValues.g (impl_bestValues.kA xs a b j) (a - (j + 1)) b)))
def impl_bestValues.kB (xs : List Int) (a b : Nat) : Nat → List Int
  | 0 => xs
  | j + 1 => (impl_bestValues.kB xs a b j).set (a * 17 + b) (mx (impl_bestValues.g (impl_bestValues.kB xs a b j) a b) (wrap64 (impl_bestValues.g (impl_bestValues.kB xs a b j) a (j + 1) + impl_bestValues.g (impl_bestValues.kB xs a b j) a (b - (j + 1)))))
def impl_bestValues.wrow (W : List (List Int)) (i : Nat) : List Int := W.getD i ([] : List Int)
def impl_bestValues.ws (W : List (List Int)) (xs : List Int) (a b : Nat) : Nat → List Int
  | 0 => xs
  | i + 1 => if rd (impl_bestValues.wrow W i) 0 = (a : Int) ∧ rd (impl_bestValues.wrow W i) 1 = (b : Int) then (impl_bestValues.ws W xs a b i).set (a * 17 + b) (mx ((impl_bestValues.ws W xs a b i).getD (a * 17 + b) 0) (rd (impl_bestValues.wrow W i) 2)) else impl_bestValues.ws W xs a b i
theorem impl_bestValues.ws_len (W : List (List Int)) (xs : List Int) (a b : Nat) : ∀ i, (impl_bestValues.ws W xs a b i).length = xs.length
  | 0 => rfl
  | i + 1 => by
    rw [impl_bestValues.ws]
    split
    · rw [List.length_set, impl_bestValues.ws_len W xs a b i]
    · exact impl_bestValues.ws_len W xs a b i
def impl_bestValues.cell (W : List (List Int)) (xs : List Int) (a b : Nat) : List Int := impl_bestValues.kB (impl_bestValues.kA (impl_bestValues.ws W xs a b W.length) a b (a - 1)) a b (b - 1)
def impl_bestValues.row (W : List (List Int)) (xs : List Int) (a : Nat) : Nat → List Int
  | 0 => xs
  | j + 1 => impl_bestValues.cell W (impl_bestValues.row W xs a j) a (j + 1)
def impl_bestValues.tab (W : List (List Int)) (h : Nat) : Nat → List Int
  | 0 => List.replicate 289 0
  | i + 1 => impl_bestValues.row W (impl_bestValues.tab W h i) (i + 1) h
def impl_bestValues.okW (W : List (List Int)) : Bool := W.all (fun r => decide (r.length = 3)) && decide (W.length ≤ 1048576)
def impl_bestValues.f (a0 a1 : Int) (W : List (List Int)) : Option (List Int) := if ((1 ≤ a0 ∧ a0 ≤ 16) ∧ 1 ≤ a1 ∧ a1 ≤ 16) ∧ impl_bestValues.okW W = true then some (impl_bestValues.tab W a1.toNat a0.toNat) else none
theorem impl_bestValues.okW_at {W : List (List Int)} (h : impl_bestValues.okW W = true) {i : Nat} (hi : i < W.length) : (impl_bestValues.wrow W i).length = 3 := by
  unfold impl_bestValues.okW at h
  rw [Bool.and_eq_true, List.all_eq_true] at h
  unfold impl_bestValues.wrow
  rw [List.getD_eq_getElem?_getD, List.getElem?_eq_getElem hi]
  exact of_decide_eq_true (h.1 _ (List.getElem_mem hi))
theorem impl_bestValues.atr {w : World} {A : Option Addr} {n : Nat} {xs : List (List Int)} (h : Kd.C (Kd.slice 3 (Kd.int .i64)) w A n xs) (i : Nat) (h1 : i < n) (h2 : (impl_bestValues.wrow xs i).length = 3) : ∃ ad a1 c1, A = some ad ∧ w.cell? (ad.add i) = some (.slice (some a1) 3 c1) ∧ w.cell? a1 = some (.int .i64 (rd (impl_bestValues.wrow xs i) 0)) ∧ w.cell? ⟨a1.block, a1.off + 1, none⟩ = some (.int .i64 (rd (impl_bestValues.wrow xs i) 1)) ∧ w.cell? ⟨a1.block, a1.off + 2, none⟩ = some (.int .i64 (rd (impl_bestValues.wrow xs i) 2)) := by
  obtain ⟨ad, c, e, _, hK, hc0⟩ := Kd.C_get h ([] : List Int) (i : Int) (by omega) (by omega)
  obtain ⟨A0, c0, rfl, l0, g0⟩ := hK
  rw [Int.toNat_natCast] at g0 hc0
  have g0 : (Kd.int .i64).C w A0 (impl_bestValues.wrow xs i).length (impl_bestValues.wrow xs i) := g0
  obtain ⟨a1, d0, rfl, _, hK0, hx0⟩ := Kd.C_get g0 0 0 (by omega) (by omega)
  obtain ⟨a2, d1, ea, _, hK1, hx1⟩ := Kd.C_get g0 0 1 (by omega) (by omega)
  injection ea with ea
  subst ea
  obtain ⟨a3, d2, eb, _, hK2, hx2⟩ := Kd.C_get g0 0 2 (by omega) (by omega)
  injection eb with eb
  subst eb
  refine ⟨ad, a1, c0, e, ?_, ?_, ?_, ?_⟩
  · have hq : w.cell? (ad.add (i * 1 + 0)) = some (.slice (some a1) (impl_bestValues.wrow xs i).length c0) := hc0 0 (.slice (some a1) (impl_bestValues.wrow xs i).length c0) rfl
    rwa [Nat.mul_one, Nat.add_zero, h2] at hq
  · have := hx0 0 (.int .i64 (rd (impl_bestValues.wrow xs i) 0)) (by rw [show d0 = [.int .i64 (rd (impl_bestValues.wrow xs i) 0)] from hK0]; rfl)
    simpa [Addr.add] using this
  · have q : w.cell? (a1.add 1) = some (.int .i64 (rd (impl_bestValues.wrow xs i) 1)) := hx1 0 (.int .i64 (rd (impl_bestValues.wrow xs i) 1)) (by rw [show d1 = [.int .i64 (rd (impl_bestValues.wrow xs i) 1)] from hK1]; rfl)
    simpa [Addr.add] using q
  · have q : w.cell? (a1.add 2) = some (.int .i64 (rd (impl_bestValues.wrow xs i) 2)) := hx2 0 (.int .i64 (rd (impl_bestValues.wrow xs i) 2)) (by rw [show d2 = [.int .i64 (rd (impl_bestValues.wrow xs i) 2)] from hK2]; rfl)
    simpa [Addr.add] using q
theorem impl_bestValues.kA_len (xs : List Int) (a b : Nat) : ∀ j, (impl_bestValues.kA xs a b j).length = xs.length
  | 0 => rfl
  | j + 1 => by rw [impl_bestValues.kA, List.length_set, impl_bestValues.kA_len xs a b j]
theorem impl_bestValues.kB_len (xs : List Int) (a b : Nat) : ∀ j, (impl_bestValues.kB xs a b j).length = xs.length
  | 0 => rfl
  | j + 1 => by rw [impl_bestValues.kB, List.length_set, impl_bestValues.kB_len xs a b j]
theorem impl_bestValues.kA_step (xs : List Int) (a b l : Nat) (h : 1 ≤ l) : impl_bestValues.kA xs a b l = (impl_bestValues.kA xs a b (l - 1)).set (a * 17 + b) (mx ((impl_bestValues.kA xs a b (l - 1)).getD (a * 17 + b) 0) (wrap64 ((impl_bestValues.kA xs a b (l - 1)).getD (l * 17 + b) 0 + (impl_bestValues.kA xs a b (l - 1)).getD ((a - l) * 17 + b) 0))) := by
  obtain ⟨j, rfl⟩ : ∃ j, l = j + 1 := ⟨l - 1, by omega⟩
  rw [impl_bestValues.kA, Nat.add_sub_cancel]
  rfl
theorem impl_bestValues.kB_step (xs : List Int) (a b l : Nat) (h : 1 ≤ l) : impl_bestValues.kB xs a b l = (impl_bestValues.kB xs a b (l - 1)).set (a * 17 + b) (mx ((impl_bestValues.kB xs a b (l - 1)).getD (a * 17 + b) 0) (wrap64 ((impl_bestValues.kB xs a b (l - 1)).getD (a * 17 + l) 0 + (impl_bestValues.kB xs a b (l - 1)).getD (a * 17 + (b - l)) 0))) := by
  obtain ⟨j, rfl⟩ : ∃ j, l = j + 1 := ⟨l - 1, by omega⟩
  rw [impl_bestValues.kB, Nat.add_sub_cancel]
  rfl
theorem impl_bestValues.row_step (W : List (List Int)) (xs : List Int) (a b : Nat) (h : 1 ≤ b) : impl_bestValues.row W xs a b = impl_bestValues.cell W (impl_bestValues.row W xs a (b - 1)) a b := by
  obtain ⟨j, rfl⟩ : ∃ j, b = j + 1 := ⟨b - 1, by omega⟩
  rw [impl_bestValues.row, Nat.add_sub_cancel]
theorem impl_bestValues.tab_step (W : List (List Int)) (m a : Nat) (h : 1 ≤ a) : impl_bestValues.tab W m a = impl_bestValues.row W (impl_bestValues.tab W m (a - 1)) a m := by
  obtain ⟨j, rfl⟩ : ∃ j, a = j + 1 := ⟨a - 1, by omega⟩
  rw [impl_bestValues.tab, Nat.add_sub_cancel]
theorem impl_bestValues.mx_if (a b : Int) : (if a < b then b else a) = mx a b := rfl
structure impl_bestValues.FS (w0 w : World) (gb : Nat) (xs : List Int) : Prop where
  hb : w.heap[gb]? = some (.cells (xs.map (Value.int .i64)).toArray 72 (0, 0))
  len : xs.length = 289
  ge : w0.heap.size ≤ gb
  below : Below w0.heap.size w0 w
theorem impl_bestValues.FS.cell {w0 w : World} {gb : Nat} {xs : List Int} (h : impl_bestValues.FS w0 w gb xs) {o : Nat} (ho : o < 289) : w.cell? ⟨gb, o, none⟩ = some (.int .i64 (xs.getD o 0)) := by
  have e : o < xs.length := by rw [h.len]; exact ho
  rw [blk_cell h.hb o, List.getElem?_toArray, List.getElem?_map, List.getElem?_eq_getElem e, List.getD_eq_getElem?_getD, List.getElem?_eq_getElem e]
  rfl
theorem impl_bestValues.FS.put {w0 w : World} {gb : Nat} {xs : List Int} (h : impl_bestValues.FS w0 w gb xs) (o : Nat) (v : Int) : impl_bestValues.FS w0 (w.setCell ⟨gb, o, none⟩ (.int .i64 v)) gb (xs.set o v) :=
  ⟨blk_put h.hb o _ (by rw [List.setIfInBounds_toArray, List.map_set]), by rw [List.length_set]; exact h.len, h.ge, below_set h.below h.ge⟩
theorem impl_bestValues.FS.step {w0 w w1 : World} {gb : Nat} {xs : List Int} (h : impl_bestValues.FS w0 w gb xs) (hb : Below w.heap.size w w1) : impl_bestValues.FS w0 w1 gb xs :=
  ⟨blk_below h.hb hb, h.len, h.ge, below_step h.below hb⟩
theorem impl_bestValues.zero : Tryd.zeroCells72 = ((List.replicate 289 (0 : Int)).map (Value.int .i64)).toArray := by kernel_rfl
theorem impl_bestValues.keepZ {W1 : World} {g o : Nat} {v : Value} {c : Array Value} {t : TypeId} (h : W1.heap[g]? = some (.cells c t (0, 0))) : (W1.setCell ⟨g + 1, o, none⟩ v).drew.heap[g]? = some (.cells c t (0, 0)) := blk_drew (blk_far (p := ⟨g + 1, o, none⟩) h (by show g ≠ g + 1; omega) v)
set_option maxHeartbeats 16000000 in
set_option maxRecDepth 100000 in
theorem impl_bestValues.calls (A0 : Option Addr) (c0 : Nat) (a0 a1 : Int) (W : List (List Int)) (r : List Int) (w : World) (hr0 : Kd.C (Kd.slice 3 (Kd.int .i64)) w A0 W.length W) (hc0 : W.length ≤ c0) (h : impl_bestValues.f a0 a1 W = some r) :
    Calls Tryd.prog 67 #[.int .i64 a0, .int .i64 a1, .slice A0 W.length c0] w fun e w' => e = .returned (.agg (r.map (Value.int .i64)).toArray) ∧ Below w.heap.size w w' := by
  unfold impl_bestValues.f at h
  by_cases hk : ((1 ≤ a0 ∧ a0 ≤ 16) ∧ 1 ≤ a1 ∧ a1 ≤ 16) ∧ impl_bestValues.okW W = true
  case neg => rw [if_neg hk] at h; cases h
  rw [if_pos hk] at h
  have HR := Aside0.mk (Option.some.inj h)
  have HOK := Aside0.mk hk.2
  have HR0 := Aside0.mk hr0
  obtain ⟨n, hn⟩ : ∃ n : Nat, a0 = (n : Int) := ⟨a0.toNat, by omega⟩
  obtain ⟨m, hm⟩ : ∃ m : Nat, a1 = (m : Int) := ⟨a1.toNat, by omega⟩
  subst hn
  subst hm
  have HN := Aside0.mk (show (1 ≤ n ∧ n ≤ 16) ∧ 1 ≤ m ∧ m ≤ 16 by omega)
  rw [Int.toNat_natCast, Int.toNat_natCast] at HR
  clear hk h hr0 hc0
  have hst : Sem.run Tryd.prog (storeCells ⟨w.heap.size + 1, 0, none⟩ Tryd.zeroCells72.toList) ((w.alloc (.cells Tryd.zeroCells72 72)).alloc (.cells Tryd.zeroCells72 72)) = .ok () ((w.alloc (.cells Tryd.zeroCells72 72)).alloc (.cells Tryd.zeroCells72 72)) := by
    have h := run_storeCells_new (P := Tryd.prog) (w.alloc (.cells Tryd.zeroCells72 72)) 72 Tryd.zeroCells72 Tryd.zeroCells72 (by kernel_rfl) rfl (by kernel_rfl)
    simpa using h
  go_enter Tryd.func67, Tryd.ntmps67
  go_upto_region 2 with (fail)
  have hF : impl_bestValues.FS w ((w.alloc (.cells Tryd.zeroCells72 72)).alloc (.cells Tryd.zeroCells72 72)) (w.heap.size + 1) (List.replicate 289 0) :=
    ⟨by rw [← impl_bestValues.zero]; simpa using blk_new (w.alloc (.cells Tryd.zeroCells72 72)) (.cells Tryd.zeroCells72 72), List.length_replicate .., by omega, below_alloc (below_alloc (Below.refl _ _) _) _⟩
  have hZ : ((w.alloc (.cells Tryd.zeroCells72 72)).alloc (.cells Tryd.zeroCells72 72)).heap[w.heap.size]? = some (.cells ((List.replicate 289 (0 : Int)).map (Value.int .i64)).toArray 72 (0, 0)) := by rw [← impl_bestValues.zero]; exact blk_alloc (blk_new w _) _
  generalize ((w.alloc (.cells Tryd.zeroCells72 72)).alloc (.cells Tryd.zeroCells72 72)) = W0 at hF hZ ⊢
  have HF := Aside0.mk hF
  have HZ := Aside0.mk hZ
  clear hF hZ hst
  go_wp2_with fail
  go_loopg [8] n (fun kq v8 w' => ∃ a : Nat, v8 = .int .i64 (a : Int) ∧ Aside0 (1 ≤ a ∧ a + kq = n + 1) ∧ Aside0 (impl_bestValues.FS w w' (w.heap.size + 1) (impl_bestValues.tab W m (a - 1))) ∧ Aside0 (w'.heap[w.heap.size]? = some (.cells ((List.replicate 289 (0 : Int)).map (Value.int .i64)).toArray 72 (0, 0))))
  case atStart => exact ⟨1, rfl, ⟨by omega⟩, HF, HZ⟩
  case round => as_aux_lemma =>
    clear HF HZ
    obtain ⟨a, rfl, HA, HF, HZ⟩ := hrel
    by_cases ca : a ≤ n
    · have cab : decide (a ≤ n) = true := decide_eq_true ca
      have HCA := Aside0.mk ca
      clear ca
      go_wp2_with fail
      go_loopg [9] m (fun kq v9 w' => ∃ b : Nat, v9 = .int .i64 (b : Int) ∧ Aside0 (1 ≤ b ∧ b + kq = m + 1) ∧ Aside0 (impl_bestValues.FS w w' (w.heap.size + 1) (impl_bestValues.row W (impl_bestValues.tab W m (a - 1)) a (b - 1))) ∧ Aside0 (w'.heap[w.heap.size]? = some (.cells ((List.replicate 289 (0 : Int)).map (Value.int .i64)).toArray 72 (0, 0))))
      case atStart => exact ⟨1, rfl, ⟨by omega⟩, HF, HZ⟩
      case round => as_aux_lemma =>
        clear HF HZ
        obtain ⟨b, rfl, HB, HF, HZ⟩ := hrel
        by_cases cb : b ≤ m
        · have cbb : decide (b ≤ m) = true := decide_eq_true cb
          have HCB := Aside0.mk cb
          obtain ⟨xs, hxs⟩ : ∃ xs, xs = impl_bestValues.row W (impl_bestValues.tab W m (a - 1)) a (b - 1) := ⟨_, rfl⟩
          rw [← hxs] at HF
          have EX := Aside0.mk hxs
          have h31 : a < 17 ∧ b < 17 ∧ 1 ≤ a ∧ 1 ≤ b := by have := HN.out; have := HA.out; have := HB.out; have := HCA.out; omega
          have H31 := Aside0.mk h31
          have i1 : ((a : Int) < 17) = True := eq_true (by omega)
          have i2 : ((b : Int) < 17) = True := eq_true (by omega)
          have i3 : (0 ≤ (a : Int)) = True := eq_true (by omega)
          have i4 : (0 ≤ (b : Int)) = True := eq_true (by omega)
          have i5 : (a < 17) = True := eq_true h31.1
          have i6 : (b < 17) = True := eq_true h31.2.1
          clear hxs h31 cb
          go_wp2_with fail
          go_loopg [27] W.length (fun kq v27 w' => ∃ i : Nat, v27 = .int .i64 (i : Int) ∧ Aside0 (i + kq = W.length) ∧ Aside0 (impl_bestValues.FS w w' (w.heap.size + 1) (impl_bestValues.ws W xs a b i)) ∧ Aside0 (w'.heap[w.heap.size]? = some (.cells ((List.replicate 289 (0 : Int)).map (Value.int .i64)).toArray 72 (0, 0))))
          case atStart => exact ⟨0, rfl, ⟨by omega⟩, HF, HZ⟩
          case round => as_aux_lemma =>
            clear HF HZ
            obtain ⟨i, rfl, HI, HF, HZ⟩ := hrel
            by_cases ci : i < W.length
            · have cib : decide (i < W.length) = true := decide_eq_true ci
              have HCI := Aside0.mk ci
              have hWM : W.length ≤ 1048576 := by have h := HOK.out; unfold impl_bestValues.okW at h; rw [Bool.and_eq_true, decide_eq_true_eq] at h; exact h.2
              have HWM := Aside0.mk hWM
              obtain ⟨ad, a1, cc, ead, hh, hl0, hl1, hl2⟩ := impl_bestValues.atr (Kd.C_below HR0.out HF.out.below) i ci (impl_bestValues.okW_at HOK.out ci)
              cases ead
              obtain ⟨u, hu⟩ : ∃ u, u = rd (impl_bestValues.wrow W i) 0 := ⟨_, rfl⟩
              obtain ⟨v, hv⟩ : ∃ u, u = rd (impl_bestValues.wrow W i) 1 := ⟨_, rfl⟩
              obtain ⟨x, hx⟩ : ∃ u, u = rd (impl_bestValues.wrow W i) 2 := ⟨_, rfl⟩
              rw [← hu] at hl0
              rw [← hv] at hl1
              rw [← hx] at hl2
              have EU := Aside0.mk hu
              have EV := Aside0.mk hv
              have EXX := Aside0.mk hx
              have ib1 : (i < W.length) = True := eq_true ci
              have ib2 : (0 ≤ (i : Int)) = True := eq_true (by omega)
              have ib3 : ((i : Int) < (W.length : Int)) = True := eq_true (by omega)
              clear hu hv hx ci hWM
              have iw : wrap64 ((i : Int) + 1) = ((i + 1 : Nat) : Int) := by have := HCI.out; have := HWM.out; unfold wrap64; omega
              have iwA := Aside0.mk iw
              clear iw
              by_cases cu : u = (a : Int)
              · have cub : (u == (a : Int)) = true := by rw [beq_iff_eq]; exact cu
                have CU := Aside0.mk cu
                clear cu
                by_cases cv : v = (b : Int)
                · have cvb : (v == (b : Int)) = true := by rw [beq_iff_eq]; exact cv
                  have CV := Aside0.mk cv
                  clear cv
                  have hc := HF.out.cell (o := a * 17 + b) (by have := H31.out; omega)
                  have hfz := blk_frozen HF.out.hb (a * 17 + b)
                  obtain ⟨z0, hz0⟩ : ∃ z, z = (impl_bestValues.ws W xs a b i).getD (a * 17 + b) 0 := ⟨_, rfl⟩
                  rw [← hz0] at hc
                  obtain ⟨z4, hz4⟩ : ∃ z, (if z0 < x then x else z0) = z := ⟨_, rfl⟩
                  have EZ := Aside0.mk hz0
                  have EZ4 := Aside0.mk hz4
                  clear hz0
                  go_wp2_with fail
                  go_region
                  go_wp2_with fail
                  go_roundg (W.length - (i + 1))
                  case measure => have := HI.out; have := HCI.out; omega
                  case rel =>
                    refine ⟨i + 1, (by rw [iwA.out]), ⟨by have := HCI.out; omega⟩, ⟨?_⟩, ⟨impl_bestValues.keepZ HZ.out⟩⟩
                    rw [impl_bestValues.ws, if_pos ⟨EU.out.symm.trans CU.out, EV.out.symm.trans CV.out⟩, ← EXX.out, ← EZ.out, ← impl_bestValues.mx_if, EZ4.out]
                    exact (HF.out.put _ _).step (below_drew1 (Below.refl _ _))
                · have cvb : (v == (b : Int)) = false := by rw [beq_eq_false_iff_ne]; exact cv
                  have CV := Aside0.mk cv
                  clear cv
                  go_wp2_with fail
                  go_roundg (W.length - (i + 1))
                  case measure => have := HI.out; have := HCI.out; omega
                  case rel =>
                    refine ⟨i + 1, (by rw [iwA.out]), ⟨by have := HCI.out; omega⟩, ⟨?_⟩, HZ⟩
                    rw [impl_bestValues.ws, if_neg (fun h => CV.out (EV.out.trans h.2))]
                    exact HF.out
              · have cub : (u == (a : Int)) = false := by rw [beq_eq_false_iff_ne]; exact cu
                have CU := Aside0.mk cu
                clear cu
                go_wp2_with fail
                go_roundg (W.length - (i + 1))
                case measure => have := HI.out; have := HCI.out; omega
                case rel =>
                  refine ⟨i + 1, (by rw [iwA.out]), ⟨by have := HCI.out; omega⟩, ⟨?_⟩, HZ⟩
                  rw [impl_bestValues.ws, if_neg (fun h => CU.out (EU.out.trans h.1))]
                  exact HF.out
            · have cib : decide (i < W.length) = false := decide_eq_false ci
              have hi : i = W.length := by have := HI.out; omega
              subst hi
              clear ci cib HI
              go_wp2_with fail
              go_loopg [12] (a - 1) (fun kq v12 w' => ∃ l : Nat, v12 = .int .i64 (l : Int) ∧ Aside0 (1 ≤ l ∧ l + kq = a) ∧ Aside0 (impl_bestValues.FS w w' (w.heap.size + 1) (impl_bestValues.kA (impl_bestValues.ws W xs a b W.length) a b (l - 1))) ∧ Aside0 (w'.heap[w.heap.size]? = (some (.cells ((List.replicate 289 (0 : Int)).map (Value.int .i64)).toArray 72 (0, 0)))))
              case atStart => exact ⟨1, rfl, ⟨by have := H31.out; omega⟩, HF, HZ⟩
              case round => as_aux_lemma =>
                clear HF HZ
                obtain ⟨l, rfl, HL, HF, HZ⟩ := hrel
                by_cases cl : l < a
                · have clb : decide (l < a) = true := decide_eq_true cl
                  obtain ⟨ys, hys⟩ : ∃ ys, ys = impl_bestValues.kA (impl_bestValues.ws W xs a b W.length) a b (l - 1) := ⟨_, rfl⟩
                  rw [← hys] at HF
                  have EY := Aside0.mk hys
                  have h31 := H31.out
                  have hl1 := HL.out
                  have HCL := Aside0.mk cl
                  have hx := HF.out.cell (o := a * 17 + b) (by omega)
                  have hx1 := HF.out.cell (o := l * 17 + b) (by omega)
                  have hx2 := HF.out.cell (o := (a - l) * 17 + b) (by omega)
                  have hf := blk_frozen HF.out.hb (a * 17 + b)
                  have i7 : ((l : Int) < 17) = True := eq_true (by omega)
                  have i8 : (0 ≤ (l : Int)) = True := eq_true (by omega)
                  have i9 : (l < 17) = True := eq_true (by omega)
                  have s1 : IntKind.i64.wrap ((a : Int) - (l : Int)) = ((a - l : Nat) : Int) := by rw [i64_w]; unfold wrap64; omega
                  have s2 : wrap64 ((a : Int) - (l : Int)) = ((a - l : Nat) : Int) := by unfold wrap64; omega
                  have j7 : (((a - l : Nat) : Int) < 17) = True := eq_true (by omega)
                  have j8 : (0 ≤ ((a - l : Nat) : Int)) = True := eq_true (by omega)
                  have j9 : (a - l < 17) = True := eq_true (by omega)
                  obtain ⟨z1, hz1⟩ : ∃ z, z = ys.getD (l * 17 + b) 0 := ⟨_, rfl⟩
                  obtain ⟨z2, hz2⟩ : ∃ z, z = ys.getD ((a - l) * 17 + b) 0 := ⟨_, rfl⟩
                  obtain ⟨z0, hz0⟩ : ∃ z, z = ys.getD (a * 17 + b) 0 := ⟨_, rfl⟩
                  rw [← hz1] at hx1
                  rw [← hz2] at hx2
                  rw [← hz0] at hx
                  obtain ⟨z3, hz3⟩ : ∃ z, z = wrap64 (z1 + z2) := ⟨_, rfl⟩
                  have hz3w : IntKind.i64.wrap (z1 + z2) = z3 := by rw [i64_w]; exact hz3.symm
                  have EZ := Aside0.mk (show wrap64 (ys.getD (l * 17 + b) 0 + ys.getD ((a - l) * 17 + b) 0) = z3 by rw [← hz1, ← hz2]; exact hz3.symm)
                  have EZ0 := Aside0.mk hz0
                  obtain ⟨z4, hz4⟩ : ∃ z, (if z0 < z3 then z3 else z0) = z := ⟨_, rfl⟩
                  have EZ4 := Aside0.mk hz4
                  clear hys cl h31 hl1 hz1 hz2 hz0 hz3
                  go_wp2_with fail
                  go_region
                  go_wp2_with fail
                  go_roundg (a - (l + 1))
                  case measure => have := HL.out; have := HCL.out; omega
                  case rel =>
                    refine ⟨l + 1, (by have := H31.out; have := HCL.out; rw [show wrap64 ((l : Int) + 1) = ((l + 1 : Nat) : Int) by unfold wrap64; omega]), ⟨by have := HL.out; have := HCL.out; omega⟩, ⟨?_⟩, ⟨impl_bestValues.keepZ HZ.out⟩⟩
                    rw [Nat.add_sub_cancel, impl_bestValues.kA_step _ _ _ _ HL.out.1, ← EY.out, EZ.out, ← EZ0.out, ← impl_bestValues.mx_if, EZ4.out]
                    exact (HF.out.put _ _).step (below_drew1 (Below.refl _ _))
                · have clb : decide (l < a) = false := decide_eq_false cl
                  have hle : l - 1 = a - 1 := by have := HL.out; omega
                  rw [hle] at HF
                  clear hle cl HL
                  go_wp2_with fail
                  go_loopg [13] (b - 1) (fun kq v13 w' => ∃ l : Nat, v13 = .int .i64 (l : Int) ∧ Aside0 (1 ≤ l ∧ l + kq = b) ∧ Aside0 (impl_bestValues.FS w w' (w.heap.size + 1) (impl_bestValues.kB (impl_bestValues.kA (impl_bestValues.ws W xs a b W.length) a b (a - 1)) a b (l - 1))) ∧ Aside0 (w'.heap[w.heap.size]? = (some (.cells ((List.replicate 289 (0 : Int)).map (Value.int .i64)).toArray 72 (0, 0)))))
                  case atStart => exact ⟨1, rfl, ⟨by have := H31.out; omega⟩, HF, HZ⟩
                  case round => as_aux_lemma =>
                    clear HF HZ
                    obtain ⟨l, rfl, HL, HF, HZ⟩ := hrel
                    by_cases cl : l < b
                    · have clb : decide (l < b) = true := decide_eq_true cl
                      obtain ⟨ys, hys⟩ : ∃ ys, ys = impl_bestValues.kB (impl_bestValues.kA (impl_bestValues.ws W xs a b W.length) a b (a - 1)) a b (l - 1) := ⟨_, rfl⟩
                      rw [← hys] at HF
                      have EY := Aside0.mk hys
                      have h31 := H31.out
                      have hl1 := HL.out
                      have HCL := Aside0.mk cl
                      have hx := HF.out.cell (o := a * 17 + b) (by omega)
                      have hx1 := HF.out.cell (o := a * 17 + l) (by omega)
                      have hx2 := HF.out.cell (o := a * 17 + (b - l)) (by omega)
                      have hf := blk_frozen HF.out.hb (a * 17 + b)
                      have i7 : ((l : Int) < 17) = True := eq_true (by omega)
                      have i8 : (0 ≤ (l : Int)) = True := eq_true (by omega)
                      have i9 : (l < 17) = True := eq_true (by omega)
                      have s1 : IntKind.i64.wrap ((b : Int) - (l : Int)) = ((b - l : Nat) : Int) := by rw [i64_w]; unfold wrap64; omega
                      have s2 : wrap64 ((b : Int) - (l : Int)) = ((b - l : Nat) : Int) := by unfold wrap64; omega
                      have j7 : (((b - l : Nat) : Int) < 17) = True := eq_true (by omega)
                      have j8 : (0 ≤ ((b - l : Nat) : Int)) = True := eq_true (by omega)
                      have j9 : (b - l < 17) = True := eq_true (by omega)
                      obtain ⟨z1, hz1⟩ : ∃ z, z = ys.getD (a * 17 + l) 0 := ⟨_, rfl⟩
                      obtain ⟨z2, hz2⟩ : ∃ z, z = ys.getD (a * 17 + (b - l)) 0 := ⟨_, rfl⟩
                      obtain ⟨z0, hz0⟩ : ∃ z, z = ys.getD (a * 17 + b) 0 := ⟨_, rfl⟩
                      rw [← hz1] at hx1
                      rw [← hz2] at hx2
                      rw [← hz0] at hx
                      obtain ⟨z3, hz3⟩ : ∃ z, z = wrap64 (z1 + z2) := ⟨_, rfl⟩
                      have hz3w : IntKind.i64.wrap (z1 + z2) = z3 := by rw [i64_w]; exact hz3.symm
                      have EZ := Aside0.mk (show wrap64 (ys.getD (a * 17 + l) 0 + ys.getD (a * 17 + (b - l)) 0) = z3 by rw [← hz1, ← hz2]; exact hz3.symm)
                      have EZ0 := Aside0.mk hz0
                      obtain ⟨z4, hz4⟩ : ∃ z, (if z0 < z3 then z3 else z0) = z := ⟨_, rfl⟩
                      have EZ4 := Aside0.mk hz4
                      clear hys cl h31 hl1 hz1 hz2 hz0 hz3
                      go_wp2_with fail
                      go_region
                      go_wp2_with fail
                      go_roundg (b - (l + 1))
                      case measure => have := HL.out; have := HCL.out; omega
                      case rel =>
                        refine ⟨l + 1, (by have := H31.out; have := HCL.out; rw [show wrap64 ((l : Int) + 1) = ((l + 1 : Nat) : Int) by unfold wrap64; omega]), ⟨by have := HL.out; have := HCL.out; omega⟩, ⟨?_⟩, ⟨impl_bestValues.keepZ HZ.out⟩⟩
                        rw [Nat.add_sub_cancel, impl_bestValues.kB_step _ _ _ _ HL.out.1, ← EY.out, EZ.out, ← EZ0.out, ← impl_bestValues.mx_if, EZ4.out]
                        exact (HF.out.put _ _).step (below_drew1 (Below.refl _ _))
                    · have clb : decide (l < b) = false := decide_eq_false cl
                      have hle : l - 1 = b - 1 := by have := HL.out; omega
                      rw [hle] at HF
                      clear hle cl HL
                      go_wp2_with fail
                      go_roundg (m - b)
                      case measure => have := HB.out; have := HCB.out; omega
                      case rel =>
                        refine ⟨b + 1, (by have := H31.out; rw [show wrap64 ((b : Int) + 1) = ((b + 1 : Nat) : Int) by unfold wrap64; omega]), ⟨by have := HB.out; have := HCB.out; omega⟩, ⟨?_⟩, HZ⟩
                        rw [Nat.add_sub_cancel, impl_bestValues.row_step W _ _ _ H31.out.2.2.2, ← EX.out]
                        exact HF.out
        · have cbb : decide (b ≤ m) = false := decide_eq_false cb
          have hbm : b - 1 = m := by have := HB.out; omega
          rw [hbm, ← impl_bestValues.tab_step W m a HA.out.1] at HF
          clear hbm cb HB
          go_wp2_with fail
          go_roundg (n - a)
          case measure => have := HA.out; have := HCA.out; omega
          case rel => exact ⟨a + 1, (by have := HN.out; have := HCA.out; rw [show wrap64 ((a : Int) + 1) = ((a + 1 : Nat) : Int) by unfold wrap64; omega]), ⟨by have := HA.out; have := HCA.out; omega⟩, ⟨by rw [Nat.add_sub_cancel]; exact HF.out⟩, HZ⟩
    · have cab : decide (a ≤ n) = false := decide_eq_false ca
      have han : a - 1 = n := by have := HA.out; omega
      rw [han, HR.out] at HF
      have HBx := Aside0.mk HF.out.below
      clear han ca HA
      have hsz : ((r.map (Value.int .i64)).toArray).size = 289 := by rw [List.size_toArray, List.length_map]; exact HF.out.len
      have hall : ((r.map (Value.int .i64)).toArray).all (·.oneCell') = true := by simp [Value.oneCell']
      obtain ⟨CS, hCS⟩ : ∃ c, c = (r.map (Value.int .i64)).toArray := ⟨_, rfl⟩
      have hb := HF.out.hb
      rw [← hCS] at hsz hall hb
      have NCS := Aside0.mk hCS
      have hinf : (Tryd.prog.info? 72).map (·.size) = some CS.size := by rw [hsz]; kernel_rfl
      have hz289 : ((List.replicate 289 (0 : Int)).map (Value.int .i64)).toArray.size = CS.size := by rw [hsz]; simp
      have H1 := Aside0.mk hb
      have H2 := Aside0.mk hinf
      have H3 := Aside0.mk hz289
      have H4 := Aside0.mk hall
      clear hsz hall hb hinf hz289 hCS HF
      go_wp2_with (first | (with_reducible refine wpList_load_row rfl 72 (.tmp 7) rfl (w.heap.size + 1) rfl 72 CS (0, 0) _ H1.out Tryd.underlying72 rfl H2.out ?_) | (with_reducible refine wpList_store_row rfl 72 (.tmp 6) (.tmp 113) rfl w.heap.size CS rfl rfl 72 _ HZ.out H2.out H3.out H4.out ?_))
      exact bodyPost_ret (v := .agg CS) (results_cell_row (fn := Tryd.f67) (p := 6) (ty := 72) (by kernel_rfl) _ _ w.heap.size 72 CS (0, 0) _ (by rfl) (setRow_heap wr w.heap.size _ CS _ _ HZ.out) Tryd.underlying72 rfl H2.out) rfl ⟨by rw [NCS.out], below_setRow HBx.out (Nat.le_refl _) _⟩
theorem impl_bestValues.ws_l (W : List (List Int)) (xs : List Int) (a b i : Nat) : (impl_bestValues.ws W xs a b i).length = xs.length := impl_bestValues.ws_len W xs a b i
theorem impl_bestValues.cell_len (W : List (List Int)) (xs : List Int) (a b : Nat) : (impl_bestValues.cell W xs a b).length = xs.length := by
  unfold impl_bestValues.cell
  rw [impl_bestValues.kB_len, impl_bestValues.kA_len, impl_bestValues.ws_len]
theorem impl_bestValues.row_len (W : List (List Int)) (xs : List Int) (a : Nat) : ∀ j, (impl_bestValues.row W xs a j).length = xs.length
  | 0 => rfl
  | j + 1 => by rw [impl_bestValues.row, impl_bestValues.cell_len, impl_bestValues.row_len W xs a j]
theorem impl_bestValues.tab_len (W : List (List Int)) (h : Nat) : ∀ i, (impl_bestValues.tab W h i).length = 289
  | 0 => List.length_replicate ..
  | i + 1 => by rw [impl_bestValues.tab, impl_bestValues.row_len, impl_bestValues.tab_len W h i]
theorem impl_bestValues.f_len {a0 a1 : Int} {W : List (List Int)} {xs : List Int} (h : impl_bestValues.f a0 a1 W = some xs) : xs.length = 289 := by
  unfold impl_bestValues.f at h
  split at h
  · rw [← Option.some.inj h]; exact impl_bestValues.tab_len _ _ _
  · cases h
theorem impl_bestValues.f_ok {a0 a1 : Int} {W : List (List Int)} {xs : List Int} (h : impl_bestValues.f a0 a1 W = some xs) : ((1 ≤ a0 ∧ a0 ≤ 16) ∧ 1 ≤ a1 ∧ a1 ≤ 16) ∧ impl_bestValues.okW W = true := by
  unfold impl_bestValues.f at h
  split at h
  · assumption
  · cases h
def impl_BestValue.f (a0 a1 : Int) (l0 : List (List Int)) : Option Int := (impl_isPlate.f a0 a1 l0).bind fun b => if b = true then ((impl_bestValues.f a0 a1 l0).bind fun xs => some (xs.getD (a0.toNat * 17 + a1.toNat) 0)) else some (-1)
theorem impl_bestValues.idx1 (CS : Array Value) (n : Nat) (hn : n < 17) (w : World) : (Instr.index 72 (.agg CS) (.int .i64 (n : Int))).run Tryd.prog w = .ok (.agg (CS.extract (n * 17) (n * 17 + 17))) w := by
  simp [Instr.index, run_underlying Tryd.underlying72, asIntOf, hn, go_sem]
theorem impl_bestValues.idx2 (xs : List Int) (hl : xs.length = 289) (n m : Nat) (hn : n < 17) (hm : m < 17) (w : World) : (Instr.index 71 (.agg ((xs.map (Value.int .i64)).toArray.extract (n * 17) (n * 17 + 17))) (.int .i64 (m : Int))).run Tryd.prog w = .ok (.int .i64 (xs.getD (n * 17 + m) 0)) w := by
  have h0 : xs[n * 17 + m]? = some (xs[n * 17 + m]'(by omega)) := List.getElem?_eq_getElem (by omega)
  simp [Instr.index, run_underlying Tryd.underlying71, asIntOf, hm, go_sem, h0]
set_option maxHeartbeats 8000000 in
set_option maxRecDepth 100000 in
theorem impl_BestValue.calls (a0 a1 : Int) (A0 : Option Addr) (c0 : Nat) (l0 : List (List Int)) (r : Int) (w : World) (hr0 : Kd.C (Kd.slice 3 (Kd.int .i64)) w A0 l0.length l0) (hc0 : l0.length ≤ c0) (h : impl_BestValue.f a0 a1 l0 = some r) :
    Calls Tryd.prog 33 #[.int .i64 a0, .int .i64 a1, .slice A0 l0.length c0] w fun e w' => e = .returned (.int .i64 r) ∧ Below w.heap.size w w' := by
  unfold impl_BestValue.f at h
  rw [Option.bind_eq_some_iff] at h
  obtain ⟨b, hb, h⟩ := h
  have HR := Aside0.mk hr0
  have HC := Aside0.mk hc0
  have HI := Aside0.mk hb
  cases b with
  | false =>
    rw [if_neg (by decide)] at h
    obtain rfl := Option.some.inj h
    clear h hr0 hc0 hb
    go_enter Tryd.func33, Tryd.ntmps33
    go_wp2_with (first | (go_at_call 66; (with_reducible refine (impl_isPlate.calls a0 a1 A0 c0 l0 false _ HR.out HC.out HI.out).mono ?_); rintro e w1 ⟨rfl, ⟨m1, rfl⟩⟩))
    go_ret
    exact ⟨rfl, by repeat (first | exact Below.refl _ _ | apply pw_below_drewN | apply below_drew1)⟩
  | true =>
    rw [if_pos rfl, Option.bind_eq_some_iff] at h
    obtain ⟨xs, hx, h⟩ := h
    obtain rfl := Option.some.inj h
    have HX := Aside0.mk hx
    have hl : xs.length = 289 := impl_bestValues.f_len hx
    have hk := impl_bestValues.f_ok hx
    obtain ⟨n, hn⟩ : ∃ n : Nat, a0 = (n : Int) := ⟨a0.toNat, by omega⟩
    obtain ⟨m, hm⟩ : ∃ m : Nat, a1 = (m : Int) := ⟨a1.toNat, by omega⟩
    subst hn
    subst hm
    rw [Int.toNat_natCast, Int.toNat_natCast]
    have g1 := fun (w : World) => impl_bestValues.idx1 (xs.map (Value.int .i64)).toArray n (by omega) w
    have g2 := fun (w : World) => impl_bestValues.idx2 xs hl n m (by omega) (by omega) w
    obtain ⟨CS, hCS⟩ : ∃ c, c = (xs.map (Value.int .i64)).toArray := ⟨_, rfl⟩
    rw [← hCS] at g1 g2
    obtain ⟨r, hr⟩ : ∃ r, r = xs.getD (n * 17 + m) 0 := ⟨_, rfl⟩
    rw [← hr] at g2 ⊢
    have HCS := Aside0.mk hCS
    clear h hr0 hc0 hb hx hl hk hCS hr
    go_enter Tryd.func33, Tryd.ntmps33
    go_wp2_with (first | (go_at_call 66; (with_reducible refine (impl_isPlate.calls n m A0 c0 l0 true _ HR.out HC.out HI.out).mono ?_); rintro e w1 ⟨rfl, ⟨m1, rfl⟩⟩) | (go_at_call 67; (with_reducible refine (impl_bestValues.calls A0 c0 n m l0 xs _ (Kd.C_drewN HR.out _) HC.out HX.out).mono ?_); rw [← HCS.out]; rintro e w2 ⟨rfl, hb2⟩; have HB := Aside0.mk hb2; clear hb2))
    go_ret
    exact ⟨rfl, below_step (pw_below_drewN (Below.refl _ _) _) HB.out⟩

-- NOT PRINTED: function 104 (strconv_Itoa_104)

-- NOT PRINTED: function 68 (strconv_Itoa_68)

/-! ### impl_FormatInt: function 34 -/
/-- What the library's package-level variables hold. -/
structure GT (w : World) : Prop where
  tab : Lib.TabIs Tryd.prog w "internal/strconv.uint64pow10" .u64 Lib.pow10Tab
theorem GT.var {w w1 : World} {n : String} {cs : Array Value} (hb : Below w.heap.size w w1) (h : w.var? Tryd.prog n = some cs) : w1.var? Tryd.prog n = some cs := by
  unfold World.var? at h ⊢
  cases hg : Tryd.prog.globalNamed n with
  | none => rw [hg] at h; cases h
  | some g =>
    rw [hg] at h
    simp only [Option.bind_some] at h ⊢
    have hlt : g < w.heap.size := by
      apply Nat.lt_of_not_le
      intro hle
      rw [Array.getElem?_eq_none hle] at h
      cases h
    rw [hb.block g hlt]
    exact h
theorem GT.of {w w1 : World} (h : GT w) (hb : Below w.heap.size w w1) : GT w1 := ⟨GT.var hb h.tab⟩
--import Derived.Shelf.Strconv.Itoa3
def Tryd.laysM171_ren : Go.Shelf.Ren := ⟨fun | 171 => 68 | 243 => 104 | 246 => 144 | 283 => 174 | 284 => 175 | 285 => 176 | 286 => 177 | 129 => 171 | 317 => 204 | 318 => 205 | 319 => 206 | 320 => 207 | 337 => 226 | 338 => 227 | n => n, fun | 3 => 3 | 9 => 9 | 2 => 2 | 4 => 4 | 171 => 184 | 0 => 0 | 53 => 182 | 37 => 69 | 5 => 5 | 173 => 186 | 212 => 218 | 51 => 83 | 20 => 20 | 213 => 219 | 46 => 145 | 232 => 245 | 233 => 246 | n => n, fun | 17 => 0 | 18 => 4 | 19 => 5 | n => n⟩
theorem Tryd.laysM171 : Go.Proofs.LaysM.n171 Tryd.prog Tryd.laysM171_ren := {
  mixed := by kernel_rfl
  f129 := Tryd.func171.trans (congrArg some (by kernel_rfl))
  f171 := Tryd.func68.trans (congrArg some (by kernel_rfl))
  f243 := Tryd.func104.trans (congrArg some (by kernel_rfl))
  f246 := Tryd.func144.trans (congrArg some (by kernel_rfl))
  f283 := Tryd.func174.trans (congrArg some (by kernel_rfl))
  f284 := Tryd.func175.trans (congrArg some (by kernel_rfl))
  f285 := Tryd.func176.trans (congrArg some (by kernel_rfl))
  f286 := Tryd.func177.trans (congrArg some (by kernel_rfl))
  f317 := Tryd.func204.trans (congrArg some (by kernel_rfl))
  f318 := Tryd.func205.trans (congrArg some (by kernel_rfl))
  f319 := Tryd.func206.trans (congrArg some (by kernel_rfl))
  f320 := Tryd.func207.trans (congrArg some (by kernel_rfl))
  f337 := Tryd.func226.trans (congrArg some (by kernel_rfl))
  f338 := Tryd.func227.trans (congrArg some (by kernel_rfl))
  t0 := Tryd.underlying0
  a0 := Tryd.isAgg0
  z0 := Tryd.sizeOf0
  v0 := Tryd.zeroValue0
  t2 := Tryd.underlying2
  a2 := Tryd.isAgg2
  z2 := Tryd.sizeOf2
  v2 := Tryd.zeroValue2
  t3 := Tryd.underlying3
  a3 := Tryd.isAgg3
  z3 := Tryd.sizeOf3
  v3 := Tryd.zeroValue3
  t4 := Tryd.underlying4
  a4 := Tryd.isAgg4
  z4 := Tryd.sizeOf4
  v4 := Tryd.zeroValue4
  t5 := Tryd.underlying5
  a5 := Tryd.isAgg5
  z5 := Tryd.sizeOf5
  v5 := Tryd.zeroValue5
  t9 := Tryd.underlying9
  a9 := Tryd.isAgg9
  z9 := Tryd.sizeOf9
  v9 := Tryd.zeroValue9
  t20 := Tryd.underlying20
  a20 := Tryd.isAgg20
  z20 := Tryd.sizeOf20
  v20 := Tryd.zeroValue20
  t37 := Tryd.underlying69
  a37 := Tryd.isAgg69
  z37 := Tryd.sizeOf69
  v37 := Tryd.zeroValue69
  t46 := Tryd.underlying145
  a46 := Tryd.isAgg145
  z46 := Tryd.sizeOf145
  v46 := Tryd.zeroValue145
  t51 := Tryd.underlying83
  a51 := Tryd.isAgg83
  z51 := Tryd.sizeOf83
  v51 := Tryd.zeroValue83
  t53 := Tryd.underlying182
  a53 := Tryd.isAgg182
  z53 := Tryd.sizeOf182
  v53 := Tryd.zeroValue182
  t171 := Tryd.underlying184
  a171 := Tryd.isAgg184
  z171 := Tryd.sizeOf184
  v171 := Tryd.zeroValue184
  t173 := Tryd.underlying186
  a173 := Tryd.isAgg186
  z173 := Tryd.sizeOf186
  v173 := Tryd.zeroValue186
  t212 := Tryd.underlying218
  a212 := Tryd.isAgg218
  z212 := Tryd.sizeOf218
  v212 := Tryd.zeroValue218
  t213 := Tryd.underlying219
  a213 := Tryd.isAgg219
  z213 := Tryd.sizeOf219
  t232 := Tryd.underlying245
  a232 := Tryd.isAgg245
  z232 := Tryd.sizeOf245
  v232 := Tryd.zeroValue245
  t233 := Tryd.underlying246
  a233 := Tryd.isAgg246
  z233 := Tryd.sizeOf246
  v233 := Tryd.zeroValue246
  g17 := by kernel_rfl
  g18 := by kernel_rfl
  g19 := by kernel_rfl
  i0 := by kernel_rfl
  i2 := by kernel_rfl
  i3 := by kernel_rfl
  i4 := by kernel_rfl
  i5 := by kernel_rfl
  i9 := by kernel_rfl
  i20 := by kernel_rfl
  i37 := by kernel_rfl
  i46 := by kernel_rfl
  i51 := by kernel_rfl
  i53 := by kernel_rfl
  i171 := by kernel_rfl
  i173 := by kernel_rfl
  i212 := by kernel_rfl
  i232 := by kernel_rfl
  i233 := by kernel_rfl
  m17 := by kernel_rfl
  m18 := by kernel_rfl
  m19 := by kernel_rfl }
def impl_FormatInt.f (a0 : Int) : Option (ByteArray) := if -9223372036854775808 ≤ a0 ∧ a0 ≤ 9223372036854775807 then some ⟨(Lib.itoa a0).toArray⟩ else none
theorem impl_FormatInt.itoa (a0 : Int) (h0 : -9223372036854775808 ≤ a0) (h1 : a0 ≤ 9223372036854775807) (w : World) (hG : GT w) :
    Calls Tryd.prog 68 #[.int .i64 a0] w fun e w' => e = .returned (.string ⟨(Lib.itoa a0).toArray⟩) ∧ Below w.heap.size w w' := by
  refine (Any.strconv_Itoa Tryd.laysM171 a0 h0 h1 w hG.tab).mono ?_
  rintro e w' ⟨rfl, k, os, rfl⟩
  exact ⟨rfl, ⟨rfl, rfl, rfl, by show w.heap.size ≤ (w.heap ++ os).size; rw [Array.size_append]; omega, fun j hj => by show (w.heap ++ os)[j]? = w.heap[j]?; rw [Array.getElem?_append_left hj]⟩⟩
theorem impl_FormatInt.calls (a0 : Int) (r : ByteArray) (w : World) (h : impl_FormatInt.f a0 = some r) (hG : GT w) :
    Calls Tryd.prog 34 #[.int .i64 a0] w fun e w' => e = .returned (.string r) ∧ Below w.heap.size w w' := by
  unfold impl_FormatInt.f at h
  split at h
  · rename_i c
    obtain rfl := Option.some.inj h
    have hc := impl_FormatInt.itoa a0 c.1 c.2 w hG
    have HG := Aside0.mk hG
    clear hG h c
    go_enter Tryd.func34, Tryd.ntmps34
    go_wp2_with (go_at_call 68; refine hc.mono ?_; rintro e w' ⟨rfl, hb⟩)
    go_ret
    exact ⟨rfl, hb⟩
  · cases h

end Go.Proofs.YtndlmckfacegeaaDoor.QFnExactPlanLine
