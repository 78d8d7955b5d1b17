-- Printed for this claim by a changed copy of the kit's print (the session's own; own contracts in place of some functions).
import Derived.Test.YtndlmckfacegeaaGreatDoorQFnFoldsx0
import Derived.Test.YtndlmckfacegeaaGreatDoorQFnFoldsx1
import Derived.Test.YtndlmckfacegeaaGreatDoorQFnFoldsx4
namespace Go.Proofs.YtndlmckfacegeaaGreatDoor.QFnFolds
open Go.RowKit Go.Proofs.YtndlmckfacegeaaGreatDoorW.PrintWords Go.Proofs.YtndlmckfacegeaaGreatDoorW.PrintLast Go.Proofs.YtndlmckfacegeaaGreatDoorW.PrintMore
attribute [local go_sem] max2_int min2_int max_two min_two max_three min_three max_four min_four   -- for this text's walks alone
set_option linter.unusedVariables false
set_option linter.unusedSimpArgs false

/-! ### impl_MirrorWord: function 8 -/
--import Derived.Tactics2
--import Derived.Defers
--import Derived.Laws.Pointers
--import Derived.Laws.LoneSync
--import Derived.RegionCalls
--import Derived.ChangeAlike
--import Derived.Laws.NewBlocks
--import Derived.Deep.WholeRow
--import Derived.Lib.AtoiErrMem
--import Derived.Lib.SliceRun
/-! impl.MirrorWord by hand: strings.NewReplacer, its Once, its table of bytes. -/
theorem mw_disable (w : World) : (callFunc 62 #[]).run Tryz.prog w = .ok (.value (.tuple #[])) w := run_call_mark0 Tryz.func62 (by kernel_rfl) (by kernel_rfl) (by kernel_rfl) .disable (by kernel_rfl) w
theorem mw_enable (w : World) : (callFunc 64 #[]).run Tryz.prog w = .ok (.value (.tuple #[])) w := run_call_mark0 Tryz.func64 (by kernel_rfl) (by kernel_rfl) (by kernel_rfl) .enable (by kernel_rfl) w
theorem mw_acquire (a : Addr) (w : World) : (callFunc 65 #[.pointer (some a)]).run Tryz.prog w = .ok (.value (.tuple #[])) w := run_call_marked Tryz.func65 (by kernel_rfl) (by kernel_rfl) (by kernel_rfl) .acquire (by kernel_rfl) a w
theorem mw_releaseMerge (a : Addr) (w : World) : (callFunc 67 #[.pointer (some a)]).run Tryz.prog w = .ok (.value (.tuple #[])) w := run_call_marked Tryz.func67 (by kernel_rfl) (by kernel_rfl) (by kernel_rfl) .releaseMerge (by kernel_rfl) a w
set_option maxRecDepth 100000 in
/-- '(*sync/atomic.Bool).Store(true)', entered as a deferred call. -/
theorem mw_store_deferred (a : Addr) (x : Value) (u : FrameMode) (w : World) (hc : w.cell? a = some x) (hz : w.frozen? a = false) :
    CallsD Tryz.prog 46 #[.pointer (some a), .bool true] u w fun e u' w' => u' = u ∧ (e = .returned (.tuple #[]) ∧ w' = w.drew.setCell a (.int .u32 1)) := by
  have hc' : w.drew.cell? a = some x := by go_simp
  have hz' : w.drew.frozen? a = false := by go_simp
  have hst := run_call_store (P := Tryz.prog) Tryz.func54 (by kernel_rfl) (by kernel_rfl) (by kernel_rfl) (by kernel_rfl) (k := .u32) (y := 1) hc' hz'
  go_enter_d Tryz.func46, Tryz.ntmps46
  go_wp2
  go_region_calls
  all_goals (go_end0; exact ⟨rfl, rfl⟩)
set_option maxRecDepth 100000 in
/-- '(*sync.Mutex).Unlock', entered as a deferred call, the lock held and nobody waiting. -/
theorem mw_unlock_deferred (a : Addr) (u : FrameMode) (w : World) (hc : w.cell? a = some (.int .i32 1)) (hz : w.frozen? a = false) :
    CallsD Tryz.prog 45 #[.pointer (some a)] u w fun e u' w' => u' = u ∧ (e = .returned (.tuple #[]) ∧ w' = w.setCell a (.int .i32 0)) := by
  have hd := mw_disable
  have he := mw_enable
  have hr := mw_releaseMerge
  have hadd := run_call_add (P := Tryz.prog) Tryz.func68 (by kernel_rfl) (by kernel_rfl) (by kernel_rfl) .i32 (by kernel_rfl) (y := -1) (s := 0) hc hz (by simp [go_sem]; rfl)
  have hcv := run_convert_to_unsafe (P := Tryz.prog) (src := 122) (dst := 126) Tryz.underlying122 Tryz.underlying126 (by kernel_rfl) hc
  go_enter_d Tryz.func45, Tryz.ntmps45
  go_wp2
  go_end0
  go_wp2
  go_end0
  exact ⟨rfl, rfl⟩
set_option maxRecDepth 100000 in
/-- '(*sync.Mutex).Lock', the lock free. -/
theorem mw_lock_free (a : Addr) (w : World) (hc : w.cell? a = some (.int .i32 0)) (hz : w.frozen? a = false) :
    Calls Tryz.prog 44 #[.pointer (some a)] w fun e w' => e = .returned (.tuple #[]) ∧ w' = w.setCell a (.int .i32 1) := by
  have hd := mw_disable
  have he := mw_enable
  have ha := mw_acquire
  have hcas := run_call_cas_hit (P := Tryz.prog) Tryz.func63 (by kernel_rfl) (by kernel_rfl) (by kernel_rfl) .i32 (by kernel_rfl) (y := 1) hc hz
  have hc' : (w.setCell a (.int .i32 1)).cell? a = some (.int .i32 1) := World.cell?_setCell_same w a _ hc
  have hcv := run_convert_to_unsafe (P := Tryz.prog) (src := 122) (dst := 126) Tryz.underlying122 Tryz.underlying126 (by kernel_rfl) hc'
  go_enter Tryz.func44, Tryz.ntmps44
  go_wp2
  first | go_end0 | (simp only [Exit.inBlock, Exit.then]; refine bodyPost_ret (results_none rfl _ _ _) rfl ?_) | refine bodyPost_ret (results_none rfl _ _ _) rfl ?_
  go_wp2
  go_end0
  exact ⟨rfl, rfl⟩
/-- The table: R and L exchanged. -/
def mw_sw (c : UInt8) : UInt8 := if c = 82 then 76 else if c = 76 then 82 else c
def mw_tab (k : Nat) : List Value := (List.range k).map fun (j : Nat) => Value.int .u8 (j : Int)
/-- '(*sync/atomic.Bool).Load', nothing done yet. -/
theorem mw_load0 (a : Addr) (w : World) (hc : w.cell? a = some (.int .u32 0)) :
    Calls Tryz.prog 36 #[.pointer (some a)] w fun e w' => e = .returned (.bool false) ∧ w' = w := by
  have hl := run_call_load (P := Tryz.prog) Tryz.func43 (by kernel_rfl) (by kernel_rfl) (by kernel_rfl) .u32 (by kernel_rfl) (w := w) (a := a) (x := 0) hc
  go_enter Tryz.func36, Tryz.ntmps36
  go_wp2
  go_ret
  exact ⟨rfl, rfl⟩
def mw_arr (k : Nat) : Array Value := (((List.range k).map fun (j : Nat) => Value.int .u8 (j : Int)) ++ List.replicate (256 - k) (Value.int .u8 0)).toArray
theorem mw_arr_zero : Tryz.zeroCells94 = mw_arr 0 := by kernel_rfl
theorem mw_arr_size (k : Nat) (h : k ≤ 256) : (mw_arr k).size = 256 := by
  unfold mw_arr
  rw [List.size_toArray, List.length_append, List.length_map, List.length_range, List.length_replicate]
  omega
theorem mw_arr_get (k : Nat) (h : k < 256) : (mw_arr k)[k]? = some (.int .u8 0) := by
  unfold mw_arr
  rw [List.getElem?_toArray, List.getElem?_append_right (by rw [List.length_map, List.length_range]; exact Nat.le_refl _), List.length_map, List.length_range, Nat.sub_self, show 256 - k = (255 - k) + 1 by omega, List.replicate_succ]
  rfl
theorem mw_arr_set (k : Nat) (h : k < 256) : (mw_arr k).setIfInBounds k (.int .u8 (k : Int)) = mw_arr (k + 1) := by
  unfold mw_arr
  rw [List.setIfInBounds_toArray]
  congr 1
  rw [List.set_append_right _ _ (by rw [List.length_map, List.length_range]; exact Nat.le_refl _), List.length_map, List.length_range, Nat.sub_self, show 256 - k = (256 - (k + 1)) + 1 by omega, List.replicate_succ, List.set_cons_zero, List.range_succ, List.map_append, List.append_assoc]
  rfl
def mw_tabA : Array Value := (mw_arr 256).setIfInBounds 76 (.int .u8 82)
def mw_tabB : Array Value := mw_tabA.setIfInBounds 82 (.int .u8 76)
def mw_tabChk (n : Nat) : Bool := match mw_tabB[n]? with
  | some (.int .u8 x) => decide (x = ((mw_sw (UInt8.ofNat n)).toNat : Int))
  | _ => false
theorem mw_tabB_at (c : UInt8) : mw_tabB[c.toNat]? = some (.int .u8 ((mw_sw c).toNat : Int)) := by
  have h : ((List.range 256).all mw_tabChk) = true := by kernel_rfl
  have h1 := List.all_eq_true.1 h c.toNat (List.mem_range.2 c.toNat_lt)
  have h2 : UInt8.ofNat c.toNat = c := by simp
  unfold mw_tabChk at h1
  rw [h2] at h1
  split at h1
  · rename_i x hx
    rw [hx, of_decide_eq_true h1]
  · cases h1
set_option maxRecDepth 100000 in
set_option maxHeartbeats 1600000 in
theorem mw_build (b g c : Nat) (w : World) (h4 : w.cell? ⟨b, 4, none⟩ = some (.slice (some ⟨g, 0, none⟩) 4 c))
    (s0 : w.cell? ⟨g, 0, none⟩ = some (.string ⟨#[82]⟩)) (s1 : w.cell? ⟨g, 1, none⟩ = some (.string ⟨#[76]⟩)) (s2 : w.cell? ⟨g, 2, none⟩ = some (.string ⟨#[76]⟩)) (s3 : w.cell? ⟨g, 3, none⟩ = some (.string ⟨#[82]⟩)) :
    Calls Tryz.prog 38 #[.pointer (some ⟨b, 0, none⟩)] w fun e w' => ∃ t, e = .returned (.iface 95 (.pointer (some ⟨t, 0, none⟩))) ∧ w.heap.size ≤ t ∧ w'.heap[t]? = some (.cells mw_tabB 94 (0, 0)) ∧ Below w.heap.size w w' := by
  have hst := run_storeCells_new (P := Tryz.prog) w 94 Tryz.zeroCells94 Tryz.zeroCells94 (by kernel_rfl) rfl (by kernel_rfl)
  go_enter Tryz.func38, Tryz.ntmps38
  go_wp2
  go_loop [4, 5] (fun a i => a = .bool true ∧ ∃ k : Nat, (k = 0 ∨ k = 2 ∨ k = 4) ∧ i = .int .i64 k) (fun _ i => 4 - (intOf i).toNat)
  case atStart => exact ⟨rfl, 0, .inl rfl, rfl⟩
  case round =>
    obtain ⟨rfl, k, hk, rfl⟩ := hrel
    rcases hk with rfl | rfl | rfl
    · go_wp2
      go_round
      case rel => exact ⟨rfl, 2, .inr (.inl rfl), rfl⟩
      case measure => simp [intOf]
    · go_wp2
      go_round
      case rel => exact ⟨rfl, 4, .inr (.inr rfl), rfl⟩
      case measure => simp [intOf]
    · go_wp2
      have HN := Aside0.mk (show (w.alloc (.cells Tryz.zeroCells94 94)).heap[w.heap.size]? = some (.cells (mw_arr 0) 94 (0, 0)) by rw [← mw_arr_zero]; exact blk_new _ _)
      have HB := Aside0.mk ((Below.refl w.heap.size w).alloc (Nat.le_refl _) (.cells Tryz.zeroCells94 94))
      clear hst
      go_loopg [61] 256 (fun kq s wr => ∃ k : Nat, Aside0 (k + kq = 256) ∧ s = .int .i64 k ∧ Aside0 (wr.heap[w.heap.size]? = some (.cells (mw_arr k) 94 (0, 0))) ∧ Aside0 (Below w.heap.size w wr))
      case atStart => exact ⟨0, ⟨rfl⟩, rfl, HN, HB⟩
      case round =>
        clear HN HB
        obtain ⟨k, hk, rfl, HN, HB⟩ := hrel
        cases gk with
        | succ k1 =>
          have h256 : k < 256 := by have := hk.out; omega
          have hc := (blk_cell HN.out k).trans (mw_arr_get k h256)
          have hf := blk_frozen HN.out k
          have hw : IntKind.u8.wrap (k : Int) = (k : Int) := by rw [IntKind.wrap_u8]; omega
          have h1 : decide ((k : Int) < 256) = true := decide_eq_true (by omega)
          have h2 : (k : Int) < 256 := by omega
          go_wp2
          go_roundg k1
          case measure => omega
          case rel => exact ⟨k + 1, ⟨by have := hk.out; omega⟩, by go_num, ⟨blk_put HN.out k _ (mw_arr_set k h256)⟩, ⟨HB.out.setCell (Nat.le_refl _) _⟩⟩
        | zero =>
          obtain rfl : k = 256 := by have := hk.out; omega
          go_wp2
          have s0' := Aside0.mk s0
          have s1' := Aside0.mk s1
          have s2' := Aside0.mk s2
          have s3' := Aside0.mk s3
          clear hk h4 s0 s1 s2 s3
          have e76 : ((⟨#[76]⟩ : ByteArray)[0]'(by decide)).toNat = 76 := rfl
          have e82 : ((⟨#[82]⟩ : ByteArray)[0]'(by decide)).toNat = 82 := rfl
          go_loopg [8] 2 (fun kq s wr => Aside0 (Below w.heap.size w wr) ∧ ((kq = 2 ∧ s = .int .i64 2 ∧ Aside0 (wr.heap[w.heap.size]? = some (.cells (mw_arr 256) 94 (0, 0)))) ∨ (kq = 1 ∧ s = .int .i64 0 ∧ Aside0 (wr.heap[w.heap.size]? = some (.cells mw_tabA 94 (0, 0)))) ∨ (kq = 0 ∧ s = .int .i64 (-2) ∧ Aside0 (wr.heap[w.heap.size]? = some (.cells mw_tabB 94 (0, 0))))))
          case atStart => exact ⟨HB, .inl ⟨rfl, rfl, HN⟩⟩
          case round =>
            clear HN HB
            obtain ⟨HB, ⟨rfl, rfl, HN⟩ | ⟨rfl, rfl, HN⟩ | ⟨rfl, rfl, HN⟩⟩ := hrel
            · have r2 := (HB.out.cell (World.block_lt_of_cell? w _ s2'.out)).trans s2'.out
              have r3 := (HB.out.cell (World.block_lt_of_cell? w _ s3'.out)).trans s3'.out
              have hc := (blk_cell HN.out 76).trans (show (mw_arr 256)[76]? = some (.int .u8 76) by kernel_rfl)
              have hf := blk_frozen HN.out 76
              go_wp2
              go_roundg 1
              case measure => omega
              case rel => exact ⟨⟨HB.out.setCell (Nat.le_refl _) _⟩, .inr (.inl ⟨rfl, rfl, ⟨blk_set HN.out 76 _⟩⟩)⟩
            · have r2 := (HB.out.cell (World.block_lt_of_cell? w _ s0'.out)).trans s0'.out
              have r3 := (HB.out.cell (World.block_lt_of_cell? w _ s1'.out)).trans s1'.out
              have hc := (blk_cell HN.out 82).trans (show mw_tabA[82]? = some (.int .u8 82) by kernel_rfl)
              have hf := blk_frozen HN.out 82
              go_wp2
              go_roundg 0
              case measure => omega
              case rel => exact ⟨⟨HB.out.setCell (Nat.le_refl _) _⟩, .inr (.inr ⟨rfl, rfl, ⟨blk_set HN.out 82 _⟩⟩)⟩
            · go_wp2
              go_ret
              exact ⟨w.heap.size, rfl, Nat.le_refl _, HN.out, HB.out⟩
theorem mw_bt_data' (s : ByteArray) (i : Nat) (h : i < s.size) : bt s (i : Int) = ((s.data.toList.getD i 0).toNat : Int) := by
  unfold bt
  rw [show ((i : Int)).toNat = i from by omega, dif_pos h]
  simp [ByteArray.getElem_eq_getElem_data, List.getD, h]
/-- A conversion's own row, as it stands: its cells are not frozen. -/
theorem mw_row_set {w : World} {q m : Nat} {e : TypeId} {cur : Array Value} (h : w.heap[q]? = some (.cells cur e (m, m + 1))) (i : Nat) (u : Value) : (w.setCell ⟨q, i, none⟩ u).heap[q]? = some (.cells (cur.setIfInBounds i u) e (m, m + 1)) := by
  simp [World.setCell, Array.getElem?_modify, h]
theorem mw_row_cell {w : World} {q m : Nat} {e : TypeId} {cur : Array Value} (h : w.heap[q]? = some (.cells cur e (m, m + 1))) (i : Nat) : w.cell? ⟨q, i, none⟩ = cur[i]? := cell_of_row w q i cur e (m, m + 1) h
theorem mw_row_frozen {w : World} {q m : Nat} {e : TypeId} {cur : Array Value} (h : w.heap[q]? = some (.cells cur e (m, m + 1))) (i : Nat) (hi : i < m) : w.frozen? ⟨q, i, none⟩ = false := by
  simp [World.frozen?, h]
  omega
theorem mw_bytes_cells (W : World) (e : TypeId) (s : ByteArray) : s.size ≤ (Lib.bytesCells W e s).size ∧ ∀ j, j < s.size → (Lib.bytesCells W e s)[j]? = some (.int .u8 (s.data.toList.getD j 0).toNat) := by
  have h1 : s.data.size = s.size := rfl
  refine ⟨by unfold Lib.bytesCells; rw [Array.size_append, Array.size_map]; omega, fun j hj => ?_⟩
  unfold Lib.bytesCells
  rw [Array.getElem?_append_left (by rw [Array.size_map]; omega), Array.getElem?_map, Array.getElem?_eq_getElem (by omega)]
  simp [List.getD, hj]
/-- What the row holds when i bytes are turned. -/
def mw_mid (s : ByteArray) (i j : Nat) : Value := .int .u8 (((if j < i then mw_sw (s.data.toList.getD j 0) else s.data.toList.getD j 0)).toNat : Int)
def mw_Row (w wr : World) (s : ByteArray) (q i : Nat) : Prop := ∃ cur : Array Value, w.heap.size ≤ q ∧ wr.heap[q]? = some (.cells cur 5 (cur.size, cur.size + 1)) ∧ s.size ≤ cur.size ∧ ∀ j, j < s.size → cur[j]? = some (mw_mid s i j)
theorem mw_Row.step {w wr : World} {s : ByteArray} {q i : Nat} (h : mw_Row w wr s q i) (hi : i < s.size) : mw_Row w (wr.setCell ⟨q, i, none⟩ (.int .u8 ((mw_sw (s.data.toList.getD i 0)).toNat : Int))) s q (i + 1) := by
  obtain ⟨cur, h1, h2, h3, h4⟩ := h
  refine ⟨_, h1, by rw [Array.size_setIfInBounds]; exact mw_row_set h2 i _, by rw [Array.size_setIfInBounds]; exact h3, fun j hj => ?_⟩
  rw [Array.getElem?_setIfInBounds]
  by_cases e : i = j
  · subst e
    rw [if_pos rfl, if_pos (by omega)]
    unfold mw_mid
    rw [if_pos (by omega)]
  · rw [if_neg e, h4 j hj]
    unfold mw_mid
    by_cases hlt : j < i
    · rw [if_pos hlt, if_pos (by omega)]
    · rw [if_neg hlt, if_neg (by omega)]
theorem mw_Row.new (w W : World) (s : ByteArray) (hb : w.heap.size ≤ W.heap.size) : mw_Row w (Lib.bytesWorld W 5 s) s W.heap.size 0 :=
  ⟨_, hb, Lib.bytesWorld_at_new _ _ _, (mw_bytes_cells W _ s).1, fun j hj => by rw [(mw_bytes_cells W _ s).2 j hj]; rfl⟩
theorem mw_Row.cell {w wr : World} {s : ByteArray} {q i : Nat} (h : mw_Row w wr s q i) (j : Nat) (hj : j < s.size) : wr.cell? ⟨q, j, none⟩ = some (mw_mid s i j) ∧ wr.frozen? ⟨q, j, none⟩ = false := by
  obtain ⟨cur, h1, h2, h3, h4⟩ := h
  exact ⟨(mw_row_cell h2 j).trans (h4 j hj), mw_row_frozen h2 j (by omega)⟩
theorem mw_Row.C {w wr : World} {s : ByteArray} {q : Nat} (h : mw_Row w wr s q s.size) (hs : s.size ≤ 1000) : (Kd.int .u8).C wr (some ⟨q, 0, none⟩) s.size ((s.data.toList.map mw_sw).map fun c => (c.toNat : Int)) := by
  have hl : s.data.toList.length = s.size := by rw [Array.length_toList]; rfl
  refine ⟨by rw [List.length_map, List.length_map]; exact hl, by omega, fun _ => ⟨_, rfl, fun j p hp => ?_⟩⟩
  obtain ⟨hj, e⟩ := List.getElem?_eq_some_iff.1 hp
  rw [List.length_map, List.length_map, hl] at hj
  refine ⟨[.int .u8 p], rfl, rfl, fun i u hu => ?_⟩
  cases i with
  | succ i => simp at hu
  | zero =>
    simp only [List.getElem?_cons_zero, Option.some.injEq] at hu
    subst hu
    have h2 := (h.cell j hj).1
    have e2 : (⟨q, 0, none⟩ : Addr).add (j * Kd.sz (Kd.int .u8) + 0) = ⟨q, j, none⟩ := by
      show (⟨q, 0, none⟩ : Addr).add (j * 1 + 0) = _
      rw [Nat.mul_one, Nat.add_zero]
      unfold Addr.add
      split
      · rename_i e0; rw [e0]
      · rw [Nat.zero_add]
    rw [e2, h2, ← e]
    unfold mw_mid
    rw [if_pos hj]
    simp [List.getD, hl, hj]
set_option maxRecDepth 100000 in
set_option maxHeartbeats 1600000 in
theorem mw_repl (t : Nat) (s : ByteArray) (w : World) (ht : w.heap[t]? = some (.cells mw_tabB 94 (0, 0))) (hs : ∀ c ∈ s.data.toList, c = 82 ∨ c = 76) (hn : s.size ≤ 1000) :
    Calls Tryz.prog 111 #[.pointer (some ⟨t, 0, none⟩), .string s] w fun e w' => e = .returned (.string ⟨(s.data.toList.map mw_sw).toArray⟩) ∧ Below w.heap.size w w' := by
  have hl : s.data.toList.length = s.size := by rw [Array.length_toList]; rfl
  have Hs := Aside0.mk hs
  have Ht := Aside0.mk ht
  have Hn := Aside0.mk hn
  have Hl := Aside0.mk hl
  clear hs ht hn hl
  go_enter Tryz.func111, Tryz.ntmps111
  go_wp2
  go_loopg [5, 6] s.size (fun kq v5 v6 wr => ∃ (W : World) (i : Nat), W = wr ∧ Aside0 (i + kq = s.size) ∧ v6 = .int .i64 i ∧ Aside0 (Below w.heap.size w W) ∧ ((Aside0 (i = 0) ∧ v5 = .slice none 0 0) ∨ (∃ q c, v5 = .slice (some ⟨q, 0, none⟩) s.size c ∧ Aside0 (0 < i ∧ s.size ≤ c) ∧ Aside0 (mw_Row w W s q i))))
  case atStart => exact ⟨_, 0, rfl, ⟨by omega⟩, rfl, ⟨Below.refl _ _⟩, .inl ⟨⟨rfl⟩, rfl⟩⟩
  case round =>
    obtain ⟨W, i, rfl, hi, rfl, HB, hv⟩ := hrel
    cases gk with
    | zero =>
      obtain rfl : i = s.size := by have := hi.out; omega
      have hd : decide ((s.size : Int) < (s.size : Int)) = false := decide_eq_false (by omega)
      rcases hv with ⟨h0, rfl⟩ | ⟨q, c, rfl, hc, hR⟩
      · have hnil := fun (w : World) => Lib.run_eql_slice_nil (P := Tryz.prog) w 22 5 none 0 0 0 0 Tryz.underlying22
        go_wp2
        go_ret
        refine ⟨?_, HB.out⟩
        have e0 : s.data.toList = [] := List.eq_nil_of_length_eq_zero (by rw [Hl.out]; exact h0.out)
        rw [e0]
        obtain ⟨⟨l⟩⟩ := s
        have e1 : l = [] := e0
        subst e1
        rfl
      · have hnil := fun (w : World) => Lib.run_eql_slice_nil (P := Tryz.prog) w 22 5 (some ⟨q, 0, none⟩) s.size c 0 0 Tryz.underlying22
        have hcv := Kd.C_string (P := Tryz.prog) (c := c) Tryz.underlying22 Tryz.underlying5 Tryz.underlying9 (hR.out.C Hn.out)
        have e1 : strOfNums ((s.data.toList.map mw_sw).map fun c => (c.toNat : Int)) = ⟨(s.data.toList.map mw_sw).toArray⟩ := by
          unfold strOfNums
          rw [List.map_map]
          congr 2
          have : ((fun n : Int => UInt8.ofNat n.toNat) ∘ fun c : UInt8 => (c.toNat : Int)) = id := by funext c; simp
          rw [this, List.map_id]
        rw [e1] at hcv
        clear e1
        go_wp2
        go_ret
        exact ⟨rfl, HB.out⟩
    | succ k1 =>
      have hlt : i < s.size := by have := hi.out; omega
      have hch := Hs.out (s.data.toList.getD i 0) (by
        rw [List.getD_eq_getElem?_getD, List.getElem?_eq_getElem (by have := Hl.out; omega)]
        exact List.getElem_mem _)
      have hT : ∀ c : Nat, W.cell? ⟨t, c, none⟩ = mw_tabB[c]? := fun c => blk_cell (blk_below Ht.out HB.out) c
      rcases hch with e | e
      · have hx6 : ∀ h : i < s.size, (s[i]'h).toNat = 82 := fun h => by
          have h1 := e
          simp only [List.getD_eq_getElem?_getD] at h1
          rw [List.getElem?_eq_getElem (by have := Hl.out; omega)] at h1
          have h2 : s[i]'h = 82 := by rw [ByteArray.getElem_eq_getElem_data]; simpa using h1
          rw [h2]
          rfl
        have hT1 : W.cell? ⟨t, 82, none⟩ = some (.int .u8 76) := (hT 82).trans (show mw_tabB[82]? = some (.int .u8 76) from mw_tabB_at 82)
        clear hT
        have hn1 := Hn.out
        have p5 : 0 ≤ (i : Int) := by omega
        have q5 : (i : Int) < (s.size : Int) := by omega
        have hd : decide ((i : Int) < (s.size : Int)) = true := decide_eq_true q5
        rcases hv with ⟨h0, rfl⟩ | ⟨q, c, rfl, hc, hR⟩
        · obtain rfl : i = 0 := h0.out
          have hnil := fun (w : World) => Lib.run_eql_slice_nil (P := Tryz.prog) w 22 5 none 0 0 0 0 Tryz.underlying22
          have hconv := Lib.run_convert_string_bytes (P := Tryz.prog) W 9 22 5 s Tryz.underlying9 Tryz.underlying22 Tryz.underlying5
          have hrow := mw_Row.new w W s HB.out.size
          have hb2 := HB.out.trans ((Lib.bytesWorld_below W 5 s).mono HB.out.size)
          have hT2 : (Lib.bytesWorld W 5 s).cell? ⟨t, 82, none⟩ = some (.int .u8 76) := (Lib.bytesWorld_old W 5 s ⟨t, 82, none⟩ (blk_lt (blk_below Ht.out HB.out))).trans hT1
          obtain ⟨hc0, hf0⟩ := hrow.cell 0 hlt
          have hst := hrow.step hlt
          rw [e, show ((mw_sw 82).toNat : Int) = 76 from rfl] at hst
          have hq := HB.out.size
          have hcap := grownCap_ge W s.size 0 5
          have HR := Aside0.mk hrow
          have HST := Aside0.mk hst
          have HB2 := Aside0.mk hb2
          clear hrow hst hb2
          have Hq := Aside0.mk hq
          have Hc := Aside0.mk hcap
          clear hq hcap
          go_wp2
          go_roundg k1
          case measure => omega
          case rel => exact ⟨_, 1, rfl, ⟨by have := hi.out; omega⟩, rfl, ⟨HB2.out.setCell Hq.out _⟩, .inr ⟨W.heap.size, _, rfl, ⟨by omega, Hc.out⟩, HST⟩⟩
        · have hnil := fun (w : World) => Lib.run_eql_slice_nil (P := Tryz.prog) w 22 5 (some ⟨q, 0, none⟩) s.size c 0 0 Tryz.underlying22
          obtain ⟨hc0, hf0⟩ := hR.out.cell i hlt
          have hst := hR.out.step hlt
          rw [e, show ((mw_sw 82).toNat : Int) = 76 from rfl] at hst
          have hqs : w.heap.size ≤ q := by obtain ⟨_, h, _⟩ := hR.out; exact h
          have HST := Aside0.mk hst
          have Hq := Aside0.mk hqs
          clear hst hqs
          go_wp2
          go_roundg k1
          case measure => omega
          case rel => exact ⟨_, i + 1, rfl, ⟨by have := hi.out; omega⟩, by go_num, ⟨HB.out.setCell Hq.out _⟩, .inr ⟨q, c, rfl, ⟨by omega, hc.out.2⟩, HST⟩⟩
      · have hx6 : ∀ h : i < s.size, (s[i]'h).toNat = 76 := fun h => by
          have h1 := e
          simp only [List.getD_eq_getElem?_getD] at h1
          rw [List.getElem?_eq_getElem (by have := Hl.out; omega)] at h1
          have h2 : s[i]'h = 76 := by rw [ByteArray.getElem_eq_getElem_data]; simpa using h1
          rw [h2]
          rfl
        have hT1 : W.cell? ⟨t, 76, none⟩ = some (.int .u8 82) := (hT 76).trans (show mw_tabB[76]? = some (.int .u8 82) from mw_tabB_at 76)
        clear hT
        have hn1 := Hn.out
        have p5 : 0 ≤ (i : Int) := by omega
        have q5 : (i : Int) < (s.size : Int) := by omega
        have hd : decide ((i : Int) < (s.size : Int)) = true := decide_eq_true q5
        rcases hv with ⟨h0, rfl⟩ | ⟨q, c, rfl, hc, hR⟩
        · obtain rfl : i = 0 := h0.out
          have hnil := fun (w : World) => Lib.run_eql_slice_nil (P := Tryz.prog) w 22 5 none 0 0 0 0 Tryz.underlying22
          have hconv := Lib.run_convert_string_bytes (P := Tryz.prog) W 9 22 5 s Tryz.underlying9 Tryz.underlying22 Tryz.underlying5
          have hrow := mw_Row.new w W s HB.out.size
          have hb2 := HB.out.trans ((Lib.bytesWorld_below W 5 s).mono HB.out.size)
          have hT2 : (Lib.bytesWorld W 5 s).cell? ⟨t, 76, none⟩ = some (.int .u8 82) := (Lib.bytesWorld_old W 5 s ⟨t, 76, none⟩ (blk_lt (blk_below Ht.out HB.out))).trans hT1
          obtain ⟨hc0, hf0⟩ := hrow.cell 0 hlt
          have hst := hrow.step hlt
          rw [e, show ((mw_sw 76).toNat : Int) = 82 from rfl] at hst
          have hq := HB.out.size
          have hcap := grownCap_ge W s.size 0 5
          have HR := Aside0.mk hrow
          have HST := Aside0.mk hst
          have HB2 := Aside0.mk hb2
          clear hrow hst hb2
          have Hq := Aside0.mk hq
          have Hc := Aside0.mk hcap
          clear hq hcap
          go_wp2
          go_roundg k1
          case measure => omega
          case rel => exact ⟨_, 1, rfl, ⟨by have := hi.out; omega⟩, rfl, ⟨HB2.out.setCell Hq.out _⟩, .inr ⟨W.heap.size, _, rfl, ⟨by omega, Hc.out⟩, HST⟩⟩
        · have hnil := fun (w : World) => Lib.run_eql_slice_nil (P := Tryz.prog) w 22 5 (some ⟨q, 0, none⟩) s.size c 0 0 Tryz.underlying22
          obtain ⟨hc0, hf0⟩ := hR.out.cell i hlt
          have hst := hR.out.step hlt
          rw [e, show ((mw_sw 76).toNat : Int) = 82 from rfl] at hst
          have hqs : w.heap.size ≤ q := by obtain ⟨_, h, _⟩ := hR.out; exact h
          have HST := Aside0.mk hst
          have Hq := Aside0.mk hqs
          clear hst hqs
          go_wp2
          go_roundg k1
          case measure => omega
          case rel => exact ⟨_, i + 1, rfl, ⟨by have := hi.out; omega⟩, by go_num, ⟨HB.out.setCell Hq.out _⟩, .inr ⟨q, c, rfl, ⟨by omega, hc.out.2⟩, HST⟩⟩
/-- A Replacer's block. -/
def mw_cellsR (d st : Int) (r on : Value) : Array Value := #[.int .u32 d, .int .i32 st, .int .u32 0, r, on]
structure mw_Old (w : World) (g : Nat) : Prop where
  s0 : w.cell? ⟨g, 0, none⟩ = some (.string ⟨#[82]⟩)
  s1 : w.cell? ⟨g, 1, none⟩ = some (.string ⟨#[76]⟩)
  s2 : w.cell? ⟨g, 2, none⟩ = some (.string ⟨#[76]⟩)
  s3 : w.cell? ⟨g, 3, none⟩ = some (.string ⟨#[82]⟩)
def mw_Built (B b : Nat) (d st : Int) (w w' : World) : Prop := ∃ t, w'.heap[b]? = some (.cells (mw_cellsR d st (.iface 95 (.pointer (some ⟨t, 0, none⟩))) (.slice none 0 0)) 65 (0, 0)) ∧ w.heap.size ≤ t ∧ w'.heap[t]? = some (.cells mw_tabB 94 (0, 0)) ∧ Below B w w'
set_option maxRecDepth 100000 in
set_option maxHeartbeats 1600000 in
theorem mw_buildOnce (B b g c : Nat) (w : World) (hB : B ≤ b) (hb : w.heap[b]? = some (.cells (mw_cellsR 0 1 .nilIface (.slice (some ⟨g, 0, none⟩) 4 c)) 65 (0, 0))) (ho : mw_Old w g) :
    Calls Tryz.prog 27 #[.pointer (some ⟨b, 0, none⟩)] w fun e w' => e = .returned (.tuple #[]) ∧ mw_Built B b 0 1 w w' := by
  have hc := mw_build b g c w ((blk_cell hb 4).trans rfl) ho.s0 ho.s1 ho.s2 ho.s3
  have Hc := Aside0.mk hc
  have Hb := Aside0.mk hb
  have Ho := Aside0.mk ho
  have HB := Aside0.mk hB
  clear hc hb ho hB
  go_enter Tryz.func27, Tryz.ntmps27
  go_wp2_with (go_at_call 38; refine Hc.out.mono ?_; rintro e w1 ⟨t, rfl, ht, hT, hbel⟩; have b1 := blk_below Hb.out hbel; have c3 := (blk_cell b1 3).trans (show _ = some Value.nilIface from rfl); have f3 := blk_frozen b1 3; have b2 := blk_put b1 3 (.iface 95 (.pointer (some ⟨t, 0, none⟩))) (show _ = mw_cellsR 0 1 (.iface 95 (.pointer (some ⟨t, 0, none⟩))) (.slice (some ⟨g, 0, none⟩) 4 c) from rfl); have c4 := (blk_cell b2 4).trans (show _ = some (Value.slice (some ⟨g, 0, none⟩) 4 c) from rfl); have f4 := blk_frozen b2 4; have B2 := Aside0.mk b2; have HT := Aside0.mk hT; have HL := Aside0.mk hbel; have Ht := Aside0.mk ht; clear b1 b2 hT hbel ht)
  go_end0
  have hlt := blk_lt Hb.out
  have hne : t ≠ b := by have := Ht.out; omega
  exact ⟨rfl, t, blk_put B2.out 4 _ rfl, Ht.out, blk_far (blk_far HT.out hne _) hne _, ((HL.out.mono (by have := HB.out; omega)).setCell HB.out _).setCell HB.out _⟩
set_option maxRecDepth 100000 in
set_option maxHeartbeats 1600000 in
theorem mw_doSlow (B b g c : Nat) (w : World) (hB : B ≤ b) (hb : w.heap[b]? = some (.cells (mw_cellsR 0 0 .nilIface (.slice (some ⟨g, 0, none⟩) 4 c)) 65 (0, 0))) (ho : mw_Old w g) (hg : g ≠ b) :
    Calls Tryz.prog 37 #[.pointer (some ⟨b, 0, none⟩), .func (.func 27) #[.pointer (some ⟨b, 0, none⟩)] #[]] w fun e w' => e = .returned (.tuple #[]) ∧ mw_Built B b 1 0 w w' := by
  have hl := mw_lock_free ⟨b, 1, none⟩ w ((blk_cell hb 1).trans rfl) (blk_frozen hb 1)
  have b1 := blk_put hb 1 (.int .i32 1) (show _ = mw_cellsR 0 1 .nilIface (.slice (some ⟨g, 0, none⟩) 4 c) from rfl)
  have h0 := mw_load0 ⟨b, 0, none⟩ (w.setCell ⟨b, 1, none⟩ (.int .i32 1)) ((blk_cell b1 0).trans rfl)
  have ho1 : mw_Old (w.setCell ⟨b, 1, none⟩ (.int .i32 1)) g :=
    ⟨(World.cell?_setCell_other _ ⟨b, 1, none⟩ ⟨g, 0, none⟩ _ (by intro h; injection h with h1; exact hg h1.symm)).trans ho.s0, (World.cell?_setCell_other _ ⟨b, 1, none⟩ ⟨g, 1, none⟩ _ (by intro h; injection h with h1; exact hg h1.symm)).trans ho.s1,
     (World.cell?_setCell_other _ ⟨b, 1, none⟩ ⟨g, 2, none⟩ _ (by intro h; injection h with h1; exact hg h1.symm)).trans ho.s2, (World.cell?_setCell_other _ ⟨b, 1, none⟩ ⟨g, 3, none⟩ _ (by intro h; injection h with h1; exact hg h1.symm)).trans ho.s3⟩
  have hbo := mw_buildOnce B b g c _ hB b1 ho1
  have hnot : ∀ (x : Bool) (w : World), (Op.unary .not (.bool x)).run Tryz.prog w = .ok (.bool (!x)) w := fun _ _ => rfl
  have Hl := Aside0.mk hl
  have H0 := Aside0.mk h0
  have Hbo := Aside0.mk hbo
  have HB := Aside0.mk hB
  have Hlt := Aside0.mk (blk_lt hb)
  clear hl h0 hbo b1 ho1 hb ho hg hB
  go_enter_defers Tryz.func37, Tryz.ntmps37
  go_wp2_with (first | (go_at_call 44; refine Hl.out.mono ?_; rintro e w1 ⟨rfl, rfl⟩) | (go_at_call 36; refine H0.out.mono ?_; rintro e w1 ⟨rfl, rfl⟩) | (go_at_call 27; refine Hbo.out.mono ?_; rintro e w2 ⟨rfl, t, hb2, ht2, hT2, hL2⟩; have HB2 := Aside0.mk hb2; have HT2 := Aside0.mk hT2; have HL2 := Aside0.mk hL2; have Ht2 := Aside0.mk ht2; clear hb2 hT2 hL2 ht2))
  have c0 := (blk_cell HB2.out 0).trans (show _ = some (Value.int .u32 0) from rfl)
  have b3 : w2.drew.heap[b]? = _ := HB2.out
  have b4 := blk_put b3 0 (.int .u32 1) (show _ = mw_cellsR 1 1 (.iface 95 (.pointer (some ⟨t, 0, none⟩))) (.slice none 0 0) from rfl)
  have c1 := (blk_cell b4 1).trans (show _ = some (Value.int .i32 1) from rfl)
  have f1 := blk_frozen b4 1
  have b5 := blk_put b4 1 (.int .i32 0) (show _ = mw_cellsR 1 0 (.iface 95 (.pointer (some ⟨t, 0, none⟩))) (.slice none 0 0) from rfl)
  have hne : t ≠ b := by
    have h1 := Ht2.out
    have h2 := Hlt.out
    have h3 : (w.setCell ⟨b, 1, none⟩ (.int .i32 1)).heap.size = w.heap.size := by simp [World.setCell]
    omega
  refine leaves_cons (f := 46) (args := #[.pointer (some ⟨b, 0, none⟩), .bool true]) (by simp) (by simp [go_sem]) ?_
  refine (mw_store_deferred ⟨b, 0, none⟩ (.int .u32 0) .returning _ c0 (blk_frozen HB2.out 0)).mono ?_
  rintro e u' w'' ⟨rfl, rfl, rfl⟩
  refine leaves_cons (f := 45) (args := #[.pointer (some ⟨b, 1, none⟩)]) (by simp [settle]) (by simp [go_sem]) ?_
  refine (mw_unlock_deferred ⟨b, 1, none⟩ _ _ c1 f1).mono ?_
  rintro e u' w'' ⟨rfl, rfl, rfl⟩
  have hz0 : Below B w w2.drew := below_drew1 (((Below.refl B w).setCell (show B ≤ (⟨b, 1, none⟩ : Addr).block from HB.out) (.int .i32 1)).trans HL2.out)
  have hz1 : Below B w (w2.drew.setCell ⟨b, 0, none⟩ (.int .u32 1)) := hz0.setCell (show B ≤ (⟨b, 0, none⟩ : Addr).block from HB.out) _
  have hz2 : Below B w ((w2.drew.setCell ⟨b, 0, none⟩ (.int .u32 1)).setCell ⟨b, 1, none⟩ (.int .i32 0)) := hz1.setCell (show B ≤ (⟨b, 1, none⟩ : Addr).block from HB.out) _
  have hfin : mw_Built B b 1 0 w ((w2.drew.setCell ⟨b, 0, none⟩ (.int .u32 1)).setCell ⟨b, 1, none⟩ (.int .i32 0)) :=
    ⟨t, b5, by have h3 : (w.setCell ⟨b, 1, none⟩ (.int .i32 1)).heap.size = w.heap.size := by simp [World.setCell]
               have := Ht2.out
               omega, blk_far (blk_far (show w2.drew.heap[t]? = _ from HT2.out) hne _) hne _, hz2⟩
  simpa [Leaves, settle, results, Tryz.results37] using hfin
set_option maxRecDepth 100000 in
theorem mw_once (B b g c : Nat) (w : World) (hB : B ≤ b) (hb : w.heap[b]? = some (.cells (mw_cellsR 0 0 .nilIface (.slice (some ⟨g, 0, none⟩) 4 c)) 65 (0, 0))) (ho : mw_Old w g) (hg : g ≠ b) :
    Calls Tryz.prog 26 #[.pointer (some ⟨b, 0, none⟩), .func (.func 27) #[.pointer (some ⟨b, 0, none⟩)] #[]] w fun e w' => e = .returned (.tuple #[]) ∧ mw_Built B b 1 0 w w' := by
  have hs := mw_doSlow B b g c w hB hb ho hg
  have h0 := mw_load0 ⟨b, 0, none⟩ w ((blk_cell hb 0).trans rfl)
  have hnot : ∀ (x : Bool) (w : World), (Op.unary .not (.bool x)).run Tryz.prog w = .ok (.bool (!x)) w := fun _ _ => rfl
  have Hs := Aside0.mk hs
  have H0 := Aside0.mk h0
  clear hs h0 hB hb ho hg
  go_enter Tryz.func26, Tryz.ntmps26
  go_wp2_with (first | (go_at_call 36; refine H0.out.mono ?_; rintro e w1 ⟨rfl, rfl⟩) | (go_at_call 37; refine Hs.out.mono ?_; rintro e w2 ⟨rfl, hbt⟩; have HBT := Aside0.mk hbt; clear hbt))
  go_end0
  exact ⟨rfl, HBT.out⟩
set_option maxRecDepth 100000 in
set_option maxHeartbeats 1600000 in
theorem mw_replace (B b g c : Nat) (s : ByteArray) (w : World) (hB : B ≤ b) (hb : w.heap[b]? = some (.cells (mw_cellsR 0 0 .nilIface (.slice (some ⟨g, 0, none⟩) 4 c)) 65 (0, 0))) (ho : mw_Old w g) (hg : g ≠ b) (hs : ∀ c ∈ s.data.toList, c = 82 ∨ c = 76) (hn : s.size ≤ 1000) :
    Calls Tryz.prog 21 #[.pointer (some ⟨b, 0, none⟩), .string s] w fun e w' => e = .returned (.string ⟨(s.data.toList.map mw_sw).toArray⟩) ∧ Below B w w' := by
  have hd := mw_once B b g c w hB hb ho hg
  have hr : ∀ (t : Nat) (w1 : World), Aside0 (w1.heap[t]? = some (.cells mw_tabB 94 (0, 0))) → Calls Tryz.prog 111 #[.pointer (some ⟨t, 0, none⟩), .string s] w1 fun e w' => e = .returned (.string ⟨(s.data.toList.map mw_sw).toArray⟩) ∧ Below w1.heap.size w1 w' := fun t w1 h => mw_repl t s w1 h.out hs hn
  have hm : ∀ (t : Nat) (w : World), (method 278 95 (.pointer (some ⟨t, 0, none⟩)) "Replace").run Tryz.prog w = .ok (111, .pointer (some ⟨t, 0, none⟩)) w := fun _ _ => by kernel_rfl
  have Hd := Aside0.mk hd
  have Hr := Aside0.mk hr
  have HB := Aside0.mk hB
  have Hlt := Aside0.mk (blk_lt hb)
  clear hd hr hB hb ho hg hs hn
  go_enter Tryz.func21, Tryz.ntmps21
  go_wp2_with (first | (go_at_call 26; refine Hd.out.mono ?_; rintro e w1 ⟨rfl, t, hb1, ht1, hT1, hL1⟩; have hc := (blk_cell hb1 3).trans (show _ = some (Value.iface 95 (.pointer (some ⟨t, 0, none⟩))) from rfl); have HT1 := Aside0.mk hT1; have HL1 := Aside0.mk hL1; clear hb1 ht1 hT1 hL1) | (go_at_call 111; refine (Hr.out _ _ HT1).mono ?_; rintro e w2 ⟨rfl, hL2⟩; have HL2 := Aside0.mk hL2; clear hL2))
  go_ret
  have h1 := HL1.out.size
  have h2 := HB.out
  have h3 := Hlt.out
  exact ⟨rfl, HL1.out.trans (HL2.out.mono (by omega))⟩
theorem mw_Old.of_R {w : World} {base : Nat} {ok : Nat → Prop} {v : Value} (h : Kd.R Kd.string 9 w base ok v [⟨#[82]⟩, ⟨#[76]⟩, ⟨#[76]⟩, ⟨#[82]⟩]) : ∃ g c, v = .slice (some ⟨g, 0, none⟩) 4 c ∧ base ≤ g ∧ g < w.heap.size ∧ mw_Old w g := by
  obtain ⟨_, inner, ⟨h1, h2⟩, h3⟩ := h
  rcases h2 with ⟨_, e⟩ | ⟨g, c, cur, rfl, hg, hh, hn, _, hs, ht⟩
  · simp at e
  · have hc : ∀ j : Nat, ∀ p : ByteArray, ([⟨#[82]⟩, ⟨#[76]⟩, ⟨#[76]⟩, ⟨#[82]⟩] : List ByteArray)[j]? = some p → w.cell? ⟨g, j, none⟩ = some (.string p) := by
      intro j p hp
      have h4 := h3.2 j p hp
      have h5 : (inner.drop (j * 1)).take 1 = [Value.string p] := h4
      rw [Nat.mul_one, ← ht] at h5
      have h6 : cur[j]? = some (.string p) := by
        have h7 := congrArg (fun l : List Value => l[0]?) h5
        simp only [List.getElem?_take, List.getElem?_drop, List.getElem?_cons_zero] at h7
        rw [if_pos (by omega)] at h7
        split at h7
        · simpa using h7
        · cases h7
      rw [blk_cell hh, h6]
    exact ⟨g, c, rfl, hg, blk_lt hh, ⟨hc 0 _ rfl, hc 1 _ rfl, hc 2 _ rfl, hc 3 _ rfl⟩⟩
theorem mw_Old.below {w w1 : World} {g : Nat} (h : mw_Old w g) (hb : Below w.heap.size w w1) : mw_Old w1 g :=
  ⟨(hb.cell (World.block_lt_of_cell? w _ h.s0)).trans h.s0, (hb.cell (World.block_lt_of_cell? w _ h.s1)).trans h.s1, (hb.cell (World.block_lt_of_cell? w _ h.s2)).trans h.s2, (hb.cell (World.block_lt_of_cell? w _ h.s3)).trans h.s3⟩
def mw_four : List ByteArray := [⟨#[82]⟩, ⟨#[76]⟩, ⟨#[76]⟩, ⟨#[82]⟩]
def mw_fourC : Array Value := #[.string ⟨#[82]⟩, .string ⟨#[76]⟩, .string ⟨#[76]⟩, .string ⟨#[82]⟩]
theorem mw_four_C {w : World} {q : Nat} (h : w.heap[q]? = some (.cells mw_fourC 9 (0, 0))) : Kd.C Kd.string w (some ⟨q, 0, none⟩) 4 mw_four := by
  refine ⟨rfl, by decide, fun _ => ⟨_, rfl, fun j p hp => ⟨[.string p], rfl, rfl, fun i u hu => ?_⟩⟩⟩
  cases i with
  | succ i => simp at hu
  | zero =>
    simp only [List.getElem?_cons_zero, Option.some.injEq] at hu
    subst hu
    have e2 : (⟨q, 0, none⟩ : Addr).add (j * Kd.sz Kd.string + 0) = ⟨q, j, none⟩ := by
      show (⟨q, 0, none⟩ : Addr).add (j * 1 + 0) = _
      rw [Nat.mul_one, Nat.add_zero]
      unfold Addr.add
      split
      · rename_i e0; rw [e0]
      · rw [Nat.zero_add]
    rw [e2, blk_cell h]
    unfold mw_four at hp
    match j, hp with
    | 0, hp => obtain rfl := Option.some.inj hp; rfl
    | 1, hp => obtain rfl := Option.some.inj hp; rfl
    | 2, hp => obtain rfl := Option.some.inj hp; rfl
    | 3, hp => obtain rfl := Option.some.inj hp; rfl
    | j + 4, hp => cases hp
theorem mw_infoS : (Tryz.prog.info? 9).map (fun i => (i.zero, i.size, i.bytes)) = some (some (.string ByteArray.empty), 1, 16) := by kernel_rfl
def mw_Made (w w' : World) (e : Ending) : Prop := ∃ b g c, e = .returned (.pointer (some ⟨b, 0, none⟩)) ∧ w.heap.size ≤ b ∧ g ≠ b ∧ w'.heap[b]? = some (.cells (mw_cellsR 0 0 .nilIface (.slice (some ⟨g, 0, none⟩) 4 c)) 65 (0, 0)) ∧ mw_Old w' g ∧ Below w.heap.size w w'
set_option maxRecDepth 100000 in
set_option maxHeartbeats 1600000 in
theorem mw_newR (q : Nat) (w : World) (hq : w.heap[q]? = some (.cells mw_fourC 9 (0, 0))) :
    Calls Tryz.prog 20 #[.slice (some ⟨q, 0, none⟩) 4 4] w fun e w' => mw_Made w w' e := by
  have HC := Aside0.mk (mw_four_C hq)
  have HB := Aside0.mk (Below.refl w.heap.size w)
  have HO := Aside0.mk (Kd.R_nil Kd.string 9 w w.heap.size (fun _ => True))
  clear hq
  go_enter Tryz.func20, Tryz.ntmps20
  go_wp2_with (((with_reducible refine gate_builtin (b := .append) (xs := #[.const (.slice none 0 0), .tmp 8]) rfl ?_); at_builtin; refine Kd.R_append_rows Kd.string (w0 := w) w.heap.size rfl (.const (.slice none 0 0)) (.tmp 8) 49 9 (.string ByteArray.empty) 16 rfl Tryz.underlying49 mw_infoS rfl (by decide) (by omega) (.slice none 0 0) [] mw_four _ _ _ (fun _ => True) (fun _ => False) rfl rfl HO.out HC.out (fun _ _ h => h) (fun _ h => h.elim) (fun _ _ => trivial) HB.out (Nat.le_refl _) (by decide) ?_; intro v1 w1 ho hb hg hat; obtain ⟨g, c, rfl, hg1, hg2, hold⟩ := mw_Old.of_R (show Kd.R Kd.string 9 w1 w.heap.size (fun _ => True) v1 [⟨#[82]⟩, ⟨#[76]⟩, ⟨#[76]⟩, ⟨#[82]⟩] from ho); have HOLD := Aside0.mk hold; have HB1 := Aside0.mk hb; have HG := Aside0.mk hg2; clear ho hb hg hat hold hg1 hg2))
  go_ret
  exact ⟨w1.heap.size, g, c, rfl, HB1.out.size, (by have := HG.out; omega), blk_new _ _, HOLD.out.below ((Below.refl _ _).alloc (Nat.le_refl _) _), HB1.out.alloc HB1.out.size _⟩
def impl_MirrorWord.okW (a0 : ByteArray) : Bool := (a0.data.toList.all fun c => c == 82 || c == 76) && decide (a0.size ≤ 1000)
def impl_MirrorWord.f (a0 : ByteArray) : Option (ByteArray) := (impl_FoldWordOk.f a0).bind fun t => if t = true then (if impl_MirrorWord.okW a0 = true then some ⟨(a0.data.toList.map mw_sw).toArray⟩ else none) else some ⟨#[]⟩
set_option maxRecDepth 100000 in
set_option maxHeartbeats 1600000 in
theorem impl_MirrorWord.calls (a0 : ByteArray) (r : ByteArray) (w : World) (h : impl_MirrorWord.f a0 = some r) :
    Calls Tryz.prog 8 #[.string a0] w fun e w' => e = .returned (.string r) ∧ Below w.heap.size w w' := by
  unfold impl_MirrorWord.f at h
  obtain ⟨t, ht, h⟩ := Option.bind_eq_some_iff.mp h
  have HT := Aside0.mk ht
  clear ht
  cases t with
  | false =>
    rw [if_neg (by decide)] at h
    obtain rfl := Option.some.inj h
    clear h
    go_enter Tryz.func8, Tryz.ntmps8
    go_wp2_with (go_at_call 9; refine (impl_FoldWordOk.calls a0 false _ HT.out).mono ?_; rintro e w1 ⟨rfl, hb⟩; have HB := Aside0.mk hb; clear hb)
    go_ret
    exact ⟨rfl, HB.out⟩
  | true =>
    rw [if_pos rfl] at h
    split at h
    · rename_i ok
      obtain rfl := Option.some.inj h
      unfold impl_MirrorWord.okW at ok
      rw [Bool.and_eq_true, List.all_eq_true] at ok
      have hs : ∀ c ∈ a0.data.toList, c = 82 ∨ c = 76 := fun c hc => by have := ok.1 c hc; simpa using this
      have hn : a0.size ≤ 1000 := of_decide_eq_true ok.2
      have HS := Aside0.mk hs
      have HN := Aside0.mk hn
      clear h ok hs hn
      go_enter Tryz.func8, Tryz.ntmps8
      go_wp2_with (first | (go_at_call 9; refine (impl_FoldWordOk.calls a0 true _ HT.out).mono ?_; rintro e w1 ⟨rfl, hb⟩; have HB := Aside0.mk hb; clear hb) | (go_at_call 20; refine (mw_newR _ _ (show _ = some (Obj.cells mw_fourC 9 (0, 0)) from blk_new _ _)).mono ?_; rintro e w3 ⟨b, g, c, rfl, h1, h2, h3, h4, h5⟩; have H1 := Aside0.mk h1; have H2 := Aside0.mk h2; have H3 := Aside0.mk h3; have H4 := Aside0.mk h4; have H5 := Aside0.mk h5; clear h1 h2 h3 h4 h5) | (go_at_call 21; refine (mw_replace _ _ _ _ a0 _ H1.out H3.out H4.out H2.out HS.out HN.out).mono ?_; rintro e w4 ⟨rfl, h6⟩; have H6 := Aside0.mk h6; clear h6))
      go_ret
      refine ⟨rfl, ?_⟩
      have z1 := HB.out.size
      exact (HB.out.alloc z1 _).trans ((H5.out.trans H6.out).mono (Nat.le_trans z1 ((Below.refl _ _).alloc (Nat.le_refl _) _).size))
    · cases h

/-! ### impl_UnitsOf: function 10 -/
def impl_UnitsOf.f (a0 : ByteArray) : Option (Int) := (impl_FoldWordOk.f a0).bind fun t195 => (if t195 = true then (some (shl .i64 1 (a0.size : Int))) else (some (-1)))
set_option maxHeartbeats 8000000 in
set_option maxRecDepth 100000 in
theorem impl_UnitsOf.calls (a0 : ByteArray) (r : Int) (w : World) (h : impl_UnitsOf.f a0 = some r) :
    Calls Tryz.prog 10 #[.string a0] w fun e w' => e = .returned (.int .i64 r) ∧ Below w.heap.size w w' := by
  have HB := Aside0.mk (Below.refl w.heap.size w)
  have H : ((impl_FoldWordOk.f a0).bind fun t195 => (if t195 = true then (some (shl .i64 1 (a0.size : Int))) else (some (-1)))) = some r := h
  clear h
  replace H := Option.bind_eq_some_iff.mp H
  obtain ⟨t195, A20, H⟩ := H
  replace H : (if t195 = true then (some (shl .i64 1 (a0.size : Int))) else (some (-1))) = some r := H
  have A2 := Aside0.mk A20
  clear A20
  by_cases c3 : t195 = true
  · subst c3
    have H1 : (some (shl .i64 1 (a0.size : Int))) = some r := by rw [if_pos rfl] at H; exact H
    clear H
    have H := H1
    clear H1
    obtain ⟨ji4, hji4⟩ : ∃ j_ : Int, (shl .i64 1 (a0.size : Int)) = j_ := ⟨_, rfl⟩
    replace H : (some ji4) = some r := by first | (rw [hji4] at H; exact H) | (simp only [hji4] at H ⊢; exact H)
    (try rw [hji4] at A2)
    have hji4_ : (IntKind.i64.wrap (1 * 2 ^ min (a0.size : Int).toNat 64)) = ji4 := hji4
    have hji4z : (a0.size : Int) ≤ 64 → (IntKind.i64.wrap (1 * 2 ^ (a0.size : Int).toNat)) = ji4 := shl_small hji4
    have hji4u : (IntKind.i64.wrap (2 ^ min (a0.size : Int).toNat 64)) = ji4 := by have h_ := hji4_; rw [Int.one_mul] at h_; exact h_
    have hji4v : (a0.size : Int) ≤ 64 → (IntKind.i64.wrap (2 ^ (a0.size : Int).toNat)) = ji4 := fun hle_ => by have h_ := hji4z hle_; rw [Int.one_mul] at h_; exact h_
    have hji4y : (wrap64 (1 * 2 ^ min (a0.size : Int).toNat 64)) = ji4 := (i64_w _).symm.trans hji4_
    have hji4x : (a0.size : Int) ≤ 64 → (wrap64 (1 * 2 ^ (a0.size : Int).toNat)) = ji4 := fun h_ => (i64_w _).symm.trans (hji4z h_)
    (try (have hji4s_ := hji4y; simp only [Int.one_mul, Int.toNat_natCast] at hji4s_))
    obtain rfl := Option.some.inj H
    go_enter Tryz.func10, Tryz.ntmps10
    go_wp2_with (first | ((with_reducible refine gate_callee (f := 9) rfl ?_); refine goesL_ (some 4) rfl rfl Tryz.func9 (by kernel_rfl) rfl #[.string a0] rfl (by (try simp only [List.map_toArray, List.map_cons, List.map_nil]); first | done | rfl | (simp only [List.length_drop, List.length_take]; rfl)) ?_; (with_reducible refine (impl_FoldWordOk.calls a0 true _ A2.out).mono ?_); rintro e w5 ⟨rfl, hb⟩; refine ⟨_, rfl, ?_⟩; have n0_ := Aside0.mk (below_step (by repeat (first | (with_reducible first | exact HB.out | apply below_alloc | apply pw_below_drewN | apply below_drew1) | exact HB.out)) hb); clear HB; have HB := n0_; clear n0_; (try clear hb); (try clear hb2); (try clear hk); (try clear hi)))
    go_ret
    exact ⟨by first | rfl | (simp [errW_none, errW_some] <;> rfl) | (simp only [← hji4]; first | rfl | (simp [errW_none, errW_some] <;> rfl)) | (simp [*, errW_none, errW_some] <;> rfl), by repeat (first | (with_reducible first | exact HB.out | apply below_alloc | apply pw_below_drewN | apply below_drew1) | exact HB.out)⟩
  · replace c3 := Bool.eq_false_iff.mpr c3
    subst c3
    have H1 : (some (-1)) = some r := by rw [if_neg (show ¬ (false = true) by decide)] at H; exact H
    clear H
    have H := H1
    clear H1
    obtain rfl := Option.some.inj H
    go_enter Tryz.func10, Tryz.ntmps10
    go_wp2_with (first | ((with_reducible refine gate_callee (f := 9) rfl ?_); refine goesL_ (some 4) rfl rfl Tryz.func9 (by kernel_rfl) rfl #[.string a0] rfl (by (try simp only [List.map_toArray, List.map_cons, List.map_nil]); first | done | rfl | (simp only [List.length_drop, List.length_take]; rfl)) ?_; (with_reducible refine (impl_FoldWordOk.calls a0 false _ A2.out).mono ?_); rintro e w6 ⟨rfl, hb⟩; refine ⟨_, rfl, ?_⟩; have n0_ := Aside0.mk (below_step (by repeat (first | (with_reducible first | exact HB.out | apply below_alloc | apply pw_below_drewN | apply below_drew1) | exact HB.out)) hb); clear HB; have HB := n0_; clear n0_; (try clear hb); (try clear hb2); (try clear hk); (try clear hi)))
    go_ret
    exact ⟨by first | rfl | (simp [errW_none, errW_some] <;> rfl) | (simp [*, errW_none, errW_some] <;> rfl), by repeat (first | (with_reducible first | exact HB.out | apply below_alloc | apply pw_below_drewN | apply below_drew1) | exact HB.out)⟩

/-! ### impl_PiecesAfter: function 11 -/
def impl_PiecesAfter.f (a0 : ByteArray) : Option (Int) := (impl_FoldWordOk.f a0).bind fun t196 => (if t196 = true then ((impl_UnitsOf.f a0).bind fun t197 => (some (wrap64 (t197 + 1)))) else (some (-1)))
set_option maxHeartbeats 8000000 in
set_option maxRecDepth 100000 in
theorem impl_PiecesAfter.calls (a0 : ByteArray) (r : Int) (w : World) (h : impl_PiecesAfter.f a0 = some r) :
    Calls Tryz.prog 11 #[.string a0] w fun e w' => e = .returned (.int .i64 r) ∧ Below w.heap.size w w' := by
  have HB := Aside0.mk (Below.refl w.heap.size w)
  have H : ((impl_FoldWordOk.f a0).bind fun t196 => (if t196 = true then ((impl_UnitsOf.f a0).bind fun t197 => (some (wrap64 (t197 + 1)))) else (some (-1)))) = some r := h
  clear h
  replace H := Option.bind_eq_some_iff.mp H
  obtain ⟨t196, A20, H⟩ := H
  replace H : (if t196 = true then ((impl_UnitsOf.f a0).bind fun t197 => (some (wrap64 (t197 + 1)))) else (some (-1))) = some r := H
  have A2 := Aside0.mk A20
  clear A20
  by_cases c3 : t196 = true
  · subst c3
    have H1 : ((impl_UnitsOf.f a0).bind fun t197 => (some (wrap64 (t197 + 1)))) = some r := by rw [if_pos rfl] at H; exact H
    clear H
    have H := H1
    clear H1
    replace H := Option.bind_eq_some_iff.mp H
    obtain ⟨t197, A40, H⟩ := H
    replace H : (some (wrap64 (t197 + 1))) = some r := H
    have A4 := Aside0.mk A40
    clear A40
    obtain rfl := Option.some.inj H
    go_enter Tryz.func11, Tryz.ntmps11
    go_wp2_with (first | ((with_reducible refine gate_callee (f := 9) rfl ?_); refine goesL_ (some 4) rfl rfl Tryz.func9 (by kernel_rfl) rfl #[.string a0] rfl (by (try simp only [List.map_toArray, List.map_cons, List.map_nil]); first | done | rfl | (simp only [List.length_drop, List.length_take]; rfl)) ?_; (with_reducible refine (impl_FoldWordOk.calls a0 true _ A2.out).mono ?_); rintro e w5 ⟨rfl, hb⟩; refine ⟨_, rfl, ?_⟩; have n0_ := Aside0.mk (below_step (by repeat (first | (with_reducible first | exact HB.out | apply below_alloc | apply pw_below_drewN | apply below_drew1) | exact HB.out)) hb); clear HB; have HB := n0_; clear n0_; (try clear hb); (try clear hb2); (try clear hk); (try clear hi)) | ((with_reducible refine gate_callee (f := 10) rfl ?_); refine goesL_ (some 7) rfl rfl Tryz.func10 (by kernel_rfl) rfl #[.string a0] rfl (by (try simp only [List.map_toArray, List.map_cons, List.map_nil]); first | done | rfl | (simp only [List.length_drop, List.length_take]; rfl)) ?_; (with_reducible refine (impl_UnitsOf.calls a0 t197 _ A4.out).mono ?_); rintro e w6 ⟨rfl, hb⟩; refine ⟨_, rfl, ?_⟩; have n0_ := Aside0.mk (below_step (by repeat (first | (with_reducible first | exact HB.out | apply below_alloc | apply pw_below_drewN | apply below_drew1) | exact HB.out)) hb); clear HB; have HB := n0_; clear n0_; (try clear hb); (try clear hb2); (try clear hk); (try clear hi)))
    go_ret
    exact ⟨by first | rfl | (simp [errW_none, errW_some] <;> rfl) | (simp [*, errW_none, errW_some] <;> rfl), by repeat (first | (with_reducible first | exact HB.out | apply below_alloc | apply pw_below_drewN | apply below_drew1) | exact HB.out)⟩
  · replace c3 := Bool.eq_false_iff.mpr c3
    subst c3
    have H1 : (some (-1)) = some r := by rw [if_neg (show ¬ (false = true) by decide)] at H; exact H
    clear H
    have H := H1
    clear H1
    obtain rfl := Option.some.inj H
    go_enter Tryz.func11, Tryz.ntmps11
    go_wp2_with (first | ((with_reducible refine gate_callee (f := 9) rfl ?_); refine goesL_ (some 4) rfl rfl Tryz.func9 (by kernel_rfl) rfl #[.string a0] rfl (by (try simp only [List.map_toArray, List.map_cons, List.map_nil]); first | done | rfl | (simp only [List.length_drop, List.length_take]; rfl)) ?_; (with_reducible refine (impl_FoldWordOk.calls a0 false _ A2.out).mono ?_); rintro e w7 ⟨rfl, hb⟩; refine ⟨_, rfl, ?_⟩; have n0_ := Aside0.mk (below_step (by repeat (first | (with_reducible first | exact HB.out | apply below_alloc | apply pw_below_drewN | apply below_drew1) | exact HB.out)) hb); clear HB; have HB := n0_; clear n0_; (try clear hb); (try clear hb2); (try clear hk); (try clear hi)))
    go_ret
    exact ⟨by first | rfl | (simp [errW_none, errW_some] <;> rfl) | (simp [*, errW_none, errW_some] <;> rfl), by repeat (first | (with_reducible first | exact HB.out | apply below_alloc | apply pw_below_drewN | apply below_drew1) | exact HB.out)⟩

/-! ### impl_TopUnit: function 12 -/
--import Derived.WalkSpells
def impl_TopUnit.f (k : Nat) (a0 : ByteArray) : Option Int := (impl_FoldWordOk.f a0).bind fun b => if b = true then ((impl_FoldOrder.f k a0).bind fun t => if 0 < t.length then some (rd t ((t.length : Int) - 1)) else none) else some (-1)
theorem impl_TopUnit.mono : ∀ a0 k, LeO (impl_TopUnit.f k a0) (impl_TopUnit.f (k + 1) a0) := by
  intro a0 k
  unfold impl_TopUnit.f
  exact LeO.bind (LeO.refl _) (fun _ => LeO.ite (LeO.bind (impl_FoldOrder.mono _ _) (fun _ => LeO.refl _)) (LeO.refl _))
set_option maxHeartbeats 4000000 in
theorem impl_TopUnit.nil (a0 : ByteArray) (w : World) (h : impl_FoldWordOk.f a0 = some false) : Calls Tryz.prog 5 #[.string a0] w fun e w' => e = .returned (.slice none 0 0) ∧ Below w.heap.size w w' := by
  have H := Aside0.mk h
  clear h
  go_enter Tryz.func5, Tryz.ntmps5
  go_wp2_with (first | (go_at_call 9; (with_reducible refine (impl_FoldWordOk.calls _ false _ H.out).mono ?_); rintro e w1 ⟨rfl, hb⟩; have HB := Aside0.mk hb; clear hb))
  go_ret
  exact ⟨rfl, by repeat (first | exact HB.out | apply pw_below_drewN | apply below_drew1)⟩
set_option maxHeartbeats 4000000 in
theorem impl_TopUnit.calls (k : Nat) (a0 : ByteArray) (r : Int) (w : World) (h : impl_TopUnit.f k a0 = some r) : Calls Tryz.prog 12 #[.string a0] w fun e w' => e = .returned (.int .i64 r) ∧ Below w.heap.size w w' := by
  unfold impl_TopUnit.f at h
  rw [Option.bind_eq_some_iff] at h
  obtain ⟨b, hb, h⟩ := h
  have hn := fun (w : World) (a : Option Addr) (n c : Nat) => Lib.run_eql_slice_nil (P := Tryz.prog) w 24 3 a n c 0 0 Tryz.underlying24
  cases b with
  | false =>
    rw [if_neg (by decide)] at h
    obtain rfl := Option.some.inj h
    have H := Aside0.mk hb
    clear h hb
    go_enter Tryz.func12, Tryz.ntmps12
    go_wp2_with fail
    go_at_call 5
    refine (impl_TopUnit.nil a0 _ H.out).mono ?_
    rintro e w1 ⟨rfl, hb⟩
    have HB := Aside0.mk hb
    clear hb
    go_wp2
    go_ret
    exact ⟨rfl, by repeat (first | exact HB.out | apply pw_below_drewN | apply below_drew1)⟩
  | true =>
    rw [if_pos rfl, Option.bind_eq_some_iff] at h
    obtain ⟨t, ht, h⟩ := h
    by_cases h0 : 0 < t.length
    case neg => rw [if_neg h0] at h; cases h
    rw [if_pos h0] at h
    have HT := Aside0.mk ht
    have HR := Aside0.mk (Option.some.inj h)
    have H0 := Aside0.mk h0
    clear h ht hb h0
    go_enter Tryz.func12, Tryz.ntmps12
    go_wp2_with fail
    go_at_call 5
    refine (impl_FoldOrder.calls k a0 t _ HT.out).mono ?_
    rintro e w1 ⟨v, rfl, hr, hb⟩
    have HB := Aside0.mk hb
    obtain ⟨g, c, ev, _, _, _⟩ := Kd.R_form hr H0.out
    subst ev
    obtain ⟨j, hj⟩ : ∃ j : Int, (wrap64 ((t.length : Int) - 1)) = j := ⟨_, rfl⟩
    have hjw : (IntKind.i64.wrap ((t.length : Int) - 1)) = j := (i64_w _).trans hj
    have hmx := Kd.C_max (Kd.R_reads' hr).2.2
    have hje : j = (t.length : Int) - 1 := by have := H0.out; rw [← hj]; unfold wrap64; omega
    have p0 : 0 ≤ j := by have := H0.out; omega
    have q0 : j < (t.length : Int) := by omega
    obtain ⟨hx, _⟩ := Kd.R_celln 0 hr j p0 q0
    have HJ := Aside0.mk hje
    clear hje hb hmx hr
    replace p0 := eq_true p0
    replace q0 := eq_true q0
    go_wp2
    go_ret
    exact ⟨by rw [← HR.out, ← HJ.out]; first | rfl | simp [rd, rdOf], by repeat (first | exact HB.out | apply pw_below_drewN | apply below_drew1)⟩

/-! ### laws_has: function 13 -/
def laws_has.l0 : Nat → Int → List Int → Int → Int → Option (Bool)
  | 0, _, _, _, _ => none
  | k + 1, x1, x7, x8, x9 => if x9 < x8 then (if 0 ≤ x9 then (if x9 < (x7.length : Int) then (if (rd x7 x9) = x1 then (some true) else (laws_has.l0 k x1 x7 x8 (wrap64 (x9 + 1)))) else (none)) else (none)) else (some false)
def laws_has.f (k : Nat) (l0 : List Int) (a1 : Int) : Option (Bool) := laws_has.l0 k a1 l0 (l0.length : Int) 0
theorem laws_has.mono_l : ∀ k, (∀ y0 y1 y2 y3, LeO (laws_has.l0 k y0 y1 y2 y3) (laws_has.l0 (k + 1) y0 y1 y2 y3))
  | 0 => fun _ _ _ _ r h => by simp [laws_has.l0] at h
  | k + 1 => by
    have ih0 := laws_has.mono_l k
    · intro y0 y1 y2 y3
      unfold laws_has.l0
      repeat' first
      | (with_reducible exact ih0 _ _ _ _)
      | (with_reducible exact LeO.refl _)
      | (with_reducible exact LeO.none _)
      | (with_reducible refine LeO.ite ?_ ?_)
      | (with_reducible refine LeO.bind ?_ (fun _ => ?_))
      | exact ih0 _ _ _ _
      | exact LeO.none _
      | refine LeO.ite ?_ ?_
      | refine LeO.bind ?_ (fun _ => ?_)
theorem laws_has.mono : ∀ a0 a1 k, LeO (laws_has.f k a0 a1) (laws_has.f (k + 1) a0 a1) := by
  intro a0 a1 k
  have ih0 := laws_has.mono_l k
  unfold laws_has.f
  repeat' first
      | (with_reducible exact ih0 _ _ _ _)
      | (with_reducible exact LeO.refl _)
      | (with_reducible exact LeO.none _)
      | (with_reducible refine LeO.ite ?_ ?_)
      | (with_reducible refine LeO.bind ?_ (fun _ => ?_))
      | exact ih0 _ _ _ _
      | exact LeO.none _
      | refine LeO.ite ?_ ?_
      | refine LeO.bind ?_ (fun _ => ?_)
set_option maxHeartbeats 8000000 in
set_option maxRecDepth 100000 in
theorem laws_has.calls (k : Nat) (A0 : Option Addr) (c0 : Nat) (l0 : List Int) (a1 : Int) (r : Bool) (w : World) (hr0 : Kd.C (Kd.int .i64) w A0 l0.length l0) (hc0 : l0.length ≤ c0) (h : laws_has.f k l0 a1 = some r) :
    Calls Tryz.prog 13 #[.slice A0 l0.length c0, .int .i64 a1] w fun e w' => e = .returned (.bool r) ∧ Drawn0 w w' := by
  have HR0 := Aside0.mk hr0
  have HC0 := Aside0.mk hc0
  clear hr0 hc0
  have H : (laws_has.l0 k a1 l0 (l0.length : Int) 0) = some r := h
  clear h
  have H' := Aside0.mk H
  clear H
  go_enter Tryz.func13, Tryz.ntmps13
  go_wp2
  go_loopg [9] k (fun kq v9 w' => ∃ (x9_1 : Int), v9 = .int .i64 x9_1 ∧ Aside0 (laws_has.l0 kq a1 l0 (l0.length : Int) x9_1 = some r) ∧ Aside0 (kq ≤ k) ∧ Drawn0 w w')
  case atStart => exact ⟨(0), (by first | rfl | (simp; done) | (simp [*]; done)), H', ⟨Nat.le_refl _⟩, by repeat (first | exact Drawn0.refl _ | apply Drawn0.step)⟩
  case round =>
    clear H'
    try clear c1
    try clear p2
    obtain ⟨x9_1, rfl, HA, HK1, ⟨m1, rfl⟩⟩ := hrel
    cases gk with
    | zero => exact absurd HA.out (by simp [laws_has.l0])
    | succ k1 =>
      have H := HA.out
      clear HA
      simp only [laws_has.l0] at H
      by_cases c3 : x9_1 < (l0.length : Int)
      · rw [if_pos c3] at H
        have c3b0 : decide (x9_1 < (l0.length : Int)) = true := decide_eq_true c3
        clear c3
        by_cases c4 : 0 ≤ x9_1
        · rw [if_pos c4] at H
          have c4b0 : decide (0 ≤ x9_1) = true := decide_eq_true c4
          clear c4
          by_cases c5 : x9_1 < (l0.length : Int)
          · rw [if_pos c5] at H
            have c5b0 : decide (x9_1 < (l0.length : Int)) = true := decide_eq_true c5
            clear c5
            by_cases c6 : (rd l0 x9_1) = a1
            · rw [if_pos c6] at H
              have c6b0 : ((rd l0 x9_1) == a1) = true := beq_iff_eq.mpr c6
              have c6b1 : ((rd l0 x9_1) != a1) = false := bne_eq_false_iff_eq.mpr c6
              clear c6
              obtain rfl := Option.some.inj H
              have p198 : 0 ≤ (x9_1 : Int) := of_decide_eq_true (by first | (with_reducible assumption) | assumption)
              have q198 : x9_1 < (l0.length : Int) := of_decide_eq_true (by first | (with_reducible assumption) | assumption)
              obtain ⟨ad198, e198, hx198_0⟩ := Kd.at_int HR0.out x9_1 p198 q198
              cases e198
              replace p198 := eq_true p198
              replace q198 := eq_true q198
              go_wp2
              go_ret
              exact ⟨by first | rfl | (simp; done) | (simp [*]; done), by repeat (first | exact Drawn0.refl _ | apply Drawn0.step)⟩
            · rw [if_neg c6] at H
              have c6b0 : ((rd l0 x9_1) == a1) = false := beq_eq_false_iff_ne.mpr c6
              have c6b1 : ((rd l0 x9_1) != a1) = true := bne_iff_ne.mpr c6
              have H' := Aside0.mk H
              clear H
              have p198 : 0 ≤ (x9_1 : Int) := of_decide_eq_true (by first | (with_reducible assumption) | assumption)
              have q198 : x9_1 < (l0.length : Int) := of_decide_eq_true (by first | (with_reducible assumption) | assumption)
              obtain ⟨ad198, e198, hx198_0⟩ := Kd.at_int HR0.out x9_1 p198 q198
              cases e198
              replace p198 := eq_true p198
              replace q198 := eq_true q198
              go_wp2
              go_roundg k1
              case measure => have := HK1.out; omega
              case rel => exact ⟨(wrap64 (x9_1 + 1)), (by first | rfl | (simp; done) | (simp [*]; done)), H', ⟨by have := HK1.out; omega⟩, by repeat (first | exact Drawn0.refl _ | apply Drawn0.step)⟩
          · rw [if_neg c5] at H
            exact absurd H (by simp)
        · rw [if_neg c4] at H
          exact absurd H (by simp)
      · rw [if_neg c3] at H
        have c3b0 : decide (x9_1 < (l0.length : Int)) = false := decide_eq_false c3
        clear c3
        obtain rfl := Option.some.inj H
        go_wp2
        go_ret
        exact ⟨by first | rfl | (simp; done) | (simp [*]; done), by repeat (first | exact Drawn0.refl _ | apply Drawn0.step)⟩

end Go.Proofs.YtndlmckfacegeaaGreatDoor.QFnFolds
