-- Printed for this claim by a changed copy of the kit's print (the session's own; own contracts in place of some functions).
import Derived.Test.YtpmpcaahbhdiiaaQFnLedgerx0
namespace Go.Proofs.Ytpmpcaahbhdiiaa.QFnLedger
open Go.RowKit Go.Proofs.YtpmpcaahbhdiiaaW.PrintWords Go.Proofs.YtpmpcaahbhdiiaaW.PrintLast Go.Proofs.YtpmpcaahbhdiiaaW.PrintMore
attribute [local go_sem] max2_int min2_int max_two min_two max_three min_three max_four min_four   -- for this text's walks alone
set_option linter.unusedVariables false
set_option linter.unusedSimpArgs false

/-! ### impl_SheetsAfter: function 5 -/
--import Derived.Test.YtpmpcaahbhdiiaaLedgerCalls
--import Derived.Maps.RangeWalk
--import Derived.WalkSpells
--import Derived.Deep.RegionHeld3
--import Derived.Shelf.SlSortCmp.NoneTotal
def Try.laysSlF6_f26_ren : Go.Shelf.Ren := ⟨fun | 6 => 26 | 15 => 34 | 14 => 33 | 28 => 44 | 29 => 45 | 20 => 36 | 21 => 37 | 22 => 38 | 23 => 39 | 24 => 40 | 25 => 41 | 26 => 42 | 27 => 43 | 46 => 46 | 47 => 47 | 48 => 48 | 49 => 49 | 50 => 50 | 57 => 51 | n => n, fun | 22 => 23 | 24 => 27 | 25 => 52 | 3 => 3 | 39 => 59 | 0 => 0 | 53 => 72 | 55 => 74 | 4 => 4 | 46 => 66 | 45 => 65 | 50 => 60 | 5 => 5 | 9 => 9 | 66 => 75 | 70 => 79 | 76 => 81 | 77 => 82 | n => n, fun | n => n⟩
theorem Try.laysSlF6_f26 : Go.Proofs.SlLaysF.n6 Try.prog Try.laysSlF6_f26_ren := {
 mixed := by kernel_rfl
 f6 := ⟨Try.f26.name, by decide, Try.func26.trans (congrArg some (by kernel_rfl))⟩
 f14 := ⟨Try.f33.name, by decide, Try.func33.trans (congrArg some (by kernel_rfl))⟩
 f15 := Try.func34.trans (congrArg some (by kernel_rfl))
 f20 := ⟨Try.f36.name, by decide, Try.func36.trans (congrArg some (by kernel_rfl))⟩
 f21 := ⟨Try.f37.name, by decide, Try.func37.trans (congrArg some (by kernel_rfl))⟩
 f22 := ⟨Try.f38.name, by decide, Try.func38.trans (congrArg some (by kernel_rfl))⟩
 f23 := ⟨Try.f39.name, by decide, Try.func39.trans (congrArg some (by kernel_rfl))⟩
 f24 := ⟨Try.f40.name, by decide, Try.func40.trans (congrArg some (by kernel_rfl))⟩
 f25 := ⟨Try.f41.name, by decide, Try.func41.trans (congrArg some (by kernel_rfl))⟩
 f26 := ⟨Try.f42.name, by decide, Try.func42.trans (congrArg some (by kernel_rfl))⟩
 f27 := ⟨Try.f43.name, by decide, Try.func43.trans (congrArg some (by kernel_rfl))⟩
 f28 := Try.func44.trans (congrArg some (by kernel_rfl))
 f29 := Try.func45.trans (congrArg some (by kernel_rfl))
 f46 := ⟨Try.f46.name, by decide, Try.func46.trans (congrArg some (by kernel_rfl))⟩
 f47 := Try.func47.trans (congrArg some (by kernel_rfl))
 f48 := Try.func48.trans (congrArg some (by kernel_rfl))
 f49 := ⟨Try.f49.name, by decide, Try.func49.trans (congrArg some (by kernel_rfl))⟩
 f50 := ⟨Try.f50.name, by decide, Try.func50.trans (congrArg some (by kernel_rfl))⟩
 f57 := ⟨Try.f51.name, by decide, Try.func51.trans (congrArg some (by kernel_rfl))⟩
 t0 := Try.underlying0
 a0 := Try.isAgg0
 z0 := Try.sizeOf0
 v0 := Try.zeroValue0
 t3 := Try.underlying3
 a3 := Try.isAgg3
 z3 := Try.sizeOf3
 v3 := Try.zeroValue3
 t4 := Try.underlying4
 a4 := Try.isAgg4
 z4 := Try.sizeOf4
 v4 := Try.zeroValue4
 t5 := Try.underlying5
 a5 := Try.isAgg5
 z5 := Try.sizeOf5
 v5 := Try.zeroValue5
 t9 := Try.underlying9
 a9 := Try.isAgg9
 z9 := Try.sizeOf9
 v9 := Try.zeroValue9
 t22 := Try.underlying23
 a22 := Try.isAgg23
 z22 := Try.sizeOf23
 v22 := Try.zeroValue23
 a24 := Try.isAgg27
 z24 := Try.sizeOf27
 t25 := Try.underlying52
 a25 := Try.isAgg52
 z25 := Try.sizeOf52
 v25 := Try.zeroValue52
 t39 := Try.underlying59
 a39 := Try.isAgg59
 z39 := Try.sizeOf59
 v39 := Try.zeroValue59
 t45 := Try.underlying65
 a45 := Try.isAgg65
 z45 := Try.sizeOf65
 v45 := Try.zeroValue65
 t46 := Try.underlying66
 a46 := Try.isAgg66
 z46 := Try.sizeOf66
 v46 := Try.zeroValue66
 t50 := Try.underlying60
 a50 := Try.isAgg60
 z50 := Try.sizeOf60
 v50 := Try.zeroValue60
 t53 := Try.underlying72
 a53 := Try.isAgg72
 z53 := Try.sizeOf72
 v53 := Try.zeroValue72
 t55 := Try.underlying74
 a55 := Try.isAgg74
 z55 := Try.sizeOf74
 v55 := Try.zeroValue74
 t66 := Try.underlying75
 a66 := Try.isAgg75
 z66 := Try.sizeOf75
 v66 := Try.zeroValue75
 t70 := Try.underlying79
 a70 := Try.isAgg79
 z70 := Try.sizeOf79
 v70 := Try.zeroValue79
 t76 := Try.underlying81
 a76 := Try.isAgg81
 z76 := Try.sizeOf81
 v76 := Try.zeroValue81
 t77 := Try.underlying82
 a77 := Try.isAgg82
 z77 := Try.sizeOf82
 v77 := Try.zeroValue82 }
def Try.laysSlF06_f26_ren : Go.Shelf.Ren := ⟨fun | 6 => 26 | 15 => 34 | 14 => 33 | 28 => 44 | 29 => 45 | 20 => 36 | 21 => 37 | 22 => 38 | 23 => 39 | 24 => 40 | 25 => 41 | 26 => 42 | 27 => 43 | 46 => 46 | 47 => 47 | 48 => 48 | 49 => 49 | 50 => 50 | 57 => 51 | n => n, fun | 22 => 23 | 24 => 27 | 25 => 52 | 3 => 3 | 39 => 59 | 0 => 0 | 53 => 72 | 55 => 74 | 4 => 4 | 46 => 66 | 45 => 65 | 50 => 60 | 5 => 5 | 9 => 9 | 66 => 75 | 70 => 79 | 76 => 81 | 77 => 82 | n => n, fun | n => n⟩
theorem Try.laysSlF06_f26 : Go.Proofs.SlLaysF0.n6 Try.prog Try.laysSlF06_f26_ren := {
 mixed := by kernel_rfl
 f6 := ⟨Try.f26.name, by decide, Try.func26.trans (congrArg some (by kernel_rfl))⟩
 f14 := ⟨Try.f33.name, by decide, Try.func33.trans (congrArg some (by kernel_rfl))⟩
 f15 := Try.func34.trans (congrArg some (by kernel_rfl))
 f20 := ⟨Try.f36.name, by decide, Try.func36.trans (congrArg some (by kernel_rfl))⟩
 f21 := ⟨Try.f37.name, by decide, Try.func37.trans (congrArg some (by kernel_rfl))⟩
 f22 := ⟨Try.f38.name, by decide, Try.func38.trans (congrArg some (by kernel_rfl))⟩
 f23 := ⟨Try.f39.name, by decide, Try.func39.trans (congrArg some (by kernel_rfl))⟩
 f24 := ⟨Try.f40.name, by decide, Try.func40.trans (congrArg some (by kernel_rfl))⟩
 f25 := ⟨Try.f41.name, by decide, Try.func41.trans (congrArg some (by kernel_rfl))⟩
 f26 := ⟨Try.f42.name, by decide, Try.func42.trans (congrArg some (by kernel_rfl))⟩
 f27 := ⟨Try.f43.name, by decide, Try.func43.trans (congrArg some (by kernel_rfl))⟩
 f28 := Try.func44.trans (congrArg some (by kernel_rfl))
 f29 := Try.func45.trans (congrArg some (by kernel_rfl))
 f46 := ⟨Try.f46.name, by decide, Try.func46.trans (congrArg some (by kernel_rfl))⟩
 f47 := Try.func47.trans (congrArg some (by kernel_rfl))
 f48 := Try.func48.trans (congrArg some (by kernel_rfl))
 f49 := ⟨Try.f49.name, by decide, Try.func49.trans (congrArg some (by kernel_rfl))⟩
 f50 := ⟨Try.f50.name, by decide, Try.func50.trans (congrArg some (by kernel_rfl))⟩
 f57 := ⟨Try.f51.name, by decide, Try.func51.trans (congrArg some (by kernel_rfl))⟩
 t0 := Try.underlying0
 a0 := Try.isAgg0
 z0 := Try.sizeOf0
 v0 := Try.zeroValue0
 t3 := Try.underlying3
 a3 := Try.isAgg3
 z3 := Try.sizeOf3
 v3 := Try.zeroValue3
 t4 := Try.underlying4
 a4 := Try.isAgg4
 z4 := Try.sizeOf4
 v4 := Try.zeroValue4
 t5 := Try.underlying5
 a5 := Try.isAgg5
 z5 := Try.sizeOf5
 v5 := Try.zeroValue5
 t9 := Try.underlying9
 a9 := Try.isAgg9
 z9 := Try.sizeOf9
 v9 := Try.zeroValue9
 t22 := Try.underlying23
 a22 := Try.isAgg23
 z22 := Try.sizeOf23
 v22 := Try.zeroValue23
 t25 := Try.underlying52
 a25 := Try.isAgg52
 z25 := Try.sizeOf52
 v25 := Try.zeroValue52
 t39 := Try.underlying59
 a39 := Try.isAgg59
 z39 := Try.sizeOf59
 v39 := Try.zeroValue59
 t45 := Try.underlying65
 a45 := Try.isAgg65
 z45 := Try.sizeOf65
 v45 := Try.zeroValue65
 t46 := Try.underlying66
 a46 := Try.isAgg66
 z46 := Try.sizeOf66
 v46 := Try.zeroValue66
 t50 := Try.underlying60
 a50 := Try.isAgg60
 z50 := Try.sizeOf60
 v50 := Try.zeroValue60
 t53 := Try.underlying72
 a53 := Try.isAgg72
 z53 := Try.sizeOf72
 v53 := Try.zeroValue72
 t55 := Try.underlying74
 a55 := Try.isAgg74
 z55 := Try.sizeOf74
 v55 := Try.zeroValue74
 t66 := Try.underlying75
 a66 := Try.isAgg75
 z66 := Try.sizeOf75
 v66 := Try.zeroValue75
 t70 := Try.underlying79
 a70 := Try.isAgg79
 z70 := Try.sizeOf79
 v70 := Try.zeroValue79
 t76 := Try.underlying81
 a76 := Try.isAgg81
 z76 := Try.sizeOf81
 v76 := Try.zeroValue81
 t77 := Try.underlying82
 a77 := Try.isAgg82
 z77 := Try.sizeOf82
 v77 := Try.zeroValue82 }
/-! the row of rows behind the sort -/
def impl_SheetsAfter.encI (inner : List Value) (n : Nat) (i : Fin n) : Value := inner.getD i.val (.bool false)
section
open Go.Sort
theorem impl_SheetsAfter.holds {α : Type} [Inhabited α] (enc : α → Value) {w : World} {g : Nat} {cur : Array Value} {e : TypeId} {ss : List α} (hb : w.heap[g]? = some (.cells cur e (0, 0))) (ht : cur.toList.take ss.length = ss.map enc) : Go.Sort.Holds enc w g 0 ss.toArray := by
 intro j hj
 have hj' : j < ss.length := by simpa using hj
 refine ⟨?_, by simp [World.frozen?, hb]⟩
 have h1 : (cur.toList.take ss.length)[j]? = (ss.map enc)[j]? := by rw [ht]
 rw [List.getElem?_take_of_lt hj'] at h1
 simp only [World.cell?, hb, Nat.zero_add]
 simp only [Option.isSome_none, Bool.false_eq_true, if_false]
 rw [← Array.getElem?_toList, h1]
 simp [hj']
theorem impl_SheetsAfter.heap_put {α : Type} [Inhabited α] (enc : α → Value) {w : World} {g m : Nat} {os : Array Obj} {cur : Array Value} {e : TypeId} {fr : Nat × Nat} (d : Array α) (hb : w.heap[g]? = some (.cells cur e fr)) :
  (Go.Proofs.sortWorld enc w g 0 m d os).heap[g]? = some (.cells (Go.Sort.putCells enc 0 d cur) e fr) := by
 have hg : g < w.heap.size := (Array.getElem?_eq_some_iff.1 hb).1
 unfold Go.Proofs.sortWorld
 rw [Go.Sort.heap_grow_old _ _ (by simpa using hg)]
 simp [Go.Sort.putRow, Go.Sort.mapBlock, Go.Sort.ahead, Array.getElem?_modify, hb, Go.Sort.onCells]
theorem impl_SheetsAfter.grown_put {α : Type} [Inhabited α] (enc : α → Value) {w : World} {g m : Nat} {os : Array Obj} (d : Array α) : w.grownBy (Go.Proofs.sortWorld enc w g 0 m d os) (some g) := by
 unfold Go.Proofs.sortWorld
 refine ⟨rfl, rfl, rfl, by simp, fun k hk hne => ?_⟩
 rw [Go.Sort.heap_grow_old _ _ (by simpa using hk)]
 have : g ≠ k := fun e => hne (by rw [e])
 simp [Go.Sort.putRow, Go.Sort.mapBlock, Go.Sort.ahead, Array.getElem?_modify, this]
theorem impl_SheetsAfter.take_put {α : Type} [Inhabited α] (enc : α → Value) (cur : Array Value) (ts : List α) (h : ts.length ≤ cur.size) : (Go.Sort.putCells enc 0 ts.toArray cur).toList.take ts.length = ts.map enc := by
 apply List.ext_getElem?
 intro j
 by_cases hj : j < ts.length
 ·rw [List.getElem?_take_of_lt hj, Array.getElem?_toList]
  simp [Go.Sort.putCells, hj, show j < cur.size by omega]
 ·rw [List.getElem?_take_eq_none (by omega), List.getElem?_eq_none (by simp; omega)]
end
theorem impl_SheetsAfter.take1 {l : List Value} {j : Nat} {v : Value} (h : l[j]? = some v) : (l.drop j).take 1 = [v] := by
 obtain ⟨hj, rfl⟩ := List.getElem?_eq_some_iff.1 h
 rw [List.drop_eq_getElem_cons hj]
 rfl
theorem impl_SheetsAfter.nodup_at {α : Type} {l : List α} (h : l.Nodup) {i j : Nat} (hi : i < l.length) (hj : j < l.length) (e : l[i] = l[j]) : i = j := by
 have hp := List.pairwise_iff_getElem.1 h
 rcases Nat.lt_trichotomy i j with c | c | c
 ·exact absurd e (hp i j hi hj c)
 ·exact c
 ·exact absurd e.symm (hp j i hj hi c)
theorem impl_SheetsAfter.S_sorted {d : Kd (List Int)} (hsz : d.sz = 1) {e base g cap m : Nat} {os : Array Obj} {w : World} {xs : List (List Int)} {inner : List Value} {fo : Nat → Nat} {okk : Nat → Prop}
  (ho : w.ownsRow base e 1 (.slice (some ⟨g, 0, none⟩) xs.length cap) xs.length inner)
  (hr : Reps ((Kd.tag fo d).M w base (fun k => okk k ∧ some k ≠ (Value.slice (some ⟨g, 0, none⟩) xs.length cap).ownBlock)) d.sz xs.zipIdx inner)
  (hg : okk g) [Inhabited (Fin xs.length)] (σ : List (Fin xs.length)) (hσ : σ.Nodup) (hl : σ.length = xs.length) :
  Kd.S d e (Go.Proofs.sortWorld (impl_SheetsAfter.encI inner xs.length) w g 0 m σ.toArray os) base okk (.slice (some ⟨g, 0, none⟩) xs.length cap) (σ.map xs.get) := by
 have hgr := impl_SheetsAfter.grown_put (impl_SheetsAfter.encI inner xs.length) (w := w) (g := g) (m := m) (os := os) σ.toArray
 obtain ⟨hil, hx⟩ := ho
 rcases hx with ⟨h, _⟩ | ⟨g', cap', cur, hv, hbase, hb, h1, h2, h3, h4⟩
 ·cases h
 cases hv
 have own' : (Go.Proofs.sortWorld (impl_SheetsAfter.encI inner xs.length) w g 0 m σ.toArray os).ownsRow base e 1 (.slice (some ⟨g, 0, none⟩) xs.length cap) xs.length (σ.map (impl_SheetsAfter.encI inner xs.length)) :=
  ⟨by simp [hl], .inr ⟨g, cap, _, rfl, hbase, impl_SheetsAfter.heap_put _ _ hb, h1, h2, by simp [Go.Sort.putCells, h3], by rw [Nat.mul_one]; exact (congrArg (fun z => List.take z (Go.Sort.putCells (impl_SheetsAfter.encI inner xs.length) 0 σ.toArray cur).toList) hl.symm).trans (impl_SheetsAfter.take_put _ cur σ (by omega))⟩⟩
 obtain ⟨f, hf⟩ := Kd.reps_tag (d := d) (w := Go.Proofs.sortWorld (impl_SheetsAfter.encI inner xs.length) w g 0 m σ.toArray os) (base := base) (ok := fun k => okk k ∧ some k ≠ (Value.slice (some ⟨g, 0, none⟩) xs.length cap).ownBlock) (xs := σ.map xs.get) (inner := σ.map (impl_SheetsAfter.encI inner xs.length))
  (fun j k => (okk k ∧ some k ≠ (Value.slice (some ⟨g, 0, none⟩) xs.length cap).ownBlock) ∧ ∃ h : j < σ.length, fo k = σ[j].val)
  (fun i j k hi hj => by
   obtain ⟨_, h1, e1⟩ := hi
   obtain ⟨_, h2, e2⟩ := hj
   exact impl_SheetsAfter.nodup_at hσ h1 h2 (Fin.ext (e1.symm.trans e2)))
  (fun j k hk => hk.1) (by rw [List.length_map, List.length_map, hsz, Nat.mul_one])
  (fun j x hj => by
   rw [List.getElem?_map] at hj
   obtain ⟨i, hi, rfl⟩ := Option.map_eq_some_iff.1 hj
   obtain ⟨hjl, rfl⟩ := List.getElem?_eq_some_iff.1 hi
   have hx : xs[(σ[j]).val]? = some xs[(σ[j]).val] := List.getElem?_eq_getElem (σ[j]).isLt
   have hM : d.M w base _ (xs.get σ[j]) _ := hr.2 (σ[j]).val _ (Kd.zip_at hx)
   have hil' : inner.length = xs.length := by rw [hil, Nat.mul_one]
   have hc1 : inner[(σ[j]).val]? = some (impl_SheetsAfter.encI inner xs.length σ[j]) := by
    unfold impl_SheetsAfter.encI
    rw [List.getD_eq_getElem?_getD, List.getElem?_eq_getElem (by rw [hil']; exact (σ[j]).isLt)]
    rfl
   have hc2 : (σ.map (impl_SheetsAfter.encI inner xs.length))[j]? = some (impl_SheetsAfter.encI inner xs.length σ[j]) := by rw [List.getElem?_map, List.getElem?_eq_getElem hjl]; rfl
   rw [hsz, Nat.mul_one, impl_SheetsAfter.take1 hc1] at hM
   rw [hsz, Nat.mul_one, impl_SheetsAfter.take1 hc2]
   refine d.M_mono (fun k hk => ⟨hk.1, hjl, hk.2⟩) (Kd.M_step (d := d) hM (fun k hk hlt => hgr.block k hlt (fun e_ => hk.1.2 (by rw [e_]; rfl))))
   )
 refine ⟨f, fun k hk => ?_, σ.map (impl_SheetsAfter.encI inner xs.length), ?_, hf⟩
 ·have : g = k := by simpa [Value.ownBlock] using hk
  rw [← this]; exact hg
 ·rw [List.length_zipIdx, List.length_map, hl]
  rw [show (Kd.tag f d).sz = 1 from hsz]
  exact own'

/-! the comparison -/
set_option maxHeartbeats 4000000 in
set_option maxRecDepth 100000 in
theorem impl_SheetsAfter.cmp_calls (W : World) (a b : Addr) (ca cb : Nat) (x y : Int) (ha : W.cell? a = some (.int .i64 x)) (hb : W.cell? b = some (.int .i64 y)) :
  Calls Try.prog 27 #[.slice (some a) 2 ca, .slice (some b) 2 cb] W fun e w' => e = .returned (.int .i64 (wrap64 (x - y))) ∧ ∃ q, w' = W.drewN q := by
 go_enter Try.func27, Try.ntmps27
 go_wp2
 go_region_held3 (fun w' => w'.cell? a = some (.int .i64 x) ∧ w'.cell? b = some (.int .i64 y)) (go_keep) (fail)
 all_goals
  go_wp2
  go_ret
  exact ⟨by first | rfl | (simp [i64_w]; done) | (simp; exact i64_w _), ⟨_, rfl⟩⟩
def impl_SheetsAfter.row (v : Int → Int) (k : Int) : List Int := [k, v k]
theorem impl_SheetsAfter.row_at {W : World} {base : Nat} {ok : Nat → Prop} {v : Int → Int} {k : Int} {u : Value} (h : (Kd.slice 3 (Kd.int .i64)).M W base ok (impl_SheetsAfter.row v k) [u]) : ∃ a c, u = .slice (some a) 2 c ∧ W.cell? a = some (.int .i64 k) := by
 obtain ⟨A, c, hu, hl, hC⟩ := (Kd.slice 3 (Kd.int .i64)).K_of_M h
 obtain ⟨a, d0, rfl, _, hK0, hx0⟩ := Kd.C_get hC 0 0 (by omega) (by show (0 : Int) < ((2 : Nat) : Int); omega)
 refine ⟨a, c, by injection hu, ?_⟩
 have := hx0 0 (.int .i64 k) (by rw [show d0 = [.int .i64 k] from hK0]; rfl)
 simpa [Addr.add] using this
theorem impl_SheetsAfter.le_i {n : Nat} (num : Fin n → Int) : ∀ x y, ltOf (fun i j => num i - num j) x y = decide (num x < num y) := by
 intro x y
 show decide (num x - num y < 0) = decide (num x < num y)
 rw [Bool.eq_iff_iff, decide_eq_true_eq, decide_eq_true_eq]
 omega
theorem impl_SheetsAfter.ltOf_swo {n : Nat} (num : Fin n → Int) : Go.Sort.SWO (ltOf (fun i j => num i - num j)) := by
 refine ⟨fun x => ?_, fun x y z => ?_, fun x y z => ?_⟩
 ·rw [impl_SheetsAfter.le_i]; exact decide_eq_false (by omega)
 ·rw [impl_SheetsAfter.le_i, impl_SheetsAfter.le_i, impl_SheetsAfter.le_i, decide_eq_true_eq, decide_eq_true_eq, decide_eq_true_eq]; omega
 ·rw [impl_SheetsAfter.le_i, impl_SheetsAfter.le_i, impl_SheetsAfter.le_i, decide_eq_false_iff_not, decide_eq_false_iff_not, decide_eq_false_iff_not]; omega
theorem impl_SheetsAfter.flt {ks : List Int} {v : Int → Int} (i : Fin (ks.map (impl_SheetsAfter.row v)).length) : i.val < ks.length := Nat.lt_of_lt_of_eq i.isLt (List.length_map _)
set_option maxHeartbeats 4000000 in
theorem impl_SheetsAfter.sort_calls (w : World) (base g cap : Nat) (ks : List Int) (v : Int → Int) (hks : ∀ k ∈ ks, 1 ≤ k ∧ k ≤ 200) (hnd : ks.Nodup) (hne : 0 < ks.length) (hcap : ks.length ≤ 200)
  (hS : Kd.S (Kd.slice 3 (Kd.int .i64)) 27 w base (fun _ => True) (.slice (some ⟨g, 0, none⟩) (ks.map (impl_SheetsAfter.row v)).length cap) (ks.map (impl_SheetsAfter.row v))) :
  Calls Try.prog 26 #[.slice (some ⟨g, 0, none⟩) (ks.map (impl_SheetsAfter.row v)).length cap, .func (.func 27) #[] #[]] w fun e w' => e = .returned (.tuple #[]) ∧ w.grownBy w' (some g) ∧ ∃ ks2 : List Int, ks2.Perm ks ∧ ks2.Pairwise (· ≤ ·) ∧
   Kd.S (Kd.slice 3 (Kd.int .i64)) 27 w' base (fun _ => True) (.slice (some ⟨g, 0, none⟩) (ks2.map (impl_SheetsAfter.row v)).length cap) (ks2.map (impl_SheetsAfter.row v)) := by
 obtain ⟨fo, h0, inner, ho, hr⟩ := hS
 rw [List.length_zipIdx] at ho
 have ho' : w.ownsRow base 27 1 (.slice (some ⟨g, 0, none⟩) (ks.map (impl_SheetsAfter.row v)).length cap) (ks.map (impl_SheetsAfter.row v)).length inner := ho
 obtain ⟨n, hn⟩ : ∃ n, n = (ks.map (impl_SheetsAfter.row v)).length := ⟨_, rfl⟩
 have hnk : n = ks.length := by rw [hn, List.length_map]
 have inst : Inhabited (Fin (ks.map (impl_SheetsAfter.row v)).length) := ⟨⟨0, by rw [List.length_map]; exact hne⟩⟩
 obtain ⟨hil, hx⟩ := ho'
 rcases hx with ⟨hh, _⟩ | ⟨g', cap', cur, hv, hbase, hb, h1, h2, h3, h4⟩
 ·cases hh
 cases hv
 have hin : (List.finRange (ks.map (impl_SheetsAfter.row v)).length).map (impl_SheetsAfter.encI inner (ks.map (impl_SheetsAfter.row v)).length) = inner := by
  apply List.ext_getElem?
  intro j
  rw [List.getElem?_map]
  by_cases hj : j < (ks.map (impl_SheetsAfter.row v)).length
  ·rw [List.getElem?_eq_getElem (by rw [List.length_finRange]; exact hj), Option.map_some, List.getElem_finRange]
   unfold impl_SheetsAfter.encI
   rw [List.getElem?_eq_getElem (by rw [hil, Nat.mul_one]; exact hj), List.getD_eq_getElem?_getD]
   simp only [Fin.cast_mk]
   rw [List.getElem?_eq_getElem (by rw [hil, Nat.mul_one]; exact hj)]
   rfl
  ·rw [List.getElem?_eq_none (by rw [List.length_finRange]; omega), List.getElem?_eq_none (by rw [hil]; omega)]
   rfl
 have hH := impl_SheetsAfter.holds (impl_SheetsAfter.encI inner (ks.map (impl_SheetsAfter.row v)).length) (ss := List.finRange (ks.map (impl_SheetsAfter.row v)).length) hb (by rw [hin, List.length_finRange]; rw [Nat.mul_one] at h4; exact h4)
 -- what an index' value is, in every world of the sort's
 have hat : ∀ (m : Nat) (os : Array Obj) (dk : Array (Fin (ks.map (impl_SheetsAfter.row v)).length)) (i : Fin (ks.map (impl_SheetsAfter.row v)).length), ∃ a c, impl_SheetsAfter.encI inner (ks.map (impl_SheetsAfter.row v)).length i = .slice (some a) 2 c ∧ (sortWorld (impl_SheetsAfter.encI inner (ks.map (impl_SheetsAfter.row v)).length) w g 0 m dk os).cell? a = some (.int .i64 (ks.getD i.val 0)) := by
  intro m os dk i
  have hi : i.val < ks.length := impl_SheetsAfter.flt i
  have hx : (ks.map (impl_SheetsAfter.row v))[i.val]? = some (impl_SheetsAfter.row v (ks.getD i.val 0)) := by rw [List.getElem?_map, List.getElem?_eq_getElem hi, List.getD_eq_getElem?_getD, List.getElem?_eq_getElem hi]; rfl
  have hM : (Kd.slice 3 (Kd.int .i64)).M w base _ (impl_SheetsAfter.row v (ks.getD i.val 0)) _ := hr.2 i.val _ (Kd.zip_at hx)
  have hc1 : inner[i.val]? = some (impl_SheetsAfter.encI inner (ks.map (impl_SheetsAfter.row v)).length i) := by
   unfold impl_SheetsAfter.encI
   rw [List.getD_eq_getElem?_getD, List.getElem?_eq_getElem (by rw [hil, Nat.mul_one]; exact i.isLt)]
   rfl
  have hM2 : (Kd.slice 3 (Kd.int .i64)).M w base (fun k => (True ∧ some k ≠ (Value.slice (some ⟨g, 0, none⟩) (ks.map (impl_SheetsAfter.row v)).length cap).ownBlock) ∧ fo k = i.val) (impl_SheetsAfter.row v (ks.getD i.val 0)) ((inner.drop (i.val * 1)).take 1) := hM
  rw [Nat.mul_one, impl_SheetsAfter.take1 hc1] at hM2
  have hgr := impl_SheetsAfter.grown_put (impl_SheetsAfter.encI inner (ks.map (impl_SheetsAfter.row v)).length) (w := w) (g := g) (m := m) (os := os) dk
  exact impl_SheetsAfter.row_at (Kd.M_step hM2 (fun k hk hlt => hgr.block k hlt (fun e_ => hk.1.2 (by rw [e_]; rfl))))
 have h1c : OneCell (impl_SheetsAfter.encI inner (ks.map (impl_SheetsAfter.row v)).length) := fun i => by
  obtain ⟨a, c, e, _⟩ := hat 0 #[] #[] i
  rw [e]
  rfl
 have hcmp : CmpReads Try.prog 27 #[] (impl_SheetsAfter.encI inner (ks.map (impl_SheetsAfter.row v)).length) (fun i j => ks.getD i.val 0 - ks.getD j.val 0) g 0 (List.finRange (ks.map (impl_SheetsAfter.row v)).length).toArray.size w := by
  intro m os dk _ x y
  obtain ⟨a, ca, ea, ha⟩ := hat m os dk x
  obtain ⟨b, cb, eb, hb⟩ := hat m os dk y
  rw [ea, eb]
  have hx : 1 ≤ ks.getD x.val 0 ∧ ks.getD x.val 0 ≤ 200 := by
   have hi : x.val < ks.length := impl_SheetsAfter.flt x
   rw [List.getD_eq_getElem?_getD, List.getElem?_eq_getElem hi]
   exact hks _ (List.getElem_mem hi)
  have hy : 1 ≤ ks.getD y.val 0 ∧ ks.getD y.val 0 ≤ 200 := by
   have hi : y.val < ks.length := impl_SheetsAfter.flt y
   rw [List.getD_eq_getElem?_getD, List.getElem?_eq_getElem hi]
   exact hks _ (List.getElem_mem hi)
  have ew : wrap64 (ks.getD x.val 0 - ks.getD y.val 0) = ks.getD x.val 0 - ks.getD y.val 0 := by unfold wrap64; omega
  have h := impl_SheetsAfter.cmp_calls _ a b ca cb _ _ ha hb
  rw [ew] at h
  exact h
 have hT : ∀ x y : Fin (ks.map (impl_SheetsAfter.row v)).length, ltOf (fun i j : Fin (ks.map (impl_SheetsAfter.row v)).length => ks.getD i.val 0 - ks.getD j.val 0) x y = false → ltOf (fun i j : Fin (ks.map (impl_SheetsAfter.row v)).length => ks.getD i.val 0 - ks.getD j.val 0) y x = false → x = y := by
  intro x y h1 h2
  rw [impl_SheetsAfter.le_i (fun i : Fin (ks.map (impl_SheetsAfter.row v)).length => ks.getD i.val 0), decide_eq_false_iff_not] at h1 h2
  have hx : x.val < ks.length := impl_SheetsAfter.flt x
  have hy : y.val < ks.length := impl_SheetsAfter.flt y
  rw [List.getD_eq_getElem?_getD, List.getD_eq_getElem?_getD, List.getElem?_eq_getElem hx, List.getElem?_eq_getElem hy] at h1 h2
  simp only [Option.getD_some] at h1 h2
  exact Fin.ext (impl_SheetsAfter.nodup_at hnd hx hy (by omega))
 have eg : ∀ args w, (callFunc 27 args).run Try.prog w = .ok (.enter 27 args) w := enters_of Try.func27 (by kernel_rfl) rfl
 have hd : (List.finRange (ks.map (impl_SheetsAfter.row v)).length).toArray.size = (ks.map (impl_SheetsAfter.row v)).length := by simp
 have hc := Any.slices_SortFunc_total Try.laysSlF6_f26 (impl_SheetsAfter.encI inner (ks.map (impl_SheetsAfter.row v)).length) h1c (fun i j => ks.getD i.val 0 - ks.getD j.val 0) (impl_SheetsAfter.ltOf_swo (fun i : Fin (ks.map (impl_SheetsAfter.row v)).length => ks.getD i.val 0)) 27 #[] g 0 cap (List.finRange (ks.map (impl_SheetsAfter.row v)).length).toArray w eg hcmp.lays hH (Array.getElem?_eq_some_iff.1 hb).1 (by rw [hd, List.length_map]; omega) hT
 rw [hd] at hc
 refine Calls.mono (P := Try.prog) (f := 26) hc ?_
 rintro e w' ⟨he, m, os, rfl⟩
 obtain ⟨σ, hσ⟩ : ∃ σ, σ = ((List.finRange (ks.map (impl_SheetsAfter.row v)).length).toArray.toList.mergeSort fun x y => !(ltOf (fun i j : Fin (ks.map (impl_SheetsAfter.row v)).length => ks.getD i.val 0 - ks.getD j.val 0)) y x) := ⟨_, rfl⟩
 rw [← hσ]
 have hp : σ.Perm (List.finRange (ks.map (impl_SheetsAfter.row v)).length) := by rw [hσ]; exact List.mergeSort_perm _ _
 have hl : σ.length = (ks.map (impl_SheetsAfter.row v)).length := by rw [hp.length_eq, List.length_finRange]
 have hnd2 : σ.Nodup := hp.nodup_iff.2 (List.nodup_finRange _)
 have hpw : σ.Pairwise (fun x y => (!(ltOf (fun i j : Fin (ks.map (impl_SheetsAfter.row v)).length => ks.getD i.val 0 - ks.getD j.val 0)) y x) = true) := by
  rw [hσ]
  refine List.pairwise_mergeSort ?_ ?_ _
  ·intro a b c h1 h2
   rw [impl_SheetsAfter.le_i (fun i : Fin (ks.map (impl_SheetsAfter.row v)).length => ks.getD i.val 0)] at h1 h2 ⊢
   simp only [Bool.not_eq_true', decide_eq_false_iff_not] at h1 h2 ⊢
   omega
  ·intro a b
   rw [impl_SheetsAfter.le_i (fun i : Fin (ks.map (impl_SheetsAfter.row v)).length => ks.getD i.val 0), impl_SheetsAfter.le_i (fun i : Fin (ks.map (impl_SheetsAfter.row v)).length => ks.getD i.val 0)]
   simp only [Bool.or_eq_true, Bool.not_eq_true', decide_eq_false_iff_not]
   omega
 have hks2 : (List.finRange (ks.map (impl_SheetsAfter.row v)).length).map (fun i => ks.getD i.val 0) = ks := by
  apply List.ext_getElem?
  intro j
  rw [List.getElem?_map]
  by_cases hj : j < (ks.map (impl_SheetsAfter.row v)).length
  ·have hj' : j < ks.length := by rw [List.length_map] at hj; exact hj
   rw [List.getElem?_eq_getElem (by rw [List.length_finRange]; exact hj), Option.map_some, List.getElem_finRange, List.getElem?_eq_getElem hj', List.getD_eq_getElem?_getD]
   simp only [Fin.cast_mk]
   rw [List.getElem?_eq_getElem hj']
   rfl
  ·rw [List.getElem?_eq_none (by rw [List.length_finRange]; omega), List.getElem?_eq_none (by rw [List.length_map] at hj; omega)]
   rfl
 have hrow : (σ.map fun i => ks.getD i.val 0).map (impl_SheetsAfter.row v) = σ.map (ks.map (impl_SheetsAfter.row v)).get := by
  rw [List.map_map]
  apply List.map_congr_left
  intro i _
  have hi : i.val < ks.length := impl_SheetsAfter.flt i
  simp only [Function.comp_apply, List.get_eq_getElem, List.getElem_map]
  rw [List.getD_eq_getElem?_getD, List.getElem?_eq_getElem hi]
  rfl
 refine ⟨he, impl_SheetsAfter.grown_put _ _, σ.map (fun i => ks.getD i.val 0), ?_, ?_, ?_⟩
 ·have := hp.map (fun i => ks.getD i.val 0)
  rw [hks2] at this
  exact this
 ·rw [List.pairwise_map]
  exact hpw.imp (fun {a b} h => by
   rw [impl_SheetsAfter.le_i (fun i : Fin (ks.map (impl_SheetsAfter.row v)).length => ks.getD i.val 0)] at h
   simp only [Bool.not_eq_true', decide_eq_false_iff_not] at h
   omega)
 ·have el : ((σ.map fun i => ks.getD i.val 0).map (impl_SheetsAfter.row v)).length = (ks.map (impl_SheetsAfter.row v)).length := by rw [List.length_map, List.length_map, hl]
  rw [el, hrow]
  exact impl_SheetsAfter.S_sorted (d := Kd.slice 3 (Kd.int .i64)) rfl ho hr trivial σ hnd2 hl
/-! the sheets, collected in whatever order and sorted -/
def impl_SheetsAfter.Sup (A : Int → Option Int) : Prop := ∀ j, (A j).isSome = true → 1 ≤ j ∧ j ≤ 200
theorem impl_SheetsAfter.sup_upd {A : Int → Option Int} (h : impl_SheetsAfter.Sup A) {m : Int} (v : Option Int) (hm : 1 ≤ m ∧ m ≤ 200) : impl_SheetsAfter.Sup (Ledger.upd A m v) := by
 intro j hj
 by_cases e : j = m
 ·rw [e]; exact hm
 ·rw [Ledger.upd_other _ _ e] at hj; exact h j hj
theorem impl_SheetsAfter.addf_sup {s s' : Ledger.Bk} {e : List Int} (h : impl_SheetsAfter.Sup s.A) (ha : Ledger.addf s e = some (some s')) : impl_SheetsAfter.Sup s'.A := by
 unfold Ledger.addf at ha
 by_cases c1 : e.length = 3
 case neg => rw [if_neg c1] at ha; cases ha
 rw [if_pos c1] at ha
 by_cases c2 : 1 ≤ rd e 1 ∧ rd e 1 ≤ 99
 case neg => rw [if_neg c2] at ha; cases ha
 rw [if_pos c2] at ha
 have hm : 1 ≤ rd e 1 ∧ rd e 1 ≤ 200 := by omega
 by_cases c3 : rd e 0 ≠ 5 ∧ ¬ (1 ≤ rd e 2 ∧ rd e 2 ≤ 1000)
 case pos => rw [if_pos c3] at ha; cases ha
 rw [if_neg c3] at ha
 by_cases c4 : rd e 2 < 1
 case pos => rw [if_pos c4] at ha; cases ha
 rw [if_neg c4] at ha
 by_cases c5 : (s.A (rd e 1)).isSome = (rd e 0 == 1)
 case pos => rw [if_pos c5] at ha; cases ha
 rw [if_neg c5] at ha
 by_cases e1 : rd e 0 = 1
 ·rw [if_pos e1] at ha
  by_cases c8 : s.U (rd e 1) = true
  ·rw [if_pos c8] at ha; cases ha
  ·rw [if_neg c8] at ha; cases ha; exact impl_SheetsAfter.sup_upd h _ hm
 rw [if_neg e1] at ha
 by_cases e2 : rd e 0 = 2
 ·rw [if_pos e2] at ha
  by_cases c8 : rd e 2 ≥ (s.A (rd e 1)).getD 0
  ·rw [if_pos c8] at ha; cases ha
  ·rw [if_neg c8] at ha; cases ha; exact impl_SheetsAfter.sup_upd h _ hm
 rw [if_neg e2] at ha
 by_cases e3 : rd e 0 = 3
 ·rw [if_pos e3] at ha
  by_cases c8 : rd e 2 ≥ (s.A (rd e 1)).getD 0
  ·rw [if_pos c8] at ha; cases ha
  ·rw [if_neg c8, Option.bind_eq_some_iff] at ha
   obtain ⟨n, hn, ha⟩ := ha
   have hn' := Ledger.nxtf_ok _ _ _ _ hn
   by_cases c9 : s.A n = none
   ·rw [if_pos c9] at ha; cases ha; exact impl_SheetsAfter.sup_upd (impl_SheetsAfter.sup_upd h _ hm) _ ⟨by omega, by omega⟩
   ·rw [if_neg c9] at ha; cases ha
 rw [if_neg e3] at ha
 by_cases e4 : rd e 0 = 4
 ·rw [if_pos e4] at ha
  by_cases c8 : (s.A (rd e 2)).isSome = false
  ·rw [if_pos c8] at ha; cases ha
  ·rw [if_neg c8] at ha
   by_cases c9 : rd e 2 = rd e 1
   ·rw [if_pos c9] at ha; cases ha
   ·rw [if_neg c9] at ha; cases ha
    refine impl_SheetsAfter.sup_upd (impl_SheetsAfter.sup_upd h _ (h _ ?_)) _ hm
    cases hh : (s.A (rd e 2)).isSome
    ·exact absurd hh c8
    ·rfl
 rw [if_neg e4] at ha
 by_cases e5 : rd e 0 = 5
 ·rw [if_pos e5] at ha
  by_cases c8 : rd e 2 ≠ (s.A (rd e 1)).getD 0
  ·rw [if_pos c8] at ha; cases ha
  ·rw [if_neg c8] at ha; cases ha; exact impl_SheetsAfter.sup_upd h _ hm
 rw [if_neg e5] at ha
 cases ha
theorem impl_SheetsAfter.perfl_sup (l0 : List (List Int)) : ∀ (k : Nat) (i : Int) (s s' : Ledger.Bk) (z : Int), impl_SheetsAfter.Sup s.A → Ledger.perfl l0 k i s = some (some s', z) → impl_SheetsAfter.Sup s'.A
 | 0, _, _, _, _, _, h => by simp [Ledger.perfl] at h
 | k + 1, i, s, s', z, hs, h => by
  rw [Ledger.perfl] at h
  split at h
  ·split at h
   ·cases h
   ·rw [Option.bind_eq_some_iff] at h
    obtain ⟨o, ho, h⟩ := h
    cases o with
    | none => cases h
    | some s1 => exact impl_SheetsAfter.perfl_sup l0 k (i + 1) s1 s' z (impl_SheetsAfter.addf_sup hs ho) h
  ·cases h; exact hs
def impl_SheetsAfter.keys (A : Int → Option Int) : List Int := ((List.range 201).map (fun k : Nat => (k : Int))).filter (fun k => (A k).isSome)
def impl_SheetsAfter.sheetsOf (A : Int → Option Int) : List (List Int) := (impl_SheetsAfter.keys A).map (impl_SheetsAfter.row fun k => (A k).getD 0)
theorem impl_SheetsAfter.keys_sorted (A : Int → Option Int) : (impl_SheetsAfter.keys A).Pairwise (· < ·) := by
 unfold impl_SheetsAfter.keys
 refine List.Pairwise.filter _ ?_
 rw [List.pairwise_map]
 exact List.pairwise_lt_range.imp (fun h => by omega)
theorem impl_SheetsAfter.keys_mem {A : Int → Option Int} (h : impl_SheetsAfter.Sup A) (k : Int) : k ∈ impl_SheetsAfter.keys A ↔ (A k).isSome = true := by
 unfold impl_SheetsAfter.keys
 rw [List.mem_filter, List.mem_map]
 constructor
 ·exact fun h => h.2
 ·intro hk
  have := h k hk
  exact ⟨⟨k.toNat, List.mem_range.2 (by omega), by omega⟩, hk⟩
theorem impl_SheetsAfter.keys_eq {A : Int → Option Int} (h : impl_SheetsAfter.Sup A) {ks : List Int} (hnd : ks.Nodup) (hs : ks.Pairwise (· ≤ ·)) (hm : ∀ k, k ∈ ks ↔ (A k).isSome = true) : ks = impl_SheetsAfter.keys A := by
 have hnd2 : (impl_SheetsAfter.keys A).Nodup := (impl_SheetsAfter.keys_sorted A).imp (fun h => by omega)
 have hp : ks.Perm (impl_SheetsAfter.keys A) := (List.perm_ext_iff_of_nodup hnd hnd2).2 (fun k => (hm k).trans (impl_SheetsAfter.keys_mem h k).symm)
 exact List.Perm.eq_of_pairwise (le := (· ≤ ·)) (fun a b _ _ h1 h2 => by omega) hs ((impl_SheetsAfter.keys_sorted A).imp (fun h => by omega)) hp
theorem impl_SheetsAfter.sort_calls2 (w : World) (base g cap : Nat) (ks : List Int) (v : Int → Int) (hks : ∀ k ∈ ks, 1 ≤ k ∧ k ≤ 200) (hnd : ks.Nodup) (hne : 0 < ks.length) (hcap : ks.length ≤ 200)
  (hS : Kd.S (Kd.slice 3 (Kd.int .i64)) 27 w base (fun _ => True) (.slice (some ⟨g, 0, none⟩) (ks.map (impl_SheetsAfter.row v)).length cap) (ks.map (impl_SheetsAfter.row v))) :
  Calls Try.prog 26 #[.slice (some ⟨g, 0, none⟩) ks.length cap, .func (.func 27) #[] #[]] w fun e w' => e = .returned (.tuple #[]) ∧ w.grownBy w' (some g) ∧ ∃ ks2 : List Int, ks2.Perm ks ∧ ks2.Pairwise (· ≤ ·) ∧
   Kd.S (Kd.slice 3 (Kd.int .i64)) 27 w' base (fun _ => True) (.slice (some ⟨g, 0, none⟩) (ks2.map (impl_SheetsAfter.row v)).length cap) (ks2.map (impl_SheetsAfter.row v)) := by
 have h := impl_SheetsAfter.sort_calls w base g cap ks v hks hnd hne hcap hS
 rw [List.length_map] at h
 exact h
theorem impl_SheetsAfter.inf : (Try.prog.info? 27).map (fun i => (i.zero, i.size, i.bytes)) = some (some (.slice none 0 0), 1, 24) := by kernel_rfl
theorem impl_SheetsAfter.rng_map {W : World} {b r n cnt : Nat} {D : DataW Unit} {left : Lit → Bool} {R : Value → Option (DataW Unit × List MemPlace)} {k : TypeId} (h : W.ranges Try.prog k R b r n D left cnt) : W.heap[b]? = some (.map (h.choose) (h.choose_spec.choose)) := h.choose_spec.choose_spec.choose_spec.choose_spec.choose_spec.1
theorem impl_SheetsAfter.rng_iter {W : World} {b r n cnt : Nat} {D : DataW Unit} {left : Lit → Bool} {R : Value → Option (DataW Unit × List MemPlace)} {k : TypeId} (h : W.ranges Try.prog k R b r n D left cnt) : ∃ x1 x2 x3 x4, W.heap[r]? = some (.mapIter x1 x2 x3 x4) := by
 obtain ⟨es, clock, since, seen, c0, hb, _, _, _, hr, _⟩ := h
 exact ⟨_, _, _, _, hr⟩
theorem impl_SheetsAfter.ne_own {W : World} {b e : Nat} {o : Obj} {v : Value} (hb : W.heap[b]? = some o) (ho : ∀ cs t, o = .cells cs t (0, 0) → False) (hv : ∀ k, v.ownBlock = some k → ∃ cells, W.heap[k]? = some (.cells cells e (0, 0))) : some b ≠ v.ownBlock := fun e_ => by
 obtain ⟨cells, h⟩ := hv b e_.symm
 rw [hb] at h
 injection h with h
 exact ho _ _ h
theorem impl_SheetsAfter.S_iter {d : Kd (List Int)} {e r base : Nat} {W W1 : World} {v : Value} {xs : List (List Int)} (h : Kd.S d e W base (fun _ => True) v xs) (hr : ∃ x1 x2 x3 x4, W.heap[r]? = some (.mapIter x1 x2 x3 x4)) (hg : W.grownBy W1 (some r)) : Kd.S d e W1 base (fun _ => True) v xs := by
 obtain ⟨x1, x2, x3, x4, hr⟩ := hr
 refine Kd.S_mono (Kd.S_step (Kd.S_bound h) (fun k hk hlt => hg.block k hlt (fun e_ => ?_))) (fun _ _ => trivial)
 injection e_ with e_
 obtain ⟨_, _, _, q, _, cells, hc⟩ := hk
 rw [e_, hr] at hc
 cases hc
set_option maxHeartbeats 16000000 in
set_option maxRecDepth 100000 in
theorem impl_SheetsAfter.sheets_calls (w : World) (p ba : Nat) (c1 c2 c3 c4 : Value) (n : Nat) (A : Int → Option Int) (hp : w.heap[p]? = some (.cells #[.map (some ba), c1, c2, c3, c4] 44 (0, 0))) (hA : Ledger.AMap w ba n A) (hn : n ≤ 200) (hS : impl_SheetsAfter.Sup A) :
  Calls Try.prog 16 #[.pointer (some ⟨p, 0, none⟩)] w fun e w' => ∃ v, e = .returned v ∧ Kd.S (Kd.slice 3 (Kd.int .i64)) 27 w' w.heap.size (fun _ => True) v (impl_SheetsAfter.sheetsOf A) ∧ Below w.heap.size w w' := by
 obtain ⟨D, hown, hD⟩ := hA
 have hsz : Maps.size D ≤ 200 := by
  obtain ⟨es, clock, _, _, hle, hDe⟩ := hown
  rw [hDe]
  show (List.foldr DataW.insert [] _).length ≤ 200
  rw [(Go.WideShapes.sorted_perm _).length_eq, List.length_map, Array.length_toList]
  omega
 have HP := zm1 hp
 have HD := zm1 hD
 have HOW := zm1 hown
 have HN := zm1 hsz
 have SUP := zm1 hS
 have HB := zm1 (Below.refl w.heap.size w)
 have hz0 : w.cell? ⟨p, 0, none⟩ = some (.map (some ba)) := (blk_cell hp 0).trans rfl
 clear hp hD hown hn hsz hS
 go_enter Try.func16, Try.ntmps16
 go_upto_region 2 with (first | ((with_reducible refine gate_dst (N := 6) rfl ?_); refine Kd.S_lit (Kd.slice 3 (Kd.int .i64)) _ 27 ?hg (N := 6) ?hd (xs := ([] : List (List Int))) (inner := []) (ok := fun _ => True) (okp := fun _ => True) ?hr ?hp (fun _ hk => hk) trivial (Below.refl _ _) (Nat.le_refl _) (by simp) ?_; (case hd => rfl); (case hg => rfl); (case hr => first | (go_simp; done) | (go_simp; rfl)); (case hp => exact (Reps.none _ _)); intro v6 w6 ho hb hg_ hnew_; clear hg_ hnew_; have HO := zm1 (Kd.S_lower ho (Nat.le_refl _)); have HB6 := zm1 hb; clear ho hb))
 have nz0 := (HB6.out.cell (zl hz0)).trans hz0
 have nHP := zm1 (blk_below HP.out HB6.out)
 have nHOW := zm1 (HOW.out.kept (row := none) ⟨HB6.out.os, HB6.out.tape, HB6.out.output, HB6.out.size, fun k hk _ => HB6.out.block k hk⟩ (by simp))
 clear hz0 HP HOW HB
 have hz0 := nz0
 have HP := nHP
 have HOW := nHOW
 have HB := HB6
 have HB6S := zm1 (show w.heap.size ≤ w6.heap.size from HB6.out.size)
 clear nz0 nHP nHOW HB6
 go_wp2_with (first | (at_range; refine wpList_range_own _ rfl _ 41 rfl 3 3 Ledger.K3 Try.underlying41 _ ba n _ rfl HOW.out ?_; intro w3 hrg0 hg0 hs0; have HRG := zm1 hrg0; have HG := zm1 hg0; clear hrg0 hg0 hs0))
 go_frame
 go_loopg [3] (Maps.size D) (fun kq v3 wr => ∃ (left : Lit → Bool) (ks : List Int), Aside0 (ks.Nodup) ∧ Aside0 (∀ k, k ∈ ks ↔ (left (.int .i64 k) = false ∧ (A k).isSome = true)) ∧ Aside0 (ks.length + kq ≤ 200) ∧ Aside0 (∀ kl, left kl = true → Maps.has D kl = true) ∧ Aside0 (wr.ranges Try.prog 3 (plainElem Try.prog 3) ba w6.heap.size n D left kq) ∧ Aside0 (Kd.S (Kd.slice 3 (Kd.int .i64)) 27 wr w.heap.size (fun _ => True) v3 (ks.map (impl_SheetsAfter.row fun k => (A k).getD 0))) ∧ Aside0 (Below w.heap.size w wr))
 case atStart =>
  exact ⟨Maps.has D, [], ⟨List.nodup_nil⟩, ⟨fun k => by rw [(HD.out k).1]; cases A k <;> simp⟩, ⟨by have := HN.out; simp; exact this⟩, ⟨fun _ h => h⟩, HRG, ⟨Kd.S_grown HO.out HG.out (fun k _ => by simp)⟩, ⟨HB.out.grown HG.out HB.out.size (fun k hk => by cases hk)⟩⟩
 case round =>
  clear HRG HG hz0 HO HB
  obtain ⟨left, ks, KN, KM, KL, HL, HRG, HO, HB⟩ := hrel
  go_wp2_with (first | (at_next; refine wpList_next_ranges_ii _ rfl _ rfl 3 3 .i64 .i64 Ledger.K3 Try.underlying3 Try.underlying3 ba w6.heap.size n _ _ _ rfl HRG.out ?_ ?_))
  ·intro _ hl0
   have KE := zm1 (show ∀ k, k ∈ ks ↔ (A k).isSome = true from fun k => (KM.out k).trans ⟨fun h => h.2, fun h => ⟨hl0 _, h⟩⟩)
   clear hl0
   have KR := zm1 (show ∀ k ∈ ks, 1 ≤ k ∧ k ≤ 200 from fun k hk => SUP.out k ((KE.out k).1 hk))
   by_cases h0 : ks = []
   ·subst h0
    have e0 : impl_SheetsAfter.keys A = [] := (impl_SheetsAfter.keys_eq SUP.out KN.out List.Pairwise.nil KE.out).symm
    obtain ⟨A3, c3_, e3⟩ := Kd.S_slice HO.out
    subst e3
    have ES := zm1 (show impl_SheetsAfter.sheetsOf A = [] by unfold impl_SheetsAfter.sheetsOf; rw [e0]; rfl)
    clear e0
    go_wp2_with (first | (go_at_call 26; refine (AnyF.slices_SortFunc_none Try.laysSlF06_f26 A3 c3_ _ _).mono ?_; rintro e w8 ⟨rfl, rfl⟩))
    go_ret
    exact ⟨_, rfl, by rw [ES.out]; exact HO.out, by repeat (first | exact HB.out | apply pw_below_drewN | apply below_drew1)⟩
   ·have hpos : 0 < ks.length := List.length_pos_iff.2 h0
    obtain ⟨g, cap, e3, hgb, hgl, _⟩ := Kd.S_form HO.out (by rw [List.length_map]; exact hpos)
    subst e3
    have GB := zm1 hgb
    have HPOS := zm1 hpos
    clear h0 hpos hgb hgl
    go_wp2_with (first | (go_at_call 26; (with_reducible refine (impl_SheetsAfter.sort_calls2 _ w.heap.size g cap ks (fun k => (A k).getD 0) KR.out KN.out HPOS.out (Nat.le_trans (Nat.le_add_right _ _) KL.out) HO.out).mono ?_); rintro e w8 ⟨rfl, hg, ks2, hp, hs, ho⟩; have HG8 := zm1 hg; have HP8 := zm1 hp; have HS8 := zm1 hs; have HO8 := zm1 ho; clear hg hp hs ho))
    have ES := zm1 (show ks2 = impl_SheetsAfter.keys A from impl_SheetsAfter.keys_eq SUP.out (HP8.out.nodup_iff.2 KN.out) HS8.out (fun k => (HP8.out.mem_iff).trans (KE.out k)))
    have EL := zm1 (show ks2.length = ks.length from HP8.out.length_eq)
    have HB8 := zm1 (HB.out.grown HG8.out HB.out.size (fun k hk => by injection hk with hk; have := GB.out; omega))
    go_ret
    refine ⟨_, rfl, ?_, by repeat (first | exact HB8.out | apply pw_below_drewN | apply below_drew1)⟩
    have ho := HO8.out
    rw [List.length_map, EL.out] at ho
    unfold impl_SheetsAfter.sheetsOf
    rw [← ES.out]
    simpa using ho
  ·intro x c w1 cnt1 hwx hwc hlx hat hrg1 hlt hg1 hs1 hen
   have HR1 := zm1 hrg1
   have HG1 := zm1 hg1
   have HLT := zm1 hlt
   have HLX := zm1 hlx
   have hsome : (A x).isSome = true := by rw [← (HD.out x).1]; exact HL.out _ hlx
   have hc : (A x).getD 0 = c := by
    have h1 := hat (.lit (.int .i64 0))
    rw [(HD.out x).2] at h1
    injection h1 with h1
    injection h1
   have XS := zm1 hsome
   have XC := zm1 hc
   obtain ⟨y, hy⟩ : ∃ y, y = impl_SheetsAfter.row (fun k => (A k).getD 0) x := ⟨_, rfl⟩
   have hyl : y = [x, c] := by rw [hy]; show [x, (A x).getD 0] = [x, c]; rw [hc]
   have YE := zm1 hy
   have YL := zm1 hyl
   have nHO := zm1 (impl_SheetsAfter.S_iter HO.out (impl_SheetsAfter.rng_iter HRG.out) HG1.out)
   have nHB := zm1 (HB.out.grown HG1.out HB.out.size (fun k hk => by injection hk with hk; have := HB6S.out; omega))
   clear HO HB HRG hrg1 hlt hg1 hs1 hlx hat hsome hc hy hyl
   have HO := nHO
   have HB := nHB
   have HRG := HR1
   clear nHO nHB HR1 HG1
   go_wp2_with (first | ((with_reducible refine gate_dst (N := 20) rfl ?_); refine Kd.R_lit (Kd.int .i64) _ 3 ?hg (N := 20) ?hd (xs := ([x, c] : List Int)) (inner := [.int .i64 x, .int .i64 c]) (ok := fun _ => True) (okp := fun _ => True) ?hr ?hp (fun _ hk => hk) trivial (Below.refl _ _) (Nat.le_refl _) (by simp) ?_; (case hd => rfl); (case hg => rfl); (case hr => first | (go_simp; done) | (go_simp; rfl)); (case hp => exact (Reps.one (show Kd.M (Kd.int .i64) _ _ _ x [.int .i64 x] from rfl) (Reps.one (show Kd.M (Kd.int .i64) _ _ _ c [.int .i64 c] from rfl) (Reps.none _ _)))); intro v20 w20 ho20 hb hg_ hnew_; clear hg_ hnew_; rw [← YL.out] at ho20; have n0_ := zm1 (Kd.S_elder' (by (with_reducible repeat (first | apply Kd.S_alloc | apply Kd.S_drewN | apply Kd.S_drew)); exact HO.out) (Kd.R_base ho20) hb); have n1_ := zm1 (Kd.R_lower ho20 (zc5 (by repeat (first | (with_reducible first | exact HB.out | apply zc1 | apply zc2 | apply zc3) | exact HB.out)))); have n2_ := zm1 (zc6 (by repeat (first | (with_reducible first | exact HB.out | apply zc1 | apply zc2 | apply zc3) | exact HB.out)) hb); have n3_ := zm1 (HRG.out.kept (row := none) ⟨hb.os, hb.tape, hb.output, hb.size, fun k hk _ => hb.block k hk⟩ (by simp) (by simp)); clear HO HB HRG; have HO := n0_; have HO2 := n1_; have HB := n2_; have HRG := n3_; clear n0_ n1_ n2_ n3_; clear hb ho20; obtain ⟨Ao, co, eo⟩ := Kd.R_slice HO2.out; subst eo) | ((with_reducible refine gate_builtin (b := .append) (xs := #[.tmp 17, .tmp 21]) rfl ?_); at_builtin; refine Kd.S_append (Kd.slice 3 (Kd.int .i64)) (w0 := w) w.heap.size rfl (.tmp 17) (.tmp 21) 23 27 (.slice none 0 0) 24 rfl Try.underlying23 impl_SheetsAfter.inf rfl (by decide) (by omega) u3 (ks.map (impl_SheetsAfter.row fun k => (A k).getD 0)) y [.slice Ao y.length co] (fun _ => True) (fun k_ => some k_ = (.slice Ao y.length co : Value).ownBlock) rfl rfl ?aP (fun k_ hk_ => ((Kd.R_mono (ok' := fun k_ => ((fun _ => True)) k_ ∧ some k_ ≠ (u3 : Value).ownBlock) (Kd.R_apart' (HO2.out) (Kd.S_typed HO.out) (by decide)) (fun k_ hk => ⟨trivial, hk.2⟩))).1 k_ hk_.symm) ?aF ?aO ?aB ?aS ?aL ?_; (case aP => exact Kd.M_row (Kd.R_mono (Kd.R_tight rfl (Kd.R_mono (ok' := fun k_ => ((fun _ => True)) k_ ∧ some k_ ≠ (u3 : Value).ownBlock) (Kd.R_apart' (HO2.out) (Kd.S_typed HO.out) (by decide)) (fun k_ hk => ⟨trivial, hk.2⟩))) (fun _ h_ => h_))); (case aB => exact (by repeat (first | (with_reducible first | exact HB.out | apply zc1 | apply zc2 | apply zc3) | exact HB.out))); (case aF => exact (fun _ _ => trivial)); (case aO => exact (by (with_reducible repeat (first | apply Kd.S_alloc | apply Kd.S_drewN | apply Kd.S_drew)); exact Kd.S_mono HO.out (fun k_ hk => ⟨trivial, fun e_ => hk.2 e_⟩))); (case aS => exact (zc5 (by repeat (first | (with_reducible first | exact HB.out | apply zc1 | apply zc2 | apply zc3) | exact HB.out)))); (case aL => have := KL.out; rw [List.length_map]; omega); intro v22 w22 ho hb hg hat; have n0_ := zm1 hb; have n1_ := zm1 ho; have n2_ := zm1 (HRG.out.kept hg (impl_SheetsAfter.ne_own (impl_SheetsAfter.rng_map HRG.out) (fun _ _ h => by cases h) (Kd.S_typed HO.out)) (impl_SheetsAfter.ne_own (impl_SheetsAfter.rng_iter HRG.out).choose_spec.choose_spec.choose_spec.choose_spec (fun _ _ h => by cases h) (Kd.S_typed HO.out))); clear HB HO HO2 HRG; have HB := n0_; have HO := n1_; have HRG := n2_; clear n0_ n1_ n2_; clear ho hb hg hat))
   go_roundg cnt1
   case measure => exact HLT.out
   case rel =>
    have hself : ∀ k : Int, (Lit.int .i64 k).sameKey (.int .i64 x) = decide (k = x) := fun k => by
     by_cases e : k = x
     ·rw [e, decide_eq_true rfl]; exact WideAt.sameKey_self (a := .int .i64 x) trivial
     ·rw [decide_eq_false e]; exact Maps.sameKey_ne (fun h => e (by injection h))
    have hnot : x ∉ ks := fun h => by
     have h1 := ((KM.out x).1 h).1
     rw [HLX.out] at h1
     cases h1
    refine ⟨_, ks ++ [x], ⟨List.nodup_append.2 ⟨KN.out, by simp, fun a ha b hb => by rw [List.mem_singleton] at hb; rw [hb]; exact fun e => hnot (e ▸ ha)⟩⟩, ⟨fun k => ?_⟩, ⟨by have := KL.out; have := HLT.out; rw [List.length_append, List.length_singleton]; omega⟩, ⟨fun kl h => HL.out kl (by have h : (left kl && !kl.sameKey (.int .i64 x)) = true := h; rw [Bool.and_eq_true] at h; exact h.1)⟩, HRG, ⟨by rw [List.map_append, List.map_singleton, ← YE.out]; exact HO.out⟩, HB⟩
    rw [List.mem_append, List.mem_singleton, KM.out k]
    show _ ↔ (left (.int .i64 k) && !(Lit.int .i64 k).sameKey (.int .i64 x)) = false ∧ _
    rw [hself k]
    by_cases e : k = x
    ·subst e
     simp [XS.out]
    ·simp [e]
def impl_SheetsAfter.f (k : Nat) (l0 : List (List Int)) : Option (List (List Int) × Bool) := (Ledger.perfl l0 k 0 Ledger.bk0).bind fun t => if t.2 ≥ 0 then some ([], false) else match t.1 with
 | none => none
 | some s => some (impl_SheetsAfter.sheetsOf s.A, true)
theorem impl_SheetsAfter.mono : ∀ a0 k, LeO (impl_SheetsAfter.f k a0) (impl_SheetsAfter.f (k + 1) a0) := by
 intro a0 k
 unfold impl_SheetsAfter.f
 exact LeO.bind (Ledger.perfl_mono _ _ _ _) (fun _ => LeO.refl _)
set_option maxHeartbeats 8000000 in
set_option maxRecDepth 100000 in
theorem impl_SheetsAfter.calls (k : Nat) (A0 : Option Addr) (c0 : Nat) (l0 : List (List Int)) (r1 : List (List Int)) (r2 : Bool) (w : World) (hr0 : Kd.C (Kd.slice 3 (Kd.int .i64)) w A0 l0.length l0) (hc0 : l0.length ≤ c0) (h : impl_SheetsAfter.f k l0 = some (r1, r2)) :
  Calls Try.prog 5 #[.slice A0 l0.length c0] w fun e w' => ∃ v0_ : Value, e = .returned (.tuple #[v0_, .bool r2]) ∧ Kd.S (Kd.slice 3 (Kd.int .i64)) 27 w' w.heap.size (fun _ => True) v0_ r1 ∧ Below w.heap.size w w' := by
 unfold impl_SheetsAfter.f at h
 rw [Option.bind_eq_some_iff] at h
 obtain ⟨⟨t1, t2⟩, A1, h⟩ := h
 have HA := zm1 A1
 have HR0 := zm1 hr0
 have HC0 := zm1 hc0
 clear A1 hr0 hc0
 by_cases c : t2 ≥ 0
 ·rw [if_pos c] at h
  simp only [Option.some.injEq, Prod.mk.injEq] at h
  obtain ⟨rfl, rfl⟩ := h
  have cb : decide (0 ≤ t2) = true := decide_eq_true c
  clear c
  go_enter Try.func5, Try.ntmps5
  go_wp2_with (first | (go_at_call 15; (with_reducible refine (Ledger.perform_calls k A0 c0 l0 (t1, t2) w HR0.out HC0.out HA.out).mono ?_); rintro e w2 ⟨p, rfl, hm⟩; have HM := zm1 hm; clear hm))
  go_ret2
  exact ⟨_, by first | rfl | (simp [*]; done), Kd.S_nil _ _ _ _ _, by repeat (first | (with_reducible first | exact HM.out.1 | apply zc1 | apply zc2 | apply zc3) | exact HM.out.1)⟩
 ·rw [if_neg c] at h
  cases t1 with
  | none => cases h
  | some s =>
   have h : some (impl_SheetsAfter.sheetsOf s.A, true) = some (r1, r2) := h
   simp only [Option.some.injEq, Prod.mk.injEq] at h
   obtain ⟨h1, rfl⟩ := h
   have HRr := zm1 h1
   have SUP := zm1 (impl_SheetsAfter.perfl_sup l0 k 0 Ledger.bk0 s t2 (fun j hj => by cases hj) HA.out)
   have cb : decide (0 ≤ t2) = false := decide_eq_false c
   clear c h1
   go_enter Try.func5, Try.ntmps5
   go_wp2_with (first | (go_at_call 15; (with_reducible refine (Ledger.perform_calls k A0 c0 l0 (some s, t2) w HR0.out HC0.out HA.out).mono ?_); rintro e w2 ⟨p, rfl, hm⟩; obtain ⟨ba, bu, n, hn, hbd⟩ := hm.2 s rfl; have HN := zm1 hn; have HB := zm1 hbd; clear hm hbd hn) | (go_at_call 16; (with_reducible refine (impl_SheetsAfter.sheets_calls _ p ba _ _ _ _ n s.A HB.out.bk HB.out.a HN.out SUP.out).mono ?_); rintro e w3 ⟨v, rfl, ho, hb⟩; have HO := zm1 (Kd.S_lower ho HB.out.below.size); have HB2 := zm1 (below_step HB.out.below hb); clear ho hb))
   go_ret2
   exact ⟨v, by first | rfl | (simp [*]; done), by rw [← HRr.out]; exact HO.out, by repeat (first | exact HB2.out | apply pw_below_drewN | apply below_drew1)⟩

end Go.Proofs.Ytpmpcaahbhdiiaa.QFnLedger
