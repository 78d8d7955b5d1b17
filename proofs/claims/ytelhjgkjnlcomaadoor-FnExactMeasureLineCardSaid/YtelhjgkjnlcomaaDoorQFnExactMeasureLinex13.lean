-- Printed for this claim by a changed copy of the kit's print (the session's own; own contracts in place of some functions).
import Derived.Test.YtelhjgkjnlcomaaDoorQFnExactMeasureLinex0
import Derived.Test.YtelhjgkjnlcomaaDoorQFnExactMeasureLinex11
import Derived.Test.YtelhjgkjnlcomaaDoorQFnExactMeasureLinex12
namespace Go.Proofs.YtelhjgkjnlcomaaDoor.QFnExactMeasureLine
open Go.RowKit Go.Proofs.YtelhjgkjnlcomaaDoorW.PrintWords Go.Proofs.YtelhjgkjnlcomaaDoorW.PrintLast Go.Proofs.YtelhjgkjnlcomaaDoorW.PrintMore
attribute [local go_sem] max2_int min2_int max_two min_two max_three min_three max_four min_four   -- for this text's walks alone
set_option linter.unusedVariables false
set_option linter.unusedSimpArgs false

/-! ### impl_measures: function 45 -/
--import Derived.WalkSpells
--import Derived.Maps.Views
--import Derived.Maps.OwnSet
--import Derived.Maps.OwnOps
--import Derived.Maps.RangeWalk
--import Derived.WideKeyEntry
--import Derived.WideKeyArr
--import Derived.Deep.QuietTactic
--import Derived.Deep.RegionHeld3
--import Derived.BigQuiet
--import Derived.Shelf.SlSortCmp.NoneTotal
def Tryd.laysSlF6_f107_ren : Go.Shelf.Ren := ⟨fun | 6 => 107 | 15 => 111 | 14 => 119 | 28 => 131 | 29 => 132 | 20 => 115 | 21 => 141 | 22 => 142 | 23 => 143 | 24 => 144 | 25 => 145 | 26 => 146 | 27 => 147 | 46 => 160 | 47 => 150 | 48 => 151 | 49 => 161 | 50 => 162 | 57 => 166 | n => n, fun | 22 => 27 | 24 => 22 | 25 => 67 | 3 => 3 | 39 => 108 | 0 => 0 | 53 => 124 | 55 => 126 | 4 => 4 | 46 => 117 | 45 => 116 | 50 => 121 | 5 => 5 | 9 => 9 | 66 => 138 | 70 => 142 | 76 => 149 | 77 => 150 | n => n, fun | n => n⟩
theorem Tryd.laysSlF6_f107 : Go.Proofs.SlLaysF.n6 Tryd.prog Tryd.laysSlF6_f107_ren := {
 mixed := by kernel_rfl
 f6 := ⟨Tryd.f107.name, by decide, Tryd.func107.trans (congrArg some (by kernel_rfl))⟩
 f14 := ⟨Tryd.f119.name, by decide, Tryd.func119.trans (congrArg some (by kernel_rfl))⟩
 f15 := Tryd.func111.trans (congrArg some (by kernel_rfl))
 f20 := ⟨Tryd.f115.name, by decide, Tryd.func115.trans (congrArg some (by kernel_rfl))⟩
 f21 := ⟨Tryd.f141.name, by decide, Tryd.func141.trans (congrArg some (by kernel_rfl))⟩
 f22 := ⟨Tryd.f142.name, by decide, Tryd.func142.trans (congrArg some (by kernel_rfl))⟩
 f23 := ⟨Tryd.f143.name, by decide, Tryd.func143.trans (congrArg some (by kernel_rfl))⟩
 f24 := ⟨Tryd.f144.name, by decide, Tryd.func144.trans (congrArg some (by kernel_rfl))⟩
 f25 := ⟨Tryd.f145.name, by decide, Tryd.func145.trans (congrArg some (by kernel_rfl))⟩
 f26 := ⟨Tryd.f146.name, by decide, Tryd.func146.trans (congrArg some (by kernel_rfl))⟩
 f27 := ⟨Tryd.f147.name, by decide, Tryd.func147.trans (congrArg some (by kernel_rfl))⟩
 f28 := Tryd.func131.trans (congrArg some (by kernel_rfl))
 f29 := Tryd.func132.trans (congrArg some (by kernel_rfl))
 f46 := ⟨Tryd.f160.name, by decide, Tryd.func160.trans (congrArg some (by kernel_rfl))⟩
 f47 := Tryd.func150.trans (congrArg some (by kernel_rfl))
 f48 := Tryd.func151.trans (congrArg some (by kernel_rfl))
 f49 := ⟨Tryd.f161.name, by decide, Tryd.func161.trans (congrArg some (by kernel_rfl))⟩
 f50 := ⟨Tryd.f162.name, by decide, Tryd.func162.trans (congrArg some (by kernel_rfl))⟩
 f57 := ⟨Tryd.f166.name, by decide, Tryd.func166.trans (congrArg some (by kernel_rfl))⟩
 t0 := Tryd.underlying0
 a0 := Tryd.isAgg0
 z0 := Tryd.sizeOf0
 v0 := Tryd.zeroValue0
 t3 := Tryd.underlying3
 a3 := Tryd.isAgg3
 z3 := Tryd.sizeOf3
 v3 := Tryd.zeroValue3
 t4 := Tryd.underlying4
 a4 := Tryd.isAgg4
 z4 := Tryd.sizeOf4
 v4 := Tryd.zeroValue4
 t5 := Tryd.underlying5
 a5 := Tryd.isAgg5
 z5 := Tryd.sizeOf5
 v5 := Tryd.zeroValue5
 t9 := Tryd.underlying9
 a9 := Tryd.isAgg9
 z9 := Tryd.sizeOf9
 v9 := Tryd.zeroValue9
 t22 := Tryd.underlying27
 a22 := Tryd.isAgg27
 z22 := Tryd.sizeOf27
 v22 := Tryd.zeroValue27
 a24 := Tryd.isAgg22
 z24 := Tryd.sizeOf22
 t25 := Tryd.underlying67
 a25 := Tryd.isAgg67
 z25 := Tryd.sizeOf67
 v25 := Tryd.zeroValue67
 t39 := Tryd.underlying108
 a39 := Tryd.isAgg108
 z39 := Tryd.sizeOf108
 v39 := Tryd.zeroValue108
 t45 := Tryd.underlying116
 a45 := Tryd.isAgg116
 z45 := Tryd.sizeOf116
 v45 := Tryd.zeroValue116
 t46 := Tryd.underlying117
 a46 := Tryd.isAgg117
 z46 := Tryd.sizeOf117
 v46 := Tryd.zeroValue117
 t50 := Tryd.underlying121
 a50 := Tryd.isAgg121
 z50 := Tryd.sizeOf121
 v50 := Tryd.zeroValue121
 t53 := Tryd.underlying124
 a53 := Tryd.isAgg124
 z53 := Tryd.sizeOf124
 v53 := Tryd.zeroValue124
 t55 := Tryd.underlying126
 a55 := Tryd.isAgg126
 z55 := Tryd.sizeOf126
 v55 := Tryd.zeroValue126
 t66 := Tryd.underlying138
 a66 := Tryd.isAgg138
 z66 := Tryd.sizeOf138
 v66 := Tryd.zeroValue138
 t70 := Tryd.underlying142
 a70 := Tryd.isAgg142
 z70 := Tryd.sizeOf142
 v70 := Tryd.zeroValue142
 t76 := Tryd.underlying149
 a76 := Tryd.isAgg149
 z76 := Tryd.sizeOf149
 v76 := Tryd.zeroValue149
 t77 := Tryd.underlying150
 a77 := Tryd.isAgg150
 z77 := Tryd.sizeOf150
 v77 := Tryd.zeroValue150 }
def Tryd.laysSlF06_f107_ren : Go.Shelf.Ren := ⟨fun | 6 => 107 | 15 => 111 | 14 => 119 | 28 => 131 | 29 => 132 | 20 => 115 | 21 => 141 | 22 => 142 | 23 => 143 | 24 => 144 | 25 => 145 | 26 => 146 | 27 => 147 | 46 => 160 | 47 => 150 | 48 => 151 | 49 => 161 | 50 => 162 | 57 => 166 | n => n, fun | 22 => 27 | 24 => 22 | 25 => 67 | 3 => 3 | 39 => 108 | 0 => 0 | 53 => 124 | 55 => 126 | 4 => 4 | 46 => 117 | 45 => 116 | 50 => 121 | 5 => 5 | 9 => 9 | 66 => 138 | 70 => 142 | 76 => 149 | 77 => 150 | n => n, fun | n => n⟩
theorem Tryd.laysSlF06_f107 : Go.Proofs.SlLaysF0.n6 Tryd.prog Tryd.laysSlF06_f107_ren := {
 mixed := by kernel_rfl
 f6 := ⟨Tryd.f107.name, by decide, Tryd.func107.trans (congrArg some (by kernel_rfl))⟩
 f14 := ⟨Tryd.f119.name, by decide, Tryd.func119.trans (congrArg some (by kernel_rfl))⟩
 f15 := Tryd.func111.trans (congrArg some (by kernel_rfl))
 f20 := ⟨Tryd.f115.name, by decide, Tryd.func115.trans (congrArg some (by kernel_rfl))⟩
 f21 := ⟨Tryd.f141.name, by decide, Tryd.func141.trans (congrArg some (by kernel_rfl))⟩
 f22 := ⟨Tryd.f142.name, by decide, Tryd.func142.trans (congrArg some (by kernel_rfl))⟩
 f23 := ⟨Tryd.f143.name, by decide, Tryd.func143.trans (congrArg some (by kernel_rfl))⟩
 f24 := ⟨Tryd.f144.name, by decide, Tryd.func144.trans (congrArg some (by kernel_rfl))⟩
 f25 := ⟨Tryd.f145.name, by decide, Tryd.func145.trans (congrArg some (by kernel_rfl))⟩
 f26 := ⟨Tryd.f146.name, by decide, Tryd.func146.trans (congrArg some (by kernel_rfl))⟩
 f27 := ⟨Tryd.f147.name, by decide, Tryd.func147.trans (congrArg some (by kernel_rfl))⟩
 f28 := Tryd.func131.trans (congrArg some (by kernel_rfl))
 f29 := Tryd.func132.trans (congrArg some (by kernel_rfl))
 f46 := ⟨Tryd.f160.name, by decide, Tryd.func160.trans (congrArg some (by kernel_rfl))⟩
 f47 := Tryd.func150.trans (congrArg some (by kernel_rfl))
 f48 := Tryd.func151.trans (congrArg some (by kernel_rfl))
 f49 := ⟨Tryd.f161.name, by decide, Tryd.func161.trans (congrArg some (by kernel_rfl))⟩
 f50 := ⟨Tryd.f162.name, by decide, Tryd.func162.trans (congrArg some (by kernel_rfl))⟩
 f57 := ⟨Tryd.f166.name, by decide, Tryd.func166.trans (congrArg some (by kernel_rfl))⟩
 t0 := Tryd.underlying0
 a0 := Tryd.isAgg0
 z0 := Tryd.sizeOf0
 v0 := Tryd.zeroValue0
 t3 := Tryd.underlying3
 a3 := Tryd.isAgg3
 z3 := Tryd.sizeOf3
 v3 := Tryd.zeroValue3
 t4 := Tryd.underlying4
 a4 := Tryd.isAgg4
 z4 := Tryd.sizeOf4
 v4 := Tryd.zeroValue4
 t5 := Tryd.underlying5
 a5 := Tryd.isAgg5
 z5 := Tryd.sizeOf5
 v5 := Tryd.zeroValue5
 t9 := Tryd.underlying9
 a9 := Tryd.isAgg9
 z9 := Tryd.sizeOf9
 v9 := Tryd.zeroValue9
 t22 := Tryd.underlying27
 a22 := Tryd.isAgg27
 z22 := Tryd.sizeOf27
 v22 := Tryd.zeroValue27
 t25 := Tryd.underlying67
 a25 := Tryd.isAgg67
 z25 := Tryd.sizeOf67
 v25 := Tryd.zeroValue67
 t39 := Tryd.underlying108
 a39 := Tryd.isAgg108
 z39 := Tryd.sizeOf108
 v39 := Tryd.zeroValue108
 t45 := Tryd.underlying116
 a45 := Tryd.isAgg116
 z45 := Tryd.sizeOf116
 v45 := Tryd.zeroValue116
 t46 := Tryd.underlying117
 a46 := Tryd.isAgg117
 z46 := Tryd.sizeOf117
 v46 := Tryd.zeroValue117
 t50 := Tryd.underlying121
 a50 := Tryd.isAgg121
 z50 := Tryd.sizeOf121
 v50 := Tryd.zeroValue121
 t53 := Tryd.underlying124
 a53 := Tryd.isAgg124
 z53 := Tryd.sizeOf124
 v53 := Tryd.zeroValue124
 t55 := Tryd.underlying126
 a55 := Tryd.isAgg126
 z55 := Tryd.sizeOf126
 v55 := Tryd.zeroValue126
 t66 := Tryd.underlying138
 a66 := Tryd.isAgg138
 z66 := Tryd.sizeOf138
 v66 := Tryd.zeroValue138
 t70 := Tryd.underlying142
 a70 := Tryd.isAgg142
 z70 := Tryd.sizeOf142
 v70 := Tryd.zeroValue142
 t76 := Tryd.underlying149
 a76 := Tryd.isAgg149
 z76 := Tryd.sizeOf149
 v76 := Tryd.zeroValue149
 t77 := Tryd.underlying150
 a77 := Tryd.isAgg150
 z77 := Tryd.sizeOf150
 v77 := Tryd.zeroValue150 }
/-! a map from pairs of whole numbers to whole numbers -/
def impl_measuresOf.kv (x y : Int) : Value := .agg #[.int .i64 x, .int .i64 y]
def impl_measuresOf.kl (x y : Int) : Lit := .string (keyBytes [.int .i64 x, .int .i64 y])
def impl_measuresOf.okI (k : Int) : Prop := (Lit.int .i64 k).wf = true
theorem impl_measuresOf.okI_small {k : Int} (h0 : -1000000 ≤ k) (h1 : k ≤ 1000000) : impl_measuresOf.okI k := by
 simp [impl_measuresOf.okI, Lit.wf, IntKind.min, IntKind.max, IntKind.bits, IntKind.signed]
 omega
theorem impl_measuresOf.arr : Go.WideMaps.ArrKey Tryd.prog 79 3 2 := ⟨Tryd.underlying79, by kernel_rfl, by kernel_rfl, by kernel_rfl⟩
theorem impl_measuresOf.law : Go.WideMaps.KeyLaw Tryd.prog 79 := impl_measuresOf.arr.law
theorem impl_measuresOf.K : Go.Maps.Keyed Tryd.prog 79 := Go.Maps.Keyed.of_law impl_measuresOf.law
theorem impl_measuresOf.kt : Tryd.prog.keyType 79 = true := by kernel_rfl
theorem impl_measuresOf.types : ∃ m, Tryd.prog.types.size = m + 1 := ⟨Tryd.prog.types.size - 1, by kernel_rfl⟩
set_option maxRecDepth 100000 in
theorem impl_measuresOf.lit1 {D : Nat} {a : Value} {ls : List Lit} (h : Tryd.prog.keyLits (D + 1) 3 [a] = some ls) : ∃ x, impl_measuresOf.okI x ∧ a = .int .i64 x ∧ ls = [.int .i64 x] := by
 unfold Program.keyLits at h
 rw [Tryd.underlying3] at h
 cases a <;> simp at h
 obtain ⟨⟨rfl, hw⟩, rfl⟩ := h
 exact ⟨_, hw, rfl, rfl⟩
set_option maxRecDepth 100000 in
theorem impl_measuresOf.lit1_mk {D : Nat} {x : Int} (h : impl_measuresOf.okI x) : Tryd.prog.keyLits (D + 1) 3 [.int .i64 x] = some [.int .i64 x] := by
 unfold Program.keyLits
 rw [Tryd.underlying3]
 exact if_pos ⟨rfl, h⟩
set_option maxRecDepth 100000 in
theorem impl_measuresOf.lits {D : Nat} {cs : List Value} {ls : List Lit} (h : Tryd.prog.keyLits (D + 2) 79 cs = some ls) : ∃ x y, impl_measuresOf.okI x ∧ impl_measuresOf.okI y ∧ cs = [.int .i64 x, .int .i64 y] ∧ ls = [.int .i64 x, .int .i64 y] := by
 unfold Program.keyLits at h
 rw [Tryd.underlying79] at h
 simp only [impl_measuresOf.arr.size, impl_measuresOf.arr.one] at h
 by_cases hc : cs.length = 2
 case neg => rw [if_neg hc] at h; cases h
 rw [if_pos hc] at h
 match cs, hc with
 | [a, b], _ =>
  rw [show List.range 2 = [0, 1] from rfl, List.mapM_cons, List.mapM_cons, List.mapM_nil] at h
  simp only [bind, Option.bind_eq_some_iff, pure, Option.map_eq_some_iff, Option.some.injEq] at h
  obtain ⟨l, ⟨la, ha, l2, ⟨lb, hb, l3, rfl, rfl⟩, rfl⟩, rfl⟩ := h
  obtain ⟨x, hx, rfl, rfl⟩ := impl_measuresOf.lit1 (show Tryd.prog.keyLits (D + 1) 3 [a] = some la from ha)
  obtain ⟨y, hy, rfl, rfl⟩ := impl_measuresOf.lit1 (show Tryd.prog.keyLits (D + 1) 3 [b] = some lb from hb)
  exact ⟨x, y, hx, hy, rfl, rfl⟩
set_option maxRecDepth 100000 in
theorem impl_measuresOf.lits_mk {D : Nat} {x y : Int} (hx : impl_measuresOf.okI x) (hy : impl_measuresOf.okI y) : Tryd.prog.keyLits (D + 2) 79 [.int .i64 x, .int .i64 y] = some [.int .i64 x, .int .i64 y] := by
 unfold Program.keyLits
 rw [Tryd.underlying79]
 simp only [impl_measuresOf.arr.size, impl_measuresOf.arr.one]
 rw [if_pos (by rfl), show List.range 2 = [0, 1] from rfl, List.mapM_cons, List.mapM_cons, List.mapM_nil]
 rw [show List.take 1 (List.drop (0 * 1) [Value.int .i64 x, Value.int .i64 y]) = [.int .i64 x] from rfl, show List.take 1 (List.drop (1 * 1) [Value.int .i64 x, Value.int .i64 y]) = [.int .i64 y] from rfl, impl_measuresOf.lit1_mk hx, impl_measuresOf.lit1_mk hy]
 rfl
set_option maxRecDepth 100000 in
theorem impl_measuresOf.kf {x y : Int} (hx : impl_measuresOf.okI x) (hy : impl_measuresOf.okI y) : keyOf Tryd.prog 79 (impl_measuresOf.kv x y) = some (impl_measuresOf.kl x y) := by
 obtain ⟨m, hm⟩ := impl_measuresOf.types
 unfold keyOf
 rw [Tryd.underlying79]
 simp only
 rw [impl_measuresOf.kt, hm]
 have hf : (impl_measuresOf.kv x y).formed Tryd.prog 79 = true := by
  simp [impl_measuresOf.kv, Value.formed, Tryd.underlying79, impl_measuresOf.arr.size]
 rw [hf]
 rw [if_pos (by rfl), show (impl_measuresOf.kv x y).cells.toList = [.int .i64 x, .int .i64 y] from rfl, impl_measuresOf.lits_mk hx hy]
 rfl
set_option maxRecDepth 100000 in
theorem impl_measuresOf.inv {key : Value} {l : Lit} (h : keyOf Tryd.prog 79 key = some l) : ∃ x y, impl_measuresOf.okI x ∧ impl_measuresOf.okI y ∧ key = impl_measuresOf.kv x y ∧ l = impl_measuresOf.kl x y := by
 obtain ⟨m, hm⟩ := impl_measuresOf.types
 unfold keyOf at h
 rw [Tryd.underlying79] at h
 simp only at h
 by_cases c : (Tryd.prog.keyType 79 && key.formed Tryd.prog 79) = true
 case neg => rw [if_neg c] at h; cases h
 rw [if_pos c, hm, Option.map_eq_some_iff] at h
 obtain ⟨ls, hl, rfl⟩ := h
 obtain ⟨x, y, hx, hy, hc, rfl⟩ := impl_measuresOf.lits hl
 rw [Bool.and_eq_true] at c
 have hk : key = impl_measuresOf.kv x y := by
  have hf := c.2
  cases key <;> simp [Value.formed, Tryd.underlying79, impl_measuresOf.arr.size] at hf
  rename_i xs
  have : xs.toList = [.int .i64 x, .int .i64 y] := hc
  unfold impl_measuresOf.kv
  congr 1
  exact Array.ext' this
 exact ⟨x, y, hx, hy, hk, rfl⟩
theorem impl_measuresOf.kl_inj {x y x' y' : Int} (hx : impl_measuresOf.okI x) (hy : impl_measuresOf.okI y) (hx' : impl_measuresOf.okI x') (hy' : impl_measuresOf.okI y') (h : impl_measuresOf.kl x y = impl_measuresOf.kl x' y') : x = x' ∧ y = y' := by
 have := impl_measuresOf.K.inj (impl_measuresOf.kf hx hy) (h ▸ impl_measuresOf.kf hx' hy')
 unfold impl_measuresOf.kv at this
 simp only [Value.agg.injEq, Array.mk.injEq, List.cons.injEq, Value.int.injEq, true_and, and_true] at this
 simpa using this
theorem impl_measuresOf.zero (w : World) : (zeroValue 3).run Tryd.prog w = .ok (.int .i64 0) w := by kernel_rfl
/-- A map of pairs, of one's own: n keys at most. -/
def impl_measuresOf.upd (f : Int → Int → Option Int) (x y : Int) (v : Option Int) : Int → Int → Option Int := fun i j => if i = x ∧ j = y then v else f i j
theorem impl_measuresOf.upd_same (f : Int → Int → Option Int) (x y : Int) (v : Option Int) : impl_measuresOf.upd f x y v x y = v := by simp [impl_measuresOf.upd]
theorem impl_measuresOf.upd_other (f : Int → Int → Option Int) {x y i j : Int} (v : Option Int) (h : ¬ (i = x ∧ j = y)) : impl_measuresOf.upd f x y v i j = f i j := by simp [impl_measuresOf.upd, h]
structure impl_measuresOf.M (w : World) (b n : Nat) (D : DataW Unit) (A : Int → Int → Option Int) : Prop where
 own : w.ownsMap Tryd.prog 79 (plainElem Tryd.prog 3) b n D
 at_ : ∀ x y, impl_measuresOf.okI x → impl_measuresOf.okI y → Maps.has D (impl_measuresOf.kl x y) = (A x y).isSome ∧ D.atKey (impl_measuresOf.kl x y) (.lit (.int .i64 0)) = .lit (.int .i64 ((A x y).getD 0))
theorem impl_measuresOf.M.kept {w w' : World} {b n D A} (h : impl_measuresOf.M w b n D A) (hb : w'.heap[b]? = w.heap[b]?) : impl_measuresOf.M w' b n D A := by
 obtain ⟨⟨es, c, h1, h2, h3, h4⟩, h5⟩ := h
 exact ⟨⟨es, c, hb.trans h1, h2, h3, h4⟩, h5⟩
theorem impl_measuresOf.M.lt {w : World} {b n D A} (h : impl_measuresOf.M w b n D A) : b < w.heap.size := h.own.lt
theorem impl_measuresOf.M.mono {w : World} {b n n' D A} (h : impl_measuresOf.M w b n D A) (hn : n ≤ n') : impl_measuresOf.M w b n' D A := ⟨h.own.mono hn, h.at_⟩
theorem impl_measuresOf.M.made (w : World) : impl_measuresOf.M (w.alloc (.map #[] 0)) w.heap.size 0 (.map []) (fun _ _ => none) := ⟨World.ownsMap_made w _ _ _, fun _ _ _ _ => ⟨rfl, rfl⟩⟩
theorem impl_measuresOf.M.look {w : World} {b n D A} (h : impl_measuresOf.M w b n D A) {x y : Int} (hx : impl_measuresOf.okI x) (hy : impl_measuresOf.okI y) :
  (Instr.lookup 76 (.map (some b)) (impl_measuresOf.kv x y) false).run Tryd.prog w = .ok (.int .i64 ((A x y).getD 0)) w := by
 obtain ⟨c, hrun, hc, _⟩ := h.own.lookup_int impl_measuresOf.K Tryd.underlying76 Tryd.underlying3 (impl_measuresOf.zero w) (impl_measuresOf.kf hx hy)
 rw [(h.at_ x y hx hy).2] at hc
 simp only [DataW.lit.injEq, Lit.int.injEq, true_and] at hc
 rw [hrun, hc]
theorem impl_measuresOf.M.upd_of {w w' : World} {b n D A} (h : impl_measuresOf.M w b n D A) {x y v : Int} (hx : impl_measuresOf.okI x) (hy : impl_measuresOf.okI y)
  (hown : w'.ownsMap Tryd.prog 79 (plainElem Tryd.prog 3) b (n + 1) (D.put (impl_measuresOf.kl x y) (.lit (.int .i64 v)))) : impl_measuresOf.M w' b (n + 1) (D.put (impl_measuresOf.kl x y) (.lit (.int .i64 v))) (impl_measuresOf.upd A x y (some v)) := by
 refine ⟨hown, fun i j hi hj => ?_⟩
 by_cases e : i = x ∧ j = y
 ·obtain ⟨rfl, rfl⟩ := e
  rw [Maps.has_put_same h.own.isMap (impl_measuresOf.K.key (impl_measuresOf.kf hx hy)), Maps.atKey_put_same h.own.isMap (impl_measuresOf.K.key (impl_measuresOf.kf hx hy)), impl_measuresOf.upd_same]
  exact ⟨rfl, rfl⟩
 ·have hne : impl_measuresOf.kl i j ≠ impl_measuresOf.kl x y := fun h => e (impl_measuresOf.kl_inj hi hj hx hy h)
  rw [Maps.has_put_other hne, Maps.atKey_put_other hne, impl_measuresOf.upd_other _ _ e]
  exact h.at_ i j hi hj
/-- An entry (new or there already), and the store behind it. -/
theorem impl_measuresOf.M.entry {w : World} {b n D A} (h : impl_measuresOf.M w b n D A) (hn : n < maxLen) {x y v : Int} (hx : impl_measuresOf.okI x) (hy : impl_measuresOf.okI y) (hv : impl_measuresOf.okI v) :
  ∃ (v0 : Value) (st : Nat) (w1 : World), (Instr.mapEntry 76 (.map (some b)) (impl_measuresOf.kv x y)).run Tryd.prog w = .ok (.tuple #[v0, goInt st]) w1 ∧ w.grownBy w1 (some b) ∧ (∃ D1 A1, impl_measuresOf.M w1 b (n + 1) D1 A1 ∧ (A1 x y).getD 0 = (A x y).getD 0) ∧
   ∀ (w2 : World), w2.heap[b]? = w1.heap[b]? → ∃ w3, (Instr.entryStore 76 (.map (some b)) (goInt st) (.int .i64 v)).run Tryd.prog w2 = .ok () w3 ∧ (∃ D', impl_measuresOf.M w3 b (n + 1) D' (impl_measuresOf.upd A x y (some v))) ∧ w2.grownBy w3 (some b) := by
 obtain ⟨es, clock, hb, F, hs, hD⟩ := h.own
 have ht := Tryd.underlying76
 have hkey := impl_measuresOf.kf hx hy
 obtain ⟨v0, st, es1, clock1, hr, _, hst⟩ := WideElems.entry_then_store impl_measuresOf.law ht impl_measuresOf.zero hb F hkey
 have hM1 : ∃ D1 A1, impl_measuresOf.M (ChangeMaps.setBlock w b (.map es1 clock1)) b (n + 1) D1 A1 ∧ (A1 x y).getD 0 = (A x y).getD 0 := by
  rcases impl_measuresOf.law.find w hkey es.toList F.keys with ⟨h1, h2⟩ | ⟨j, e0, h1, h2, h3⟩
  ·have hr' : (Instr.mapEntry 76 (.map (some b)) (impl_measuresOf.kv x y)).run Tryd.prog w = .ok (.tuple #[.int .i64 0, goInt clock]) (ChangeMaps.setBlock w b (.map (es.push ⟨impl_measuresOf.kv x y, .int .i64 0, clock⟩) (clock + 1))) := by
    simp [Instr.mapEntry, run_underlying ht, MapKept.run_getObj_map hb, impl_measuresOf.law.check w false hkey, h1, impl_measuresOf.zero, MapKept.run_setObj_map _ hb, Result.andThen, ChangeMaps.setBlock]
   obtain ⟨w', hrun, hown, hg⟩ := h.own.update impl_measuresOf.K ht hn hkey (plainElem_int Tryd.underlying3 (show (Lit.int .i64 0).wf = true by decide))
   have hup : (Instr.mapUpdate 76 (.map (some b)) (impl_measuresOf.kv x y) (.int .i64 0)).run Tryd.prog w = .ok () (ChangeMaps.setBlock w b (.map (es.push ⟨impl_measuresOf.kv x y, .int .i64 0, clock⟩) (clock + 1))) := by
    simp [Instr.mapUpdate, run_underlying ht, MapKept.run_getObj_map hb, impl_measuresOf.law.check w false hkey, h1, MapKept.run_setObj_map _ hb, Result.andThen, ChangeMaps.setBlock]
   rw [hup] at hrun
   injection hrun with _ hw
   rw [hr'] at hr
   injection hr with _ hw2
   rw [← hw2, hw]
   refine ⟨_, _, h.upd_of hx hy hown, ?_⟩
   rw [impl_measuresOf.upd_same]
   have hat := (h.at_ x y hx hy).2
   rw [hD] at hat
   rcases Maps.fit_look false impl_measuresOf.K ht (impl_measuresOf.zero w) hb F hkey with ⟨_, _, h5⟩ | ⟨e1, y1, he1, hk1, _⟩
   ·rw [h5 _] at hat
    simp only [DataW.lit.injEq, Lit.int.injEq, true_and] at hat
    rw [← hat]
    rfl
   ·exact absurd hk1 (h2 e1 he1)
  ·have hj : es[j]? = some e0 := by simpa using h2
   have hsame : es.modify j (fun e => { e with key := impl_measuresOf.kv x y }) = es := by
    apply Array.ext'
    rw [Array.toList_modify, ChangeMaps.modify_eq_set _ _ _ _ h2]
    have : ({ e0 with key := impl_measuresOf.kv x y } : MapEntry) = e0 := by rw [← h3]
    rw [this]
    exact WideElems.set_self _ _ _ h2
   have hr' : (Instr.mapEntry 76 (.map (some b)) (impl_measuresOf.kv x y)).run Tryd.prog w = .ok (.tuple #[e0.val, goInt e0.born]) (ChangeMaps.setBlock w b (.map es clock)) := by
    simp [Instr.mapEntry, run_underlying ht, MapKept.run_getObj_map hb, impl_measuresOf.law.check w false hkey, h1, hj, h3, impl_measuresOf.law.stays w hkey, hsame, MapKept.run_setObj_map _ hb, Result.andThen, ChangeMaps.setBlock]
   rw [hr'] at hr
   injection hr with _ hw2
   rw [← hw2]
   exact ⟨D, A, (h.kept (by rw [ChangeMaps.heap_setBlock_same hb, hb])).mono (by omega), rfl⟩
 refine ⟨v0, st, _, hr, ⟨rfl, rfl, rfl, by simp [ChangeMaps.setBlock], fun i _ hi => ChangeMaps.heap_setBlock_other hb _ (fun e => hi (by rw [e]))⟩, hM1, fun w2 hw2 => ?_⟩
 rw [ChangeMaps.heap_setBlock_same hb] at hw2
 obtain ⟨es', clock', hr3, hup⟩ := hst w2 (.int .i64 v) hw2
 obtain ⟨w', hrun, hown, hg⟩ := h.own.update impl_measuresOf.K ht hn hkey (plainElem_int Tryd.underlying3 hv)
 rw [hup] at hrun
 injection hrun with _ hw
 subst hw
 obtain ⟨es2, clock2, hb2, F2, hs2, hD2⟩ := hown
 rw [ChangeMaps.heap_setBlock_same hb] at hb2
 exact ⟨_, hr3, ⟨_, h.upd_of hx hy ⟨es2, clock2, by rw [ChangeMaps.heap_setBlock_same hw2, hb2], F2, hs2, hD2⟩⟩, ⟨rfl, rfl, rfl, by simp [ChangeMaps.setBlock], fun i _ hi => ChangeMaps.heap_setBlock_other hw2 _ (fun e => hi (by rw [e]))⟩⟩
/-! the rows behind the sort -/
def impl_measuresOf.encI (inner : List Value) (n : Nat) (i : Fin n) : Value := inner.getD i.val (.bool false)
section
open Go.Sort
theorem impl_measuresOf.holds {α : Type} [Inhabited α] (enc : α → Value) {w : World} {g : Nat} {cur : Array Value} {e : TypeId} {ss : List α} (hb : w.heap[g]? = some (.cells cur e (0, 0))) (ht : cur.toList.take ss.length = ss.map enc) : Go.Sort.Holds enc w g 0 ss.toArray := by
 intro j hj
 have hj' : j < ss.length := by simpa using hj
 refine ⟨?_, by simp [World.frozen?, hb]⟩
 have h1 : (cur.toList.take ss.length)[j]? = (ss.map enc)[j]? := by rw [ht]
 rw [List.getElem?_take_of_lt hj'] at h1
 simp only [World.cell?, hb, Nat.zero_add]
 simp only [Option.isSome_none, Bool.false_eq_true, if_false]
 rw [← Array.getElem?_toList, h1]
 simp [hj']
theorem impl_measuresOf.heap_put {α : Type} [Inhabited α] (enc : α → Value) {w : World} {g m : Nat} {os : Array Obj} {cur : Array Value} {e : TypeId} {fr : Nat × Nat} (d : Array α) (hb : w.heap[g]? = some (.cells cur e fr)) :
  (Go.Proofs.sortWorld enc w g 0 m d os).heap[g]? = some (.cells (Go.Sort.putCells enc 0 d cur) e fr) := by
 have hg : g < w.heap.size := (Array.getElem?_eq_some_iff.1 hb).1
 unfold Go.Proofs.sortWorld
 rw [Go.Sort.heap_grow_old _ _ (by simpa using hg)]
 simp [Go.Sort.putRow, Go.Sort.mapBlock, Go.Sort.ahead, Array.getElem?_modify, hb, Go.Sort.onCells]
theorem impl_measuresOf.grown_put {α : Type} [Inhabited α] (enc : α → Value) {w : World} {g m : Nat} {os : Array Obj} (d : Array α) : w.grownBy (Go.Proofs.sortWorld enc w g 0 m d os) (some g) := by
 unfold Go.Proofs.sortWorld
 refine ⟨rfl, rfl, rfl, by simp, fun k hk hne => ?_⟩
 rw [Go.Sort.heap_grow_old _ _ (by simpa using hk)]
 have : g ≠ k := fun e => hne (by rw [e])
 simp [Go.Sort.putRow, Go.Sort.mapBlock, Go.Sort.ahead, Array.getElem?_modify, this]
theorem impl_measuresOf.take_put {α : Type} [Inhabited α] (enc : α → Value) (cur : Array Value) (ts : List α) (h : ts.length ≤ cur.size) : (Go.Sort.putCells enc 0 ts.toArray cur).toList.take ts.length = ts.map enc := by
 apply List.ext_getElem?
 intro j
 by_cases hj : j < ts.length
 ·rw [List.getElem?_take_of_lt hj, Array.getElem?_toList]
  simp [Go.Sort.putCells, hj, show j < cur.size by omega]
 ·rw [List.getElem?_take_eq_none (by omega), List.getElem?_eq_none (by simp; omega)]
end
theorem impl_measuresOf.take1 {l : List Value} {j : Nat} {v : Value} (h : l[j]? = some v) : (l.drop j).take 1 = [v] := by
 obtain ⟨hj, rfl⟩ := List.getElem?_eq_some_iff.1 h
 rw [List.drop_eq_getElem_cons hj]
 rfl
theorem impl_measuresOf.nodup_at {α : Type} {l : List α} (h : l.Nodup) {i j : Nat} (hi : i < l.length) (hj : j < l.length) (e : l[i] = l[j]) : i = j := by
 have hp := List.pairwise_iff_getElem.1 h
 rcases Nat.lt_trichotomy i j with c | c | c
 ·exact absurd e (hp i j hi hj c)
 ·exact c
 ·exact absurd e.symm (hp j i hj hi c)
theorem impl_measuresOf.S_sorted {d : Kd (List Int)} (hsz : d.sz = 1) {e base g cap m : Nat} {os : Array Obj} {w : World} {xs : List (List Int)} {inner : List Value} {fo : Nat → Nat} {okk : Nat → Prop}
  (ho : w.ownsRow base e 1 (.slice (some ⟨g, 0, none⟩) xs.length cap) xs.length inner)
  (hr : Reps ((Kd.tag fo d).M w base (fun k => okk k ∧ some k ≠ (Value.slice (some ⟨g, 0, none⟩) xs.length cap).ownBlock)) d.sz xs.zipIdx inner)
  (hg : okk g) [Inhabited (Fin xs.length)] (σ : List (Fin xs.length)) (hσ : σ.Nodup) (hl : σ.length = xs.length) :
  Kd.S d e (Go.Proofs.sortWorld (impl_measuresOf.encI inner xs.length) w g 0 m σ.toArray os) base okk (.slice (some ⟨g, 0, none⟩) xs.length cap) (σ.map xs.get) := by
 have hgr := impl_measuresOf.grown_put (impl_measuresOf.encI inner xs.length) (w := w) (g := g) (m := m) (os := os) σ.toArray
 obtain ⟨hil, hx⟩ := ho
 rcases hx with ⟨h, _⟩ | ⟨g', cap', cur, hv, hbase, hb, h1, h2, h3, h4⟩
 ·cases h
 cases hv
 have own' : (Go.Proofs.sortWorld (impl_measuresOf.encI inner xs.length) w g 0 m σ.toArray os).ownsRow base e 1 (.slice (some ⟨g, 0, none⟩) xs.length cap) xs.length (σ.map (impl_measuresOf.encI inner xs.length)) :=
  ⟨by simp [hl], .inr ⟨g, cap, _, rfl, hbase, impl_measuresOf.heap_put _ _ hb, h1, h2, by simp [Go.Sort.putCells, h3], by rw [Nat.mul_one]; exact (congrArg (fun z => List.take z (Go.Sort.putCells (impl_measuresOf.encI inner xs.length) 0 σ.toArray cur).toList) hl.symm).trans (impl_measuresOf.take_put _ cur σ (by omega))⟩⟩
 obtain ⟨f, hf⟩ := Kd.reps_tag (d := d) (w := Go.Proofs.sortWorld (impl_measuresOf.encI inner xs.length) w g 0 m σ.toArray os) (base := base) (ok := fun k => okk k ∧ some k ≠ (Value.slice (some ⟨g, 0, none⟩) xs.length cap).ownBlock) (xs := σ.map xs.get) (inner := σ.map (impl_measuresOf.encI inner xs.length))
  (fun j k => (okk k ∧ some k ≠ (Value.slice (some ⟨g, 0, none⟩) xs.length cap).ownBlock) ∧ ∃ h : j < σ.length, fo k = σ[j].val)
  (fun i j k hi hj => by
   obtain ⟨_, h1, e1⟩ := hi
   obtain ⟨_, h2, e2⟩ := hj
   exact impl_measuresOf.nodup_at hσ h1 h2 (Fin.ext (e1.symm.trans e2)))
  (fun j k hk => hk.1) (by rw [List.length_map, List.length_map, hsz, Nat.mul_one])
  (fun j x hj => by
   rw [List.getElem?_map] at hj
   obtain ⟨i, hi, rfl⟩ := Option.map_eq_some_iff.1 hj
   obtain ⟨hjl, rfl⟩ := List.getElem?_eq_some_iff.1 hi
   have hx : xs[(σ[j]).val]? = some xs[(σ[j]).val] := List.getElem?_eq_getElem (σ[j]).isLt
   have hM : d.M w base _ (xs.get σ[j]) _ := hr.2 (σ[j]).val _ (Kd.zip_at hx)
   have hil' : inner.length = xs.length := by rw [hil, Nat.mul_one]
   have hc1 : inner[(σ[j]).val]? = some (impl_measuresOf.encI inner xs.length σ[j]) := by
    unfold impl_measuresOf.encI
    rw [List.getD_eq_getElem?_getD, List.getElem?_eq_getElem (by rw [hil']; exact (σ[j]).isLt)]
    rfl
   have hc2 : (σ.map (impl_measuresOf.encI inner xs.length))[j]? = some (impl_measuresOf.encI inner xs.length σ[j]) := by rw [List.getElem?_map, List.getElem?_eq_getElem hjl]; rfl
   rw [hsz, Nat.mul_one, impl_measuresOf.take1 hc1] at hM
   rw [hsz, Nat.mul_one, impl_measuresOf.take1 hc2]
   refine d.M_mono (fun k hk => ⟨hk.1, hjl, hk.2⟩) (Kd.M_step (d := d) hM (fun k hk hlt => hgr.block k hlt (fun e_ => hk.1.2 (by rw [e_]; rfl))))
   )
 refine ⟨f, fun k hk => ?_, σ.map (impl_measuresOf.encI inner xs.length), ?_, hf⟩
 ·have : g = k := by simpa [Value.ownBlock] using hk
  rw [← this]; exact hg
 ·rw [List.length_zipIdx, List.length_map, hl]
  rw [show (Kd.tag f d).sz = 1 from hsz]
  exact own'

/-! the comparison -/
def impl_measuresOf.cf (r s : List Int) : Int := if rd r 1 = rd s 1 then rd r 0 - rd s 0 else rd r 1 - rd s 1
def impl_measuresOf.le (r s : List Int) : Bool := decide (rd r 1 < rd s 1) || (decide (rd r 1 = rd s 1) && decide (rd r 0 ≤ rd s 0))
def impl_measuresOf.sorted (l : List (List Int)) : List (List Int) := l.mergeSort impl_measuresOf.le
theorem impl_measuresOf.le_iff {r s : List Int} : impl_measuresOf.le r s = true ↔ (rd r 1 < rd s 1 ∨ (rd r 1 = rd s 1 ∧ rd r 0 ≤ rd s 0)) := by
 unfold impl_measuresOf.le
 simp only [Bool.or_eq_true, Bool.and_eq_true, decide_eq_true_eq]
theorem impl_measuresOf.cf_le (r s : List Int) : (!(decide (impl_measuresOf.cf s r < 0))) = impl_measuresOf.le r s := by
 unfold impl_measuresOf.cf impl_measuresOf.le
 generalize rd r 1 = x
 generalize rd s 1 = y
 generalize rd r 0 = a
 generalize rd s 0 = b
 rw [Bool.eq_iff_iff]
 simp only [Bool.not_eq_true', decide_eq_false_iff_not, Bool.or_eq_true, Bool.and_eq_true, decide_eq_true_eq]
 by_cases h : y = x
 ·rw [if_pos h]; omega
 ·rw [if_neg h]; omega
theorem impl_measuresOf.le_trans (a b c : List Int) (h1 : impl_measuresOf.le a b = true) (h2 : impl_measuresOf.le b c = true) : impl_measuresOf.le a c = true := by
 rw [impl_measuresOf.le_iff] at *
 omega
theorem impl_measuresOf.le_total (a b : List Int) : (impl_measuresOf.le a b || impl_measuresOf.le b a) = true := by
 rw [Bool.or_eq_true, impl_measuresOf.le_iff, impl_measuresOf.le_iff]
 omega
def impl_measuresOf.ok (r : List Int) : Prop := r.length = 3 ∧ (-1000 ≤ rd r 0 ∧ rd r 0 ≤ 1000) ∧ (-1000 ≤ rd r 1 ∧ rd r 1 ≤ 1000)
/-- no two rows with the same direction -/
def impl_measuresOf.apart (l : List (List Int)) : Prop := l.Pairwise (fun r s => ¬ (rd r 0 = rd s 0 ∧ rd r 1 = rd s 1))
set_option maxHeartbeats 4000000 in
set_option maxRecDepth 100000 in
theorem impl_measuresOf.cmp_calls (W : World) (a b : Addr) (ca cb : Nat) (x0 x1 y0 y1 : Int) (ha : W.cell? a = some (.int .i64 x0)) (ha1 : W.cell? (a.add 1) = some (.int .i64 x1)) (hb : W.cell? b = some (.int .i64 y0)) (hb1 : W.cell? (b.add 1) = some (.int .i64 y1)) :
  Calls Tryd.prog 108 #[.slice (some a) 3 ca, .slice (some b) 3 cb] W fun e w' => e = .returned (.int .i64 (if x1 = y1 then wrap64 (x0 - y0) else wrap64 (x1 - y1))) ∧ ∃ q, w' = W.drewN q := by
 have ha2 := ha1
 have hb2 := hb1
 simp only [Nat.reduceMul, Nat.reduceEqDiff, Go.Addr.add, ↓reduceIte] at ha1 hb1
 by_cases h : x1 = y1
 ·rw [if_pos h]
  have b0 : (x1 != y1) = false := bne_eq_false_iff_eq.mpr h
  clear h
  go_enter Tryd.func108, Tryd.ntmps108
  go_wp2
  go_quiet (fail)
  go_wp2
  go_quiet (fail)
  go_wp2
  go_ret
  exact ⟨by first | rfl | (simp; done), by first | exact ⟨_, rfl⟩ | (simp; exact ⟨_, rfl⟩)⟩
 ·rw [if_neg h]
  have b0 : (x1 != y1) = true := bne_iff_ne.mpr h
  clear h
  go_enter Tryd.func108, Tryd.ntmps108
  go_wp2
  go_quiet (fail)
  go_wp2
  go_quiet (fail)
  go_wp2
  go_ret
  exact ⟨by first | rfl | (simp; done), by first | exact ⟨_, rfl⟩ | (simp; exact ⟨_, rfl⟩)⟩
theorem impl_measuresOf.cmp_eq {r s : List Int} (hr : impl_measuresOf.ok r) (hs : impl_measuresOf.ok s) : (if rd r 1 = rd s 1 then wrap64 (rd r 0 - rd s 0) else wrap64 (rd r 1 - rd s 1)) = impl_measuresOf.cf r s := by
 obtain ⟨_, ⟨_, _⟩, _⟩ := hr
 obtain ⟨_, ⟨_, _⟩, _⟩ := hs
 unfold impl_measuresOf.cf
 by_cases h : rd r 1 = rd s 1
 ·rw [if_pos h, if_pos h]; unfold wrap64; omega
 ·rw [if_neg h, if_neg h]; unfold wrap64; omega
theorem impl_measuresOf.row_at {W : World} {base : Nat} {ok : Nat → Prop} {r : List Int} {u : Value} (h2 : r.length = 3) (h : (Kd.slice 3 (Kd.int .i64)).M W base ok r [u]) : ∃ a c, u = .slice (some a) 3 c ∧ W.cell? a = some (.int .i64 (rd r 0)) ∧ W.cell? (a.add 1) = some (.int .i64 (rd r 1)) := by
 obtain ⟨A, c, hu, hl, hC⟩ := (Kd.slice 3 (Kd.int .i64)).K_of_M h
 obtain ⟨a, e, h0⟩ := Kd.at_int hC 0 (by omega) (by omega)
 obtain ⟨a', e', h1⟩ := Kd.at_int hC 1 (by omega) (by omega)
 rw [e] at e'
 obtain rfl : a = a' := by injection e'
 refine ⟨a, c, by rw [← h2]; injection hu with hu; rw [hu, e], ?_, ?_⟩
 ·rw [show ((0 : Int)).toNat = 0 from rfl, Addr.add_zero'] at h0; exact h0
 ·exact h1
theorem impl_measuresOf.map_get (xs : List (List Int)) : (List.finRange xs.length).map xs.get = xs := by
 apply List.ext_getElem?
 intro j
 rw [List.getElem?_map]
 by_cases hj : j < xs.length
 ·rw [List.getElem?_eq_getElem (by rw [List.length_finRange]; exact hj), Option.map_some, List.getElem_finRange, List.getElem?_eq_getElem hj]
  rfl
 ·rw [List.getElem?_eq_none (by rw [List.length_finRange]; omega), List.getElem?_eq_none (by omega)]
  rfl
theorem impl_measuresOf.swo {n : Nat} (num : Fin n → List Int) : Go.Sort.SWO (ltOf (fun i j => impl_measuresOf.cf (num i) (num j))) := by
 have key : ∀ x y, ltOf (fun i j => impl_measuresOf.cf (num i) (num j)) x y = !(impl_measuresOf.le (num y) (num x)) := by
  intro x y
  rw [← impl_measuresOf.cf_le, Bool.not_not]
  rfl
 refine ⟨fun x => ?_, fun x y z => ?_, fun x y z => ?_⟩
 ·rw [key, impl_measuresOf.le_iff.2 (.inr ⟨rfl, Int.le_refl _⟩)]; rfl
 ·rw [key, key, key, Bool.not_eq_true', Bool.not_eq_true', Bool.not_eq_true', ← Bool.not_eq_true, ← Bool.not_eq_true, ← Bool.not_eq_true, impl_measuresOf.le_iff, impl_measuresOf.le_iff, impl_measuresOf.le_iff]; omega
 ·rw [key, key, key, Bool.not_eq_false', Bool.not_eq_false', Bool.not_eq_false', impl_measuresOf.le_iff, impl_measuresOf.le_iff, impl_measuresOf.le_iff]; omega
theorem impl_measuresOf.anti {l : List (List Int)} (h : impl_measuresOf.apart l) {a b : List Int} (ha : a ∈ l) (hb : b ∈ l) (h1 : impl_measuresOf.le a b = true) (h2 : impl_measuresOf.le b a = true) : a = b := by
 obtain ⟨i, hi, rfl⟩ := List.getElem_of_mem ha
 obtain ⟨j, hj, rfl⟩ := List.getElem_of_mem hb
 rw [impl_measuresOf.le_iff] at h1 h2
 have hp := List.pairwise_iff_getElem.1 h
 rcases Nat.lt_trichotomy i j with c | c | c
 ·exact absurd (show rd l[i] 0 = rd l[j] 0 ∧ rd l[i] 1 = rd l[j] 1 by omega) (hp i j hi hj c)
 ·subst c; rfl
 ·exact absurd (show rd l[j] 0 = rd l[i] 0 ∧ rd l[j] 1 = rd l[i] 1 by omega) (hp j i hj hi c)
set_option maxHeartbeats 4000000 in
theorem impl_measuresOf.sort (w : World) (base g cap : Nat) (xs : List (List Int)) (hok : ∀ r ∈ xs, impl_measuresOf.ok r) (hap : impl_measuresOf.apart xs) (hne : 0 < xs.length) (hcap : xs.length ≤ 200)
  (hS : Kd.S (Kd.slice 3 (Kd.int .i64)) 22 w base (fun _ => True) (.slice (some ⟨g, 0, none⟩) xs.length cap) xs) :
  Calls Tryd.prog 107 #[.slice (some ⟨g, 0, none⟩) xs.length cap, .func (.func 108) #[] #[]] w fun e w' => e = .returned (.tuple #[]) ∧ w.grownBy w' (some g) ∧
   Kd.S (Kd.slice 3 (Kd.int .i64)) 22 w' base (fun _ => True) (.slice (some ⟨g, 0, none⟩) xs.length cap) (impl_measuresOf.sorted xs) := by
 obtain ⟨fo, h0, inner, ho, hr⟩ := hS
 rw [List.length_zipIdx] at ho
 have ho' : w.ownsRow base 22 1 (.slice (some ⟨g, 0, none⟩) xs.length cap) xs.length inner := ho
 have inst : Inhabited (Fin xs.length) := ⟨⟨0, hne⟩⟩
 obtain ⟨hil, hx⟩ := ho'
 rcases hx with ⟨hh, _⟩ | ⟨g', cap', cur, hv, hbase, hb, h1, h2, h3, h4⟩
 ·cases hh
 cases hv
 have hin : (List.finRange xs.length).map (impl_measuresOf.encI inner xs.length) = inner := by
  apply List.ext_getElem?
  intro j
  rw [List.getElem?_map]
  by_cases hj : j < xs.length
  ·rw [List.getElem?_eq_getElem (by rw [List.length_finRange]; exact hj), Option.map_some, List.getElem_finRange]
   unfold impl_measuresOf.encI
   rw [List.getElem?_eq_getElem (by rw [hil, Nat.mul_one]; exact hj), List.getD_eq_getElem?_getD]
   simp only [Fin.cast_mk]
   rw [List.getElem?_eq_getElem (by rw [hil, Nat.mul_one]; exact hj)]
   rfl
  ·rw [List.getElem?_eq_none (by rw [List.length_finRange]; omega), List.getElem?_eq_none (by rw [hil]; omega)]
   rfl
 have hH := impl_measuresOf.holds (impl_measuresOf.encI inner xs.length) (ss := List.finRange xs.length) hb (by rw [hin, List.length_finRange]; rw [Nat.mul_one] at h4; exact h4)
 have hat : ∀ (m : Nat) (os : Array Obj) (dk : Array (Fin xs.length)) (i : Fin xs.length), ∃ a c, impl_measuresOf.encI inner xs.length i = .slice (some a) 3 c ∧ (sortWorld (impl_measuresOf.encI inner xs.length) w g 0 m dk os).cell? a = some (.int .i64 (rd (xs.get i) 0)) ∧ (sortWorld (impl_measuresOf.encI inner xs.length) w g 0 m dk os).cell? (a.add 1) = some (.int .i64 (rd (xs.get i) 1)) := by
  intro m os dk i
  have hx : xs[i.val]? = some (xs.get i) := List.getElem?_eq_getElem i.isLt
  have hM : (Kd.slice 3 (Kd.int .i64)).M w base _ (xs.get i) _ := hr.2 i.val _ (Kd.zip_at hx)
  have hc1 : inner[i.val]? = some (impl_measuresOf.encI inner xs.length i) := by
   unfold impl_measuresOf.encI
   rw [List.getD_eq_getElem?_getD, List.getElem?_eq_getElem (by rw [hil, Nat.mul_one]; exact i.isLt)]
   rfl
  have hM2 : (Kd.slice 3 (Kd.int .i64)).M w base (fun k => (True ∧ some k ≠ (Value.slice (some ⟨g, 0, none⟩) xs.length cap).ownBlock) ∧ fo k = i.val) (xs.get i) ((inner.drop (i.val * 1)).take 1) := hM
  rw [Nat.mul_one, impl_measuresOf.take1 hc1] at hM2
  have hgr := impl_measuresOf.grown_put (impl_measuresOf.encI inner xs.length) (w := w) (g := g) (m := m) (os := os) dk
  exact impl_measuresOf.row_at (hok _ (List.get_mem _ _)).1 (Kd.M_step hM2 (fun k hk hlt => hgr.block k hlt (fun e_ => hk.1.2 (by rw [e_]; rfl))))
 have h1c : OneCell (impl_measuresOf.encI inner xs.length) := fun i => by
  obtain ⟨a, c, e, _⟩ := hat 0 #[] #[] i
  rw [e]
  rfl
 have hcmp : CmpReads Tryd.prog 108 #[] (impl_measuresOf.encI inner xs.length) (fun i j => impl_measuresOf.cf (xs.get i) (xs.get j)) g 0 (List.finRange xs.length).toArray.size w := by
  intro m os dk _ x y
  obtain ⟨a, ca, ea, ha, ha1⟩ := hat m os dk x
  obtain ⟨b, cb, eb, hb, hb1⟩ := hat m os dk y
  rw [ea, eb]
  have h := impl_measuresOf.cmp_calls _ a b ca cb _ _ _ _ ha ha1 hb hb1
  rw [impl_measuresOf.cmp_eq (hok _ (List.get_mem _ _)) (hok _ (List.get_mem _ _))] at h
  exact h
 have eg : ∀ args w, (callFunc 108 args).run Tryd.prog w = .ok (.enter 108 args) w := enters_of Tryd.func108 (by kernel_rfl) rfl
 have hd : (List.finRange xs.length).toArray.size = xs.length := by simp
 have hT : ∀ x y : Fin xs.length, ltOf (fun i j => impl_measuresOf.cf (xs.get i) (xs.get j)) x y = false → ltOf (fun i j => impl_measuresOf.cf (xs.get i) (xs.get j)) y x = false → x = y := by
  intro x y h1 h2
  have g1 : impl_measuresOf.le (xs.get y) (xs.get x) = true := by rw [← impl_measuresOf.cf_le]; have h1' : decide (impl_measuresOf.cf (xs.get x) (xs.get y) < 0) = false := h1; rw [h1']; rfl
  have g2 : impl_measuresOf.le (xs.get x) (xs.get y) = true := by rw [← impl_measuresOf.cf_le]; have h2' : decide (impl_measuresOf.cf (xs.get y) (xs.get x) < 0) = false := h2; rw [h2']; rfl
  rw [impl_measuresOf.le_iff] at g1 g2
  have hp := List.pairwise_iff_getElem.1 hap
  rcases Nat.lt_trichotomy x.val y.val with c | c | c
  ·exact absurd (show rd (xs.get x) 0 = rd (xs.get y) 0 ∧ rd (xs.get x) 1 = rd (xs.get y) 1 by omega) (hp x.val y.val x.isLt y.isLt c)
  ·exact Fin.ext c
  ·exact absurd (show rd (xs.get y) 0 = rd (xs.get x) 0 ∧ rd (xs.get y) 1 = rd (xs.get x) 1 by omega) (hp y.val x.val y.isLt x.isLt c)
 have hc := Any.slices_SortFunc_total Tryd.laysSlF6_f107 (impl_measuresOf.encI inner xs.length) h1c (fun i j => impl_measuresOf.cf (xs.get i) (xs.get j)) (impl_measuresOf.swo xs.get) 108 #[] g 0 cap (List.finRange xs.length).toArray w eg hcmp.lays hH (Array.getElem?_eq_some_iff.1 hb).1 (by rw [hd]; omega) hT
 rw [hd] at hc
 refine Calls.mono (P := Tryd.prog) (f := 107) hc ?_
 rintro e w' ⟨he, m, os, rfl⟩
 obtain ⟨σ, hσ⟩ : ∃ σ, σ = ((List.finRange xs.length).toArray.toList.mergeSort fun x y => !(ltOf (fun i j => impl_measuresOf.cf (xs.get i) (xs.get j))) y x) := ⟨_, rfl⟩
 rw [← hσ]
 have hp : σ.Perm (List.finRange xs.length) := by rw [hσ]; exact List.mergeSort_perm _ _
 have hl : σ.length = xs.length := by rw [hp.length_eq, List.length_finRange]
 have hnd2 : σ.Nodup := hp.nodup_iff.2 (List.nodup_finRange _)
 have key : ∀ x y : Fin xs.length, (!(ltOf (fun i j => impl_measuresOf.cf (xs.get i) (xs.get j))) y x) = impl_measuresOf.le (xs.get x) (xs.get y) := fun x y => impl_measuresOf.cf_le (xs.get x) (xs.get y)
 have hpw : σ.Pairwise (fun x y => impl_measuresOf.le (xs.get x) (xs.get y) = true) := by
  have := List.pairwise_mergeSort (le := fun x y : Fin xs.length => !(ltOf (fun i j => impl_measuresOf.cf (xs.get i) (xs.get j))) y x) (fun a b c h1 h2 => by rw [key] at *; exact impl_measuresOf.le_trans _ _ _ h1 h2) (fun a b => by rw [key, key]; exact impl_measuresOf.le_total _ _) (List.finRange xs.length)
  rw [hσ]
  exact this.imp (fun {a b} h => by rw [key] at h; exact h)
 have hxs : (List.finRange xs.length).map xs.get = xs := impl_measuresOf.map_get xs
 have hrow : σ.map xs.get = impl_measuresOf.sorted xs := by
  have hpm : (σ.map xs.get).Perm xs := by have := hp.map xs.get; rwa [hxs] at this
  refine List.Perm.eq_of_pairwise (le := fun a b => impl_measuresOf.le a b = true) ?_ ?_ ?_ (hpm.trans (List.mergeSort_perm _ _).symm)
  ·intro a b ha hb h1 h2
   exact impl_measuresOf.anti hap (hpm.mem_iff.1 ha) ((List.mergeSort_perm _ _).mem_iff.1 hb) h1 h2
  ·rw [List.pairwise_map]
   exact hpw
  ·exact List.pairwise_mergeSort impl_measuresOf.le_trans impl_measuresOf.le_total _
 refine ⟨he, impl_measuresOf.grown_put _ _, ?_⟩
 have := impl_measuresOf.S_sorted (d := Kd.slice 3 (Kd.int .i64)) rfl (m := m) (os := os) ho hr trivial σ hnd2 hl
 rw [hrow] at this
 exact this
/-! the measures, collected in whatever order and sorted -/
def impl_measuresOf.row (A : Int → Int → Option Int) (p : Int × Int) : List Int := [p.1, p.2, (A p.1 p.2).getD 0]
def impl_measuresOf.nz (A : Int → Int → Option Int) (p : Int × Int) : Bool := decide ((A p.1 p.2).getD 0 ≠ 0)
structure impl_measuresOf.Sup (A : Int → Int → Option Int) (L : List (Int × Int)) : Prop where
 nd : L.Nodup
 mem : ∀ p, p ∈ L ↔ (impl_measuresOf.okI p.1 ∧ impl_measuresOf.okI p.2 ∧ (A p.1 p.2).isSome = true)
 bnd : ∀ p ∈ L, (-1000 ≤ p.1 ∧ p.1 ≤ 1000) ∧ (-1000 ≤ p.2 ∧ p.2 ≤ 1000)
def impl_measuresOf.listOf (A : Int → Int → Option Int) (L : List (Int × Int)) : List (List Int) := impl_measuresOf.sorted ((L.filter (impl_measuresOf.nz A)).map (impl_measuresOf.row A))
theorem impl_measuresOf.row_ok {A : Int → Int → Option Int} {p : Int × Int} (h : (-1000 ≤ p.1 ∧ p.1 ≤ 1000) ∧ (-1000 ≤ p.2 ∧ p.2 ≤ 1000)) : impl_measuresOf.ok (impl_measuresOf.row A p) := ⟨rfl, h.1, h.2⟩
theorem impl_measuresOf.rows_apart {A : Int → Int → Option Int} {l : List (Int × Int)} (h : l.Nodup) : impl_measuresOf.apart (l.map (impl_measuresOf.row A)) := by
 unfold impl_measuresOf.apart
 rw [List.pairwise_map]
 refine List.Pairwise.imp ?_ h
 intro p q hne he
 exact hne (Prod.ext he.1 he.2)
theorem impl_measuresOf.sorted_perm {l l' : List (List Int)} (ha : impl_measuresOf.apart l) (hp : l.Perm l') : impl_measuresOf.sorted l = impl_measuresOf.sorted l' := by
 refine List.Perm.eq_of_pairwise (le := fun a b => impl_measuresOf.le a b = true) ?_ (List.pairwise_mergeSort impl_measuresOf.le_trans impl_measuresOf.le_total _) (List.pairwise_mergeSort impl_measuresOf.le_trans impl_measuresOf.le_total _) ?_
 ·intro a b h1 h2 h3 h4
  exact impl_measuresOf.anti ha ((List.mergeSort_perm _ _).mem_iff.1 h1) (hp.mem_iff.2 ((List.mergeSort_perm _ _).mem_iff.1 h2)) h3 h4
 ·exact (List.mergeSort_perm _ _).trans (hp.trans (List.mergeSort_perm _ _).symm)
theorem impl_measuresOf.same_list {A : Int → Int → Option Int} {L ks : List (Int × Int)} (hL : impl_measuresOf.Sup A L) (hn : ks.Nodup) (hm : ∀ p, p ∈ ks ↔ p ∈ L) : impl_measuresOf.sorted ((ks.filter (impl_measuresOf.nz A)).map (impl_measuresOf.row A)) = impl_measuresOf.listOf A L := by
 have hp : ks.Perm L := (List.perm_ext_iff_of_nodup hn hL.nd).2 hm
 exact impl_measuresOf.sorted_perm (impl_measuresOf.rows_apart (hn.filter _)) ((hp.filter _).map _)
theorem impl_measuresOf.sorted_nil : impl_measuresOf.sorted [] = [] := by simp [impl_measuresOf.sorted]
theorem impl_measuresOf.sorted_len (xs : List (List Int)) : (impl_measuresOf.sorted xs).length = xs.length := List.length_mergeSort xs
theorem impl_measuresOf.rng_iter {W : World} {b r n cnt : Nat} {D : DataW Unit} {left : Lit → Bool} {R : Value → Option (DataW Unit × List MemPlace)} {k : TypeId} (h : W.ranges Tryd.prog k R b r n D left cnt) : ∃ x1 x2 x3 x4, W.heap[r]? = some (.mapIter x1 x2 x3 x4) := by
 obtain ⟨es, clock, since, seen, c0, hb, _, _, _, hr, _⟩ := h
 exact ⟨_, _, _, _, hr⟩
theorem impl_measuresOf.S_iter {d : Kd (List Int)} {e r base : Nat} {W W1 : World} {v : Value} {xs : List (List Int)} (h : Kd.S d e W base (fun _ => True) v xs) (hr : ∃ x1 x2 x3 x4, W.heap[r]? = some (.mapIter x1 x2 x3 x4)) (hg : W.grownBy W1 (some r)) : Kd.S d e W1 base (fun _ => True) v xs := by
 obtain ⟨x1, x2, x3, x4, hr⟩ := hr
 refine Kd.S_mono (Kd.S_step (Kd.S_bound h) (fun k hk hlt => hg.block k hlt (fun e_ => ?_))) (fun _ _ => trivial)
 injection e_ with e_
 obtain ⟨_, _, _, q, _, cells, hc⟩ := hk
 rw [e_, hr] at hc
 cases hc
theorem impl_measuresOf.same_kl {x y i j : Int} (hx : impl_measuresOf.okI x) (hy : impl_measuresOf.okI y) (hi : impl_measuresOf.okI i) (hj : impl_measuresOf.okI j) : (impl_measuresOf.kl i j).sameKey (impl_measuresOf.kl x y) = decide (i = x ∧ j = y) := by
 by_cases e : i = x ∧ j = y
 ·rw [decide_eq_true e, e.1, e.2]; exact WideAt.sameKey_self (impl_measuresOf.K.key (impl_measuresOf.kf hx hy))
 ·rw [decide_eq_false e]; exact Maps.sameKey_ne (fun h => e (impl_measuresOf.kl_inj hi hj hx hy h))
theorem impl_measuresOf.forget {P : Program} {c : Code} {Q : Exit → Act → World → Prop} {a : Act} {I : World → Prop} {W0 : World} (h0 : I W0) (h : ∀ W : World, I W → Code.wp P c Q a W) : Code.wp P c Q a W0 := h W0 h0
theorem impl_measuresOf.inf : (Tryd.prog.info? 22).map (fun i => (i.zero, i.size, i.bytes)) = some (some (.slice none 0 0), 1, 24) := by kernel_rfl
theorem impl_measuresOf.rng_map {W : World} {b r n cnt : Nat} {D : DataW Unit} {left : Lit → Bool} {R : Value → Option (DataW Unit × List MemPlace)} {k : TypeId} (h : W.ranges Tryd.prog k R b r n D left cnt) : W.heap[b]? = some (.map (h.choose) (h.choose_spec.choose)) := h.choose_spec.choose_spec.choose_spec.choose_spec.choose_spec.1
theorem impl_measuresOf.ne_own {W : World} {b e : Nat} {o : Obj} {v : Value} (hb : W.heap[b]? = some o) (ho : ∀ cs t, o = .cells cs t (0, 0) → False) (hv : ∀ k, v.ownBlock = some k → ∃ cells, W.heap[k]? = some (.cells cells e (0, 0))) : some b ≠ v.ownBlock := fun e_ => by
 obtain ⟨cells, h⟩ := hv b e_.symm
 rw [hb] at h
 injection h with h
 exact ho _ _ h
set_option maxHeartbeats 16000000 in
set_option maxRecDepth 100000 in
theorem impl_measuresOf.calls (w : World) (b n : Nat) (D : DataW Unit) (A : Int → Int → Option Int) (L : List (Int × Int)) (hM : impl_measuresOf.M w b n D A) (hL : impl_measuresOf.Sup A L) (hn : n ≤ 200) :
  Calls Tryd.prog 76 #[.map (some b)] w fun e w' => ∃ v, e = .returned v ∧ Kd.S (Kd.slice 3 (Kd.int .i64)) 22 w' w.heap.size (fun _ => True) v (impl_measuresOf.listOf A L) ∧ Below w.heap.size w w' := by
 have hsz : Maps.size D ≤ 200 := by
  obtain ⟨es, clock, _, _, hle, hDe⟩ := hM.own
  rw [hDe]
  show (List.foldr DataW.insert [] _).length ≤ 200
  rw [(Go.WideShapes.sorted_perm _).length_eq, List.length_map, Array.length_toList]
  omega
 have HD := zm1 hM.at_
 have HOW := zm1 hM.own
 have HN := zm1 hsz
 have SUP := zm1 hL
 have HB := zm1 (Below.refl w.heap.size w)
 clear hM hn hsz hL
 go_enter Tryd.func76, Tryd.ntmps76
 go_upto_region 2 with (first | ((with_reducible refine gate_dst (N := 6) rfl ?_); refine Kd.S_lit (Kd.slice 3 (Kd.int .i64)) _ 22 ?hg (N := 6) ?hd (xs := ([] : List (List Int))) (inner := []) (ok := fun _ => True) (okp := fun _ => True) ?hr ?hp (fun _ hk => hk) trivial (Below.refl _ _) (Nat.le_refl _) (by simp) ?_; (case hd => rfl); (case hg => rfl); (case hr => first | (go_simp; done) | (go_simp; rfl)); (case hp => exact (Reps.none _ _)); intro v6 w6 ho hb hg_ hnew_; clear hg_ hnew_; have HO := zm1 (Kd.S_lower ho (Nat.le_refl _)); have HB6 := zm1 hb; clear ho hb))
 have nHOW := zm1 (HOW.out.kept (row := none) ⟨HB6.out.os, HB6.out.tape, HB6.out.output, HB6.out.size, fun k hk _ => HB6.out.block k hk⟩ (by simp))
 clear HOW HB
 have HOW := nHOW
 have HB := HB6
 have HB6S := zm1 (show w.heap.size ≤ w6.heap.size from HB6.out.size)
 clear nHOW HB6
 go_wp2_with (first | (at_range; refine wpList_range_own _ rfl _ 76 rfl 79 3 impl_measuresOf.K Tryd.underlying76 _ b n _ rfl HOW.out ?_; intro w3 hrg0 hg0 hs0; have HRG := zm1 hrg0; have HG := zm1 hg0; clear hrg0 hg0 hs0))
 go_frame
 go_loopg [3] (Maps.size D) (fun kq v3 wr => ∃ (left : Lit → Bool) (ks : List (Int × Int)), Aside0 (ks.Nodup) ∧ Aside0 (∀ p : Int × Int, impl_measuresOf.okI p.1 → impl_measuresOf.okI p.2 → (p ∈ ks ↔ (left (impl_measuresOf.kl p.1 p.2) = false ∧ (A p.1 p.2).isSome = true))) ∧ Aside0 (∀ p ∈ ks, p ∈ L) ∧ Aside0 (ks.length + kq ≤ 200) ∧ Aside0 (∀ kl, left kl = true → Maps.has D kl = true) ∧ Aside0 (wr.ranges Tryd.prog 79 (plainElem Tryd.prog 3) b w6.heap.size n D left kq) ∧ Aside0 (Kd.S (Kd.slice 3 (Kd.int .i64)) 22 wr w.heap.size (fun _ => True) v3 ((ks.filter (impl_measuresOf.nz A)).map (impl_measuresOf.row A))) ∧ Aside0 (Below w.heap.size w wr))
 case atStart =>
  exact ⟨Maps.has D, [], ⟨List.nodup_nil⟩, ⟨fun p h1 h2 => by rw [(HD.out p.1 p.2 h1 h2).1]; cases A p.1 p.2 <;> simp⟩, ⟨fun p hp => by cases hp⟩, ⟨by have := HN.out; simp; exact this⟩, ⟨fun _ h => h⟩, HRG, ⟨Kd.S_grown HO.out HG.out (fun k _ => by simp)⟩, ⟨HB.out.grown HG.out HB.out.size (fun k hk => by cases hk)⟩⟩
 case round =>
  clear HRG HG HO HB
  obtain ⟨left, ks, KN, KM, KS, KL, HL, HRG, HO, HB⟩ := hrel
  go_wp2_with (first | (at_next; refine wpList_next_ranges _ rfl _ rfl 79 impl_measuresOf.K (plainElem Tryd.prog 3) (fun p : Int × Int => impl_measuresOf.kv p.1 p.2) (Value.int .i64) (fun key kl hkey => by obtain ⟨x, y, _, _, e, _⟩ := impl_measuresOf.inv hkey; exact ⟨(x, y), e⟩) (fun v y hv => by obtain ⟨c, rfl, _⟩ := plainElem_int_inv Tryd.underlying3 hv; exact ⟨c, rfl⟩) b w6.heap.size n _ _ _ rfl HRG.out ?_ ?_))
  ·intro _ hl0
   have KE := zm1 (show ∀ p, p ∈ ks ↔ p ∈ L from fun p => ⟨fun h => KS.out p h, fun h => by
    have h1 := (SUP.out.mem p).1 h
    exact (KM.out p h1.1 h1.2.1).2 ⟨hl0 _, h1.2.2⟩⟩)
   clear hl0
   have ES := zm1 (impl_measuresOf.same_list SUP.out KN.out KE.out)
   have OKS := zm1 (show ∀ r ∈ (ks.filter (impl_measuresOf.nz A)).map (impl_measuresOf.row A), impl_measuresOf.ok r from fun r hr => by
    obtain ⟨p, hp, rfl⟩ := List.mem_map.1 hr
    exact impl_measuresOf.row_ok (SUP.out.bnd p (KS.out p (List.mem_filter.1 hp).1)))
   have APS := zm1 (impl_measuresOf.rows_apart (A := A) (KN.out.filter (impl_measuresOf.nz A)))
   have LENS := zm1 (show ((ks.filter (impl_measuresOf.nz A)).map (impl_measuresOf.row A)).length ≤ 200 by rw [List.length_map]; exact Nat.le_trans (List.length_filter_le _ _) (Nat.le_trans (Nat.le_add_right _ _) KL.out))
   generalize hxs : (ks.filter (impl_measuresOf.nz A)).map (impl_measuresOf.row A) = xs at HO ES OKS APS LENS
   have HXS := zm1 hxs
   clear hxs
   by_cases h0 : xs = []
   ·subst h0
    rw [impl_measuresOf.sorted_nil] at ES
    obtain ⟨A3, c3_, e3⟩ := Kd.S_slice HO.out
    subst e3
    go_wp2_with (first | (go_at_call 107; refine (AnyF.slices_SortFunc_none Tryd.laysSlF06_f107 A3 c3_ _ _).mono ?_; rintro e w8 ⟨rfl, rfl⟩))
    go_ret
    exact ⟨_, rfl, by rw [← ES.out]; exact HO.out, by repeat (first | exact HB.out | apply pw_below_drewN | apply below_drew1)⟩
   ·have hpos : 0 < xs.length := List.length_pos_iff.2 h0
    obtain ⟨g, cap, e3, hgb, hgl, _⟩ := Kd.S_form HO.out hpos
    subst e3
    have GB := zm1 hgb
    have HPOS := zm1 hpos
    clear h0 hpos hgb hgl
    go_wp2_with (first | (go_at_call 107; (with_reducible refine (impl_measuresOf.sort _ w.heap.size g cap xs OKS.out APS.out HPOS.out LENS.out HO.out).mono ?_); rintro e w8 ⟨rfl, hg, ho⟩; have HG8 := zm1 hg; have HO8 := zm1 ho; clear hg ho))
    have HB8 := zm1 (HB.out.grown HG8.out HB.out.size (fun k hk => by injection hk with hk; have := GB.out; omega))
    go_ret
    refine ⟨_, rfl, ?_, by repeat (first | exact HB8.out | apply pw_below_drewN | apply below_drew1)⟩
    rw [← ES.out]
    exact HO8.out
  ·intro px py c kl0 d0 ps0 w1 cnt1 hkey hlx hRv hat hrg1 hlt hg1 hs1 hen
   obtain ⟨x, y, okx, oky, hkv, rfl⟩ := impl_measuresOf.inv hkey
   obtain ⟨rfl, rfl⟩ : px = x ∧ py = y := by simpa [impl_measuresOf.kv] using hkv
   obtain ⟨c', hc', hy0, okc⟩ := plainElem_int_inv Tryd.underlying3 hRv
   obtain rfl : c = c' := by injection hc'
   obtain ⟨rfl, rfl⟩ : d0 = .lit (.int .i64 c) ∧ ps0 = [] := by simpa using hy0
   have hA := HD.out px py okx oky
   have hsome : (A px py).isSome = true := by rw [← hA.1]; exact HL.out _ hlx
   have hgd : (A px py).getD 0 = c := by
    have h1 := hat (.lit (.int .i64 0))
    rw [hA.2] at h1
    simpa using h1
   have HR1 := zm1 hrg1
   have HG1 := zm1 hg1
   have HLT := zm1 hlt
   have HLX := zm1 hlx
   have XS := zm1 hsome
   have XC := zm1 hgd
   have OKX := zm1 okx
   have OKY := zm1 oky
   have nHO := zm1 (impl_measuresOf.S_iter HO.out (impl_measuresOf.rng_iter HRG.out) HG1.out)
   have nHB := zm1 (HB.out.grown HG1.out HB.out.size (fun k hk => by injection hk with hk; have := HB6S.out; omega))
   clear HO HB HRG hrg1 hlt hg1 hs1 hlx hat hsome hgd hA hkv hc' hkey okx oky hRv
   have HO := nHO
   have HB := nHB
   have HRG := HR1
   clear nHO nHB HR1 HG1
   rw [show impl_measuresOf.kv px py = .agg #[.int .i64 px, .int .i64 py] from rfl] at hen ⊢
   have hnot : (px, py) ∉ ks := fun h => by
    have h1 := ((KM.out (px, py) OKX.out OKY.out).1 h).1
    rw [HLX.out] at h1
    cases h1
   have NEWS : Aside0 (ks ++ [(px, py)]).Nodup ∧ Aside0 (∀ p : Int × Int, impl_measuresOf.okI p.1 → impl_measuresOf.okI p.2 → (p ∈ ks ++ [(px, py)] ↔ ((left (impl_measuresOf.kl p.1 p.2) && !(impl_measuresOf.kl p.1 p.2).sameKey (impl_measuresOf.kl px py)) = false ∧ (A p.1 p.2).isSome = true))) ∧ Aside0 (∀ p ∈ ks ++ [(px, py)], p ∈ L) := by
    refine ⟨⟨List.nodup_append.2 ⟨KN.out, by simp, fun a ha b hb => by rw [List.mem_singleton] at hb; rw [hb]; exact fun e => hnot (e ▸ ha)⟩⟩, ⟨fun p h1 h2 => ?_⟩, ⟨fun p hp => ?_⟩⟩
    ·rw [List.mem_append, List.mem_singleton, KM.out p h1 h2, impl_measuresOf.same_kl OKX.out OKY.out h1 h2]
     by_cases e : p = (px, py)
     ·subst e; simp [XS.out]
     ·have e' : ¬ (p.1 = px ∧ p.2 = py) := fun h => e (Prod.ext h.1 h.2)
      simp [e, e']
    ·rw [List.mem_append, List.mem_singleton] at hp
     rcases hp with hp | rfl
     ·exact KS.out p hp
     ·exact (SUP.out.mem _).2 ⟨OKX.out, OKY.out, XS.out⟩
   have NEWS := zm1 NEWS
   clear hnot
   by_cases hc0 : c = 0
   ·have C0 := zm1 hc0
    have b0 : (c != 0) = false := bne_eq_false_iff_eq.mpr hc0
    clear hc0
    go_wp2
    go_roundg cnt1
    case measure => exact HLT.out
    case rel =>
     refine ⟨_, ks ++ [(px, py)], NEWS.out.1, NEWS.out.2.1, NEWS.out.2.2, ⟨by have := KL.out; have := HLT.out; rw [List.length_append, List.length_singleton]; omega⟩, ⟨fun kl h => HL.out kl (by have h : (left kl && !kl.sameKey (impl_measuresOf.kl px py)) = true := h; rw [Bool.and_eq_true] at h; exact h.1)⟩, ⟨HRG.out.kept (grown_of_below (below_alloc (Below.refl _ _) _) none) (by simp) (by simp)⟩, ⟨?_⟩, ⟨below_alloc HB.out _⟩⟩
     rw [List.filter_append, List.filter_cons_of_neg (by simp [impl_measuresOf.nz, XC.out, C0.out]), List.filter_nil, List.append_nil]
     exact Kd.S_alloc HO.out _
   ·have C0 := zm1 hc0
    have b0 : (c != 0) = true := bne_iff_ne.mpr hc0
    clear hc0
    obtain ⟨y, hy⟩ : ∃ y, y = impl_measuresOf.row A (px, py) := ⟨_, rfl⟩
    have hyl : y = [px, py, c] := by rw [hy]; show [px, py, (A px py).getD 0] = [px, py, c]; rw [XC.out]
    have YE := zm1 hy
    have YL := zm1 hyl
    have KF := zm1 (show ((ks.filter (impl_measuresOf.nz A)).map (impl_measuresOf.row A)).length ≤ 200 by rw [List.length_map]; have := List.length_filter_le (impl_measuresOf.nz A) ks; have := KL.out; omega)
    clear hy hyl
    go_upto_region 6 with (fail)
    obtain ⟨bd, hbd⟩ : ∃ bd, bd = w1.heap.size := ⟨_, rfl⟩
    rw [← hbd]
    refine impl_measuresOf.forget (I := fun W => W.heap[bd]? = some (.cells #[.int .i64 px, .int .i64 py] 79 (0, 0)) ∧ W.ranges Tryd.prog 79 (plainElem Tryd.prog 3) b w6.heap.size n D (fun z => left z && !z.sameKey (impl_measuresOf.kl px py)) cnt1 ∧ Kd.S (Kd.slice 3 (Kd.int .i64)) 22 W w.heap.size (fun _ => True) u3 ((ks.filter (impl_measuresOf.nz A)).map (impl_measuresOf.row A)) ∧ Below w.heap.size w W) ⟨by rw [hbd]; exact blk_new _ _, HRG.out.kept (grown_of_below (below_alloc (Below.refl _ _) _) none) (by simp) (by simp), Kd.S_alloc HO.out _, below_alloc HB.out _⟩ ?_
    rintro W ⟨hbl, hrgW, hoW, hbW⟩
    clear HRG HO HB hen hbd
    have HRG := zm1 hrgW
    have HO := zm1 hoW
    have HB := zm1 hbW
    have hz0 : W.cell? ⟨bd, 0, none⟩ = some (.int .i64 px) := (blk_cell hbl 0).trans rfl
    have hz1 : W.cell? ⟨bd, 1, none⟩ = some (.int .i64 py) := (blk_cell hbl 1).trans rfl
    clear hbl hrgW hoW hbW
    go_wp2_with (first | ((with_reducible refine gate_dst (N := 22) rfl ?_); refine Kd.R_lit (Kd.int .i64) _ 3 ?hg (N := 22) ?hd (xs := ([px, py, c] : List Int)) (inner := [.int .i64 px, .int .i64 py, .int .i64 c]) (ok := fun _ => True) (okp := fun _ => True) ?hr ?hp (fun _ hk => hk) trivial (Below.refl _ _) (Nat.le_refl _) (by simp) ?_; (case hd => rfl); (case hg => rfl); (case hr => first | (go_simp; done) | (go_simp; rfl)); (case hp => exact (Reps.one (show Kd.M (Kd.int .i64) _ _ _ px [.int .i64 px] from rfl) (Reps.one (show Kd.M (Kd.int .i64) _ _ _ py [.int .i64 py] from rfl) (Reps.one (show Kd.M (Kd.int .i64) _ _ _ c [.int .i64 c] from rfl) (Reps.none _ _))))); intro v20 w20 ho20 hb hg_ hnew_; clear hg_ hnew_; rw [← YL.out] at ho20; have n0_ := zm1 (Kd.S_elder' (by (with_reducible repeat (first | apply Kd.S_alloc | apply Kd.S_drewN | apply Kd.S_drew)); exact HO.out) (Kd.R_base ho20) hb); have n1_ := zm1 (Kd.R_lower ho20 (zc5 (by repeat (first | (with_reducible first | exact HB.out | apply zc1 | apply zc2 | apply zc3) | exact HB.out)))); have n2_ := zm1 (zc6 (by repeat (first | (with_reducible first | exact HB.out | apply zc1 | apply zc2 | apply zc3) | exact HB.out)) hb); have n3_ := zm1 (HRG.out.kept (row := none) ⟨hb.os, hb.tape, hb.output, hb.size, fun k hk _ => hb.block k hk⟩ (by simp) (by simp)); clear HO HB HRG; have HO := n0_; have HO2 := n1_; have HB := n2_; have HRG := n3_; clear n0_ n1_ n2_ n3_; clear hb ho20; obtain ⟨Ao, co, eo⟩ := Kd.R_slice HO2.out; subst eo) | ((with_reducible refine gate_builtin (b := .append) (xs := #[.tmp 16, .tmp 23]) rfl ?_); at_builtin; refine Kd.S_append (Kd.slice 3 (Kd.int .i64)) (w0 := w) w.heap.size rfl (.tmp 16) (.tmp 23) 27 22 (.slice none 0 0) 24 rfl Tryd.underlying27 impl_measuresOf.inf rfl (by decide) (by omega) u3 ((ks.filter (impl_measuresOf.nz A)).map (impl_measuresOf.row A)) y [.slice Ao y.length co] (fun _ => True) (fun k_ => some k_ = (.slice Ao y.length co : Value).ownBlock) rfl rfl ?aP (fun k_ hk_ => ((Kd.R_mono (ok' := fun k_ => ((fun _ => True)) k_ ∧ some k_ ≠ (u3 : Value).ownBlock) (Kd.R_apart' (HO2.out) (Kd.S_typed HO.out) (by decide)) (fun k_ hk => ⟨trivial, hk.2⟩))).1 k_ hk_.symm) ?aF ?aO ?aB ?aS ?aL ?_; (case aP => exact Kd.M_row (Kd.R_mono (Kd.R_tight rfl (Kd.R_mono (ok' := fun k_ => ((fun _ => True)) k_ ∧ some k_ ≠ (u3 : Value).ownBlock) (Kd.R_apart' (HO2.out) (Kd.S_typed HO.out) (by decide)) (fun k_ hk => ⟨trivial, hk.2⟩))) (fun _ h_ => h_))); (case aB => exact (by repeat (first | (with_reducible first | exact HB.out | apply zc1 | apply zc2 | apply zc3) | exact HB.out))); (case aF => exact (fun _ _ => trivial)); (case aO => exact (by (with_reducible repeat (first | apply Kd.S_alloc | apply Kd.S_drewN | apply Kd.S_drew)); exact Kd.S_mono HO.out (fun k_ hk => ⟨trivial, fun e_ => hk.2 e_⟩))); (case aS => exact (zc5 (by repeat (first | (with_reducible first | exact HB.out | apply zc1 | apply zc2 | apply zc3) | exact HB.out)))); (case aL => have := KF.out; omega); intro v22 w22 ho hb hg hat; have n0_ := zm1 hb; have n1_ := zm1 ho; have n2_ := zm1 (HRG.out.kept hg (impl_measuresOf.ne_own (impl_measuresOf.rng_map HRG.out) (fun _ _ h => by cases h) (Kd.S_typed HO.out)) (impl_measuresOf.ne_own (impl_measuresOf.rng_iter HRG.out).choose_spec.choose_spec.choose_spec.choose_spec (fun _ _ h => by cases h) (Kd.S_typed HO.out))); clear HB HO HO2 HRG; have HB := n0_; have HO := n1_; have HRG := n2_; clear n0_ n1_ n2_; clear ho hb hg hat))
    go_roundg cnt1
    case measure => exact HLT.out
    case rel =>
     refine ⟨_, ks ++ [(px, py)], NEWS.out.1, NEWS.out.2.1, NEWS.out.2.2, ⟨by have := KL.out; have := HLT.out; rw [List.length_append, List.length_singleton]; omega⟩, ⟨fun kl h => HL.out kl (by have h : (left kl && !kl.sameKey (impl_measuresOf.kl px py)) = true := h; rw [Bool.and_eq_true] at h; exact h.1)⟩, HRG, ⟨?_⟩, HB⟩
     rw [List.filter_append, List.filter_cons_of_pos (by simp [impl_measuresOf.nz, XC.out, C0.out]), List.filter_nil, List.map_append, List.map_singleton, ← YE.out]
     exact HO.out
/-! the measures of a polygon -/
def impl_measures.look (s : List ((Int × Int) × Int)) (x y : Int) : Option Int := (s.find? (fun e => decide (e.1.1 = x ∧ e.1.2 = y))).map (·.2)
def impl_measures.addm : List ((Int × Int) × Int) → Int → Int → Int → List ((Int × Int) × Int)
 | [], x, y, n => [((x, y), wrap64 (0 + n))]
 | e :: s, x, y, n => if e.1.1 = x ∧ e.1.2 = y then (e.1, wrap64 (e.2 + n)) :: s else e :: impl_measures.addm s x y n
theorem impl_measures.look_add : ∀ (s : List ((Int × Int) × Int)) (x y n i j : Int), impl_measures.look (impl_measures.addm s x y n) i j = impl_measuresOf.upd (impl_measures.look s) x y (some (wrap64 ((impl_measures.look s x y).getD 0 + n))) i j
 | [], x, y, n, i, j => by
  unfold impl_measures.addm impl_measuresOf.upd
  by_cases c : i = x ∧ j = y
  ·rw [if_pos c]; simp [impl_measures.look, c.1, c.2]
  ·rw [if_neg c]; simp [impl_measures.look]; intro h1 h2; exact c ⟨h1.symm, h2.symm⟩
 | e :: s, x, y, n, i, j => by
  have ih := impl_measures.look_add s x y n i j
  unfold impl_measuresOf.upd at ih ⊢
  unfold impl_measures.addm
  by_cases d : e.1.1 = x ∧ e.1.2 = y
  ·rw [if_pos d]
   have hl : impl_measures.look (e :: s) x y = some e.2 := by simp [impl_measures.look, d.1, d.2]
   rw [hl]
   by_cases c : i = x ∧ j = y
   ·rw [if_pos c]; simp [impl_measures.look, c.1, c.2, d.1, d.2]
   ·rw [if_neg c]
    have : ¬ (e.1.1 = i ∧ e.1.2 = j) := fun h => c ⟨h.1.symm.trans d.1, h.2.symm.trans d.2⟩
    simp [impl_measures.look, this]
  ·rw [if_neg d]
   have hl : impl_measures.look (e :: s) x y = impl_measures.look s x y := by simp [impl_measures.look, d]
   rw [hl]
   by_cases g : e.1.1 = i ∧ e.1.2 = j
   ·have c : ¬ (i = x ∧ j = y) := fun h => d ⟨g.1.trans h.1, g.2.trans h.2⟩
    rw [if_neg c]
    simp [impl_measures.look, g.1, g.2]
   ·have h1 : impl_measures.look (e :: impl_measures.addm s x y n) i j = impl_measures.look (impl_measures.addm s x y n) i j := by simp [impl_measures.look, g]
    have h2 : impl_measures.look (e :: s) i j = impl_measures.look s i j := by simp [impl_measures.look, g]
    rw [h1, h2]
    exact ih
def impl_measures.keys (s : List ((Int × Int) × Int)) : List (Int × Int) := s.map (·.1)
theorem impl_measures.look_some {s : List ((Int × Int) × Int)} {x y : Int} : (impl_measures.look s x y).isSome = true ↔ (x, y) ∈ impl_measures.keys s := by
 unfold impl_measures.look impl_measures.keys
 rw [Option.isSome_map, List.find?_isSome, List.mem_map]
 constructor
 ·rintro ⟨e, he, h⟩
  have h' := of_decide_eq_true h
  exact ⟨e, he, Prod.ext h'.1 h'.2⟩
 ·rintro ⟨e, he, h⟩
  exact ⟨e, he, decide_eq_true ⟨by rw [h], by rw [h]⟩⟩
theorem impl_measures.keys_add : ∀ (s : List ((Int × Int) × Int)) (x y n : Int), impl_measures.keys (impl_measures.addm s x y n) = if (x, y) ∈ impl_measures.keys s then impl_measures.keys s else impl_measures.keys s ++ [(x, y)]
 | [], x, y, n => by simp [impl_measures.addm, impl_measures.keys]
 | e :: s, x, y, n => by
  have ih := impl_measures.keys_add s x y n
  unfold impl_measures.addm
  by_cases d : e.1.1 = x ∧ e.1.2 = y
  ·rw [if_pos d, if_pos (by simp [impl_measures.keys]; exact .inl (Prod.ext d.1.symm d.2.symm))]
   rfl
  ·rw [if_neg d]
   show e.1 :: impl_measures.keys (impl_measures.addm s x y n) = _
   rw [ih]
   have : (x, y) ∈ impl_measures.keys (e :: s) ↔ (x, y) ∈ impl_measures.keys s := by
    show (x, y) ∈ e.1 :: impl_measures.keys s ↔ _
    rw [List.mem_cons]
    constructor
    ·rintro (h | h)
     ·exact absurd ⟨by rw [← h], by rw [← h]⟩ d
     ·exact h
    ·exact .inr
   by_cases m : (x, y) ∈ impl_measures.keys s
   ·rw [if_pos m, if_pos (this.2 m)]; rfl
   ·rw [if_neg m, if_neg (fun h => m (this.1 h))]; rfl
structure impl_measures.Ok (s : List ((Int × Int) × Int)) : Prop where
 nd : (impl_measures.keys s).Nodup
 bnd : ∀ p ∈ impl_measures.keys s, (-1000 ≤ p.1 ∧ p.1 ≤ 1000) ∧ (-1000 ≤ p.2 ∧ p.2 ≤ 1000)
theorem impl_measures.Ok.nil : impl_measures.Ok [] := ⟨List.nodup_nil, fun p h => by cases h⟩
theorem impl_measures.Ok.add {s : List ((Int × Int) × Int)} (h : impl_measures.Ok s) {x y : Int} (n : Int) (hx : -1000 ≤ x ∧ x ≤ 1000) (hy : -1000 ≤ y ∧ y ≤ 1000) : impl_measures.Ok (impl_measures.addm s x y n) := by
 by_cases m : (x, y) ∈ impl_measures.keys s
 ·have e := impl_measures.keys_add s x y n
  rw [if_pos m] at e
  exact ⟨by rw [e]; exact h.nd, by rw [e]; exact h.bnd⟩
 ·have e := impl_measures.keys_add s x y n
  rw [if_neg m] at e
  refine ⟨by rw [e]; exact List.nodup_append.2 ⟨h.nd, by simp, fun a ha b hb => by rw [List.mem_singleton] at hb; rw [hb]; exact fun e => m (e ▸ ha)⟩, fun p hp => ?_⟩
  rw [e, List.mem_append, List.mem_singleton] at hp
  rcases hp with hp | rfl
  ·exact h.bnd p hp
  ·exact ⟨hx, hy⟩
theorem impl_measures.sup {s : List ((Int × Int) × Int)} (h : impl_measures.Ok s) : impl_measuresOf.Sup (impl_measures.look s) (impl_measures.keys s) :=
 ⟨h.nd, fun p => ⟨fun hp => by
  have hb := h.bnd p hp
  exact ⟨impl_measuresOf.okI_small (by omega) (by omega), impl_measuresOf.okI_small (by omega) (by omega), impl_measures.look_some.2 hp⟩, fun hp => impl_measures.look_some.1 hp.2.2⟩, h.bnd⟩
def impl_measures.at_ (p : List S53) (i : Nat) : S53 := p.getD i z53
def impl_measures.dir (k : Nat) (p : List S53) (i : Nat) : Option (Int × Int × Int) := impl_directionOf.f k (impl_measures.at_ p i).f0 (impl_measures.at_ p i).f1 (impl_measures.at_ p ((i + 1) % p.length)).f0 (impl_measures.at_ p ((i + 1) % p.length)).f1
def impl_measures.go (k : Nat) (p : List S53) : Nat → List ((Int × Int) × Int) → Option (List ((Int × Int) × Int))
 | 0, s => some s
 | d + 1, s => (impl_measures.dir k p (p.length - (d + 1))).bind fun t => if ((-1000 ≤ t.1 ∧ t.1 ≤ 1000) ∧ (-1000 ≤ t.2.1 ∧ t.2.1 ≤ 1000)) then impl_measures.go k p d (impl_measures.addm s t.1 t.2.1 t.2.2) else none
def impl_measures.main (k : Nat) (q : List S53) : Option (List (List Int)) := if 1 ≤ q.length ∧ q.length ≤ 100 then (impl_measures.go k q q.length []).bind fun s => some (impl_measuresOf.listOf (impl_measures.look s) (impl_measures.keys s)) else none
def impl_measures.f (k : Nat) (p : List S53) : Option (List (List Int)) := (impl_twice.f k p).bind fun t => if t < 0 then (impl_turned.f p).bind fun q => impl_measures.main k q else impl_measures.main k p
theorem impl_measures.go_mono (k : Nat) (p : List S53) : ∀ (d : Nat) (s : List ((Int × Int) × Int)), LeO (impl_measures.go k p d s) (impl_measures.go (k + 1) p d s)
 | 0, s => LeO.refl _
 | d + 1, s => by
  unfold impl_measures.go impl_measures.dir
  exact LeO.bind (impl_directionOf.mono _ _ _ _ _) (fun t => LeO.ite (impl_measures.go_mono k p d _) (LeO.refl _))
theorem impl_measures.mono : ∀ a0 k, LeO (impl_measures.f k a0) (impl_measures.f (k + 1) a0) := by
 intro a0 k
 have hm : ∀ q, LeO (impl_measures.main k q) (impl_measures.main (k + 1) q) := fun q => by
  unfold impl_measures.main
  exact LeO.ite (LeO.bind (impl_measures.go_mono k q _ _) (fun _ => LeO.refl _)) (LeO.refl _)
 unfold impl_measures.f
 exact LeO.bind (impl_twice.mono _ _) (fun t => LeO.ite (LeO.bind (LeO.refl _) (fun q => hm q)) (hm _))
theorem impl_measures.forget {P : Program} {c : Code} {Q : Exit → Act → World → Prop} {a : Act} {I : World → Prop} {W0 : World} (h0 : I W0) (h : ∀ W : World, I W → Code.wp P c Q a W) : Code.wp P c Q a W0 := h W0 h0
theorem impl_measures.keep4 {W w' : World} {p0 p1 p2 p3 : Addr} {v0 v1 v2 v3 : Value} (h0 : W.cell? p0 = some v0) (h1 : W.cell? p1 = some v1) (h2 : W.cell? p2 = some v2) (h3 : W.cell? p3 = some v3) (hb : Below W.heap.size W w') : w'.cell? p0 = some v0 ∧ w'.cell? p1 = some v1 ∧ w'.cell? p2 = some v2 ∧ w'.cell? p3 = some v3 :=
 ⟨(hb.cell (zl h0)).trans h0, (hb.cell (zl h1)).trans h1, (hb.cell (zl h2)).trans h2, (hb.cell (zl h3)).trans h3⟩
theorem impl_measures.okw (n : Int) : impl_measuresOf.okI (wrap64 n) := by
 unfold impl_measuresOf.okI wrap64
 simp [Lit.wf, IntKind.min, IntKind.max, IntKind.bits, IntKind.signed]
 omega
set_option maxHeartbeats 16000000 in
set_option maxRecDepth 100000 in
theorem impl_measures.calls (k : Nat) (A0 : Option Addr) (c0 : Nat) (l0 : List (S53)) (r : List (List Int)) (w : World) (hr0 : Kd.C k53 w A0 l0.length l0) (hc0 : l0.length ≤ c0) (h : impl_measures.f k l0 = some r) :
  Calls Tryd.prog 45 #[.slice A0 l0.length c0] w fun e w' => ∃ v0_ : Value, e = .returned v0_ ∧ Kd.S (Kd.slice 3 (Kd.int .i64)) 22 w' w.heap.size (fun _ => True) v0_ r ∧ Below w.heap.size w w' := by
 have HR0 := zm1 hr0
 have HC0 := zm1 hc0
 unfold impl_measures.f at h
 rw [Option.bind_eq_some_iff] at h
 obtain ⟨t, ht, h⟩ := h
 have HT := zm1 ht
 have HH := zm1 h
 have HB := zm1 (Below.refl w.heap.size w)
 clear hr0 hc0 ht h
 go_enter Tryd.func45, Tryd.ntmps45
 go_upto_if 11 with (first | (go_at_call 73; (with_reducible refine (impl_twice.calls k _ _ l0 t _ HR0.out HC0.out HT.out).mono ?_); rintro e w1 ⟨rfl, hb⟩; have HB1 := zm1 hb; clear hb))
 go_cut [0] (fun v0 wc => ∃ (A : Option Addr) (c : Nat) (q : List S53), v0 = .slice A q.length c ∧ Aside0 (q.length ≤ c) ∧ Aside0 (Kd.C k53 wc A q.length q) ∧ Aside0 (impl_measures.main k q = some r) ∧ Aside0 (Below w.heap.size w wc))
 case first =>
  by_cases c : t < 0
  ·have h := HH.out
   rw [if_pos c, Option.bind_eq_some_iff] at h
   obtain ⟨q, hq, h⟩ := h
   have HQ := zm1 hq
   have HM := zm1 h
   have cb : decide (t < 0) = true := decide_eq_true c
   clear h hq c HH
   rw [cb]
   go_wp2_with (first | (go_at_call 74; (with_reducible refine (impl_turned.calls _ _ l0 q _ (Kd.C_below HR0.out HB1.out) HC0.out HQ.out).mono ?_); rintro e w2 ⟨v, rfl, ho, hb⟩; obtain ⟨A2, c2, e2⟩ := Kd.R_slice ho; subst e2; have HO := zm1 ho; have HB2 := zm1 (below_step HB1.out hb); clear ho hb))
   go_meet
   case rel => exact ⟨A2, c2, q, rfl, ⟨(Kd.R_reads' HO.out).2.1⟩, ⟨(Kd.R_reads' HO.out).2.2⟩, HM, HB2⟩
  ·have h := HH.out
   rw [if_neg c] at h
   have HM := zm1 h
   have cb : decide (t < 0) = false := decide_eq_false c
   clear h c HH
   rw [cb]
   go_wp2
   go_meet
   case rel => exact ⟨A0, c0, l0, rfl, HC0, ⟨Kd.C_below HR0.out HB1.out⟩, HM, HB1⟩
 case rest =>
  obtain ⟨A1, c1, q, rfl, HC1, HR1, HM, HB⟩ := hcut
  obtain ⟨wb, hwb⟩ : ∃ wb, wb = wc := ⟨_, rfl⟩
  subst hwb
  have hm := HM.out
  unfold impl_measures.main at hm
  by_cases hl : 1 ≤ q.length ∧ q.length ≤ 100
  case neg => rw [if_neg hl] at hm; cases hm
  rw [if_pos hl, Option.bind_eq_some_iff] at hm
  obtain ⟨sF, hgo, hm⟩ := hm
  have HGO := zm1 hgo
  have HL := zm1 hl
  have HRr := zm1 (Option.some.inj hm)
  clear hm hgo hl HM HH HR0 HC0 HT
  have hmk := fun (w : World) => run_makeMap (P := Tryd.prog) 76 w
  go_upto_region 4 with (fail)
  clear hmk
  obtain ⟨bd, hbd⟩ : ∃ bd, bd = wb.heap.size := ⟨_, rfl⟩
  rw [← hbd]
  refine impl_measures.forget (I := fun W => impl_measuresOf.M W bd 0 (.map []) (impl_measures.look []) ∧ Below wb.heap.size wb W) ⟨by rw [hbd]; exact impl_measuresOf.M.made wb, below_alloc (Below.refl _ _) _⟩ ?_
  rintro W0 ⟨hM0, hB0⟩
  have BD := zm1 (show wb.heap.size ≤ bd by rw [hbd]; omega)
  have HM0 := zm1 hM0
  have HB0 := zm1 hB0
  have HBW := HB
  clear hM0 hB0 HB hbd
  go_wp2
  go_loopg [17] q.length (fun kq v17 w' => ∃ (j : Nat) (s : List ((Int × Int) × Int)) (D : DataW Unit), v17 = .int .i64 (j : Int) ∧ Aside0 (impl_measures.go k q kq s = some sF) ∧ Aside0 (j + kq = q.length) ∧ Aside0 (impl_measures.Ok s) ∧ Aside0 (impl_measuresOf.M w' bd j D (impl_measures.look s)) ∧ Aside0 (Below wb.heap.size wb w'))
  case atStart => exact ⟨0, [], .map [], rfl, HGO, ⟨Nat.zero_add _⟩, ⟨impl_measures.Ok.nil⟩, HM0, HB0⟩
  case round =>
   clear HGO HM0 HB0
   obtain ⟨j, s, D, rfl, HGO, HJ, HOK, HMM, HB⟩ := hrel
   by_cases c : j < q.length
   ·obtain ⟨d, hd⟩ : ∃ d, gk = d + 1 := ⟨gk - 1, by have := HJ.out; omega⟩
    subst hd
    have hgo := HGO.out
    unfold impl_measures.go at hgo
    rw [show q.length - (d + 1) = j by have := HJ.out; omega, Option.bind_eq_some_iff] at hgo
    obtain ⟨⟨tx, ty, tn⟩, hdir, hgo⟩ := hgo
    by_cases hbn : (-1000 ≤ tx ∧ tx ≤ 1000) ∧ (-1000 ≤ ty ∧ ty ≤ 1000)
    case neg => rw [if_neg hbn] at hgo; cases hgo
    rw [if_pos hbn] at hgo
    have HGO2 := zm1 hgo
    have BN := zm1 hbn
    have c' : decide ((j : Int) < (q.length : Int)) = true := decide_eq_true (by omega)
    have hq100 := HL.out.2
    obtain ⟨ad, e, hx0, hx1⟩ := at_T53 (Kd.C_below HR1.out HB.out) (j : Int) (by omega) (by omega)
    cases e
    obtain ⟨i1, hi1⟩ : ∃ i1 : Nat, i1 = (j + 1) % q.length := ⟨_, rfl⟩
    have hi1l : i1 < q.length := by rw [hi1]; exact Nat.mod_lt _ (by omega)
    obtain ⟨ad2, e, hy0, hy1⟩ := at_T53 (Kd.C_below HR1.out HB.out) (i1 : Int) (by omega) (by omega)
    cases e
    have hn1 : IntKind.i64.wrap ((j : Int) + 1) = (j : Int) + 1 := by rw [i64_w]; unfold wrap64; omega
    have hn2 : wrap64 ((j : Int) + 1) = (j : Int) + 1 := by unfold wrap64; omega
    have hn3 : Int.tmod ((j : Int) + 1) (q.length : Int) = (i1 : Int) := by
     rw [Int.tmod_eq_emod_of_nonneg (by omega), hi1]
     simp
    have hz : ((q.length : Int) == 0) = false := beq_eq_false_iff_ne.mpr (by omega)
    have hzz : ¬ (q.length : Int) = 0 := by omega
    have hz2 : ¬ q.length = 0 := by omega
    replace hx0 : wr.cell? (ad.add (j * 2)) = some (.int .i64 (rd_T53 q (j : Int)).f0) := hx0
    replace hx1 : wr.cell? ⟨(ad.add (j * 2)).block, (ad.add (j * 2)).off + 1, none⟩ = some (.int .i64 (rd_T53 q (j : Int)).f1) := hx1
    replace hy0 : wr.cell? (ad.add (i1 * 2)) = some (.int .i64 (rd_T53 q (i1 : Int)).f0) := hy0
    replace hy1 : wr.cell? ⟨(ad.add (i1 * 2)).block, (ad.add (i1 * 2)).off + 1, none⟩ = some (.int .i64 (rd_T53 q (i1 : Int)).f1) := hy1
    have e1 : rd_T53 q (j : Int) = impl_measures.at_ q j := rfl
    have e2 : rd_T53 q (i1 : Int) = impl_measures.at_ q i1 := rfl
    rw [e1] at hx0 hx1
    rw [e2] at hy0 hy1
    unfold impl_measures.dir at hdir
    rw [← hi1] at hdir
    generalize impl_measures.at_ q j = pj at hx0 hx1 hdir
    generalize impl_measures.at_ q i1 = pi at hy0 hy1 hdir
    have HDIR := zm1 hdir
    have CJ := zm1 c
    have p0 : ((0 : Int) ≤ (j : Int)) = True := eq_true (by omega)
    have p1 : ((j : Int) < (q.length : Int)) = True := eq_true (by omega)
    have p2 : ((0 : Int) ≤ (i1 : Int)) = True := eq_true (by omega)
    have p3 : ((i1 : Int) < (q.length : Int)) = True := eq_true (by omega)
    have p4 : (i1 < q.length) = True := eq_true hi1l
    have p5 : (j < q.length) = True := eq_true c
    clear hgo HGO hbn hdir hi1 hq100 c e1 e2 hi1l
    go_upto_region 7 with (fail)
    obtain ⟨ba, hba⟩ : ∃ ba, ba = wr.heap.size := ⟨_, rfl⟩
    rw [← hba]
    refine impl_measures.forget (I := fun W => W.heap[ba]? = some (.cells #[.int .i64 pj.f0, .int .i64 pj.f1] 53 (0, 0)) ∧ impl_measuresOf.M W bd j D (impl_measures.look s) ∧ Below wb.heap.size wb W ∧ W.cell? (ad.add (i1 * 2)) = some (.int .i64 pi.f0) ∧ W.cell? ⟨(ad.add (i1 * 2)).block, (ad.add (i1 * 2)).off + 1, none⟩ = some (.int .i64 pi.f1)) ⟨by rw [hba]; exact blk_new _ _, HMM.out.kept ((below_alloc (Below.refl _ _) _).block bd HMM.out.lt), below_alloc HB.out _, (World.cell?_alloc_lt _ _ _ (zl hy0)).trans hy0, (World.cell?_alloc_lt _ _ _ (zl hy1)).trans hy1⟩ ?_
    rintro W1 ⟨hbl, hM1, hB1, hy2, hy3⟩
    clear hy0 hy1 hx0 hx1 hba
    have hy0 := hy2
    have hy1 := hy3
    have hz0 : W1.cell? ⟨ba, 0, none⟩ = some (.int .i64 pj.f0) := (blk_cell hbl 0).trans rfl
    have hz1 : W1.cell? ⟨ba, 1, none⟩ = some (.int .i64 pj.f1) := (blk_cell hbl 1).trans rfl
    have HM1 := zm1 hM1
    have HB1 := zm1 hB1
    clear hbl hM1 hB1 hy2 hy3 HMM HB
    go_cut [6, 7, 8] (fun v6 v7 v8 wx => v6 = .int .i64 tx ∧ v7 = .int .i64 ty ∧ v8 = .int .i64 tn ∧ Aside0 (Below W1.heap.size W1 wx))
    case first =>
     have HX := zm1 (Below.refl W1.heap.size W1)
     go_region_held3 (fun w' => w'.cell? ⟨ba, 0, none⟩ = some (.int .i64 pj.f0) ∧ w'.cell? ⟨ba, 1, none⟩ = some (.int .i64 pj.f1) ∧ w'.cell? (ad.add (i1 * 2)) = some (.int .i64 pi.f0) ∧ w'.cell? ⟨(ad.add (i1 * 2)).block, (ad.add (i1 * 2)).off + 1, none⟩ = some (.int .i64 pi.f1)) ((refine impl_measures.keep4 hz0 hz1 hy0 hy1 ?_; repeat (first | exact HX.out | assumption | apply pw_below_drewN | apply below_drew1 | apply below_alloc))) (first | (go_at_call 75; (with_reducible refine (impl_directionOf.calls k _ _ _ _ tx ty tn _ HDIR.out).mono ?_); rintro e w8 ⟨rfl, hb⟩; have nHX := zm1 (zc6 (by repeat (first | (with_reducible first | exact HX.out | apply zc1 | apply zc2 | apply zc3) | exact HX.out)) hb); clear HX hb; have HX := nHX; clear nHX))
     all_goals
      go_wp2
      go_meet
      case rel => exact ⟨rfl, rfl, rfl, ⟨(by repeat (first | (with_reducible first | exact HX.out | apply zc1 | apply zc2 | apply zc3) | exact HX.out))⟩⟩
    case rest =>
     obtain ⟨rfl, rfl, rfl, HX⟩ := hcut
     have hM8 := (HM1.out.kept (HX.out.block bd HM1.out.lt)).kept (w' := wc.drew) rfl
     have hBd := below_drew1 (below_step HB1.out HX.out)
     have hbn := BN.out
     have okx : impl_measuresOf.okI tx := impl_measuresOf.okI_small (by omega) (by omega)
     have oky : impl_measuresOf.okI ty := impl_measuresOf.okI_small (by omega) (by omega)
     have hlk := hM8.look okx oky
     obtain ⟨v0, st, w8, r1, g1, ⟨D1, A1_, hM81, hA1⟩, hst⟩ := hM8.entry (by have := HL.out; have := CJ.out; unfold maxLen; omega) okx oky (impl_measures.okw (((impl_measures.look s tx ty).getD 0) + tn))
     obtain ⟨w9, r2, ⟨D', hM9⟩, g2⟩ := hst w8 rfl
     have hlk1 := hM81.look okx oky
     rw [hA1] at hlk1
     rw [show impl_measuresOf.kv tx ty = .agg #[.int .i64 tx, .int .i64 ty] from rfl] at hlk hlk1 r1
     rw [show goInt (st : Int) = .int .i64 (st : Int) from rfl] at r1 r2
     have r3 := r2
     rw [← i64_w] at r3
     have HM9 := zm1 hM9
     have hB9a := hBd.grown g1 hBd.size (fun k hk => by injection hk with hk; have := BD.out; omega)
     have HB9 := zm1 (hB9a.grown g2 hB9a.size (fun k hk => by injection hk with hk; have := BD.out; omega))
     clear hM8 hBd hB9a hst g1 g2 hM9 hM81 hA1 okx oky hbn HM1 HB1 HX hy0 hy1 hz0 hz1
     go_upto_region 8 with (fail)
     go_region
     all_goals
      clear hlk hlk1 r1 r2 r3
      go_wp2
      go_roundg d
      case measure => omega
      case rel =>
       refine ⟨j + 1, impl_measures.addm s tx ty tn, D', by first | rfl | (simp; done), HGO2, ⟨by have := HJ.out; omega⟩, ⟨HOK.out.add tn BN.out.1 BN.out.2⟩, ⟨?_⟩, HB9⟩
       have e : impl_measures.look (impl_measures.addm s tx ty tn) = impl_measuresOf.upd (impl_measures.look s) tx ty (some (wrap64 ((impl_measures.look s tx ty).getD 0 + tn))) := by
        funext i_ j_
        exact impl_measures.look_add s tx ty tn i_ j_
       rw [e]
       exact HM9.out
   ·have ej : j = q.length := by have := HJ.out; omega
    have hgk : gk = 0 := by have := HJ.out; omega
    subst hgk
    subst ej
    have hs : s = sF := by have h := HGO.out; unfold impl_measures.go at h; exact Option.some.inj h
    subst hs
    have c' : decide (((q.length : Nat) : Int) < (q.length : Int)) = false := decide_eq_false (by omega)
    have HQ := zm1 (show q.length ≤ 200 by have := HL.out; omega)
    clear c HGO
    go_wp2_with (first | (go_at_call 76; (with_reducible refine (impl_measuresOf.calls _ bd q.length D (impl_measures.look s) (impl_measures.keys s) HMM.out (impl_measures.sup HOK.out) HQ.out).mono ?_); rintro e w9 ⟨v, rfl, ho, hb⟩; have HO9 := zm1 ho; have HB9 := zm1 (zc6 (below_step HBW.out HB.out) hb); clear ho hb))
    go_ret
    exact ⟨_, rfl, by rw [← HRr.out]; exact Kd.S_lower HO9.out (Nat.le_trans (below_size HBW.out) (below_size HB.out)), HB9.out⟩

end Go.Proofs.YtelhjgkjnlcomaaDoor.QFnExactMeasureLine
