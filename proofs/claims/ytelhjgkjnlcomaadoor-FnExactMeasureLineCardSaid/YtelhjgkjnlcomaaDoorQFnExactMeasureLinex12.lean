-- Printed for this claim by a changed copy of the kit's print (the session's own; own contracts in place of some functions).
import Derived.Test.YtelhjgkjnlcomaaDoorQFnExactMeasureLinex0
import Derived.Test.YtelhjgkjnlcomaaDoorQFnExactMeasureLinex11
namespace Go.Proofs.YtelhjgkjnlcomaaDoor.QFnExactMeasureLine
open Go.RowKit Go.Proofs.YtelhjgkjnlcomaaDoorW.PrintWords Go.Proofs.YtelhjgkjnlcomaaDoorW.PrintLast Go.Proofs.YtelhjgkjnlcomaaDoorW.PrintMore
attribute [local go_sem] max2_int min2_int max_two min_two max_three min_three max_four min_four   -- for this text's walks alone
set_option linter.unusedVariables false
set_option linter.unusedSimpArgs false

/-! ### impl_turned: function 74 -/
--import Derived.WalkSpells
--import Derived.Shelf.SlicesQ.Reverse
/-! a polygon from the first corner on, the other way round -/
instance impl_turned.inh : Inhabited S53 := ⟨z53⟩
def impl_turned.enc (p : S53) : List Value := [.int .i64 p.f0, .int .i64 p.f1]
def impl_turned.flat (l : List S53) : List Value := l.flatMap impl_turned.enc
def impl_turned.ren : Go.Shelf.Ren := ⟨fun | 35 => 104 | n => n, fun | 23 => 53 | 22 => 36 | 3 => 3 | 4 => 4 | 0 => 0 | n => n, fun | n => n⟩
theorem impl_turned.lays : Go.Proofs.SlLaysE0.n35 Tryd.prog impl_turned.ren := {
 mixed := by kernel_rfl
 f35 := ⟨Tryd.f104.name, by decide, Tryd.func104.trans (congrArg some (by kernel_rfl))⟩
 t0 := Tryd.underlying0
 a0 := Tryd.isAgg0
 z0 := Tryd.sizeOf0
 v0 := Tryd.zeroValue0
 t3 := Tryd.underlying3
 a3 := Tryd.isAgg3
 z3 := Tryd.sizeOf3
 v3 := Tryd.zeroValue3
 t4 := Tryd.underlying4
 a4 := Tryd.isAgg4
 z4 := Tryd.sizeOf4
 v4 := Tryd.zeroValue4
 t22 := Tryd.underlying36
 a22 := Tryd.isAgg36
 z22 := Tryd.sizeOf36
 v22 := Tryd.zeroValue36 }
theorem impl_turned.flat_len : ∀ l : List S53, (impl_turned.flat l).length = l.length * 2
 | [] => rfl
 | a :: l => by
  have := impl_turned.flat_len l
  show (impl_turned.enc a ++ impl_turned.flat l).length = _
  rw [List.length_append, this, List.length_cons]
  show 2 + _ = _
  omega
theorem impl_turned.flat_get : ∀ (l : List S53) (t : Nat), t < l.length * 2 → (impl_turned.flat l)[t]? = (impl_turned.enc (l.getD (t / 2) z53))[t % 2]?
 | [], t, h => by simp at h
 | a :: l, t, h => by
  show (impl_turned.enc a ++ impl_turned.flat l)[t]? = _
  by_cases c : t < 2
  ·rw [List.getElem?_append_left (show t < (impl_turned.enc a).length from c), show t / 2 = 0 by omega, show t % 2 = t by omega]
   rfl
  ·rw [List.getElem?_append_right (show (impl_turned.enc a).length ≤ t from by show 2 ≤ t; omega)]
   rw [List.length_cons] at h
   have := impl_turned.flat_get l (t - 2) (by omega)
   rw [show t - (impl_turned.enc a).length = t - 2 from rfl, this, show t / 2 = (t - 2) / 2 + 1 by omega, show t % 2 = (t - 2) % 2 by omega]
   rfl
theorem impl_turned.reps {R : S53 → List Value → Prop} (hR : ∀ x c, R x c → c = impl_turned.enc x) {xs : List S53} {cs : List Value} (h : Reps R 2 xs cs) : cs = impl_turned.flat xs := by
 apply List.ext_getElem?
 intro t
 by_cases c : t < xs.length * 2
 ·rw [impl_turned.flat_get xs t c]
  have hj : t / 2 < xs.length := by omega
  have h2 := hR _ _ (h.2 (t / 2) _ (List.getElem?_eq_getElem hj))
  rw [List.getD_eq_getElem?_getD, List.getElem?_eq_getElem hj, Option.getD_some, ← h2, List.getElem?_take_of_lt (by omega), List.getElem?_drop]
  congr 1
  omega
 ·rw [List.getElem?_eq_none (by rw [h.1]; omega), List.getElem?_eq_none (by rw [impl_turned.flat_len]; omega)]
theorem impl_turned.reps_mk {R : S53 → List Value → Prop} (hR : ∀ x, R x (impl_turned.enc x)) (xs : List S53) : Reps R 2 xs (impl_turned.flat xs) := by
 refine ⟨impl_turned.flat_len xs, fun j p hp => ?_⟩
 obtain ⟨hj, rfl⟩ := List.getElem?_eq_some_iff.1 hp
 have : ((impl_turned.flat xs).drop (j * 2)).take 2 = impl_turned.enc xs[j] := by
  apply List.ext_getElem?
  intro t
  by_cases c : t < 2
  ·rw [List.getElem?_take_of_lt c, List.getElem?_drop, impl_turned.flat_get _ _ (by omega), show (j * 2 + t) / 2 = j by omega, show (j * 2 + t) % 2 = t by omega, List.getD_eq_getElem?_getD, List.getElem?_eq_getElem hj]
   rfl
  ·rw [List.getElem?_take_eq_none (by omega), List.getElem?_eq_none (show (impl_turned.enc xs[j]).length ≤ t from by show 2 ≤ t; omega)]
 rw [this]
 exact hR _
def impl_turned.f (l0 : List S53) : Option (List S53) := match l0 with
 | [] => none
 | a :: t => if 1 ≤ t.length ∧ t.length < 1000 then some (a :: t.reverse) else none
theorem impl_turned.flatK_get (d : Array S53) (t : Nat) (h : t < d.size * 2) : (Go.Sort.flatK impl_turned.enc 2 d)[t]! = (impl_turned.flat d.toList).getD t (.bool false) := by
 rw [Go.Sort.get_flatK _ _ _ _ h, List.getD_eq_getElem?_getD, impl_turned.flat_get d.toList t (by rw [Array.length_toList]; exact h)]
 have hd : t / 2 < d.size := by omega
 have e : d[t / 2]! = d.toList.getD (t / 2) z53 := by
  rw [getElem!_pos d _ hd, List.getD_eq_getElem?_getD, List.getElem?_eq_getElem (by rw [Array.length_toList]; exact hd)]
  simp
 rw [e]
 generalize d.toList.getD (t / 2) z53 = p
 rcases (show t % 2 = 0 ∨ t % 2 = 1 by omega) with c | c <;> rw [c] <;> rfl
set_option maxHeartbeats 4000000 in
theorem impl_turned.rev (w : World) (base g cap : Nat) (okk : Nat → Prop) (a : S53) (t : List S53) (ht : t.length < 1000)
  (hR : Kd.R k53 53 w base okk (.slice (some ⟨g, 0, none⟩) (t.length + 1) cap) (a :: t)) (c2 : Nat) :
  Calls Tryd.prog 104 #[.slice (some ⟨g, 2, none⟩) t.length c2] w fun e w' => e = .returned (.tuple #[]) ∧ w.grownBy w' (some g) ∧ Kd.R k53 53 w' base okk (.slice (some ⟨g, 0, none⟩) (t.length + 1) cap) (a :: t.reverse) := by
 obtain ⟨hok, inner, ho, hr⟩ := hR
 obtain ⟨hil, hx⟩ := ho
 rcases hx with ⟨hh, _⟩ | ⟨g', cap', cur, hv, hbase, hb, h1, h2, h3, h4⟩
 ·cases hh
 cases hv
 have hin := impl_turned.reps (fun x c h => k53_openM h) hr
 have hlen : (a :: t).length = t.length + 1 := List.length_cons
 have hcur : ∀ j, j < (t.length + 1) * 2 → cur[j]? = (impl_turned.flat (a :: t))[j]? := by
  intro j hj
  have h4' : cur.toList.take ((t.length + 1) * 2) = impl_turned.flat (a :: t) := by rw [← hin, ← h4]; rfl
  rw [← h4', List.getElem?_take_of_lt hj, Array.getElem?_toList]
 have hH : Go.Sort.HoldsK impl_turned.enc 2 w g 2 t.toArray := by
  intro j hj
  rw [Go.Sort.size_flatK, List.size_toArray] at hj
  refine ⟨?_, by simp [World.frozen?, hb]⟩
  rw [impl_turned.flatK_get _ _ (by rw [List.size_toArray]; exact hj)]
  simp only [World.cell?, hb]
  simp only [Option.isSome_none, Bool.false_eq_true, if_false]
  rw [hcur (2 + j) (by omega)]
  show (impl_turned.enc a ++ impl_turned.flat t)[2 + j]? = _
  rw [List.getElem?_append_right (show (impl_turned.enc a).length ≤ 2 + j from by show 2 ≤ 2 + j; omega), show 2 + j - (impl_turned.enc a).length = j from by show 2 + j - 2 = j; omega]
  show _ = some (id ((impl_turned.flat t).getD j (.bool false)))
  rw [List.getElem?_eq_getElem (by rw [impl_turned.flat_len]; exact hj), List.getD_eq_getElem?_getD, List.getElem?_eq_getElem (by rw [impl_turned.flat_len]; exact hj)]
  rfl
 have hc := AnyQ.slices_Reverse impl_turned.lays 2 Tryd.isAgg53 Tryd.sizeOf53 impl_turned.enc (fun _ => rfl) (fun x v hv => by
  rcases List.mem_cons.1 hv with rfl | hv
  ·rfl
  ·rw [List.mem_singleton] at hv; subst hv; rfl) g 2 c2 t.toArray w hH (by simp; omega)
 rw [List.size_toArray] at hc
 refine Calls.mono (P := Tryd.prog) (f := 104) hc ?_
 rintro e w' ⟨he, n, rfl⟩
 have hg : g < w.heap.size := (Array.getElem?_eq_some_iff.1 hb).1
 have hb' : (Go.Sort.putRowK impl_turned.enc 2 (Go.Sort.ahead w n) g 2 t.toArray.reverse).heap[g]? = some (.cells (Go.Sort.putCells id 2 (Go.Sort.flatK impl_turned.enc 2 t.toArray.reverse) cur) 53 (0, 0)) := by
  simp [Go.Sort.putRowK, Go.Sort.putRow, Go.Sort.mapBlock, Go.Sort.ahead, Array.getElem?_modify, hb, Go.Sort.onCells]
 refine ⟨he, ⟨rfl, rfl, rfl, by simp [Go.Sort.putRowK, Go.Sort.putRow, Go.Sort.mapBlock, Go.Sort.ahead], fun k hk hne => ?_⟩, hok, impl_turned.flat (a :: t.reverse), ⟨by rw [impl_turned.flat_len]; rfl, .inr ⟨g, cap, _, by rw [List.length_cons, List.length_reverse], hbase, hb', by rw [List.length_cons, List.length_reverse]; exact h1, h2, by simp [Go.Sort.putCells, h3], ?_⟩⟩, impl_turned.reps_mk (fun x => k53_mkM _ _ _ x) _⟩
 ·have : g ≠ k := fun e => hne (by rw [e])
  simp [Go.Sort.putRowK, Go.Sort.putRow, Go.Sort.mapBlock, Go.Sort.ahead, Array.getElem?_modify, this]
 ·have h3' : cur.size = cap * 2 := h3
  have h1' : t.length + 1 ≤ cap := h1
  apply List.ext_getElem?
  intro j
  rw [List.length_cons, List.length_reverse]
  by_cases hj : j < (t.length + 1) * 2
  ·rw [List.getElem?_take_of_lt (show j < (t.length + 1) * k53.sz from hj), Array.getElem?_toList]
   simp only [Go.Sort.putCells, Array.getElem?_mapIdx]
   rw [Array.getElem?_eq_getElem (show j < cur.size by omega), Option.map_some]
   rw [Go.Sort.size_flatK, Array.size_reverse, List.size_toArray]
   show _ = (impl_turned.enc a ++ impl_turned.flat t.reverse)[j]?
   by_cases c : 2 ≤ j
   ·rw [if_pos ⟨c, by omega⟩, List.getElem?_append_right (show (impl_turned.enc a).length ≤ j from c), show j - (impl_turned.enc a).length = j - 2 from rfl, impl_turned.flatK_get _ _ (by rw [Array.size_reverse, List.size_toArray]; omega)]
    have e : t.toArray.reverse.toList = t.reverse := by simp
    rw [e, List.getD_eq_getElem?_getD, List.getElem?_eq_getElem (by rw [impl_turned.flat_len, List.length_reverse]; omega)]
    rfl
   ·rw [if_neg (fun h => c h.1), List.getElem?_append_left (show j < (impl_turned.enc a).length from by show j < 2; omega), ← Array.getElem?_eq_getElem (show j < cur.size by omega), hcur j hj]
    show (impl_turned.enc a ++ impl_turned.flat t)[j]? = _
    rw [List.getElem?_append_left (show j < (impl_turned.enc a).length from by show j < 2; omega)]
  ·rw [List.getElem?_take_eq_none (show (t.length + 1) * k53.sz ≤ j by show (t.length + 1) * 2 ≤ j; omega), List.getElem?_eq_none (by rw [impl_turned.flat_len, List.length_cons, List.length_reverse]; omega)]
set_option maxHeartbeats 4000000 in
theorem impl_turned.calls (A0 : Option Addr) (c0 : Nat) (l0 : List (S53)) (r : List (S53)) (w : World) (hr0 : Kd.C k53 w A0 l0.length l0) (hc0 : l0.length ≤ c0) (h : impl_turned.f l0 = some r) :
  Calls Tryd.prog 74 #[.slice A0 l0.length c0] w fun e w' => ∃ v0_ : Value, e = .returned (v0_) ∧ Kd.R k53 53 w' w.heap.size (fun _ => True) v0_ r ∧ Below w.heap.size w w' := by
 obtain ⟨a, t, hl, ht, hr⟩ : ∃ a t, l0 = a :: t ∧ (1 ≤ t.length ∧ t.length < 1000) ∧ r = a :: t.reverse := by
  cases l0 with
  | nil => cases h
  | cons a t =>
   unfold impl_turned.f at h
   by_cases ht : 1 ≤ t.length ∧ t.length < 1000
   ·simp only [if_pos ht] at h
    exact ⟨a, t, rfl, ht, (Option.some.inj h).symm⟩
   ·simp only [if_neg ht] at h; cases h
 have hn : l0.length = t.length + 1 := by rw [hl]; rfl
 have hcl : slices_Clone_Point.f l0 = some l0 := by
  unfold slices_Clone_Point.f
  rw [Option.bind_some, if_pos (by rw [hn]; simp; omega)]
  rfl
 have HCL := zm1 hcl
 have HR0 := zm1 hr0
 have HC0 := zm1 hc0
 have HT := zm1 ht
 have HL := zm1 hl
 have HN := zm1 hn
 have HRr := zm1 hr
 clear hcl hr0 hc0 h ht hl hn hr
 go_enter Tryd.func74, Tryd.ntmps74
 go_upto_region 2 with (first | (go_at_call 103; (with_reducible refine (slices_Clone_Point.calls _ _ l0 l0 _ HR0.out HC0.out HCL.out).mono ?_); rintro e w1 ⟨v, rfl, ho, hb⟩; obtain ⟨g, cap, e_, hgb, hgl, _⟩ := Kd.R_form ho (by have := HN.out; omega); subst e_; have HO := zm1 ho; have HB := zm1 hb; have GB := zm1 hgb; clear ho hb hgb hgl))
 have hroom : l0.length ≤ cap := (Kd.R_reads' HO.out).2.1
 obtain ⟨i0, hi0, _, hsz, _⟩ := info_parts info53
 have hn1 := HN.out
 have hcut := cut_from (P := Tryd.prog) 36 53 .i64 Tryd.underlying36 hi0 2 hsz (some ⟨g, 0, none⟩) l0.length cap 1 (by omega) (by omega)
 have hT := HT.out
 rw [show ((1 : Int)).toNat = 1 from rfl, if_neg (by omega), show l0.length - 1 = t.length by omega, show Option.map (fun x : Addr => x.add (1 * 2)) (some ⟨g, 0, none⟩) = some ⟨g, 2, none⟩ from rfl] at hcut
 have HO2 := zm1 (by have h := HO.out; rw [HL.out] at h; exact h : Kd.R k53 53 w1 w.heap.size (fun _ => True) (.slice (some ⟨g, 0, none⟩) (t.length + 1) cap) (a :: t))
 clear hn1 hT hroom hi0 hsz HO
 go_wp2_with (first | (go_at_call 104; (with_reducible refine (impl_turned.rev _ w.heap.size g cap (fun _ => True) a t HT.out.2 HO2.out _).mono ?_); rintro e w2 ⟨rfl, hg, ho⟩; have HO3 := zm1 ho; have HB3 := zm1 (HB.out.grown hg HB.out.size (fun k hk => by injection hk with hk; have := GB.out; omega)); clear ho hg))
 go_ret
 exact ⟨_, rfl, by rw [HRr.out, HN.out]; exact HO3.out, HB3.out⟩

/-! ### impl_common: function 105 -/
def impl_common.l0 : Nat → Int → Int → Option (Int)
 | 0, _, _ => none
 | k + 1, x0, x1 => if x1 = 0 then (some (mx x0 (wrap64 (-x0)))) else (impl_common.l0 k x1 (Int.tmod x0 x1))
def impl_common.f (k : Nat) (a0 : Int) (a1 : Int) : Option (Int) := impl_common.l0 k a0 a1
theorem impl_common.mono_l : ∀ k, (∀ y0 y1, LeO (impl_common.l0 k y0 y1) (impl_common.l0 (k + 1) y0 y1))
 | 0 => fun _ _ r h => by simp [impl_common.l0] at h
 | k + 1 => by
  have ih0 := impl_common.mono_l k
  ·intro y0 y1
   unfold impl_common.l0
   repeat' first
   | (with_reducible exact ih0 _ _)
   | (with_reducible exact LeO.refl _)
   | (with_reducible exact LeO.none _)
   | (with_reducible refine LeO.ite ?_ ?_)
   | (with_reducible refine LeO.bind ?_ (fun _ => ?_))
   | exact ih0 _ _
   | exact LeO.none _
   | refine LeO.ite ?_ ?_
   | refine LeO.bind ?_ (fun _ => ?_)
theorem impl_common.mono : ∀ a0 a1 k, LeO (impl_common.f k a0 a1) (impl_common.f (k + 1) a0 a1) := by
 intro a0 a1 k
 have ih0 := impl_common.mono_l k
 unfold impl_common.f
 repeat' first
   | (with_reducible exact ih0 _ _)
   | (with_reducible exact LeO.refl _)
   | (with_reducible exact LeO.none _)
   | (with_reducible refine LeO.ite ?_ ?_)
   | (with_reducible refine LeO.bind ?_ (fun _ => ?_))
   | exact ih0 _ _
   | exact LeO.none _
   | refine LeO.ite ?_ ?_
   | refine LeO.bind ?_ (fun _ => ?_)
set_option maxHeartbeats 8000000 in
set_option maxRecDepth 100000 in
theorem impl_common.calls (k : Nat) (a0 : Int) (a1 : Int) (r : Int) (w : World) (h : impl_common.f k a0 a1 = some r) :
  Calls Tryd.prog 105 #[.int .i64 a0, .int .i64 a1] w fun e w' => e = .returned (.int .i64 r) ∧ Below w.heap.size w w' := by
 have HB := zm1 (Below.refl w.heap.size w)
 have H : (impl_common.l0 k a0 a1) = some r := h
 clear h
 have H' := zm1 H
 clear H
 go_enter Tryd.func105, Tryd.ntmps105
 go_wp2
 repeat (go_quiet (fail); try go_wp2)
 go_loopg [0, 1] k (fun kq v0 v1 w' => ∃ (x0_1 : Int) (x1_1 : Int), v0 = .int .i64 x0_1 ∧ v1 = .int .i64 x1_1 ∧ Aside0 (impl_common.l0 kq x0_1 x1_1 = some r) ∧ Aside0 (kq ≤ k) ∧ Aside0 (Below w.heap.size w w'))
 case atStart => exact ⟨(a0), (a1), (by first | rfl | (simp; done) | (simp [*]; done)), (by first | rfl | (simp; done) | (simp [*]; done)), H', ⟨Nat.le_refl _⟩, ⟨by repeat (first | (with_reducible first | exact HB.out | apply zc1 | apply zc2 | apply zc3) | exact HB.out)⟩⟩
 case round =>
  clear H'
  try clear c1
  try clear p2
  obtain ⟨x0_1, x1_1, rfl, rfl, HA, HK1, HB⟩ := hrel
  cases gk with
  | zero => exact absurd HA.out (by simp [impl_common.l0])
  | succ k1 =>
   have H := HA.out
   clear HA
   simp only [impl_common.l0] at H
   by_cases c3 : x1_1 = 0
   ·rw [if_pos c3] at H
    have c3b0 : (x1_1 == 0) = true := beq_iff_eq.mpr c3
    have c3b1 : (x1_1 != 0) = false := bne_eq_false_iff_eq.mpr c3
    clear c3
    obtain ⟨ji4, hji4⟩ : ∃ j_ : Int, (mx x0_1 (wrap64 (-x0_1))) = j_ := ⟨_, rfl⟩
    replace H : (some ji4) = some r := by first | (rw [hji4] at H; exact H) | (simp only [hji4] at H ⊢; exact H)
    have hji4_ : (if x0_1 < (wrap64 (-x0_1)) then (wrap64 (-x0_1)) else x0_1) = ji4 := hji4
    obtain rfl := Option.some.inj H
    go_wp2
    repeat (go_quiet (fail); try go_wp2)
    go_ret
    exact ⟨by first | rfl | (simp [errW_none, errW_some] <;> rfl) | (simp only [← hji4]; first | rfl | (simp [errW_none, errW_some] <;> rfl)) | (simp [*, errW_none, errW_some] <;> rfl), by repeat (first | (with_reducible first | exact HB.out | apply zc1 | apply zc2 | apply zc3) | exact HB.out)⟩
   ·rw [if_neg c3] at H
    have c3b0 : (x1_1 == 0) = false := beq_eq_false_iff_ne.mpr c3
    have c3b1 : (x1_1 != 0) = true := bne_iff_ne.mpr c3
    have H' := zm1 H
    clear H
    go_wp2
    repeat (go_quiet (fail); try go_wp2)
    go_roundg k1
    case measure => have := HK1.out; omega
    case rel => exact ⟨(x1_1), (Int.tmod x0_1 x1_1), (by first | rfl | (simp; done) | (simp [*]; done)), (by first | rfl | (simp; done) | (simp [*]; done)), H', ⟨by have := HK1.out; omega⟩, ⟨by repeat (first | (with_reducible first | exact HB.out | apply zc1 | apply zc2 | apply zc3) | exact HB.out)⟩⟩

/-! ### impl_isDirection: function 106 -/
def impl_isDirection.f (k : Nat) (a0 : Int) (a1 : Int) : Option (Bool) := (impl_common.f k a0 a1).bind fun t241 => (if t241 = 1 then (if a1 > 0 then (some true) else (if a1 = 0 then (some (a0 == 1)) else (some false))) else (some false))
theorem impl_isDirection.mono : ∀ a0 a1 k, LeO (impl_isDirection.f k a0 a1) (impl_isDirection.f (k + 1) a0 a1) := by
 intro a0 a1 k
 unfold impl_isDirection.f
 repeat' first
   | (with_reducible exact impl_common.mono _ _ _)
   | (with_reducible exact LeO.refl _)
   | (with_reducible exact LeO.none _)
   | (with_reducible refine LeO.ite ?_ ?_)
   | (with_reducible refine LeO.bind ?_ (fun _ => ?_))
   | exact impl_common.mono _ _ _
   | exact LeO.none _
   | refine LeO.ite ?_ ?_
   | refine LeO.bind ?_ (fun _ => ?_)
set_option maxHeartbeats 8000000 in
set_option maxRecDepth 100000 in
theorem impl_isDirection.calls (k : Nat) (a0 : Int) (a1 : Int) (r : Bool) (w : World) (h : impl_isDirection.f k a0 a1 = some r) :
  Calls Tryd.prog 106 #[.int .i64 a0, .int .i64 a1] w fun e w' => e = .returned (.bool r) ∧ Below w.heap.size w w' := by
 have HB := zm1 (Below.refl w.heap.size w)
 have H : ((impl_common.f k a0 a1).bind fun t241 => (if t241 = 1 then (if a1 > 0 then (some true) else (if a1 = 0 then (some (a0 == 1)) else (some false))) else (some false))) = some r := h
 clear h
 replace H := Option.bind_eq_some_iff.mp H
 obtain ⟨t241, A30, H⟩ := H
 replace H : (if t241 = 1 then (if a1 > 0 then (some true) else (if a1 = 0 then (some (a0 == 1)) else (some false))) else (some false)) = some r := H
 have A3 := zm1 A30
 clear A30
 by_cases c4 : t241 = 1
 ·rw [if_pos c4] at H
  have c4b0 : (t241 == 1) = true := beq_iff_eq.mpr c4
  have c4b1 : (t241 != 1) = false := bne_eq_false_iff_eq.mpr c4
  clear c4
  by_cases c5 : a1 > 0
  ·rw [if_pos c5] at H
   have c5b0 : decide (0 < a1) = true := decide_eq_true c5
   clear c5
   obtain rfl := Option.some.inj H
   go_enter Tryd.func106, Tryd.ntmps106
   go_wp2_with (first | ((with_reducible refine gate_callee (f := 105) rfl ?_); refine goesL_ (some 7) rfl rfl Tryd.func105 (by kernel_rfl) rfl #[.int .i64 a0, .int .i64 a1] rfl (by (try simp only [List.map_toArray, List.map_cons, List.map_nil]); first | done | rfl | (simp only [List.length_drop, List.length_take]; rfl)) ?_; (with_reducible refine (impl_common.calls k a0 a1 t241 _ A3.out).mono ?_); rintro e w6 ⟨rfl, hb⟩; refine ⟨_, rfl, ?_⟩; have n0_ := zm1 (zc6 (by repeat (first | (with_reducible first | exact HB.out | apply zc1 | apply zc2 | apply zc3) | exact HB.out)) hb); clear HB; have HB := n0_; clear n0_; (try clear hb); (try clear hb2); (try clear hk); (try clear hi)))
   go_ret
   exact ⟨by first | rfl | (simp [errW_none, errW_some] <;> rfl) | (simp [*, errW_none, errW_some] <;> rfl), by repeat (first | (with_reducible first | exact HB.out | apply zc1 | apply zc2 | apply zc3) | exact HB.out)⟩
  ·rw [if_neg c5] at H
   have c5b0 : decide (0 < a1) = false := decide_eq_false c5
   clear c5
   by_cases c7 : a1 = 0
   ·rw [if_pos c7] at H
    have c7b0 : (a1 == 0) = true := beq_iff_eq.mpr c7
    have c7b1 : (a1 != 0) = false := bne_eq_false_iff_eq.mpr c7
    clear c7
    obtain rfl := Option.some.inj H
    go_enter Tryd.func106, Tryd.ntmps106
    go_wp2_with (first | ((with_reducible refine gate_callee (f := 105) rfl ?_); refine goesL_ (some 7) rfl rfl Tryd.func105 (by kernel_rfl) rfl #[.int .i64 a0, .int .i64 a1] rfl (by (try simp only [List.map_toArray, List.map_cons, List.map_nil]); first | done | rfl | (simp only [List.length_drop, List.length_take]; rfl)) ?_; (with_reducible refine (impl_common.calls k a0 a1 t241 _ A3.out).mono ?_); rintro e w8 ⟨rfl, hb⟩; refine ⟨_, rfl, ?_⟩; have n0_ := zm1 (zc6 (by repeat (first | (with_reducible first | exact HB.out | apply zc1 | apply zc2 | apply zc3) | exact HB.out)) hb); clear HB; have HB := n0_; clear n0_; (try clear hb); (try clear hb2); (try clear hk); (try clear hi)))
    go_ret
    exact ⟨by first | rfl | (simp [errW_none, errW_some] <;> rfl) | (simp [*, errW_none, errW_some] <;> rfl), by repeat (first | (with_reducible first | exact HB.out | apply zc1 | apply zc2 | apply zc3) | exact HB.out)⟩
   ·rw [if_neg c7] at H
    have c7b0 : (a1 == 0) = false := beq_eq_false_iff_ne.mpr c7
    have c7b1 : (a1 != 0) = true := bne_iff_ne.mpr c7
    obtain rfl := Option.some.inj H
    go_enter Tryd.func106, Tryd.ntmps106
    go_wp2_with (first | ((with_reducible refine gate_callee (f := 105) rfl ?_); refine goesL_ (some 7) rfl rfl Tryd.func105 (by kernel_rfl) rfl #[.int .i64 a0, .int .i64 a1] rfl (by (try simp only [List.map_toArray, List.map_cons, List.map_nil]); first | done | rfl | (simp only [List.length_drop, List.length_take]; rfl)) ?_; (with_reducible refine (impl_common.calls k a0 a1 t241 _ A3.out).mono ?_); rintro e w9 ⟨rfl, hb⟩; refine ⟨_, rfl, ?_⟩; have n0_ := zm1 (zc6 (by repeat (first | (with_reducible first | exact HB.out | apply zc1 | apply zc2 | apply zc3) | exact HB.out)) hb); clear HB; have HB := n0_; clear n0_; (try clear hb); (try clear hb2); (try clear hk); (try clear hi)))
    go_ret
    exact ⟨by first | rfl | (simp [errW_none, errW_some] <;> rfl) | (simp [*, errW_none, errW_some] <;> rfl), by repeat (first | (with_reducible first | exact HB.out | apply zc1 | apply zc2 | apply zc3) | exact HB.out)⟩
 ·rw [if_neg c4] at H
  have c4b0 : (t241 == 1) = false := beq_eq_false_iff_ne.mpr c4
  have c4b1 : (t241 != 1) = true := bne_iff_ne.mpr c4
  obtain rfl := Option.some.inj H
  go_enter Tryd.func106, Tryd.ntmps106
  go_wp2_with (first | ((with_reducible refine gate_callee (f := 105) rfl ?_); refine goesL_ (some 7) rfl rfl Tryd.func105 (by kernel_rfl) rfl #[.int .i64 a0, .int .i64 a1] rfl (by (try simp only [List.map_toArray, List.map_cons, List.map_nil]); first | done | rfl | (simp only [List.length_drop, List.length_take]; rfl)) ?_; (with_reducible refine (impl_common.calls k a0 a1 t241 _ A3.out).mono ?_); rintro e w10 ⟨rfl, hb⟩; refine ⟨_, rfl, ?_⟩; have n0_ := zm1 (zc6 (by repeat (first | (with_reducible first | exact HB.out | apply zc1 | apply zc2 | apply zc3) | exact HB.out)) hb); clear HB; have HB := n0_; clear n0_; (try clear hb); (try clear hb2); (try clear hk); (try clear hi)))
  go_ret
  exact ⟨by first | rfl | (simp [errW_none, errW_some] <;> rfl) | (simp [*, errW_none, errW_some] <;> rfl), by repeat (first | (with_reducible first | exact HB.out | apply zc1 | apply zc2 | apply zc3) | exact HB.out)⟩

/-! ### impl_directionOf: function 75 -/
def impl_directionOf.f (k : Nat) (a0_0 : Int) (a0_1 : Int) (a1_0 : Int) (a1_1 : Int) : Option (Int × Int × Int) := (impl_common.f k (wrap64 (a1_0 - a0_0)) (wrap64 (a1_1 - a0_1))).bind fun t244 => (if t244 = 0 then (none) else ((impl_isDirection.f k (wrap64 (Int.tdiv (wrap64 (a1_0 - a0_0)) t244)) (wrap64 (Int.tdiv (wrap64 (a1_1 - a0_1)) t244))).bind fun t245 => (if t245 = true then (some (wrap64 (Int.tdiv (wrap64 (a1_0 - a0_0)) t244), wrap64 (Int.tdiv (wrap64 (a1_1 - a0_1)) t244), t244)) else (some (wrap64 (-(wrap64 (Int.tdiv (wrap64 (a1_0 - a0_0)) t244))), wrap64 (-(wrap64 (Int.tdiv (wrap64 (a1_1 - a0_1)) t244))), wrap64 (-t244))))))
theorem impl_directionOf.mono : ∀ a0 a1 a2 a3 k, LeO (impl_directionOf.f k a0 a1 a2 a3) (impl_directionOf.f (k + 1) a0 a1 a2 a3) := by
 intro a0 a1 a2 a3 k
 unfold impl_directionOf.f
 repeat' first
   | (with_reducible exact impl_common.mono _ _ _)
   | (with_reducible exact impl_isDirection.mono _ _ _)
   | (with_reducible exact LeO.refl _)
   | (with_reducible exact LeO.none _)
   | (with_reducible refine LeO.ite ?_ ?_)
   | (with_reducible refine LeO.bind ?_ (fun _ => ?_))
   | exact impl_common.mono _ _ _
   | exact impl_isDirection.mono _ _ _
   | exact LeO.none _
   | refine LeO.ite ?_ ?_
   | refine LeO.bind ?_ (fun _ => ?_)
set_option maxHeartbeats 8000000 in
set_option maxRecDepth 100000 in
theorem impl_directionOf.calls (k : Nat) (a0_0 : Int) (a0_1 : Int) (a1_0 : Int) (a1_1 : Int) (r1 : Int) (r2 : Int) (r3 : Int) (w : World) (h : impl_directionOf.f k a0_0 a0_1 a1_0 a1_1 = some (r1, r2, r3)) :
  Calls Tryd.prog 75 #[.agg #[.int .i64 a0_0, .int .i64 a0_1], .agg #[.int .i64 a1_0, .int .i64 a1_1]] w fun e w' => e = .returned (.tuple #[.int .i64 r1, .int .i64 r2, .int .i64 r3]) ∧ Below w.heap.size w w' := by
 have hu53 := Tryd.underlying53
 have HB := zm1 (Below.refl w.heap.size w)
 have H : ((impl_common.f k (wrap64 (a1_0 - a0_0)) (wrap64 (a1_1 - a0_1))).bind fun t244 => (if t244 = 0 then (none) else ((impl_isDirection.f k (wrap64 (Int.tdiv (wrap64 (a1_0 - a0_0)) t244)) (wrap64 (Int.tdiv (wrap64 (a1_1 - a0_1)) t244))).bind fun t245 => (if t245 = true then (some (wrap64 (Int.tdiv (wrap64 (a1_0 - a0_0)) t244), wrap64 (Int.tdiv (wrap64 (a1_1 - a0_1)) t244), t244)) else (some (wrap64 (-(wrap64 (Int.tdiv (wrap64 (a1_0 - a0_0)) t244))), wrap64 (-(wrap64 (Int.tdiv (wrap64 (a1_1 - a0_1)) t244))), wrap64 (-t244))))))) = some (r1, r2, r3) := h
 clear h
 replace H := Option.bind_eq_some_iff.mp H
 obtain ⟨t244, A30, H⟩ := H
 replace H : (if t244 = 0 then (none) else ((impl_isDirection.f k (wrap64 (Int.tdiv (wrap64 (a1_0 - a0_0)) t244)) (wrap64 (Int.tdiv (wrap64 (a1_1 - a0_1)) t244))).bind fun t245 => (if t245 = true then (some (wrap64 (Int.tdiv (wrap64 (a1_0 - a0_0)) t244), wrap64 (Int.tdiv (wrap64 (a1_1 - a0_1)) t244), t244)) else (some (wrap64 (-(wrap64 (Int.tdiv (wrap64 (a1_0 - a0_0)) t244))), wrap64 (-(wrap64 (Int.tdiv (wrap64 (a1_1 - a0_1)) t244))), wrap64 (-t244)))))) = some (r1, r2, r3) := H
 have A3 := zm1 A30
 clear A30
 by_cases c4 : t244 = 0
 ·rw [if_pos c4] at H
  exact absurd H (by simp)
 ·rw [if_neg c4] at H
  have c4b0 : (t244 == 0) = false := beq_eq_false_iff_ne.mpr c4
  have c4b1 : (t244 != 0) = true := bne_iff_ne.mpr c4
  replace H := Option.bind_eq_some_iff.mp H
  obtain ⟨t245, A50, H⟩ := H
  replace H : (if t245 = true then (some (wrap64 (Int.tdiv (wrap64 (a1_0 - a0_0)) t244), wrap64 (Int.tdiv (wrap64 (a1_1 - a0_1)) t244), t244)) else (some (wrap64 (-(wrap64 (Int.tdiv (wrap64 (a1_0 - a0_0)) t244))), wrap64 (-(wrap64 (Int.tdiv (wrap64 (a1_1 - a0_1)) t244))), wrap64 (-t244)))) = some (r1, r2, r3) := H
  have A5 := zm1 A50
  clear A50
  by_cases c6 : t245 = true
  ·subst c6
   have H1 : (some (wrap64 (Int.tdiv (wrap64 (a1_0 - a0_0)) t244), wrap64 (Int.tdiv (wrap64 (a1_1 - a0_1)) t244), t244)) = some (r1, r2, r3) := by rw [if_pos rfl] at H; exact H
   clear H
   have H := H1
   clear H1
   simp only [Option.some.injEq, Prod.mk.injEq] at H
   obtain ⟨rfl, rfl, rfl⟩ := H
   go_enter Tryd.func75, Tryd.ntmps75
   go_wp2_with (first | ((with_reducible refine gate_dst (N := 2) rfl ?_); refine box_event ?hg (N := 2) ?hd (cs := #[.int .i64 a0_0, .int .i64 a0_1]) (t := 53) ?hr ?_; (case hd => rfl); (case hg => rfl); (case hr => first | (go_simp; done) | (go_simp; rfl)); intro gb242 hg w7 hbox hb; have n0_ := zm1 (zc6 (by repeat (first | (with_reducible first | exact HB.out | apply zc1 | apply zc2 | apply zc3) | exact HB.out)) hb); have n1_ := zm1 (hbox); have n2_ := zm1 ((by rw [hg]; exact (zc5 (by repeat (first | (with_reducible first | exact HB.out | apply zc1 | apply zc2 | apply zc3) | exact HB.out))) : w.heap.size ≤ gb242)); have n3_ := zm1 ((by rw [hg]; exact (zc5 (by repeat (first | (with_reducible first | exact HB.out | apply zc1 | apply zc2 | apply zc3) | exact HB.out))) : w.heap.size ≤ gb242)); clear HB; have HB := n0_; have BK242 := n1_; have GW242 := n2_; have GE242 := n3_; clear n0_ n1_ n2_ n3_; clear hb hbox hg) | ((with_reducible refine gate_dst (N := 3) rfl ?_); refine box_event ?hg (N := 3) ?hd (cs := #[.int .i64 a1_0, .int .i64 a1_1]) (t := 53) ?hr ?_; (case hd => rfl); (case hg => rfl); (case hr => first | (go_simp; done) | (go_simp; rfl)); intro gb243 hg w8 hbox hb; have n0_ := zm1 (zd1 (zb4 BK242.out) hb); have n1_ := zm1 (zc6 (by repeat (first | (with_reducible first | exact HB.out | apply zc1 | apply zc2 | apply zc3 | refine zc4 ?_ GE242.out) | exact HB.out)) hb); have n2_ := zm1 (hbox); have n3_ := zm1 ((by rw [hg]; exact (zc5 (by repeat (first | (with_reducible first | exact HB.out | apply zc1 | apply zc2 | apply zc3 | refine zc4 ?_ GE242.out) | exact HB.out))) : w.heap.size ≤ gb243)); have n4_ := zm1 ((by rw [hg]; exact (zc5 (by repeat (first | (with_reducible first | exact HB.out | apply zc1 | apply zc2 | apply zc3 | refine zc4 ?_ GE242.out) | exact HB.out))) : w.heap.size ≤ gb243)); have n5_ := zm1 ((by rw [hg]; exact Nat.ne_of_lt (zd2 (zb4 BK242.out)) : gb242 ≠ gb243)); have n6_ := zm1 ((by rw [hg]; exact Nat.ne_of_gt (zd2 (zb4 BK242.out)) : gb243 ≠ gb242)); clear BK242; clear HB; have BK242 := n0_; have HB := n1_; have BK243 := n2_; have GW243 := n3_; have GE243 := n4_; have NB242_243 := n5_; have NB243_242 := n6_; clear n0_ n1_ n2_ n3_ n4_ n5_ n6_; clear hb hbox hg; have hnb9 := NB243_242.out; have hnc9 := NB242_243.out; have hcz10_0 : w8.cell? ⟨gb243, 0, none⟩ = some (.int .i64 a1_0) := (blk_cell BK243.out 0).trans rfl; have hcz10_1 : w8.cell? ⟨gb243, 1, none⟩ = some (.int .i64 a1_1) := (blk_cell BK243.out 1).trans rfl; have hfz10_0 := blk_frozen BK243.out 0; have hfz10_1 := blk_frozen BK243.out 1; have hcz11_0 : w8.cell? ⟨gb242, 0, none⟩ = some (.int .i64 a0_0) := (blk_cell BK242.out 0).trans rfl; have hcz11_1 : w8.cell? ⟨gb242, 1, none⟩ = some (.int .i64 a0_1) := (blk_cell BK242.out 1).trans rfl; have hfz11_0 := blk_frozen BK242.out 0; have hfz11_1 := blk_frozen BK242.out 1) | (go_at_call 105; (with_reducible refine (impl_common.calls k (wrap64 (a1_0 - a0_0)) (wrap64 (a1_1 - a0_1)) t244 _ A3.out).mono ?_); rintro e w12 ⟨rfl, hb⟩; have n0_ := zm1 (zd1 (zb4 BK242.out) hb); have n1_ := zm1 (zd1 (zb4 BK243.out) hb); have n2_ := zm1 (zc6 (by repeat (first | (with_reducible first | exact HB.out | apply zc1 | apply zc2 | apply zc3 | refine zc4 ?_ GE242.out | refine zc4 ?_ GE243.out) | exact HB.out)) hb); clear BK242; clear BK243; clear HB; have BK242 := n0_; have BK243 := n1_; have HB := n2_; clear n0_ n1_ n2_; (try clear hb); (try clear hb2); (try clear hk); (try clear hi); have hcz13_0 : w12.cell? ⟨gb243, 0, none⟩ = some (.int .i64 a1_0) := (blk_cell BK243.out 0).trans rfl; have hcz13_1 : w12.cell? ⟨gb243, 1, none⟩ = some (.int .i64 a1_1) := (blk_cell BK243.out 1).trans rfl; have hfz13_0 := blk_frozen BK243.out 0; have hfz13_1 := blk_frozen BK243.out 1; have hcz14_0 : w12.cell? ⟨gb242, 0, none⟩ = some (.int .i64 a0_0) := (blk_cell BK242.out 0).trans rfl; have hcz14_1 : w12.cell? ⟨gb242, 1, none⟩ = some (.int .i64 a0_1) := (blk_cell BK242.out 1).trans rfl; have hfz14_0 := blk_frozen BK242.out 0; have hfz14_1 := blk_frozen BK242.out 1) | (go_at_call 106; (with_reducible refine (impl_isDirection.calls k (wrap64 (Int.tdiv (wrap64 (a1_0 - a0_0)) t244)) (wrap64 (Int.tdiv (wrap64 (a1_1 - a0_1)) t244)) true _ A5.out).mono ?_); rintro e w15 ⟨rfl, hb⟩; have n0_ := zm1 (zd1 (zb4 BK242.out) hb); have n1_ := zm1 (zd1 (zb4 BK243.out) hb); have n2_ := zm1 (zc6 (by repeat (first | (with_reducible first | exact HB.out | apply zc1 | apply zc2 | apply zc3 | refine zc4 ?_ GE242.out | refine zc4 ?_ GE243.out) | exact HB.out)) hb); clear BK242; clear BK243; clear HB; have BK242 := n0_; have BK243 := n1_; have HB := n2_; clear n0_ n1_ n2_; (try clear hb); (try clear hb2); (try clear hk); (try clear hi)))
   repeat (go_quiet (first | ((with_reducible refine gate_dst (N := 2) rfl ?_); refine box_event ?hg (N := 2) ?hd (cs := #[.int .i64 a0_0, .int .i64 a0_1]) (t := 53) ?hr ?_; (case hd => rfl); (case hg => rfl); (case hr => first | (go_simp; done) | (go_simp; rfl)); intro gb242 hg w7 hbox hb; have n0_ := zm1 (zc6 (by repeat (first | (with_reducible first | exact HB.out | apply zc1 | apply zc2 | apply zc3) | exact HB.out)) hb); have n1_ := zm1 (hbox); have n2_ := zm1 ((by rw [hg]; exact (zc5 (by repeat (first | (with_reducible first | exact HB.out | apply zc1 | apply zc2 | apply zc3) | exact HB.out))) : w.heap.size ≤ gb242)); have n3_ := zm1 ((by rw [hg]; exact (zc5 (by repeat (first | (with_reducible first | exact HB.out | apply zc1 | apply zc2 | apply zc3) | exact HB.out))) : w.heap.size ≤ gb242)); clear HB; have HB := n0_; have BK242 := n1_; have GW242 := n2_; have GE242 := n3_; clear n0_ n1_ n2_ n3_; clear hb hbox hg) | ((with_reducible refine gate_dst (N := 3) rfl ?_); refine box_event ?hg (N := 3) ?hd (cs := #[.int .i64 a1_0, .int .i64 a1_1]) (t := 53) ?hr ?_; (case hd => rfl); (case hg => rfl); (case hr => first | (go_simp; done) | (go_simp; rfl)); intro gb243 hg w8 hbox hb; have n0_ := zm1 (zd1 (zb4 BK242.out) hb); have n1_ := zm1 (zc6 (by repeat (first | (with_reducible first | exact HB.out | apply zc1 | apply zc2 | apply zc3 | refine zc4 ?_ GE242.out) | exact HB.out)) hb); have n2_ := zm1 (hbox); have n3_ := zm1 ((by rw [hg]; exact (zc5 (by repeat (first | (with_reducible first | exact HB.out | apply zc1 | apply zc2 | apply zc3 | refine zc4 ?_ GE242.out) | exact HB.out))) : w.heap.size ≤ gb243)); have n4_ := zm1 ((by rw [hg]; exact (zc5 (by repeat (first | (with_reducible first | exact HB.out | apply zc1 | apply zc2 | apply zc3 | refine zc4 ?_ GE242.out) | exact HB.out))) : w.heap.size ≤ gb243)); have n5_ := zm1 ((by rw [hg]; exact Nat.ne_of_lt (zd2 (zb4 BK242.out)) : gb242 ≠ gb243)); have n6_ := zm1 ((by rw [hg]; exact Nat.ne_of_gt (zd2 (zb4 BK242.out)) : gb243 ≠ gb242)); clear BK242; clear HB; have BK242 := n0_; have HB := n1_; have BK243 := n2_; have GW243 := n3_; have GE243 := n4_; have NB242_243 := n5_; have NB243_242 := n6_; clear n0_ n1_ n2_ n3_ n4_ n5_ n6_; clear hb hbox hg; have hnb9 := NB243_242.out; have hnc9 := NB242_243.out; have hcz10_0 : w8.cell? ⟨gb243, 0, none⟩ = some (.int .i64 a1_0) := (blk_cell BK243.out 0).trans rfl; have hcz10_1 : w8.cell? ⟨gb243, 1, none⟩ = some (.int .i64 a1_1) := (blk_cell BK243.out 1).trans rfl; have hfz10_0 := blk_frozen BK243.out 0; have hfz10_1 := blk_frozen BK243.out 1; have hcz11_0 : w8.cell? ⟨gb242, 0, none⟩ = some (.int .i64 a0_0) := (blk_cell BK242.out 0).trans rfl; have hcz11_1 : w8.cell? ⟨gb242, 1, none⟩ = some (.int .i64 a0_1) := (blk_cell BK242.out 1).trans rfl; have hfz11_0 := blk_frozen BK242.out 0; have hfz11_1 := blk_frozen BK242.out 1) | (go_at_call 105; (with_reducible refine (impl_common.calls k (wrap64 (a1_0 - a0_0)) (wrap64 (a1_1 - a0_1)) t244 _ A3.out).mono ?_); rintro e w12 ⟨rfl, hb⟩; have n0_ := zm1 (zd1 (zb4 BK242.out) hb); have n1_ := zm1 (zd1 (zb4 BK243.out) hb); have n2_ := zm1 (zc6 (by repeat (first | (with_reducible first | exact HB.out | apply zc1 | apply zc2 | apply zc3 | refine zc4 ?_ GE242.out | refine zc4 ?_ GE243.out) | exact HB.out)) hb); clear BK242; clear BK243; clear HB; have BK242 := n0_; have BK243 := n1_; have HB := n2_; clear n0_ n1_ n2_; (try clear hb); (try clear hb2); (try clear hk); (try clear hi); have hcz13_0 : w12.cell? ⟨gb243, 0, none⟩ = some (.int .i64 a1_0) := (blk_cell BK243.out 0).trans rfl; have hcz13_1 : w12.cell? ⟨gb243, 1, none⟩ = some (.int .i64 a1_1) := (blk_cell BK243.out 1).trans rfl; have hfz13_0 := blk_frozen BK243.out 0; have hfz13_1 := blk_frozen BK243.out 1; have hcz14_0 : w12.cell? ⟨gb242, 0, none⟩ = some (.int .i64 a0_0) := (blk_cell BK242.out 0).trans rfl; have hcz14_1 : w12.cell? ⟨gb242, 1, none⟩ = some (.int .i64 a0_1) := (blk_cell BK242.out 1).trans rfl; have hfz14_0 := blk_frozen BK242.out 0; have hfz14_1 := blk_frozen BK242.out 1) | (go_at_call 106; (with_reducible refine (impl_isDirection.calls k (wrap64 (Int.tdiv (wrap64 (a1_0 - a0_0)) t244)) (wrap64 (Int.tdiv (wrap64 (a1_1 - a0_1)) t244)) true _ A5.out).mono ?_); rintro e w15 ⟨rfl, hb⟩; have n0_ := zm1 (zd1 (zb4 BK242.out) hb); have n1_ := zm1 (zd1 (zb4 BK243.out) hb); have n2_ := zm1 (zc6 (by repeat (first | (with_reducible first | exact HB.out | apply zc1 | apply zc2 | apply zc3 | refine zc4 ?_ GE242.out | refine zc4 ?_ GE243.out) | exact HB.out)) hb); clear BK242; clear BK243; clear HB; have BK242 := n0_; have BK243 := n1_; have HB := n2_; clear n0_ n1_ n2_; (try clear hb); (try clear hb2); (try clear hk); (try clear hi))); try go_wp2_with (first | ((with_reducible refine gate_dst (N := 2) rfl ?_); refine box_event ?hg (N := 2) ?hd (cs := #[.int .i64 a0_0, .int .i64 a0_1]) (t := 53) ?hr ?_; (case hd => rfl); (case hg => rfl); (case hr => first | (go_simp; done) | (go_simp; rfl)); intro gb242 hg w7 hbox hb; have n0_ := zm1 (zc6 (by repeat (first | (with_reducible first | exact HB.out | apply zc1 | apply zc2 | apply zc3) | exact HB.out)) hb); have n1_ := zm1 (hbox); have n2_ := zm1 ((by rw [hg]; exact (zc5 (by repeat (first | (with_reducible first | exact HB.out | apply zc1 | apply zc2 | apply zc3) | exact HB.out))) : w.heap.size ≤ gb242)); have n3_ := zm1 ((by rw [hg]; exact (zc5 (by repeat (first | (with_reducible first | exact HB.out | apply zc1 | apply zc2 | apply zc3) | exact HB.out))) : w.heap.size ≤ gb242)); clear HB; have HB := n0_; have BK242 := n1_; have GW242 := n2_; have GE242 := n3_; clear n0_ n1_ n2_ n3_; clear hb hbox hg) | ((with_reducible refine gate_dst (N := 3) rfl ?_); refine box_event ?hg (N := 3) ?hd (cs := #[.int .i64 a1_0, .int .i64 a1_1]) (t := 53) ?hr ?_; (case hd => rfl); (case hg => rfl); (case hr => first | (go_simp; done) | (go_simp; rfl)); intro gb243 hg w8 hbox hb; have n0_ := zm1 (zd1 (zb4 BK242.out) hb); have n1_ := zm1 (zc6 (by repeat (first | (with_reducible first | exact HB.out | apply zc1 | apply zc2 | apply zc3 | refine zc4 ?_ GE242.out) | exact HB.out)) hb); have n2_ := zm1 (hbox); have n3_ := zm1 ((by rw [hg]; exact (zc5 (by repeat (first | (with_reducible first | exact HB.out | apply zc1 | apply zc2 | apply zc3 | refine zc4 ?_ GE242.out) | exact HB.out))) : w.heap.size ≤ gb243)); have n4_ := zm1 ((by rw [hg]; exact (zc5 (by repeat (first | (with_reducible first | exact HB.out | apply zc1 | apply zc2 | apply zc3 | refine zc4 ?_ GE242.out) | exact HB.out))) : w.heap.size ≤ gb243)); have n5_ := zm1 ((by rw [hg]; exact Nat.ne_of_lt (zd2 (zb4 BK242.out)) : gb242 ≠ gb243)); have n6_ := zm1 ((by rw [hg]; exact Nat.ne_of_gt (zd2 (zb4 BK242.out)) : gb243 ≠ gb242)); clear BK242; clear HB; have BK242 := n0_; have HB := n1_; have BK243 := n2_; have GW243 := n3_; have GE243 := n4_; have NB242_243 := n5_; have NB243_242 := n6_; clear n0_ n1_ n2_ n3_ n4_ n5_ n6_; clear hb hbox hg; have hnb9 := NB243_242.out; have hnc9 := NB242_243.out; have hcz10_0 : w8.cell? ⟨gb243, 0, none⟩ = some (.int .i64 a1_0) := (blk_cell BK243.out 0).trans rfl; have hcz10_1 : w8.cell? ⟨gb243, 1, none⟩ = some (.int .i64 a1_1) := (blk_cell BK243.out 1).trans rfl; have hfz10_0 := blk_frozen BK243.out 0; have hfz10_1 := blk_frozen BK243.out 1; have hcz11_0 : w8.cell? ⟨gb242, 0, none⟩ = some (.int .i64 a0_0) := (blk_cell BK242.out 0).trans rfl; have hcz11_1 : w8.cell? ⟨gb242, 1, none⟩ = some (.int .i64 a0_1) := (blk_cell BK242.out 1).trans rfl; have hfz11_0 := blk_frozen BK242.out 0; have hfz11_1 := blk_frozen BK242.out 1) | (go_at_call 105; (with_reducible refine (impl_common.calls k (wrap64 (a1_0 - a0_0)) (wrap64 (a1_1 - a0_1)) t244 _ A3.out).mono ?_); rintro e w12 ⟨rfl, hb⟩; have n0_ := zm1 (zd1 (zb4 BK242.out) hb); have n1_ := zm1 (zd1 (zb4 BK243.out) hb); have n2_ := zm1 (zc6 (by repeat (first | (with_reducible first | exact HB.out | apply zc1 | apply zc2 | apply zc3 | refine zc4 ?_ GE242.out | refine zc4 ?_ GE243.out) | exact HB.out)) hb); clear BK242; clear BK243; clear HB; have BK242 := n0_; have BK243 := n1_; have HB := n2_; clear n0_ n1_ n2_; (try clear hb); (try clear hb2); (try clear hk); (try clear hi); have hcz13_0 : w12.cell? ⟨gb243, 0, none⟩ = some (.int .i64 a1_0) := (blk_cell BK243.out 0).trans rfl; have hcz13_1 : w12.cell? ⟨gb243, 1, none⟩ = some (.int .i64 a1_1) := (blk_cell BK243.out 1).trans rfl; have hfz13_0 := blk_frozen BK243.out 0; have hfz13_1 := blk_frozen BK243.out 1; have hcz14_0 : w12.cell? ⟨gb242, 0, none⟩ = some (.int .i64 a0_0) := (blk_cell BK242.out 0).trans rfl; have hcz14_1 : w12.cell? ⟨gb242, 1, none⟩ = some (.int .i64 a0_1) := (blk_cell BK242.out 1).trans rfl; have hfz14_0 := blk_frozen BK242.out 0; have hfz14_1 := blk_frozen BK242.out 1) | (go_at_call 106; (with_reducible refine (impl_isDirection.calls k (wrap64 (Int.tdiv (wrap64 (a1_0 - a0_0)) t244)) (wrap64 (Int.tdiv (wrap64 (a1_1 - a0_1)) t244)) true _ A5.out).mono ?_); rintro e w15 ⟨rfl, hb⟩; have n0_ := zm1 (zd1 (zb4 BK242.out) hb); have n1_ := zm1 (zd1 (zb4 BK243.out) hb); have n2_ := zm1 (zc6 (by repeat (first | (with_reducible first | exact HB.out | apply zc1 | apply zc2 | apply zc3 | refine zc4 ?_ GE242.out | refine zc4 ?_ GE243.out) | exact HB.out)) hb); clear BK242; clear BK243; clear HB; have BK242 := n0_; have BK243 := n1_; have HB := n2_; clear n0_ n1_ n2_; (try clear hb); (try clear hb2); (try clear hk); (try clear hi))))
   go_ret3
   exact ⟨by first | rfl | (simp [errW_none, errW_some] <;> rfl) | (simp [*, errW_none, errW_some] <;> rfl), by repeat (first | (with_reducible first | exact HB.out | apply zc1 | apply zc2 | apply zc3 | refine zc4 ?_ GE242.out | refine zc4 ?_ GE243.out) | exact HB.out)⟩
  ·replace c6 := Bool.eq_false_iff.mpr c6
   subst c6
   have H1 : (some (wrap64 (-(wrap64 (Int.tdiv (wrap64 (a1_0 - a0_0)) t244))), wrap64 (-(wrap64 (Int.tdiv (wrap64 (a1_1 - a0_1)) t244))), wrap64 (-t244))) = some (r1, r2, r3) := by rw [if_neg (show ¬ (false = true) by decide)] at H; exact H
   clear H
   have H := H1
   clear H1
   simp only [Option.some.injEq, Prod.mk.injEq] at H
   obtain ⟨rfl, rfl, rfl⟩ := H
   go_enter Tryd.func75, Tryd.ntmps75
   go_wp2_with (first | ((with_reducible refine gate_dst (N := 2) rfl ?_); refine box_event ?hg (N := 2) ?hd (cs := #[.int .i64 a0_0, .int .i64 a0_1]) (t := 53) ?hr ?_; (case hd => rfl); (case hg => rfl); (case hr => first | (go_simp; done) | (go_simp; rfl)); intro gb242 hg w16 hbox hb; have n0_ := zm1 (zc6 (by repeat (first | (with_reducible first | exact HB.out | apply zc1 | apply zc2 | apply zc3) | exact HB.out)) hb); have n1_ := zm1 (hbox); have n2_ := zm1 ((by rw [hg]; exact (zc5 (by repeat (first | (with_reducible first | exact HB.out | apply zc1 | apply zc2 | apply zc3) | exact HB.out))) : w.heap.size ≤ gb242)); have n3_ := zm1 ((by rw [hg]; exact (zc5 (by repeat (first | (with_reducible first | exact HB.out | apply zc1 | apply zc2 | apply zc3) | exact HB.out))) : w.heap.size ≤ gb242)); clear HB; have HB := n0_; have BK242 := n1_; have GW242 := n2_; have GE242 := n3_; clear n0_ n1_ n2_ n3_; clear hb hbox hg) | ((with_reducible refine gate_dst (N := 3) rfl ?_); refine box_event ?hg (N := 3) ?hd (cs := #[.int .i64 a1_0, .int .i64 a1_1]) (t := 53) ?hr ?_; (case hd => rfl); (case hg => rfl); (case hr => first | (go_simp; done) | (go_simp; rfl)); intro gb243 hg w17 hbox hb; have n0_ := zm1 (zd1 (zb4 BK242.out) hb); have n1_ := zm1 (zc6 (by repeat (first | (with_reducible first | exact HB.out | apply zc1 | apply zc2 | apply zc3 | refine zc4 ?_ GE242.out) | exact HB.out)) hb); have n2_ := zm1 (hbox); have n3_ := zm1 ((by rw [hg]; exact (zc5 (by repeat (first | (with_reducible first | exact HB.out | apply zc1 | apply zc2 | apply zc3 | refine zc4 ?_ GE242.out) | exact HB.out))) : w.heap.size ≤ gb243)); have n4_ := zm1 ((by rw [hg]; exact (zc5 (by repeat (first | (with_reducible first | exact HB.out | apply zc1 | apply zc2 | apply zc3 | refine zc4 ?_ GE242.out) | exact HB.out))) : w.heap.size ≤ gb243)); have n5_ := zm1 ((by rw [hg]; exact Nat.ne_of_lt (zd2 (zb4 BK242.out)) : gb242 ≠ gb243)); have n6_ := zm1 ((by rw [hg]; exact Nat.ne_of_gt (zd2 (zb4 BK242.out)) : gb243 ≠ gb242)); clear BK242; clear HB; have BK242 := n0_; have HB := n1_; have BK243 := n2_; have GW243 := n3_; have GE243 := n4_; have NB242_243 := n5_; have NB243_242 := n6_; clear n0_ n1_ n2_ n3_ n4_ n5_ n6_; clear hb hbox hg; have hnb18 := NB243_242.out; have hnc18 := NB242_243.out; have hcz19_0 : w17.cell? ⟨gb243, 0, none⟩ = some (.int .i64 a1_0) := (blk_cell BK243.out 0).trans rfl; have hcz19_1 : w17.cell? ⟨gb243, 1, none⟩ = some (.int .i64 a1_1) := (blk_cell BK243.out 1).trans rfl; have hfz19_0 := blk_frozen BK243.out 0; have hfz19_1 := blk_frozen BK243.out 1; have hcz20_0 : w17.cell? ⟨gb242, 0, none⟩ = some (.int .i64 a0_0) := (blk_cell BK242.out 0).trans rfl; have hcz20_1 : w17.cell? ⟨gb242, 1, none⟩ = some (.int .i64 a0_1) := (blk_cell BK242.out 1).trans rfl; have hfz20_0 := blk_frozen BK242.out 0; have hfz20_1 := blk_frozen BK242.out 1) | (go_at_call 105; (with_reducible refine (impl_common.calls k (wrap64 (a1_0 - a0_0)) (wrap64 (a1_1 - a0_1)) t244 _ A3.out).mono ?_); rintro e w21 ⟨rfl, hb⟩; have n0_ := zm1 (zd1 (zb4 BK242.out) hb); have n1_ := zm1 (zd1 (zb4 BK243.out) hb); have n2_ := zm1 (zc6 (by repeat (first | (with_reducible first | exact HB.out | apply zc1 | apply zc2 | apply zc3 | refine zc4 ?_ GE242.out | refine zc4 ?_ GE243.out) | exact HB.out)) hb); clear BK242; clear BK243; clear HB; have BK242 := n0_; have BK243 := n1_; have HB := n2_; clear n0_ n1_ n2_; (try clear hb); (try clear hb2); (try clear hk); (try clear hi); have hcz22_0 : w21.cell? ⟨gb243, 0, none⟩ = some (.int .i64 a1_0) := (blk_cell BK243.out 0).trans rfl; have hcz22_1 : w21.cell? ⟨gb243, 1, none⟩ = some (.int .i64 a1_1) := (blk_cell BK243.out 1).trans rfl; have hfz22_0 := blk_frozen BK243.out 0; have hfz22_1 := blk_frozen BK243.out 1; have hcz23_0 : w21.cell? ⟨gb242, 0, none⟩ = some (.int .i64 a0_0) := (blk_cell BK242.out 0).trans rfl; have hcz23_1 : w21.cell? ⟨gb242, 1, none⟩ = some (.int .i64 a0_1) := (blk_cell BK242.out 1).trans rfl; have hfz23_0 := blk_frozen BK242.out 0; have hfz23_1 := blk_frozen BK242.out 1) | (go_at_call 106; (with_reducible refine (impl_isDirection.calls k (wrap64 (Int.tdiv (wrap64 (a1_0 - a0_0)) t244)) (wrap64 (Int.tdiv (wrap64 (a1_1 - a0_1)) t244)) false _ A5.out).mono ?_); rintro e w24 ⟨rfl, hb⟩; have n0_ := zm1 (zd1 (zb4 BK242.out) hb); have n1_ := zm1 (zd1 (zb4 BK243.out) hb); have n2_ := zm1 (zc6 (by repeat (first | (with_reducible first | exact HB.out | apply zc1 | apply zc2 | apply zc3 | refine zc4 ?_ GE242.out | refine zc4 ?_ GE243.out) | exact HB.out)) hb); clear BK242; clear BK243; clear HB; have BK242 := n0_; have BK243 := n1_; have HB := n2_; clear n0_ n1_ n2_; (try clear hb); (try clear hb2); (try clear hk); (try clear hi)))
   repeat (go_quiet (first | ((with_reducible refine gate_dst (N := 2) rfl ?_); refine box_event ?hg (N := 2) ?hd (cs := #[.int .i64 a0_0, .int .i64 a0_1]) (t := 53) ?hr ?_; (case hd => rfl); (case hg => rfl); (case hr => first | (go_simp; done) | (go_simp; rfl)); intro gb242 hg w16 hbox hb; have n0_ := zm1 (zc6 (by repeat (first | (with_reducible first | exact HB.out | apply zc1 | apply zc2 | apply zc3) | exact HB.out)) hb); have n1_ := zm1 (hbox); have n2_ := zm1 ((by rw [hg]; exact (zc5 (by repeat (first | (with_reducible first | exact HB.out | apply zc1 | apply zc2 | apply zc3) | exact HB.out))) : w.heap.size ≤ gb242)); have n3_ := zm1 ((by rw [hg]; exact (zc5 (by repeat (first | (with_reducible first | exact HB.out | apply zc1 | apply zc2 | apply zc3) | exact HB.out))) : w.heap.size ≤ gb242)); clear HB; have HB := n0_; have BK242 := n1_; have GW242 := n2_; have GE242 := n3_; clear n0_ n1_ n2_ n3_; clear hb hbox hg) | ((with_reducible refine gate_dst (N := 3) rfl ?_); refine box_event ?hg (N := 3) ?hd (cs := #[.int .i64 a1_0, .int .i64 a1_1]) (t := 53) ?hr ?_; (case hd => rfl); (case hg => rfl); (case hr => first | (go_simp; done) | (go_simp; rfl)); intro gb243 hg w17 hbox hb; have n0_ := zm1 (zd1 (zb4 BK242.out) hb); have n1_ := zm1 (zc6 (by repeat (first | (with_reducible first | exact HB.out | apply zc1 | apply zc2 | apply zc3 | refine zc4 ?_ GE242.out) | exact HB.out)) hb); have n2_ := zm1 (hbox); have n3_ := zm1 ((by rw [hg]; exact (zc5 (by repeat (first | (with_reducible first | exact HB.out | apply zc1 | apply zc2 | apply zc3 | refine zc4 ?_ GE242.out) | exact HB.out))) : w.heap.size ≤ gb243)); have n4_ := zm1 ((by rw [hg]; exact (zc5 (by repeat (first | (with_reducible first | exact HB.out | apply zc1 | apply zc2 | apply zc3 | refine zc4 ?_ GE242.out) | exact HB.out))) : w.heap.size ≤ gb243)); have n5_ := zm1 ((by rw [hg]; exact Nat.ne_of_lt (zd2 (zb4 BK242.out)) : gb242 ≠ gb243)); have n6_ := zm1 ((by rw [hg]; exact Nat.ne_of_gt (zd2 (zb4 BK242.out)) : gb243 ≠ gb242)); clear BK242; clear HB; have BK242 := n0_; have HB := n1_; have BK243 := n2_; have GW243 := n3_; have GE243 := n4_; have NB242_243 := n5_; have NB243_242 := n6_; clear n0_ n1_ n2_ n3_ n4_ n5_ n6_; clear hb hbox hg; have hnb18 := NB243_242.out; have hnc18 := NB242_243.out; have hcz19_0 : w17.cell? ⟨gb243, 0, none⟩ = some (.int .i64 a1_0) := (blk_cell BK243.out 0).trans rfl; have hcz19_1 : w17.cell? ⟨gb243, 1, none⟩ = some (.int .i64 a1_1) := (blk_cell BK243.out 1).trans rfl; have hfz19_0 := blk_frozen BK243.out 0; have hfz19_1 := blk_frozen BK243.out 1; have hcz20_0 : w17.cell? ⟨gb242, 0, none⟩ = some (.int .i64 a0_0) := (blk_cell BK242.out 0).trans rfl; have hcz20_1 : w17.cell? ⟨gb242, 1, none⟩ = some (.int .i64 a0_1) := (blk_cell BK242.out 1).trans rfl; have hfz20_0 := blk_frozen BK242.out 0; have hfz20_1 := blk_frozen BK242.out 1) | (go_at_call 105; (with_reducible refine (impl_common.calls k (wrap64 (a1_0 - a0_0)) (wrap64 (a1_1 - a0_1)) t244 _ A3.out).mono ?_); rintro e w21 ⟨rfl, hb⟩; have n0_ := zm1 (zd1 (zb4 BK242.out) hb); have n1_ := zm1 (zd1 (zb4 BK243.out) hb); have n2_ := zm1 (zc6 (by repeat (first | (with_reducible first | exact HB.out | apply zc1 | apply zc2 | apply zc3 | refine zc4 ?_ GE242.out | refine zc4 ?_ GE243.out) | exact HB.out)) hb); clear BK242; clear BK243; clear HB; have BK242 := n0_; have BK243 := n1_; have HB := n2_; clear n0_ n1_ n2_; (try clear hb); (try clear hb2); (try clear hk); (try clear hi); have hcz22_0 : w21.cell? ⟨gb243, 0, none⟩ = some (.int .i64 a1_0) := (blk_cell BK243.out 0).trans rfl; have hcz22_1 : w21.cell? ⟨gb243, 1, none⟩ = some (.int .i64 a1_1) := (blk_cell BK243.out 1).trans rfl; have hfz22_0 := blk_frozen BK243.out 0; have hfz22_1 := blk_frozen BK243.out 1; have hcz23_0 : w21.cell? ⟨gb242, 0, none⟩ = some (.int .i64 a0_0) := (blk_cell BK242.out 0).trans rfl; have hcz23_1 : w21.cell? ⟨gb242, 1, none⟩ = some (.int .i64 a0_1) := (blk_cell BK242.out 1).trans rfl; have hfz23_0 := blk_frozen BK242.out 0; have hfz23_1 := blk_frozen BK242.out 1) | (go_at_call 106; (with_reducible refine (impl_isDirection.calls k (wrap64 (Int.tdiv (wrap64 (a1_0 - a0_0)) t244)) (wrap64 (Int.tdiv (wrap64 (a1_1 - a0_1)) t244)) false _ A5.out).mono ?_); rintro e w24 ⟨rfl, hb⟩; have n0_ := zm1 (zd1 (zb4 BK242.out) hb); have n1_ := zm1 (zd1 (zb4 BK243.out) hb); have n2_ := zm1 (zc6 (by repeat (first | (with_reducible first | exact HB.out | apply zc1 | apply zc2 | apply zc3 | refine zc4 ?_ GE242.out | refine zc4 ?_ GE243.out) | exact HB.out)) hb); clear BK242; clear BK243; clear HB; have BK242 := n0_; have BK243 := n1_; have HB := n2_; clear n0_ n1_ n2_; (try clear hb); (try clear hb2); (try clear hk); (try clear hi))); try go_wp2_with (first | ((with_reducible refine gate_dst (N := 2) rfl ?_); refine box_event ?hg (N := 2) ?hd (cs := #[.int .i64 a0_0, .int .i64 a0_1]) (t := 53) ?hr ?_; (case hd => rfl); (case hg => rfl); (case hr => first | (go_simp; done) | (go_simp; rfl)); intro gb242 hg w16 hbox hb; have n0_ := zm1 (zc6 (by repeat (first | (with_reducible first | exact HB.out | apply zc1 | apply zc2 | apply zc3) | exact HB.out)) hb); have n1_ := zm1 (hbox); have n2_ := zm1 ((by rw [hg]; exact (zc5 (by repeat (first | (with_reducible first | exact HB.out | apply zc1 | apply zc2 | apply zc3) | exact HB.out))) : w.heap.size ≤ gb242)); have n3_ := zm1 ((by rw [hg]; exact (zc5 (by repeat (first | (with_reducible first | exact HB.out | apply zc1 | apply zc2 | apply zc3) | exact HB.out))) : w.heap.size ≤ gb242)); clear HB; have HB := n0_; have BK242 := n1_; have GW242 := n2_; have GE242 := n3_; clear n0_ n1_ n2_ n3_; clear hb hbox hg) | ((with_reducible refine gate_dst (N := 3) rfl ?_); refine box_event ?hg (N := 3) ?hd (cs := #[.int .i64 a1_0, .int .i64 a1_1]) (t := 53) ?hr ?_; (case hd => rfl); (case hg => rfl); (case hr => first | (go_simp; done) | (go_simp; rfl)); intro gb243 hg w17 hbox hb; have n0_ := zm1 (zd1 (zb4 BK242.out) hb); have n1_ := zm1 (zc6 (by repeat (first | (with_reducible first | exact HB.out | apply zc1 | apply zc2 | apply zc3 | refine zc4 ?_ GE242.out) | exact HB.out)) hb); have n2_ := zm1 (hbox); have n3_ := zm1 ((by rw [hg]; exact (zc5 (by repeat (first | (with_reducible first | exact HB.out | apply zc1 | apply zc2 | apply zc3 | refine zc4 ?_ GE242.out) | exact HB.out))) : w.heap.size ≤ gb243)); have n4_ := zm1 ((by rw [hg]; exact (zc5 (by repeat (first | (with_reducible first | exact HB.out | apply zc1 | apply zc2 | apply zc3 | refine zc4 ?_ GE242.out) | exact HB.out))) : w.heap.size ≤ gb243)); have n5_ := zm1 ((by rw [hg]; exact Nat.ne_of_lt (zd2 (zb4 BK242.out)) : gb242 ≠ gb243)); have n6_ := zm1 ((by rw [hg]; exact Nat.ne_of_gt (zd2 (zb4 BK242.out)) : gb243 ≠ gb242)); clear BK242; clear HB; have BK242 := n0_; have HB := n1_; have BK243 := n2_; have GW243 := n3_; have GE243 := n4_; have NB242_243 := n5_; have NB243_242 := n6_; clear n0_ n1_ n2_ n3_ n4_ n5_ n6_; clear hb hbox hg; have hnb18 := NB243_242.out; have hnc18 := NB242_243.out; have hcz19_0 : w17.cell? ⟨gb243, 0, none⟩ = some (.int .i64 a1_0) := (blk_cell BK243.out 0).trans rfl; have hcz19_1 : w17.cell? ⟨gb243, 1, none⟩ = some (.int .i64 a1_1) := (blk_cell BK243.out 1).trans rfl; have hfz19_0 := blk_frozen BK243.out 0; have hfz19_1 := blk_frozen BK243.out 1; have hcz20_0 : w17.cell? ⟨gb242, 0, none⟩ = some (.int .i64 a0_0) := (blk_cell BK242.out 0).trans rfl; have hcz20_1 : w17.cell? ⟨gb242, 1, none⟩ = some (.int .i64 a0_1) := (blk_cell BK242.out 1).trans rfl; have hfz20_0 := blk_frozen BK242.out 0; have hfz20_1 := blk_frozen BK242.out 1) | (go_at_call 105; (with_reducible refine (impl_common.calls k (wrap64 (a1_0 - a0_0)) (wrap64 (a1_1 - a0_1)) t244 _ A3.out).mono ?_); rintro e w21 ⟨rfl, hb⟩; have n0_ := zm1 (zd1 (zb4 BK242.out) hb); have n1_ := zm1 (zd1 (zb4 BK243.out) hb); have n2_ := zm1 (zc6 (by repeat (first | (with_reducible first | exact HB.out | apply zc1 | apply zc2 | apply zc3 | refine zc4 ?_ GE242.out | refine zc4 ?_ GE243.out) | exact HB.out)) hb); clear BK242; clear BK243; clear HB; have BK242 := n0_; have BK243 := n1_; have HB := n2_; clear n0_ n1_ n2_; (try clear hb); (try clear hb2); (try clear hk); (try clear hi); have hcz22_0 : w21.cell? ⟨gb243, 0, none⟩ = some (.int .i64 a1_0) := (blk_cell BK243.out 0).trans rfl; have hcz22_1 : w21.cell? ⟨gb243, 1, none⟩ = some (.int .i64 a1_1) := (blk_cell BK243.out 1).trans rfl; have hfz22_0 := blk_frozen BK243.out 0; have hfz22_1 := blk_frozen BK243.out 1; have hcz23_0 : w21.cell? ⟨gb242, 0, none⟩ = some (.int .i64 a0_0) := (blk_cell BK242.out 0).trans rfl; have hcz23_1 : w21.cell? ⟨gb242, 1, none⟩ = some (.int .i64 a0_1) := (blk_cell BK242.out 1).trans rfl; have hfz23_0 := blk_frozen BK242.out 0; have hfz23_1 := blk_frozen BK242.out 1) | (go_at_call 106; (with_reducible refine (impl_isDirection.calls k (wrap64 (Int.tdiv (wrap64 (a1_0 - a0_0)) t244)) (wrap64 (Int.tdiv (wrap64 (a1_1 - a0_1)) t244)) false _ A5.out).mono ?_); rintro e w24 ⟨rfl, hb⟩; have n0_ := zm1 (zd1 (zb4 BK242.out) hb); have n1_ := zm1 (zd1 (zb4 BK243.out) hb); have n2_ := zm1 (zc6 (by repeat (first | (with_reducible first | exact HB.out | apply zc1 | apply zc2 | apply zc3 | refine zc4 ?_ GE242.out | refine zc4 ?_ GE243.out) | exact HB.out)) hb); clear BK242; clear BK243; clear HB; have BK242 := n0_; have BK243 := n1_; have HB := n2_; clear n0_ n1_ n2_; (try clear hb); (try clear hb2); (try clear hk); (try clear hi))))
   go_ret3
   exact ⟨by first | rfl | (simp [errW_none, errW_some] <;> rfl) | (simp [*, errW_none, errW_some] <;> rfl), by repeat (first | (with_reducible first | exact HB.out | apply zc1 | apply zc2 | apply zc3 | refine zc4 ?_ GE242.out | refine zc4 ?_ GE243.out) | exact HB.out)⟩

-- NOT PRINTED: function 115 (slices_insertionSortCmpFunc_Sint)

-- NOT PRINTED: function 160 (slices_siftDownCmpFunc_Sint)

-- NOT PRINTED: function 141 (slices_heapSortCmpFunc_Sint)

-- NOT PRINTED: function 150 (slices_nextPowerOfTwo)

-- NOT PRINTED: function 151 (slices_xorshift_Next)

-- NOT PRINTED: function 142 (slices_breakPatternsCmpFunc_Sint)

-- NOT PRINTED: function 166 (slices_order2CmpFunc_Sint)

-- NOT PRINTED: function 162 (slices_medianCmpFunc_Sint)

-- NOT PRINTED: function 161 (slices_medianAdjacentCmpFunc_Sint)

-- NOT PRINTED: function 143 (slices_choosePivotCmpFunc_Sint)

-- NOT PRINTED: function 144 (slices_reverseRangeCmpFunc_Sint)

-- NOT PRINTED: function 145 (slices_partialInsertionSortCmpFunc_Sint)

-- NOT PRINTED: function 146 (slices_partitionEqualCmpFunc_Sint)

-- NOT PRINTED: function 147 (slices_partitionCmpFunc_Sint)

-- NOT PRINTED: function 119 (slices_pdqsortCmpFunc_Sint)

-- NOT PRINTED: function 107 (slices_SortFunc_Sint)

/-! ### impl_compareMeasures: function 108 -/
def impl_compareMeasures.f (l0 : List Int) (l1 : List Int) : Option (Int) := if 1 < (l0.length : Int) then (if 1 < (l1.length : Int) then (if (rd l0 1) = (rd l1 1) then (if 0 < (l0.length : Int) then (if 0 < (l1.length : Int) then (some (wrap64 ((rd l0 0) - (rd l1 0)))) else (none)) else (none)) else (some (wrap64 ((rd l0 1) - (rd l1 1))))) else (none)) else (none)
set_option maxHeartbeats 8000000 in
set_option maxRecDepth 100000 in
theorem impl_compareMeasures.calls (A0 : Option Addr) (c0 : Nat) (l0 : List Int) (A1 : Option Addr) (c1 : Nat) (l1 : List Int) (r : Int) (w : World) (hr0 : Kd.C (Kd.int .i64) w A0 l0.length l0) (hc0 : l0.length ≤ c0) (hr1 : Kd.C (Kd.int .i64) w A1 l1.length l1) (hc1 : l1.length ≤ c1) (h : impl_compareMeasures.f l0 l1 = some r) :
  Calls Tryd.prog 108 #[.slice A0 l0.length c0, .slice A1 l1.length c1] w fun e w' => e = .returned (.int .i64 r) ∧ Drawn0 w w' := by
 have HR0 := zm1 hr0
 have HC0 := zm1 hc0
 clear hr0 hc0
 have HR1 := zm1 hr1
 have HC1 := zm1 hc1
 clear hr1 hc1
 have H : (if 1 < (l0.length : Int) then (if 1 < (l1.length : Int) then (if (rd l0 1) = (rd l1 1) then (if 0 < (l0.length : Int) then (if 0 < (l1.length : Int) then (some (wrap64 ((rd l0 0) - (rd l1 0)))) else (none)) else (none)) else (some (wrap64 ((rd l0 1) - (rd l1 1))))) else (none)) else (none)) = some r := h
 clear h
 by_cases c3 : 1 < (l0.length : Int)
 ·rw [if_pos c3] at H
  have c3b0 : decide (1 < (l0.length : Int)) = true := decide_eq_true c3
  have c3b1 : decide (1 < l0.length) = true := decide_eq_true (by omega)
  clear c3
  by_cases c4 : 1 < (l1.length : Int)
  ·rw [if_pos c4] at H
   have c4b0 : decide (1 < (l1.length : Int)) = true := decide_eq_true c4
   have c4b1 : decide (1 < l1.length) = true := decide_eq_true (by omega)
   clear c4
   by_cases c5 : (rd l0 1) = (rd l1 1)
   ·rw [if_pos c5] at H
    have c5b0 : ((rd l0 1) == (rd l1 1)) = true := beq_iff_eq.mpr c5
    have c5b1 : ((rd l0 1) != (rd l1 1)) = false := bne_eq_false_iff_eq.mpr c5
    clear c5
    by_cases c6 : 0 < (l0.length : Int)
    ·rw [if_pos c6] at H
     have c6b0 : decide (0 < (l0.length : Int)) = true := decide_eq_true c6
     have c6b1 : decide (0 < l0.length) = true := decide_eq_true (by omega)
     clear c6
     by_cases c7 : 0 < (l1.length : Int)
     ·rw [if_pos c7] at H
      have c7b0 : decide (0 < (l1.length : Int)) = true := decide_eq_true c7
      have c7b1 : decide (0 < l1.length) = true := decide_eq_true (by omega)
      clear c7
      obtain rfl := Option.some.inj H
      have p246 : 0 ≤ (1 : Int) := (by omega)
      have q246 : 1 < (l0.length : Int) := of_decide_eq_true (by assumption)
      obtain ⟨ad246, e246, hx246_0⟩ := Kd.at_int HR0.out 1 p246 q246
      cases e246
      (try simp only [show (1 : Int).toNat = 1 from rfl, Nat.reduceMul, Nat.reduceEqDiff, Go.Addr.add, ↓reduceIte] at hx246_0)
      have qi246 : (1 < l0.length) = True := eq_true (by omega)
      (try rw [show ((1 : Int)).toNat = 1 from rfl] at hx246_0)
      replace p246 := eq_true p246
      replace q246 := eq_true q246
      have p247 : 0 ≤ (1 : Int) := (by omega)
      have q247 : 1 < (l1.length : Int) := of_decide_eq_true (by assumption)
      obtain ⟨ad247, e247, hx247_0⟩ := Kd.at_int HR1.out 1 p247 q247
      cases e247
      (try simp only [show (1 : Int).toNat = 1 from rfl, Nat.reduceMul, Nat.reduceEqDiff, Go.Addr.add, ↓reduceIte] at hx247_0)
      have qi247 : (1 < l1.length) = True := eq_true (by omega)
      (try rw [show ((1 : Int)).toNat = 1 from rfl] at hx247_0)
      replace p247 := eq_true p247
      replace q247 := eq_true q247
      have p248 : 0 ≤ (0 : Int) := (by omega)
      have q248 : 0 < (l0.length : Int) := of_decide_eq_true (by assumption)
      obtain ⟨ad248, e248, hx248_0⟩ := Kd.at_int HR0.out 0 p248 q248
      obtain rfl : ad246 = ad248 := (by injection e248)
      have qi248 : (0 < l0.length) = True := eq_true (by omega)
      (try rw [show ((0 : Int)).toNat = 0 from rfl] at hx248_0)
      (try rw [Addr.add_zero'] at hx248_0)
      replace p248 := eq_true p248
      replace q248 := eq_true q248
      have p249 : 0 ≤ (0 : Int) := (by omega)
      have q249 : 0 < (l1.length : Int) := of_decide_eq_true (by assumption)
      obtain ⟨ad249, e249, hx249_0⟩ := Kd.at_int HR1.out 0 p249 q249
      obtain rfl : ad247 = ad249 := (by injection e249)
      have qi249 : (0 < l1.length) = True := eq_true (by omega)
      (try rw [show ((0 : Int)).toNat = 0 from rfl] at hx249_0)
      (try rw [Addr.add_zero'] at hx249_0)
      replace p249 := eq_true p249
      replace q249 := eq_true q249
      go_enter Tryd.func108, Tryd.ntmps108
      go_wp2
      repeat (go_quiet (fail); try go_wp2)
      go_ret
      exact ⟨by first | rfl | (simp; done) | (simp [*]; done), by repeat (first | exact Drawn0.refl _ | apply Drawn0.step)⟩
     ·rw [if_neg c7] at H
      exact absurd H (by simp)
    ·rw [if_neg c6] at H
     exact absurd H (by simp)
   ·rw [if_neg c5] at H
    have c5b0 : ((rd l0 1) == (rd l1 1)) = false := beq_eq_false_iff_ne.mpr c5
    have c5b1 : ((rd l0 1) != (rd l1 1)) = true := bne_iff_ne.mpr c5
    obtain rfl := Option.some.inj H
    have p246 : 0 ≤ (1 : Int) := (by omega)
    have q246 : 1 < (l0.length : Int) := of_decide_eq_true (by assumption)
    obtain ⟨ad246, e246, hx246_0⟩ := Kd.at_int HR0.out 1 p246 q246
    cases e246
    (try simp only [show (1 : Int).toNat = 1 from rfl, Nat.reduceMul, Nat.reduceEqDiff, Go.Addr.add, ↓reduceIte] at hx246_0)
    have qi246 : (1 < l0.length) = True := eq_true (by omega)
    (try rw [show ((1 : Int)).toNat = 1 from rfl] at hx246_0)
    replace p246 := eq_true p246
    replace q246 := eq_true q246
    have p247 : 0 ≤ (1 : Int) := (by omega)
    have q247 : 1 < (l1.length : Int) := of_decide_eq_true (by assumption)
    obtain ⟨ad247, e247, hx247_0⟩ := Kd.at_int HR1.out 1 p247 q247
    cases e247
    (try simp only [show (1 : Int).toNat = 1 from rfl, Nat.reduceMul, Nat.reduceEqDiff, Go.Addr.add, ↓reduceIte] at hx247_0)
    have qi247 : (1 < l1.length) = True := eq_true (by omega)
    (try rw [show ((1 : Int)).toNat = 1 from rfl] at hx247_0)
    replace p247 := eq_true p247
    replace q247 := eq_true q247
    have p250 : 0 ≤ (1 : Int) := (by omega)
    have q250 : 1 < (l0.length : Int) := of_decide_eq_true (by assumption)
    obtain ⟨ad250, e250, hx250_0⟩ := Kd.at_int HR0.out 1 p250 q250
    obtain rfl : ad246 = ad250 := (by injection e250)
    (try simp only [show (1 : Int).toNat = 1 from rfl, Nat.reduceMul, Nat.reduceEqDiff, Go.Addr.add, ↓reduceIte] at hx250_0)
    have qi250 : (1 < l0.length) = True := eq_true (by omega)
    (try rw [show ((1 : Int)).toNat = 1 from rfl] at hx250_0)
    replace p250 := eq_true p250
    replace q250 := eq_true q250
    have p251 : 0 ≤ (1 : Int) := (by omega)
    have q251 : 1 < (l1.length : Int) := of_decide_eq_true (by assumption)
    obtain ⟨ad251, e251, hx251_0⟩ := Kd.at_int HR1.out 1 p251 q251
    obtain rfl : ad247 = ad251 := (by injection e251)
    (try simp only [show (1 : Int).toNat = 1 from rfl, Nat.reduceMul, Nat.reduceEqDiff, Go.Addr.add, ↓reduceIte] at hx251_0)
    have qi251 : (1 < l1.length) = True := eq_true (by omega)
    (try rw [show ((1 : Int)).toNat = 1 from rfl] at hx251_0)
    replace p251 := eq_true p251
    replace q251 := eq_true q251
    go_enter Tryd.func108, Tryd.ntmps108
    go_wp2
    repeat (go_quiet (fail); try go_wp2)
    go_ret
    exact ⟨by first | rfl | (simp; done) | (simp [*]; done), by repeat (first | exact Drawn0.refl _ | apply Drawn0.step)⟩
  ·rw [if_neg c4] at H
   exact absurd H (by simp)
 ·rw [if_neg c3] at H
  exact absurd H (by simp)

-- NOT PRINTED: function 76 (impl_measuresOf)

end Go.Proofs.YtelhjgkjnlcomaaDoor.QFnExactMeasureLine
