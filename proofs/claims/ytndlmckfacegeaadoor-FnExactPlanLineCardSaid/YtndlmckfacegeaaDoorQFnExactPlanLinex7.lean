-- Printed for this claim by a changed copy of the kit's print (the session's own; own contracts in place of some functions).
import Derived.Test.YtndlmckfacegeaaDoorQFnExactPlanLinex0
import Derived.Test.YtndlmckfacegeaaDoorQFnExactPlanLinex5
import Derived.Test.YtndlmckfacegeaaDoorQFnExactPlanLinex6
namespace Go.Proofs.YtndlmckfacegeaaDoor.QFnExactPlanLine
open Go.RowKit Go.Proofs.YtndlmckfacegeaaDoorW.PrintWords Go.Proofs.YtndlmckfacegeaaDoorW.PrintLast Go.Proofs.YtndlmckfacegeaaDoorW.PrintMore
attribute [local go_sem] max2_int min2_int max_two min_two max_three min_three max_four min_four   -- for this text's walks alone
set_option linter.unusedVariables false
set_option linter.unusedSimpArgs false

/-! ### impl_BestPlan: function 35 -/
--import Derived.WalkSpells
--import Derived.Deep.QuietTactic
--import Derived.BigQuiet
--import Derived.Deep.RegionHeld3
--import Derived.Deep.WholeRow
--import Derived.Laws.Rows
--import Derived.Laws.Tables
def impl_BestPlan.g (xs : List Int) (a b : Nat) : Int := xs.getD (a * 17 + b) 0
def impl_BestPlan.join (c : UInt8) (k : Nat) (p q : Option ByteArray) : Option ByteArray := p.bind fun p => q.bind fun q => (impl_FormatInt.f (k : Int)).bind fun s => if s.size + p.size + q.size ≤ 1000000000 then some (((((⟨#[c]⟩ : ByteArray) ++ s) ++ (⟨#[40]⟩ : ByteArray)) ++ p) ++ q ++ (⟨#[41]⟩ : ByteArray)) else none
def impl_BestPlan.lB (rec : Nat → Nat → Option ByteArray) (xs : List Int) (a b : Nat) (v : Int) : Nat → Option ByteArray
  | 0 => some ⟨#[]⟩
  | d + 1 => if wrap64 (impl_BestPlan.g xs a (b - (d + 1)) + impl_BestPlan.g xs a (b - (b - (d + 1)))) = v then impl_BestPlan.join 104 (b - (d + 1)) (rec a (b - (d + 1))) (rec a (b - (b - (d + 1)))) else impl_BestPlan.lB rec xs a b v d
def impl_BestPlan.lA (rec : Nat → Nat → Option ByteArray) (xs : List Int) (a b : Nat) (v : Int) : Nat → Option ByteArray
  | 0 => impl_BestPlan.lB rec xs a b v (b - 1)
  | d + 1 => if wrap64 (impl_BestPlan.g xs (a - (d + 1)) b + impl_BestPlan.g xs (a - (a - (d + 1))) b) = v then impl_BestPlan.join 118 (a - (d + 1)) (rec (a - (d + 1)) b) (rec (a - (a - (d + 1))) b) else impl_BestPlan.lA rec xs a b v d
def impl_BestPlan.lW (rec : Nat → Nat → Option ByteArray) (xs : List Int) (W : List (List Int)) (a b : Nat) (v : Int) : Nat → Option ByteArray
  | 0 => impl_BestPlan.lA rec xs a b v (a - 1)
  | d + 1 => if (rd (impl_bestValues.wrow W (W.length - (d + 1))) 0 = (a : Int) ∧ rd (impl_bestValues.wrow W (W.length - (d + 1))) 1 = (b : Int)) ∧ rd (impl_bestValues.wrow W (W.length - (d + 1))) 2 = v then (if W.length - (d + 1) < 6 then some ((⟨#[97, 98, 99, 100, 101, 102]⟩ : ByteArray).extract (W.length - (d + 1)) (W.length - (d + 1) + 1)) else none) else impl_BestPlan.lW rec xs W a b v d
def impl_BestPlan.plan (xs : List Int) (W : List (List Int)) : Nat → Nat → Nat → Option ByteArray
  | 0, _, _ => none
  | k + 1, a, b => if impl_BestPlan.g xs a b = 0 then some ⟨#[46]⟩ else impl_BestPlan.lW (impl_BestPlan.plan xs W k) xs W a b (impl_BestPlan.g xs a b) W.length
def impl_BestPlan.f (k : Nat) (a0 a1 : Int) (l0 : List (List Int)) : Option ByteArray := (impl_isPlate.f a0 a1 l0).bind fun b => if b = true then ((impl_bestValues.f a0 a1 l0).bind fun xs => impl_BestPlan.plan xs l0 k a0.toNat a1.toNat) else some ⟨#[]⟩
theorem impl_BestPlan.join_le {c : UInt8} {k : Nat} {p p' q q' : Option ByteArray} (hp : LeO p p') (hq : LeO q q') : LeO (impl_BestPlan.join c k p q) (impl_BestPlan.join c k p' q') := LeO.bind hp (fun _ => LeO.bind hq (fun _ => LeO.refl _))
theorem impl_BestPlan.lB_le {r r' : Nat → Nat → Option ByteArray} (h : ∀ a b, LeO (r a b) (r' a b)) (xs : List Int) (a b : Nat) (v : Int) : ∀ d, LeO (impl_BestPlan.lB r xs a b v d) (impl_BestPlan.lB r' xs a b v d)
  | 0 => LeO.refl _
  | d + 1 => LeO.ite (impl_BestPlan.join_le (h _ _) (h _ _)) (impl_BestPlan.lB_le h xs a b v d)
theorem impl_BestPlan.lA_le {r r' : Nat → Nat → Option ByteArray} (h : ∀ a b, LeO (r a b) (r' a b)) (xs : List Int) (a b : Nat) (v : Int) : ∀ d, LeO (impl_BestPlan.lA r xs a b v d) (impl_BestPlan.lA r' xs a b v d)
  | 0 => impl_BestPlan.lB_le h xs a b v _
  | d + 1 => LeO.ite (impl_BestPlan.join_le (h _ _) (h _ _)) (impl_BestPlan.lA_le h xs a b v d)
theorem impl_BestPlan.lW_le {r r' : Nat → Nat → Option ByteArray} (h : ∀ a b, LeO (r a b) (r' a b)) (xs : List Int) (W : List (List Int)) (a b : Nat) (v : Int) : ∀ d, LeO (impl_BestPlan.lW r xs W a b v d) (impl_BestPlan.lW r' xs W a b v d)
  | 0 => impl_BestPlan.lA_le h xs a b v _
  | d + 1 => LeO.ite (LeO.refl _) (impl_BestPlan.lW_le h xs W a b v d)
theorem impl_BestPlan.plan_le (xs : List Int) (W : List (List Int)) : ∀ k a b, LeO (impl_BestPlan.plan xs W k a b) (impl_BestPlan.plan xs W (k + 1) a b)
  | 0, _, _ => fun r h => by simp [impl_BestPlan.plan] at h
  | k + 1, a, b => LeO.ite (LeO.refl _) (impl_BestPlan.lW_le (impl_BestPlan.plan_le xs W k) xs W a b _ _)
theorem impl_BestPlan.mono : ∀ a0 a1 a2 k, LeO (impl_BestPlan.f k a0 a1 a2) (impl_BestPlan.f (k + 1) a0 a1 a2) := fun a0 a1 a2 k => LeO.bind (LeO.refl _) (fun _ => LeO.ite (LeO.bind (LeO.refl _) (fun _ => impl_BestPlan.plan_le _ _ _ _ _)) (LeO.refl _))
structure impl_BestPlan.PS (w : World) (gb gw gp : Nat) (A0 : Option Addr) (c0 : Nat) (W : List (List Int)) (xs : List Int) : Prop where
  hb : w.heap[gb]? = some (.cells (xs.map (Value.int .i64)).toArray 72 (0, 0))
  hw : w.heap[gw]? = some (.cells #[.slice A0 W.length c0] 22 (0, 0))
  hp : w.heap[gp]? = some (.cells #[.func (.func 69) #[] #[.pointer (some ⟨gb, 0, none⟩), .pointer (some ⟨gw, 0, none⟩), .pointer (some ⟨gp, 0, none⟩)]] 28 (0, 0))
  hC : Kd.C (Kd.slice 3 (Kd.int .i64)) w A0 W.length W
  len : xs.length = 289
theorem impl_BestPlan.PS.step {w w1 : World} {gb gw gp : Nat} {A0 : Option Addr} {c0 : Nat} {W : List (List Int)} {xs : List Int} (h : impl_BestPlan.PS w gb gw gp A0 c0 W xs) (hb : Below w.heap.size w w1) : impl_BestPlan.PS w1 gb gw gp A0 c0 W xs :=
  ⟨blk_below h.hb hb, blk_below h.hw hb, blk_below h.hp hb, Kd.C_below h.hC hb, h.len⟩
theorem impl_BestPlan.PS.cell {w : World} {gb gw gp : Nat} {A0 : Option Addr} {c0 : Nat} {W : List (List Int)} {xs : List Int} (h : impl_BestPlan.PS w gb gw gp A0 c0 W xs) {o : Nat} (ho : o < 289) : w.cell? ⟨gb, o, none⟩ = some (.int .i64 (xs.getD o 0)) := by
  have e : o < xs.length := by rw [h.len]; exact ho
  rw [blk_cell h.hb o, List.getElem?_toArray, List.getElem?_map, List.getElem?_eq_getElem e, List.getD_eq_getElem?_getD, List.getElem?_eq_getElem e]
  rfl
theorem impl_BestPlan.keep1 {W w' : World} {p0 : Addr} {v0 : Value} (h0 : W.cell? p0 = some v0) (hb : Below W.heap.size W w') : w'.cell? p0 = some v0 := (hb.cell (World.block_lt_of_cell? W _ h0)).trans h0
abbrev impl_BestPlan.CallsAt (xs : List Int) (W : List (List Int)) (gb gw gp : Nat) (A0 : Option Addr) (c0 k : Nat) : Prop := ∀ (a b : Nat) (r : ByteArray) (w : World), impl_BestPlan.PS w gb gw gp A0 c0 W xs → GT w → (1 ≤ a ∧ a < 17) → (1 ≤ b ∧ b < 17) → impl_BestPlan.plan xs W k a b = some r →
    Calls Tryd.prog 69 #[.int .i64 (a : Int), .int .i64 (b : Int), .pointer (some ⟨gb, 0, none⟩), .pointer (some ⟨gw, 0, none⟩), .pointer (some ⟨gp, 0, none⟩)] w fun e w' => e = .returned (.string r) ∧ Below w.heap.size w w'
set_option maxHeartbeats 16000000 in
set_option maxRecDepth 100000 in
theorem impl_BestPlan.step (xs : List Int) (W : List (List Int)) (gb gw gp : Nat) (A0 : Option Addr) (c0 k : Nat) (hW : impl_bestValues.okW W = true) (ih : impl_BestPlan.CallsAt xs W gb gw gp A0 c0 k) : impl_BestPlan.CallsAt xs W gb gw gp A0 c0 (k + 1) := by
  intro a b r w hS hG ha hb h
  have IH := Aside0.mk ih
  have HS := Aside0.mk hS
  have HG := Aside0.mk hG
  have HN := Aside0.mk (show (1 ≤ a ∧ a < 17) ∧ 1 ≤ b ∧ b < 17 from ⟨ha, hb⟩)
  have HOK := Aside0.mk hW
  have hc := hS.cell (o := a * 17 + b) (by omega)
  rw [impl_BestPlan.plan] at h
  unfold impl_BestPlan.g at h
  obtain ⟨v, hv⟩ : ∃ v, v = xs.getD (a * 17 + b) 0 := ⟨_, rfl⟩
  rw [← hv] at h hc
  have i1 : ((a : Int) < 17) = True := eq_true (by omega)
  have i2 : ((b : Int) < 17) = True := eq_true (by omega)
  have i3 : (0 ≤ (a : Int)) = True := eq_true (by omega)
  have i4 : (0 ≤ (b : Int)) = True := eq_true (by omega)
  have i5 : (a < 17) = True := eq_true ha.2
  have i6 : (b < 17) = True := eq_true hb.2
  clear ih hS hG hW hv ha hb
  by_cases cv : v = 0
  · rw [if_pos cv] at h
    obtain rfl := Option.some.inj h
    have cvb : (v == 0) = true := by rw [beq_iff_eq]; exact cv
    clear h cv
    go_enter Tryd.func69, Tryd.ntmps69
    go_wp2
    go_ret
    exact ⟨rfl, Below.refl _ _⟩
  rw [if_neg cv] at h
  have cvb : (v == 0) = false := by rw [beq_eq_false_iff_ne]; exact cv
  have HH := Aside0.mk h
  have hz : w.cell? ⟨gw, 0, none⟩ = some (.slice A0 W.length c0) := (blk_cell HS.out.hw 0).trans rfl
  clear cv h
  go_enter Tryd.func69, Tryd.ntmps69
  go_wp2_with fail
  go_loopg [22] W.length (fun kq v22 w' => ∃ i : Nat, v22 = .int .i64 (i : Int) ∧ Aside0 (i + kq = W.length) ∧ Aside0 (impl_BestPlan.lW (impl_BestPlan.plan xs W k) xs W a b v kq = some r) ∧ Aside0 (Below w.heap.size w w'))
  case atStart => exact ⟨0, rfl, ⟨by omega⟩, HH, ⟨Below.refl _ _⟩⟩
  case round => as_aux_lemma =>
    clear HH hc hz
    obtain ⟨i, rfl, HI, HH, HB⟩ := hrel
    by_cases ci : i < W.length
    · have cib : decide (i < W.length) = true := decide_eq_true ci
      have HCI := Aside0.mk ci
      obtain ⟨d, hd⟩ : ∃ d, W.length - i = d + 1 := ⟨W.length - i - 1, by omega⟩
      have e1 : gk = d + 1 := by have := HI.out; omega
      have e2 : W.length - (d + 1) = i := by omega
      have H := HH.out
      rw [e1, impl_BestPlan.lW, e2] at H
      have HD := Aside0.mk (show d = W.length - (i + 1) by omega)
      have ES := HS.out.step HB.out
      have hWM : W.length ≤ 1048576 := by have h := HOK.out; unfold impl_bestValues.okW at h; rw [Bool.and_eq_true, decide_eq_true_eq] at h; exact h.2
      have iwA := Aside0.mk (show wrap64 ((i : Int) + 1) = ((i + 1 : Nat) : Int) by unfold wrap64; omega)
      have iwB := iwA.out
      have iwC : IntKind.i64.wrap ((i : Int) + 1) = ((i + 1 : Nat) : Int) := (i64_w _).trans iwA.out
      obtain ⟨ad, a1, cc, ead, hh, hl0, hl1, hl2⟩ := impl_bestValues.atr ES.hC i ci (impl_bestValues.okW_at HOK.out ci)
      cases ead
      generalize rd (impl_bestValues.wrow W i) 0 = u0 at hl0 H
      generalize rd (impl_bestValues.wrow W i) 1 = u1 at hl1 H
      generalize rd (impl_bestValues.wrow W i) 2 = u2 at hl2 H
      have ib1 : (i < W.length) = True := eq_true ci
      have ib2 : (0 ≤ (i : Int)) = True := eq_true (by omega)
      have ib3 : ((i : Int) < (W.length : Int)) = True := eq_true (by omega)
      clear hd e1 e2 ES hWM ci HH
      by_cases c0_ : u0 = (a : Int)
      · have c0b : (u0 == (a : Int)) = true := by rw [beq_iff_eq]; exact c0_
        by_cases c1_ : u1 = (b : Int)
        · have c1b : (u1 == (b : Int)) = true := by rw [beq_iff_eq]; exact c1_
          by_cases c2_ : u2 = v
          · have c2b : (u2 == v) = true := by rw [beq_iff_eq]; exact c2_
            rw [if_pos ⟨⟨c0_, c1_⟩, c2_⟩] at H
            by_cases c6 : i < 6
            case neg => rw [if_neg c6] at H; cases H
            rw [if_pos c6] at H
            obtain rfl := Option.some.inj H
            have j1 : (i ≤ i + 1) = True := eq_true (by omega)
            have j2 : (i + 1 ≤ 6) = True := eq_true (by omega)
            have j3 : ((i : Int) ≤ ((i + 1 : Nat) : Int)) = True := eq_true (by omega)
            have j4 : (((i + 1 : Nat) : Int) ≤ 6) = True := eq_true (by omega)
            have j5 : ((i : Int) + 1 ≤ 6) = True := eq_true (by omega)
            have j6 : ((i : Int) ≤ (i : Int) + 1) = True := eq_true (by omega)
            clear H c0_ c1_ c2_ c6
            go_wp2
            go_ret
            exact ⟨rfl, HB.out⟩
          · have c2b : (u2 == v) = false := by rw [beq_eq_false_iff_ne]; exact c2_
            rw [if_neg (fun hh => c2_ hh.2)] at H
            have HH := Aside0.mk H
            clear H c0_ c1_ c2_
            go_wp2_with fail
            go_roundg d
            case measure => have := HI.out; have := HD.out; have := HCI.out; omega
            case rel => exact ⟨i + 1, (by first | rfl | rw [iwA.out]), ⟨by have := HD.out; have := HCI.out; omega⟩, HH, HB⟩
        · have c1b : (u1 == (b : Int)) = false := by rw [beq_eq_false_iff_ne]; exact c1_
          rw [if_neg (fun hh => c1_ hh.1.2)] at H
          have HH := Aside0.mk H
          clear H c0_ c1_
          go_wp2_with fail
          go_roundg d
          case measure => have := HI.out; have := HD.out; have := HCI.out; omega
          case rel => exact ⟨i + 1, (by first | rfl | rw [iwA.out]), ⟨by have := HD.out; have := HCI.out; omega⟩, HH, HB⟩
      · have c0b : (u0 == (a : Int)) = false := by rw [beq_eq_false_iff_ne]; exact c0_
        rw [if_neg (fun hh => c0_ hh.1.1)] at H
        have HH := Aside0.mk H
        clear H c0_
        go_wp2_with fail
        go_roundg d
        case measure => have := HI.out; have := HD.out; have := HCI.out; omega
        case rel => exact ⟨i + 1, (by first | rfl | rw [iwA.out]), ⟨by have := HD.out; have := HCI.out; omega⟩, HH, HB⟩
    · have cib : decide (i < W.length) = false := decide_eq_false ci
      have e0 : gk = 0 := by have := HI.out; omega
      have H := HH.out
      rw [e0, impl_BestPlan.lW] at H
      have HH2 := Aside0.mk H
      clear ci H HH HI e0
      go_wp2_with fail
      go_loopg [11] (a - 1) (fun kq v11 w' => ∃ l : Nat, v11 = .int .i64 (l : Int) ∧ Aside0 (1 ≤ l ∧ l + kq = a) ∧ Aside0 (impl_BestPlan.lA (impl_BestPlan.plan xs W k) xs a b v kq = some r) ∧ Aside0 (Below w.heap.size w w'))
      case atStart => exact ⟨1, rfl, ⟨by have := HN.out; omega⟩, HH2, HB⟩
      case round => as_aux_lemma =>
        clear HH2 HB
        obtain ⟨l, rfl, HL, HH, HB⟩ := hrel
        by_cases cl : l < a
        · have clb : decide (l < a) = true := decide_eq_true cl
          have HCL := Aside0.mk cl
          have hn := HN.out
          have hl1 := HL.out
          obtain ⟨d, hd⟩ : ∃ d, a - l = d + 1 := ⟨a - l - 1, by omega⟩
          have e1 : gk = d + 1 := by omega
          have e2 : a - (d + 1) = l := by omega
          have H := HH.out
          rw [e1, impl_BestPlan.lA, e2] at H
          have HD := Aside0.mk (show d = a - (l + 1) by omega)
          have HLL := Aside0.mk (show 1 ≤ l ∧ l < a ∧ l < 17 by omega)
          have HSr := Aside0.mk (HS.out.step HB.out)
          have HGr := Aside0.mk (HG.out.of HB.out)
          have hx1 := HSr.out.cell (o := l * 17 + b) (by omega)
          have hx2 := HSr.out.cell (o := (a - l) * 17 + b) (by omega)
          have hxp : wr.cell? ⟨gp, 0, none⟩ = some (.func (.func 69) #[] #[.pointer (some ⟨gb, 0, none⟩), .pointer (some ⟨gw, 0, none⟩), .pointer (some ⟨gp, 0, none⟩)]) := (blk_cell HSr.out.hp 0).trans rfl
          have i7 : ((l : Int) < 17) = True := eq_true (by omega)
          have i8 : (0 ≤ (l : Int)) = True := eq_true (by omega)
          have i9 : (l < 17) = True := eq_true (by omega)
          have s1 : IntKind.i64.wrap ((a : Int) - (l : Int)) = ((a - l : Nat) : Int) := by rw [i64_w]; unfold wrap64; omega
          have s2 : wrap64 ((a : Int) - (l : Int)) = ((a - l : Nat) : Int) := by unfold wrap64; omega
          have iwA := Aside0.mk (show wrap64 ((l : Int) + 1) = ((l + 1 : Nat) : Int) by unfold wrap64; omega)
          have j7 : (((a - l : Nat) : Int) < 17) = True := eq_true (by omega)
          have j8 : (0 ≤ ((a - l : Nat) : Int)) = True := eq_true (by omega)
          have j9 : (a - l < 17) = True := eq_true (by omega)
          unfold impl_BestPlan.g at H
          obtain ⟨z1, hz1⟩ : ∃ z, z = xs.getD (l * 17 + b) 0 := ⟨_, rfl⟩
          obtain ⟨z2, hz2⟩ : ∃ z, z = xs.getD ((a - l) * 17 + b) 0 := ⟨_, rfl⟩
          rw [← hz1, ← hz2] at H
          rw [← hz1] at hx1
          rw [← hz2] at hx2
          obtain ⟨z3, hz3⟩ : ∃ z, z = wrap64 (z1 + z2) := ⟨_, rfl⟩
          have hz3w : IntKind.i64.wrap (z1 + z2) = z3 := by rw [i64_w]; exact hz3.symm
          rw [← hz3] at H
          clear hz1 hz2 hz3 hd e1 e2 cl hn hl1 HH
          by_cases cz : z3 = v
          · have czb : (z3 == v) = true := by rw [beq_iff_eq]; exact cz
            rw [if_pos cz] at H
            unfold impl_BestPlan.join at H
            rw [Option.bind_eq_some_iff] at H
            obtain ⟨p, hp, H⟩ := H
            rw [Option.bind_eq_some_iff] at H
            obtain ⟨q, hq, H⟩ := H
            rw [Option.bind_eq_some_iff] at H
            obtain ⟨s, hs, H⟩ := H
            by_cases hsz : s.size + p.size + q.size ≤ 1000000000
            case neg => rw [if_neg hsz] at H; cases H
            rw [if_pos hsz] at H
            obtain rfl := Option.some.inj H
            have HPp := Aside0.mk hp
            have HQq := Aside0.mk hq
            have HFm := Aside0.mk hs
            have f1 : (9223372036854775807 < 1 + s.size) = False := eq_false (by omega)
            have f2 : (9223372036854775807 < 1 + s.size + 1) = False := eq_false (by omega)
            have f3 : (9223372036854775807 < 1 + s.size + 1 + p.size) = False := eq_false (by omega)
            have f4 : (9223372036854775807 < 1 + s.size + 1 + p.size + q.size) = False := eq_false (by omega)
            have f5 : (9223372036854775807 < 1 + s.size + 1 + p.size + q.size + 1) = False := eq_false (by omega)
            have HX := Aside0.mk (Below.refl wr.heap.size wr)
            clear H cz hp hq hs hsz
            go_wp2_with fail
            go_quiet (fail)
            go_wp2_with fail
            go_region_held3 (fun w' => w'.cell? ⟨gp, 0, none⟩ = some (.func (.func 69) #[] #[.pointer (some ⟨gb, 0, none⟩), .pointer (some ⟨gw, 0, none⟩), .pointer (some ⟨gp, 0, none⟩)])) ((refine impl_BestPlan.keep1 hxp ?_; repeat (first | exact HX.out | assumption | apply pw_below_drewN | apply below_drew1 | apply below_alloc))) (first | (go_at_call 34; (with_reducible refine (impl_FormatInt.calls (l : Int) s _ HFm.out ?sF11).mono ?_); (case sF11 => exact (HGr.out.of (by repeat (first | (with_reducible first | exact HX.out | apply below_alloc | apply pw_below_drewN | apply below_drew1) | exact HX.out)))); rintro e w8 ⟨rfl, hb⟩; have nHX := Aside0.mk (below_step (by repeat (first | (with_reducible first | exact HX.out | apply below_alloc | apply pw_below_drewN | apply below_drew1) | exact HX.out)) hb); clear HX hb; have HX := nHX; clear nHX) | (go_at_call 69; (with_reducible refine (IH.out l b p _ ?sS11p ?sG11p (by have := HN.out; have := HLL.out; omega) (by have := HN.out; have := HLL.out; omega) HPp.out).mono ?_); (case sS11p => exact (HSr.out.step (by repeat (first | (with_reducible first | exact HX.out | apply below_alloc | apply pw_below_drewN | apply below_drew1) | exact HX.out)))); (case sG11p => exact (HGr.out.of (by repeat (first | (with_reducible first | exact HX.out | apply below_alloc | apply pw_below_drewN | apply below_drew1) | exact HX.out)))); rintro e w8 ⟨rfl, hb⟩; have nHX := Aside0.mk (below_step (by repeat (first | (with_reducible first | exact HX.out | apply below_alloc | apply pw_below_drewN | apply below_drew1) | exact HX.out)) hb); clear HX hb; have HX := nHX; clear nHX) | (go_at_call 69; (with_reducible refine (IH.out (a - l) b q _ ?sS11q ?sG11q (by have := HN.out; have := HLL.out; omega) (by have := HN.out; have := HLL.out; omega) HQq.out).mono ?_); (case sS11q => exact (HSr.out.step (by repeat (first | (with_reducible first | exact HX.out | apply below_alloc | apply pw_below_drewN | apply below_drew1) | exact HX.out)))); (case sG11q => exact (HGr.out.of (by repeat (first | (with_reducible first | exact HX.out | apply below_alloc | apply pw_below_drewN | apply below_drew1) | exact HX.out)))); rintro e w8 ⟨rfl, hb⟩; have nHX := Aside0.mk (below_step (by repeat (first | (with_reducible first | exact HX.out | apply below_alloc | apply pw_below_drewN | apply below_drew1) | exact HX.out)) hb); clear HX hb; have HX := nHX; clear nHX))
            go_wp2
            go_ret
            exact ⟨rfl, below_step HB.out (by repeat (first | (with_reducible first | exact HX.out | apply below_alloc | apply pw_below_drewN | apply below_drew1) | exact HX.out))⟩
          · have czb : (z3 == v) = false := by rw [beq_eq_false_iff_ne]; exact cz
            rw [if_neg cz] at H
            have HH := Aside0.mk H
            clear H cz
            go_wp2_with fail
            go_quiet (fail)
            go_wp2_with fail
            go_roundg d
            case measure => have := HL.out; have := HD.out; have := HCL.out; omega
            case rel => exact ⟨l + 1, (by first | rfl | rw [iwA.out]), ⟨by have := HL.out; have := HD.out; have := HCL.out; omega⟩, HH, ⟨by repeat (first | (with_reducible first | exact HB.out | apply below_alloc | apply pw_below_drewN | apply below_drew1) | exact HB.out)⟩⟩
        · have clb : decide (l < a) = false := decide_eq_false cl
          have e0 : gk = 0 := by have := HL.out; omega
          have H := HH.out
          rw [e0, impl_BestPlan.lA] at H
          have HH2 := Aside0.mk H
          clear cl H HH HL e0
          go_wp2_with fail
          go_loopg [12] (b - 1) (fun kq v12 w' => ∃ l : Nat, v12 = .int .i64 (l : Int) ∧ Aside0 (1 ≤ l ∧ l + kq = b) ∧ Aside0 (impl_BestPlan.lB (impl_BestPlan.plan xs W k) xs a b v kq = some r) ∧ Aside0 (Below w.heap.size w w'))
          case atStart => exact ⟨1, rfl, ⟨by have := HN.out; omega⟩, HH2, HB⟩
          case round => as_aux_lemma =>
            clear HH2 HB
            obtain ⟨l, rfl, HL, HH, HB⟩ := hrel
            by_cases cl : l < b
            · have clb : decide (l < b) = true := decide_eq_true cl
              have HCL := Aside0.mk cl
              have hn := HN.out
              have hl1 := HL.out
              obtain ⟨d, hd⟩ : ∃ d, b - l = d + 1 := ⟨b - l - 1, by omega⟩
              have e1 : gk = d + 1 := by omega
              have e2 : b - (d + 1) = l := by omega
              have H := HH.out
              rw [e1, impl_BestPlan.lB, e2] at H
              have HD := Aside0.mk (show d = b - (l + 1) by omega)
              have HLL := Aside0.mk (show 1 ≤ l ∧ l < b ∧ l < 17 by omega)
              have HSr := Aside0.mk (HS.out.step HB.out)
              have HGr := Aside0.mk (HG.out.of HB.out)
              have hx1 := HSr.out.cell (o := a * 17 + l) (by omega)
              have hx2 := HSr.out.cell (o := a * 17 + (b - l)) (by omega)
              have hxp : wr.cell? ⟨gp, 0, none⟩ = some (.func (.func 69) #[] #[.pointer (some ⟨gb, 0, none⟩), .pointer (some ⟨gw, 0, none⟩), .pointer (some ⟨gp, 0, none⟩)]) := (blk_cell HSr.out.hp 0).trans rfl
              have i7 : ((l : Int) < 17) = True := eq_true (by omega)
              have i8 : (0 ≤ (l : Int)) = True := eq_true (by omega)
              have i9 : (l < 17) = True := eq_true (by omega)
              have s1 : IntKind.i64.wrap ((b : Int) - (l : Int)) = ((b - l : Nat) : Int) := by rw [i64_w]; unfold wrap64; omega
              have s2 : wrap64 ((b : Int) - (l : Int)) = ((b - l : Nat) : Int) := by unfold wrap64; omega
              have iwA := Aside0.mk (show wrap64 ((l : Int) + 1) = ((l + 1 : Nat) : Int) by unfold wrap64; omega)
              have j7 : (((b - l : Nat) : Int) < 17) = True := eq_true (by omega)
              have j8 : (0 ≤ ((b - l : Nat) : Int)) = True := eq_true (by omega)
              have j9 : (b - l < 17) = True := eq_true (by omega)
              unfold impl_BestPlan.g at H
              obtain ⟨z1, hz1⟩ : ∃ z, z = xs.getD (a * 17 + l) 0 := ⟨_, rfl⟩
              obtain ⟨z2, hz2⟩ : ∃ z, z = xs.getD (a * 17 + (b - l)) 0 := ⟨_, rfl⟩
              rw [← hz1, ← hz2] at H
              rw [← hz1] at hx1
              rw [← hz2] at hx2
              obtain ⟨z3, hz3⟩ : ∃ z, z = wrap64 (z1 + z2) := ⟨_, rfl⟩
              have hz3w : IntKind.i64.wrap (z1 + z2) = z3 := by rw [i64_w]; exact hz3.symm
              rw [← hz3] at H
              clear hz1 hz2 hz3 hd e1 e2 cl hn hl1 HH
              by_cases cz : z3 = v
              · have czb : (z3 == v) = true := by rw [beq_iff_eq]; exact cz
                rw [if_pos cz] at H
                unfold impl_BestPlan.join at H
                rw [Option.bind_eq_some_iff] at H
                obtain ⟨p, hp, H⟩ := H
                rw [Option.bind_eq_some_iff] at H
                obtain ⟨q, hq, H⟩ := H
                rw [Option.bind_eq_some_iff] at H
                obtain ⟨s, hs, H⟩ := H
                by_cases hsz : s.size + p.size + q.size ≤ 1000000000
                case neg => rw [if_neg hsz] at H; cases H
                rw [if_pos hsz] at H
                obtain rfl := Option.some.inj H
                have HPp := Aside0.mk hp
                have HQq := Aside0.mk hq
                have HFm := Aside0.mk hs
                have f1 : (9223372036854775807 < 1 + s.size) = False := eq_false (by omega)
                have f2 : (9223372036854775807 < 1 + s.size + 1) = False := eq_false (by omega)
                have f3 : (9223372036854775807 < 1 + s.size + 1 + p.size) = False := eq_false (by omega)
                have f4 : (9223372036854775807 < 1 + s.size + 1 + p.size + q.size) = False := eq_false (by omega)
                have f5 : (9223372036854775807 < 1 + s.size + 1 + p.size + q.size + 1) = False := eq_false (by omega)
                have HX := Aside0.mk (Below.refl wr.heap.size wr)
                clear H cz hp hq hs hsz
                go_wp2_with fail
                go_quiet (fail)
                go_wp2_with fail
                go_region_held3 (fun w' => w'.cell? ⟨gp, 0, none⟩ = some (.func (.func 69) #[] #[.pointer (some ⟨gb, 0, none⟩), .pointer (some ⟨gw, 0, none⟩), .pointer (some ⟨gp, 0, none⟩)])) ((refine impl_BestPlan.keep1 hxp ?_; repeat (first | exact HX.out | assumption | apply pw_below_drewN | apply below_drew1 | apply below_alloc))) (first | (go_at_call 34; (with_reducible refine (impl_FormatInt.calls (l : Int) s _ HFm.out ?sF12).mono ?_); (case sF12 => exact (HGr.out.of (by repeat (first | (with_reducible first | exact HX.out | apply below_alloc | apply pw_below_drewN | apply below_drew1) | exact HX.out)))); rintro e w8 ⟨rfl, hb⟩; have nHX := Aside0.mk (below_step (by repeat (first | (with_reducible first | exact HX.out | apply below_alloc | apply pw_below_drewN | apply below_drew1) | exact HX.out)) hb); clear HX hb; have HX := nHX; clear nHX) | (go_at_call 69; (with_reducible refine (IH.out a l p _ ?sS12p ?sG12p (by have := HN.out; have := HLL.out; omega) (by have := HN.out; have := HLL.out; omega) HPp.out).mono ?_); (case sS12p => exact (HSr.out.step (by repeat (first | (with_reducible first | exact HX.out | apply below_alloc | apply pw_below_drewN | apply below_drew1) | exact HX.out)))); (case sG12p => exact (HGr.out.of (by repeat (first | (with_reducible first | exact HX.out | apply below_alloc | apply pw_below_drewN | apply below_drew1) | exact HX.out)))); rintro e w8 ⟨rfl, hb⟩; have nHX := Aside0.mk (below_step (by repeat (first | (with_reducible first | exact HX.out | apply below_alloc | apply pw_below_drewN | apply below_drew1) | exact HX.out)) hb); clear HX hb; have HX := nHX; clear nHX) | (go_at_call 69; (with_reducible refine (IH.out a (b - l) q _ ?sS12q ?sG12q (by have := HN.out; have := HLL.out; omega) (by have := HN.out; have := HLL.out; omega) HQq.out).mono ?_); (case sS12q => exact (HSr.out.step (by repeat (first | (with_reducible first | exact HX.out | apply below_alloc | apply pw_below_drewN | apply below_drew1) | exact HX.out)))); (case sG12q => exact (HGr.out.of (by repeat (first | (with_reducible first | exact HX.out | apply below_alloc | apply pw_below_drewN | apply below_drew1) | exact HX.out)))); rintro e w8 ⟨rfl, hb⟩; have nHX := Aside0.mk (below_step (by repeat (first | (with_reducible first | exact HX.out | apply below_alloc | apply pw_below_drewN | apply below_drew1) | exact HX.out)) hb); clear HX hb; have HX := nHX; clear nHX))
                go_wp2
                go_ret
                exact ⟨rfl, below_step HB.out (by repeat (first | (with_reducible first | exact HX.out | apply below_alloc | apply pw_below_drewN | apply below_drew1) | exact HX.out))⟩
              · have czb : (z3 == v) = false := by rw [beq_eq_false_iff_ne]; exact cz
                rw [if_neg cz] at H
                have HH := Aside0.mk H
                clear H cz
                go_wp2_with fail
                go_quiet (fail)
                go_wp2_with fail
                go_roundg d
                case measure => have := HL.out; have := HD.out; have := HCL.out; omega
                case rel => exact ⟨l + 1, (by first | rfl | rw [iwA.out]), ⟨by have := HL.out; have := HD.out; have := HCL.out; omega⟩, HH, ⟨by repeat (first | (with_reducible first | exact HB.out | apply below_alloc | apply pw_below_drewN | apply below_drew1) | exact HB.out)⟩⟩
            · have clb : decide (l < b) = false := decide_eq_false cl
              have e0 : gk = 0 := by have := HL.out; omega
              have H := HH.out
              rw [e0, impl_BestPlan.lB] at H
              obtain rfl := Option.some.inj H
              clear cl H HH HL e0
              go_wp2
              go_ret
              exact ⟨rfl, HB.out⟩
theorem impl_BestPlan.store_func (W : World) (g : Nat) (fn : Fn) (x y : Array Value) (o : Value) (t : TypeId) (h : W.heap[g]? = some (.cells #[o] t (0, 0))) : Sem.run Tryd.prog (store ⟨g, 0, none⟩ (.func fn x y)) W = .ok () (W.setCell ⟨g, 0, none⟩ (.func fn x y)) := by
  have hc : W.cell? ⟨g, 0, none⟩ = some o := (blk_cell h 0).trans rfl
  have hf := blk_frozen h 0
  rw [run_store Tryd.prog W _ _ _ rfl, hc]
  simp [hf]
theorem impl_BestPlan.made (w2 : World) (gw : Nat) (A0 : Option Addr) (c0 : Nat) (W : List (List Int)) (xs : List Int) (CS : Array Value) (hCS : CS = (xs.map (Value.int .i64)).toArray) (hl : xs.length = 289) (hw : w2.heap[gw]? = some (.cells #[.slice A0 W.length c0] 22 (0, 0))) (hC : Kd.C (Kd.slice 3 (Kd.int .i64)) w2 A0 W.length W) (hz : Tryd.zeroCells72.size = CS.size) :
    (impl_BestPlan.PS (((w2.alloc (.cells Tryd.zeroCells72 72)).setRow w2.heap.size CS).alloc (.cells #[.func (.func 69) #[] #[.pointer (some ⟨w2.heap.size, 0, none⟩), .pointer (some ⟨gw, 0, none⟩), .pointer (some ⟨w2.heap.size + 1, 0, none⟩)]] 28)) w2.heap.size gw (w2.heap.size + 1) A0 c0 W xs) ∧
    Below w2.heap.size w2 (((w2.alloc (.cells Tryd.zeroCells72 72)).setRow w2.heap.size CS).alloc (.cells #[.func (.func 69) #[] #[.pointer (some ⟨w2.heap.size, 0, none⟩), .pointer (some ⟨gw, 0, none⟩), .pointer (some ⟨w2.heap.size + 1, 0, none⟩)]] 28)) ∧
    (((w2.alloc (.cells Tryd.zeroCells72 72)).setRow w2.heap.size CS).alloc (.cells #[Value.nilFunc] 28)).heap[w2.heap.size + 1]? = some (.cells #[Value.nilFunc] 28 (0, 0)) := by
  have hlt := blk_lt hw
  have h1 : ((w2.alloc (.cells Tryd.zeroCells72 72)).setRow w2.heap.size CS).heap[w2.heap.size]? = some (.cells CS 72 (0, 0)) := setRow_heap _ _ _ CS _ _ (blk_new w2 _)
  have hsz : ((w2.alloc (.cells Tryd.zeroCells72 72)).setRow w2.heap.size CS).heap.size = w2.heap.size + 1 := by simp [World.setRow]
  have hb1 : Below w2.heap.size w2 ((w2.alloc (.cells Tryd.zeroCells72 72)).setRow w2.heap.size CS) := below_setRow (below_alloc (Below.refl _ _) _) (Nat.le_refl _) _
  generalize ((w2.alloc (.cells Tryd.zeroCells72 72)).setRow w2.heap.size CS) = V at h1 hsz hb1 ⊢
  have h2 : (V.alloc (.cells #[Value.nilFunc] 28 (0, 0))).heap[w2.heap.size + 1]? = some (.cells #[Value.nilFunc] 28 (0, 0)) := by rw [← hsz]; exact blk_new V _
  have h3 : (V.alloc (.cells #[.func (.func 69) #[] #[.pointer (some ⟨w2.heap.size, 0, none⟩), .pointer (some ⟨gw, 0, none⟩), .pointer (some ⟨w2.heap.size + 1, 0, none⟩)]] 28 (0, 0))).heap[w2.heap.size + 1]? = some (.cells #[.func (.func 69) #[] #[.pointer (some ⟨w2.heap.size, 0, none⟩), .pointer (some ⟨gw, 0, none⟩), .pointer (some ⟨w2.heap.size + 1, 0, none⟩)]] 28 (0, 0)) := (show V.heap.size = w2.heap.size + 1 from hsz) ▸ blk_new V (.cells #[.func (.func 69) #[] #[.pointer (some ⟨w2.heap.size, 0, none⟩), .pointer (some ⟨gw, 0, none⟩), .pointer (some ⟨w2.heap.size + 1, 0, none⟩)]] 28 (0, 0))
  have hb3 : Below w2.heap.size w2 (V.alloc (.cells #[.func (.func 69) #[] #[.pointer (some ⟨w2.heap.size, 0, none⟩), .pointer (some ⟨gw, 0, none⟩), .pointer (some ⟨w2.heap.size + 1, 0, none⟩)]] 28 (0, 0))) := below_alloc hb1 _
  refine ⟨⟨?_, blk_below hw hb3, h3, Kd.C_below hC hb3, hl⟩, hb3, h2⟩
  rw [← hCS]
  exact blk_alloc h1 _
theorem impl_BestPlan.plan_calls (xs : List Int) (W : List (List Int)) (gb gw gp : Nat) (A0 : Option Addr) (c0 : Nat) (hW : impl_bestValues.okW W = true) : ∀ k, impl_BestPlan.CallsAt xs W gb gw gp A0 c0 k
  | 0 => fun a b r w _ _ _ _ h => by simp [impl_BestPlan.plan] at h
  | k + 1 => impl_BestPlan.step xs W gb gw gp A0 c0 k hW (impl_BestPlan.plan_calls xs W gb gw gp A0 c0 hW k)
set_option maxHeartbeats 16000000 in
set_option maxRecDepth 100000 in
theorem impl_BestPlan.calls (k : Nat) (a0 a1 : Int) (A0 : Option Addr) (c0 : Nat) (l0 : List (List Int)) (r : ByteArray) (w : World) (hr0 : Kd.C (Kd.slice 3 (Kd.int .i64)) w A0 l0.length l0) (hc0 : l0.length ≤ c0) (h : impl_BestPlan.f k a0 a1 l0 = some r) (hG : GT w) :
    Calls Tryd.prog 35 #[.int .i64 a0, .int .i64 a1, .slice A0 l0.length c0] w fun e w' => e = .returned (.string r) ∧ Below w.heap.size w w' := by
  unfold impl_BestPlan.f at h
  rw [Option.bind_eq_some_iff] at h
  obtain ⟨b, hb, h⟩ := h
  have HR := Aside0.mk hr0
  have HC := Aside0.mk hc0
  have HI := Aside0.mk hb
  have HG := Aside0.mk hG
  have hmf : ∀ (fn : Fn) (first cap : Array Value) (w : World), (Instr.makeFunc fn first cap).run Tryd.prog w = .ok (.func fn first cap) w := fun _ _ _ _ => rfl
  have HB := Aside0.mk (Below.refl w.heap.size w)
  cases b with
  | false =>
    rw [if_neg (by decide)] at h
    obtain rfl := Option.some.inj h
    clear h hr0 hc0 hb hG
    go_enter Tryd.func35, Tryd.ntmps35
    go_wp2_with (first | (go_at_call 66; (with_reducible refine (impl_isPlate.calls a0 a1 A0 c0 l0 false _ ?sP HC.out HI.out).mono ?_); (case sP => exact Kd.C_alloc HR.out _); rintro e w1 ⟨rfl, ⟨m1, rfl⟩⟩))
    go_ret
    exact ⟨rfl, by repeat (first | exact HB.out | apply below_alloc | apply pw_below_drewN | apply below_drew1)⟩
  | true =>
    rw [if_pos rfl, Option.bind_eq_some_iff] at h
    obtain ⟨xs, hx, h⟩ := h
    have hl : xs.length = 289 := impl_bestValues.f_len hx
    have hk := impl_bestValues.f_ok hx
    obtain ⟨n, hn⟩ : ∃ n : Nat, a0 = (n : Int) := ⟨a0.toNat, by omega⟩
    obtain ⟨m, hm⟩ : ∃ m : Nat, a1 = (m : Int) := ⟨a1.toNat, by omega⟩
    subst hn
    subst hm
    rw [Int.toNat_natCast, Int.toNat_natCast] at h
    have HX := Aside0.mk hx
    have HP := Aside0.mk h
    have HK := Aside0.mk hk
    have HLx := Aside0.mk hl
    obtain ⟨CS, hCS⟩ : ∃ c, c = (xs.map (Value.int .i64)).toArray := ⟨_, rfl⟩
    have hsz : CS.size = 289 := by rw [hCS, List.size_toArray, List.length_map]; exact hl
    have hall : CS.all (·.oneCell') = true := by rw [hCS]; simp [Value.oneCell']
    have hinf : (Tryd.prog.info? 72).map (·.size) = some CS.size := by rw [hsz]; kernel_rfl
    have hz289 : Tryd.zeroCells72.size = CS.size := by rw [hsz]; kernel_rfl
    have NCS := Aside0.mk hCS
    have H2 := Aside0.mk hinf
    have H3 := Aside0.mk hz289
    have H4 := Aside0.mk hall
    clear h hr0 hc0 hb hG hx hk hl hCS hsz hall hinf hz289
    go_enter Tryd.func35, Tryd.ntmps35
    go_upto_region 3 with (first | (go_at_call 66; (with_reducible refine (impl_isPlate.calls (n : Int) (m : Int) A0 c0 l0 true _ ?sQ HC.out HI.out).mono ?_); (case sQ => exact Kd.C_alloc HR.out _); rintro e w1 ⟨rfl, ⟨m1, rfl⟩⟩))
    have hwb : ((w.alloc (.cells #[.slice A0 l0.length c0] 22 (0, 0))).drewN m1).heap[w.heap.size]? = some (.cells #[.slice A0 l0.length c0] 22 (0, 0)) := blk_drewN (blk_new w _) _
    have hB1 : Below w.heap.size w ((w.alloc (.cells #[.slice A0 l0.length c0] 22 (0, 0))).drewN m1) := pw_below_drewN (below_alloc (Below.refl _ _) _) _
    generalize ((w.alloc (.cells #[.slice A0 l0.length c0] 22 (0, 0))).drewN m1) = W1 at hwb hB1 ⊢
    obtain ⟨gw, hgw⟩ : ∃ g, g = w.heap.size := ⟨_, rfl⟩
    rw [← hgw] at hwb ⊢
    have hz : W1.cell? ⟨gw, 0, none⟩ = some (.slice A0 l0.length c0) := (blk_cell hwb 0).trans rfl
    have HWB := Aside0.mk hwb
    have HB1 := Aside0.mk hB1
    clear hwb hB1 hgw HB
    go_upto_region 5 with (first | (go_at_call 67; (with_reducible refine (impl_bestValues.calls A0 c0 (n : Int) (m : Int) l0 xs _ (Kd.C_below HR.out HB1.out) HC.out HX.out).mono ?_); rw [← NCS.out]; rintro e w2 ⟨rfl, hb2⟩; have HB2 := Aside0.mk hb2; clear hb2 hz) | (with_reducible refine wpList_store_row rfl 72 (.tmp 7) (.tmp 17) rfl w2.heap.size CS rfl rfl 72 _ (blk_new w2 _) H2.out H3.out H4.out ?_))
    have hS := impl_BestPlan.made w2 gw A0 c0 l0 xs CS NCS.out HLx.out (blk_below HWB.out HB2.out) (Kd.C_below HR.out (below_step HB1.out HB2.out)) H3.out
    have hs8 := impl_BestPlan.store_func (((w2.alloc (.cells Tryd.zeroCells72 72)).setRow w2.heap.size CS).alloc (.cells #[Value.nilFunc] 28)) (w2.heap.size + 1) (.func 69) #[] #[.pointer (some ⟨w2.heap.size, 0, none⟩), .pointer (some ⟨gw, 0, none⟩), .pointer (some ⟨w2.heap.size + 1, 0, none⟩)] Value.nilFunc 28 hS.2.2
    go_upto_region 6 with (fail)
    clear hs8
    obtain ⟨W3, hW3⟩ : ∃ W3, W3 = (((w2.alloc (.cells Tryd.zeroCells72 72)).setRow w2.heap.size CS).alloc (.cells #[.func (.func 69) #[] #[.pointer (some ⟨w2.heap.size, 0, none⟩), .pointer (some ⟨gw, 0, none⟩), .pointer (some ⟨w2.heap.size + 1, 0, none⟩)]] 28)) := ⟨_, rfl⟩
    rw [← hW3] at hS ⊢
    have HS := Aside0.mk hS.1
    have HB3 := Aside0.mk (below_step HB1.out (below_step HB2.out hS.2.1))
    have hxp : W3.cell? ⟨w2.heap.size + 1, 0, none⟩ = some (.func (.func 69) #[] #[.pointer (some ⟨w2.heap.size, 0, none⟩), .pointer (some ⟨gw, 0, none⟩), .pointer (some ⟨w2.heap.size + 1, 0, none⟩)]) := (blk_cell hS.1.hp 0).trans rfl
    clear hS hW3
    go_wp2_with (first | (go_at_call 69; (with_reducible refine (impl_BestPlan.plan_calls xs l0 w2.heap.size gw (w2.heap.size + 1) A0 c0 HK.out.2 k n m r _ HS.out (HG.out.of HB3.out) (by have := HK.out; omega) (by have := HK.out; omega) HP.out).mono ?_); rintro e w4 ⟨rfl, hb4⟩; have HB4 := Aside0.mk hb4; clear hb4))
    go_ret
    exact ⟨rfl, below_step HB3.out HB4.out⟩

/-! ### impl_PlanLine: function 12 -/
def impl_PlanLine.f (k : Nat) (a0 : Int) (a1 : Int) (l2 : List (List Int)) : Option (ByteArray) := (impl_BestValue.f a0 a1 l2).bind fun t182 => (if t182 < 0 then (some (⟨#[110, 111, 110, 101]⟩ : ByteArray)) else ((impl_FormatInt.f t182).bind fun t183 => (if t183.size + 1 ≤ 9223372036854775807 then ((impl_BestPlan.f k a0 a1 l2).bind fun t184 => (if (t183 ++ (⟨#[32]⟩ : ByteArray)).size + t184.size ≤ 9223372036854775807 then (some ((t183 ++ (⟨#[32]⟩ : ByteArray)) ++ t184)) else (none))) else (none))))
theorem impl_PlanLine.mono : ∀ a0 a1 a2 k, LeO (impl_PlanLine.f k a0 a1 a2) (impl_PlanLine.f (k + 1) a0 a1 a2) := by
  intro a0 a1 a2 k
  unfold impl_PlanLine.f
  repeat' first
      | (with_reducible exact impl_BestPlan.mono _ _ _ _)
      | (with_reducible exact LeO.refl _)
      | (with_reducible exact LeO.none _)
      | (with_reducible refine LeO.ite ?_ ?_)
      | (with_reducible refine LeO.bind ?_ (fun _ => ?_))
      | exact impl_BestPlan.mono _ _ _ _
      | exact LeO.none _
      | refine LeO.ite ?_ ?_
      | refine LeO.bind ?_ (fun _ => ?_)
set_option maxHeartbeats 8000000 in
set_option maxRecDepth 100000 in
theorem impl_PlanLine.calls (k : Nat) (a0 : Int) (a1 : Int) (A2 : Option Addr) (c2 : Nat) (l2 : List (List Int)) (r : ByteArray) (w : World) (hr2 : Kd.C (Kd.slice 3 (Kd.int .i64)) w A2 l2.length l2) (hc2 : l2.length ≤ c2) (h : impl_PlanLine.f k a0 a1 l2 = some r) (hG : GT w) :
    Calls Tryd.prog 12 #[.int .i64 a0, .int .i64 a1, .slice A2 l2.length c2] w fun e w' => e = .returned (.string r) ∧ Below w.heap.size w w' := by
  have HR2 := Aside0.mk hr2
  have HC2 := Aside0.mk hc2
  clear hr2 hc2
  have HG := Aside0.mk hG; clear hG; have HB := Aside0.mk (Below.refl w.heap.size w)
  have H : ((impl_BestValue.f a0 a1 l2).bind fun t182 => (if t182 < 0 then (some (⟨#[110, 111, 110, 101]⟩ : ByteArray)) else ((impl_FormatInt.f t182).bind fun t183 => (if t183.size + 1 ≤ 9223372036854775807 then ((impl_BestPlan.f k a0 a1 l2).bind fun t184 => (if (t183 ++ (⟨#[32]⟩ : ByteArray)).size + t184.size ≤ 9223372036854775807 then (some ((t183 ++ (⟨#[32]⟩ : ByteArray)) ++ t184)) else (none))) else (none))))) = some r := h
  clear h
  replace H := Option.bind_eq_some_iff.mp H
  obtain ⟨t182, A40, H⟩ := H
  replace H : (if t182 < 0 then (some (⟨#[110, 111, 110, 101]⟩ : ByteArray)) else ((impl_FormatInt.f t182).bind fun t183 => (if t183.size + 1 ≤ 9223372036854775807 then ((impl_BestPlan.f k a0 a1 l2).bind fun t184 => (if (t183 ++ (⟨#[32]⟩ : ByteArray)).size + t184.size ≤ 9223372036854775807 then (some ((t183 ++ (⟨#[32]⟩ : ByteArray)) ++ t184)) else (none))) else (none)))) = some r := H
  have A4 := Aside0.mk A40
  clear A40
  by_cases c5 : t182 < 0
  · rw [if_pos c5] at H
    have c5b0 : decide (t182 < 0) = true := decide_eq_true c5
    clear c5
    obtain rfl := Option.some.inj H
    go_enter Tryd.func12, Tryd.ntmps12
    go_wp2_with (first | ((with_reducible refine gate_callee (f := 33) rfl ?_); refine goesL_ (some 11) rfl rfl Tryd.func33 (by kernel_rfl) rfl #[.int .i64 a0, .int .i64 a1, .slice A2 l2.length c2] rfl (by (try simp only [List.map_toArray, List.map_cons, List.map_nil]); first | done | rfl | (simp only [List.length_drop, List.length_take]; rfl)) ?_; (with_reducible refine (impl_BestValue.calls a0 a1 _ _ l2 t182 _ ?side1 ?side2 A4.out).mono ?_); (case side1 => repeat (first | exact HR2.out | (with_reducible refine Kd.C_alloc ?_ _) | (with_reducible refine Kd.C_drewN ?_ _) | (with_reducible refine Kd.C_drew ?_))); (case side2 => exact HC2.out); rintro e w6 ⟨rfl, hb⟩; refine ⟨_, rfl, ?_⟩; have n0_ := Aside0.mk (below_step (by repeat (first | (with_reducible first | exact HB.out | apply below_alloc | apply pw_below_drewN | apply below_drew1) | exact HB.out)) hb); clear HB; have HB := n0_; clear n0_; (try clear hb); (try clear hb2); (try clear hk); (try clear hi)))
    go_ret
    exact ⟨by first | rfl | (simp [errW_none, errW_some] <;> rfl) | (simp [*, errW_none, errW_some] <;> rfl), by repeat (first | (with_reducible first | exact HB.out | apply below_alloc | apply pw_below_drewN | apply below_drew1) | exact HB.out)⟩
  · rw [if_neg c5] at H
    have c5b0 : decide (t182 < 0) = false := decide_eq_false c5
    clear c5
    replace H := Option.bind_eq_some_iff.mp H
    obtain ⟨t183, A70, H⟩ := H
    replace H : (if t183.size + 1 ≤ 9223372036854775807 then ((impl_BestPlan.f k a0 a1 l2).bind fun t184 => (if (t183 ++ (⟨#[32]⟩ : ByteArray)).size + t184.size ≤ 9223372036854775807 then (some ((t183 ++ (⟨#[32]⟩ : ByteArray)) ++ t184)) else (none))) else (none)) = some r := H
    have A7 := Aside0.mk A70
    clear A70
    by_cases c8 : t183.size + 1 ≤ 9223372036854775807
    · rw [if_pos c8] at H
      have c8b0 := eq_true c8
      have c8b1 : decide (t183.size + 1 ≤ 9223372036854775807) = true := decide_eq_true c8
      try have c8b2 : (9223372036854775807 < t183.size + 1) = False := eq_false (Nat.not_lt.2 c8)
      replace H := Option.bind_eq_some_iff.mp H
      obtain ⟨t184, A90, H⟩ := H
      replace H : (if (t183 ++ (⟨#[32]⟩ : ByteArray)).size + t184.size ≤ 9223372036854775807 then (some ((t183 ++ (⟨#[32]⟩ : ByteArray)) ++ t184)) else (none)) = some r := H
      have A9 := Aside0.mk A90
      clear A90
      by_cases c10 : (t183 ++ (⟨#[32]⟩ : ByteArray)).size + t184.size ≤ 9223372036854775807
      · rw [if_pos c10] at H
        have c10b0 := eq_true c10
        have c10b1 : decide ((t183 ++ (⟨#[32]⟩ : ByteArray)).size + t184.size ≤ 9223372036854775807) = true := decide_eq_true c10
        try have c10b2 : (9223372036854775807 < (t183 ++ (⟨#[32]⟩ : ByteArray)).size + t184.size) = False := eq_false (Nat.not_lt.2 c10)
        try have c10b3 : (9223372036854775807 < t183.size + 1 + t184.size) = False := eq_false (by have h_ := c10; simp only [ByteArray.size_append, (show (⟨#[32]⟩ : ByteArray).size = 1 from rfl)] at h_; omega)
        obtain rfl := Option.some.inj H
        go_enter Tryd.func12, Tryd.ntmps12
        go_wp2_with (first | ((with_reducible refine gate_callee (f := 33) rfl ?_); refine goesL_ (some 11) rfl rfl Tryd.func33 (by kernel_rfl) rfl #[.int .i64 a0, .int .i64 a1, .slice A2 l2.length c2] rfl (by (try simp only [List.map_toArray, List.map_cons, List.map_nil]); first | done | rfl | (simp only [List.length_drop, List.length_take]; rfl)) ?_; (with_reducible refine (impl_BestValue.calls a0 a1 _ _ l2 t182 _ ?side1 ?side2 A4.out).mono ?_); (case side1 => repeat (first | exact HR2.out | (with_reducible refine Kd.C_alloc ?_ _) | (with_reducible refine Kd.C_drewN ?_ _) | (with_reducible refine Kd.C_drew ?_))); (case side2 => exact HC2.out); rintro e w11 ⟨rfl, hb⟩; refine ⟨_, rfl, ?_⟩; have n0_ := Aside0.mk (below_step (by repeat (first | (with_reducible first | exact HB.out | apply below_alloc | apply pw_below_drewN | apply below_drew1) | exact HB.out)) hb); clear HB; have HB := n0_; clear n0_; (try clear hb); (try clear hb2); (try clear hk); (try clear hi)) | ((with_reducible refine gate_callee (f := 34) rfl ?_); refine goesL_ (some 15) rfl rfl Tryd.func34 (by kernel_rfl) rfl #[.int .i64 t182] rfl (by (try simp only [List.map_toArray, List.map_cons, List.map_nil]); first | done | rfl | (simp only [List.length_drop, List.length_take]; rfl)) ?_; (with_reducible refine (impl_FormatInt.calls t182 t183 _ A7.out (HG.out.of (by repeat (first | (with_reducible first | exact HB.out | apply below_alloc | apply pw_below_drewN | apply below_drew1) | exact HB.out)))).mono ?_); rintro e w12 ⟨rfl, hb⟩; refine ⟨_, rfl, ?_⟩; have n0_ := Aside0.mk (below_step (by repeat (first | (with_reducible first | exact HB.out | apply below_alloc | apply pw_below_drewN | apply below_drew1) | exact HB.out)) hb); clear HB; have HB := n0_; clear n0_; (try clear hb); (try clear hb2); (try clear hk); (try clear hi)) | ((with_reducible refine gate_callee (f := 35) rfl ?_); refine goesL_ (some 20) rfl rfl Tryd.func35 (by kernel_rfl) rfl #[.int .i64 a0, .int .i64 a1, .slice A2 l2.length c2] rfl (by (try simp only [List.map_toArray, List.map_cons, List.map_nil]); first | done | rfl | (simp only [List.length_drop, List.length_take]; rfl)) ?_; (with_reducible refine (impl_BestPlan.calls k a0 a1 _ _ l2 t184 _ ?side1 ?side2 A9.out (HG.out.of (by repeat (first | (with_reducible first | exact HB.out | apply below_alloc | apply pw_below_drewN | apply below_drew1) | exact HB.out)))).mono ?_); (case side1 => repeat (first | exact (Kd.C_below HR2.out HB.out) | (with_reducible refine Kd.C_alloc ?_ _) | (with_reducible refine Kd.C_drewN ?_ _) | (with_reducible refine Kd.C_drew ?_))); (case side2 => exact HC2.out); rintro e w13 ⟨rfl, hb⟩; refine ⟨_, rfl, ?_⟩; have n0_ := Aside0.mk (below_step (by repeat (first | (with_reducible first | exact HB.out | apply below_alloc | apply pw_below_drewN | apply below_drew1) | exact HB.out)) hb); clear HB; have HB := n0_; clear n0_; (try clear hb); (try clear hb2); (try clear hk); (try clear hi)))
        go_ret
        exact ⟨by first | rfl | (simp [errW_none, errW_some] <;> rfl) | (simp [*, errW_none, errW_some] <;> rfl), by repeat (first | (with_reducible first | exact HB.out | apply below_alloc | apply pw_below_drewN | apply below_drew1) | exact HB.out)⟩
      · rw [if_neg c10] at H
        exact absurd H (by simp)
    · rw [if_neg c8] at H
      exact absurd H (by simp)

/-! ### laws_eqIntS: function 19 -/
def laws_eqIntS.l0 : Nat → List Int → List Int → Int → Option (Bool)
  | 0, _, _, _ => none
  | k + 1, x0, x1, x5 => if x5 < (x0.length : Int) then (if 0 ≤ x5 then (if x5 < (x1.length : Int) then (if (rd x0 x5) = (rd x1 x5) then (laws_eqIntS.l0 k x0 x1 (wrap64 (x5 + 1))) else (some false)) else (none)) else (none)) else (some true)
def laws_eqIntS.f (k : Nat) (l0 : List Int) (l1 : List Int) : Option (Bool) := if (l0.length : Int) = (l1.length : Int) then (laws_eqIntS.l0 k l0 l1 0) else (some false)
theorem laws_eqIntS.mono_l : ∀ k, (∀ y0 y1 y2, LeO (laws_eqIntS.l0 k y0 y1 y2) (laws_eqIntS.l0 (k + 1) y0 y1 y2))
  | 0 => fun _ _ _ r h => by simp [laws_eqIntS.l0] at h
  | k + 1 => by
    have ih0 := laws_eqIntS.mono_l k
    · intro y0 y1 y2
      unfold laws_eqIntS.l0
      repeat' first
      | (with_reducible exact ih0 _ _ _)
      | (with_reducible exact LeO.refl _)
      | (with_reducible exact LeO.none _)
      | (with_reducible refine LeO.ite ?_ ?_)
      | (with_reducible refine LeO.bind ?_ (fun _ => ?_))
      | exact ih0 _ _ _
      | exact LeO.none _
      | refine LeO.ite ?_ ?_
      | refine LeO.bind ?_ (fun _ => ?_)
theorem laws_eqIntS.mono : ∀ a0 a1 k, LeO (laws_eqIntS.f k a0 a1) (laws_eqIntS.f (k + 1) a0 a1) := by
  intro a0 a1 k
  have ih0 := laws_eqIntS.mono_l k
  unfold laws_eqIntS.f
  repeat' first
      | (with_reducible exact ih0 _ _ _)
      | (with_reducible exact LeO.refl _)
      | (with_reducible exact LeO.none _)
      | (with_reducible refine LeO.ite ?_ ?_)
      | (with_reducible refine LeO.bind ?_ (fun _ => ?_))
      | exact ih0 _ _ _
      | exact LeO.none _
      | refine LeO.ite ?_ ?_
      | refine LeO.bind ?_ (fun _ => ?_)
set_option maxHeartbeats 8000000 in
set_option maxRecDepth 100000 in
theorem laws_eqIntS.calls (k : Nat) (A0 : Option Addr) (c0 : Nat) (l0 : List Int) (A1 : Option Addr) (c1 : Nat) (l1 : List Int) (r : Bool) (w : World) (hr0 : Kd.C (Kd.int .i64) w A0 l0.length l0) (hc0 : l0.length ≤ c0) (hr1 : Kd.C (Kd.int .i64) w A1 l1.length l1) (hc1 : l1.length ≤ c1) (h : laws_eqIntS.f k l0 l1 = some r) :
    Calls Tryd.prog 19 #[.slice A0 l0.length c0, .slice A1 l1.length c1] w fun e w' => e = .returned (.bool r) ∧ Drawn0 w w' := by
  have HR0 := Aside0.mk hr0
  have HC0 := Aside0.mk hc0
  clear hr0 hc0
  have HR1 := Aside0.mk hr1
  have HC1 := Aside0.mk hc1
  clear hr1 hc1
  have H : (if (l0.length : Int) = (l1.length : Int) then (laws_eqIntS.l0 k l0 l1 0) else (some false)) = some r := h
  clear h
  by_cases c3 : (l0.length : Int) = (l1.length : Int)
  · rw [if_pos c3] at H
    have c3b0 : ((l0.length : Int) == (l1.length : Int)) = true := beq_iff_eq.mpr c3
    have c3b1 : ((l0.length : Int) != (l1.length : Int)) = false := bne_eq_false_iff_eq.mpr c3
    have c3b2 : (l0.length == l1.length) = true := by first | simpa using c3 | (simp at c3 ⊢; omega)
    clear c3
    have H' := Aside0.mk H
    clear H
    go_enter Tryd.func19, Tryd.ntmps19
    go_wp2
    repeat (go_quiet (fail); try go_wp2)
    go_loopg [5] k (fun kq v5 w' => ∃ (x5_1 : Int), v5 = .int .i64 x5_1 ∧ Aside0 (laws_eqIntS.l0 kq l0 l1 x5_1 = some r) ∧ Aside0 (kq ≤ k) ∧ Drawn0 w w')
    case atStart => exact ⟨(0), (by first | rfl | (simp; done) | (simp [*]; done)), H', ⟨Nat.le_refl _⟩, by repeat (first | exact Drawn0.refl _ | apply Drawn0.step)⟩
    case round =>
      clear H'
      try clear c1
      try clear p2
      try clear c3
      try clear c3b0
      try clear c3b1
      try clear c3b2
      obtain ⟨x5_1, rfl, HA, HK1, ⟨m1, rfl⟩⟩ := hrel
      cases gk with
      | zero => exact absurd HA.out (by simp [laws_eqIntS.l0])
      | succ k1 =>
        have H := HA.out
        clear HA
        simp only [laws_eqIntS.l0] at H
        by_cases c4 : x5_1 < (l0.length : Int)
        · rw [if_pos c4] at H
          have c4b0 : decide (x5_1 < (l0.length : Int)) = true := decide_eq_true c4
          clear c4
          by_cases c5 : 0 ≤ x5_1
          · rw [if_pos c5] at H
            have c5b0 : decide (0 ≤ x5_1) = true := decide_eq_true c5
            clear c5
            by_cases c6 : x5_1 < (l1.length : Int)
            · rw [if_pos c6] at H
              have c6b0 : decide (x5_1 < (l1.length : Int)) = true := decide_eq_true c6
              clear c6
              by_cases c7 : (rd l0 x5_1) = (rd l1 x5_1)
              · rw [if_pos c7] at H
                have c7b0 : ((rd l0 x5_1) == (rd l1 x5_1)) = true := beq_iff_eq.mpr c7
                have c7b1 : ((rd l0 x5_1) != (rd l1 x5_1)) = false := bne_eq_false_iff_eq.mpr c7
                clear c7
                have H' := Aside0.mk H
                clear H
                have p185 : 0 ≤ (x5_1 : Int) := of_decide_eq_true (by first | (with_reducible assumption) | assumption)
                have q185 : x5_1 < (l0.length : Int) := of_decide_eq_true (by first | (with_reducible assumption) | assumption)
                obtain ⟨ad185, e185, hx185_0⟩ := Kd.at_int HR0.out x5_1 p185 q185
                cases e185
                replace p185 := eq_true p185
                replace q185 := eq_true q185
                have p186 : 0 ≤ (x5_1 : Int) := of_decide_eq_true (by first | (with_reducible assumption) | assumption)
                have q186 : x5_1 < (l1.length : Int) := of_decide_eq_true (by first | (with_reducible assumption) | assumption)
                obtain ⟨ad186, e186, hx186_0⟩ := Kd.at_int HR1.out x5_1 p186 q186
                cases e186
                replace p186 := eq_true p186
                replace q186 := eq_true q186
                go_wp2
                repeat (go_quiet (fail); try go_wp2)
                go_roundg k1
                case measure => have := HK1.out; omega
                case rel => exact ⟨(wrap64 (x5_1 + 1)), (by first | rfl | (simp; done) | (simp [*]; done)), H', ⟨by have := HK1.out; omega⟩, by repeat (first | exact Drawn0.refl _ | apply Drawn0.step)⟩
              · rw [if_neg c7] at H
                have c7b0 : ((rd l0 x5_1) == (rd l1 x5_1)) = false := beq_eq_false_iff_ne.mpr c7
                have c7b1 : ((rd l0 x5_1) != (rd l1 x5_1)) = true := bne_iff_ne.mpr c7
                obtain rfl := Option.some.inj H
                have p185 : 0 ≤ (x5_1 : Int) := of_decide_eq_true (by first | (with_reducible assumption) | assumption)
                have q185 : x5_1 < (l0.length : Int) := of_decide_eq_true (by first | (with_reducible assumption) | assumption)
                obtain ⟨ad185, e185, hx185_0⟩ := Kd.at_int HR0.out x5_1 p185 q185
                cases e185
                replace p185 := eq_true p185
                replace q185 := eq_true q185
                have p186 : 0 ≤ (x5_1 : Int) := of_decide_eq_true (by first | (with_reducible assumption) | assumption)
                have q186 : x5_1 < (l1.length : Int) := of_decide_eq_true (by first | (with_reducible assumption) | assumption)
                obtain ⟨ad186, e186, hx186_0⟩ := Kd.at_int HR1.out x5_1 p186 q186
                cases e186
                replace p186 := eq_true p186
                replace q186 := eq_true q186
                go_wp2
                repeat (go_quiet (fail); try go_wp2)
                go_ret
                exact ⟨by first | rfl | (simp; done) | (simp [*]; done), by repeat (first | exact Drawn0.refl _ | apply Drawn0.step)⟩
            · rw [if_neg c6] at H
              exact absurd H (by simp)
          · rw [if_neg c5] at H
            exact absurd H (by simp)
        · rw [if_neg c4] at H
          have c4b0 : decide (x5_1 < (l0.length : Int)) = false := decide_eq_false c4
          clear c4
          obtain rfl := Option.some.inj H
          go_wp2
          repeat (go_quiet (fail); try go_wp2)
          go_ret
          exact ⟨by first | rfl | (simp; done) | (simp [*]; done), by repeat (first | exact Drawn0.refl _ | apply Drawn0.step)⟩
  · rw [if_neg c3] at H
    have c3b0 : ((l0.length : Int) == (l1.length : Int)) = false := beq_eq_false_iff_ne.mpr c3
    have c3b1 : ((l0.length : Int) != (l1.length : Int)) = true := bne_iff_ne.mpr c3
    have c3b2 : (l0.length == l1.length) = false := by first | simpa using c3 | (simp at c3 ⊢; omega)
    obtain rfl := Option.some.inj H
    go_enter Tryd.func19, Tryd.ntmps19
    go_wp2
    repeat (go_quiet (fail); try go_wp2)
    go_ret
    exact ⟨by first | rfl | (simp; done) | (simp [*]; done), by repeat (first | exact Drawn0.refl _ | apply Drawn0.step)⟩

/-! ### laws_eqIntSS: function 13 -/
def laws_eqIntSS.l0 : Nat → List (List Int) → List (List Int) → Int → Option (Bool)
  | 0, _, _, _ => none
  | k + 1, x0, x1, x5 => if x5 < (x0.length : Int) then (if 0 ≤ x5 then (if x5 < (x1.length : Int) then ((laws_eqIntS.f k (rd_L1 x0 x5) (rd_L1 x1 x5)).bind fun t189 => (if t189 = true then (laws_eqIntSS.l0 k x0 x1 (wrap64 (x5 + 1))) else (some false))) else (none)) else (none)) else (some true)
def laws_eqIntSS.f (k : Nat) (l0 : List (List Int)) (l1 : List (List Int)) : Option (Bool) := if (l0.length : Int) = (l1.length : Int) then (laws_eqIntSS.l0 k l0 l1 0) else (some false)
theorem laws_eqIntSS.mono_l : ∀ k, (∀ y0 y1 y2, LeO (laws_eqIntSS.l0 k y0 y1 y2) (laws_eqIntSS.l0 (k + 1) y0 y1 y2))
  | 0 => fun _ _ _ r h => by simp [laws_eqIntSS.l0] at h
  | k + 1 => by
    have ih0 := laws_eqIntSS.mono_l k
    · intro y0 y1 y2
      unfold laws_eqIntSS.l0
      repeat' first
      | (with_reducible exact ih0 _ _ _)
      | (with_reducible exact laws_eqIntS.mono _ _ _)
      | (with_reducible exact LeO.refl _)
      | (with_reducible exact LeO.none _)
      | (with_reducible refine LeO.ite ?_ ?_)
      | (with_reducible refine LeO.bind ?_ (fun _ => ?_))
      | exact ih0 _ _ _
      | exact laws_eqIntS.mono _ _ _
      | exact LeO.none _
      | refine LeO.ite ?_ ?_
      | refine LeO.bind ?_ (fun _ => ?_)
theorem laws_eqIntSS.mono : ∀ a0 a1 k, LeO (laws_eqIntSS.f k a0 a1) (laws_eqIntSS.f (k + 1) a0 a1) := by
  intro a0 a1 k
  have ih0 := laws_eqIntSS.mono_l k
  unfold laws_eqIntSS.f
  repeat' first
      | (with_reducible exact ih0 _ _ _)
      | (with_reducible exact laws_eqIntS.mono _ _ _)
      | (with_reducible exact LeO.refl _)
      | (with_reducible exact LeO.none _)
      | (with_reducible refine LeO.ite ?_ ?_)
      | (with_reducible refine LeO.bind ?_ (fun _ => ?_))
      | exact ih0 _ _ _
      | exact laws_eqIntS.mono _ _ _
      | exact LeO.none _
      | refine LeO.ite ?_ ?_
      | refine LeO.bind ?_ (fun _ => ?_)
set_option maxHeartbeats 8000000 in
set_option maxRecDepth 100000 in
theorem laws_eqIntSS.calls (k : Nat) (A0 : Option Addr) (c0 : Nat) (l0 : List (List Int)) (A1 : Option Addr) (c1 : Nat) (l1 : List (List Int)) (r : Bool) (w : World) (hr0 : Kd.C (Kd.slice 3 (Kd.int .i64)) w A0 l0.length l0) (hc0 : l0.length ≤ c0) (hr1 : Kd.C (Kd.slice 3 (Kd.int .i64)) w A1 l1.length l1) (hc1 : l1.length ≤ c1) (h : laws_eqIntSS.f k l0 l1 = some r) :
    Calls Tryd.prog 13 #[.slice A0 l0.length c0, .slice A1 l1.length c1] w fun e w' => e = .returned (.bool r) ∧ Drawn0 w w' := by
  have HR0 := Aside0.mk hr0
  have HC0 := Aside0.mk hc0
  clear hr0 hc0
  have HR1 := Aside0.mk hr1
  have HC1 := Aside0.mk hc1
  clear hr1 hc1
  have H : (if (l0.length : Int) = (l1.length : Int) then (laws_eqIntSS.l0 k l0 l1 0) else (some false)) = some r := h
  clear h
  by_cases c3 : (l0.length : Int) = (l1.length : Int)
  · rw [if_pos c3] at H
    have c3b0 : ((l0.length : Int) == (l1.length : Int)) = true := beq_iff_eq.mpr c3
    have c3b1 : ((l0.length : Int) != (l1.length : Int)) = false := bne_eq_false_iff_eq.mpr c3
    have c3b2 : (l0.length == l1.length) = true := by first | simpa using c3 | (simp at c3 ⊢; omega)
    clear c3
    have H' := Aside0.mk H
    clear H
    go_enter Tryd.func13, Tryd.ntmps13
    go_wp2
    repeat (go_quiet (fail); try go_wp2)
    go_loopg [5] k (fun kq v5 w' => ∃ (x5_1 : Int), v5 = .int .i64 x5_1 ∧ Aside0 (laws_eqIntSS.l0 kq l0 l1 x5_1 = some r) ∧ Aside0 (kq ≤ k) ∧ Drawn0 w w')
    case atStart => exact ⟨(0), (by first | rfl | (simp; done) | (simp [*]; done)), H', ⟨Nat.le_refl _⟩, by repeat (first | exact Drawn0.refl _ | apply Drawn0.step)⟩
    case round =>
      clear H'
      try clear c1
      try clear p2
      try clear c3
      try clear c3b0
      try clear c3b1
      try clear c3b2
      obtain ⟨x5_1, rfl, HA, HK1, ⟨m1, rfl⟩⟩ := hrel
      cases gk with
      | zero => exact absurd HA.out (by simp [laws_eqIntSS.l0])
      | succ k1 =>
        have H := HA.out
        clear HA
        simp only [laws_eqIntSS.l0] at H
        by_cases c4 : x5_1 < (l0.length : Int)
        · rw [if_pos c4] at H
          have c4b0 : decide (x5_1 < (l0.length : Int)) = true := decide_eq_true c4
          clear c4
          by_cases c5 : 0 ≤ x5_1
          · rw [if_pos c5] at H
            have c5b0 : decide (0 ≤ x5_1) = true := decide_eq_true c5
            clear c5
            by_cases c6 : x5_1 < (l1.length : Int)
            · rw [if_pos c6] at H
              have c6b0 : decide (x5_1 < (l1.length : Int)) = true := decide_eq_true c6
              clear c6
              replace H := Option.bind_eq_some_iff.mp H
              obtain ⟨t189, A70, H⟩ := H
              replace H : (if t189 = true then (laws_eqIntSS.l0 k1 l0 l1 (wrap64 (x5_1 + 1))) else (some false)) = some r := H
              have A7 := Aside0.mk A70
              clear A70
              by_cases c8 : t189 = true
              · subst c8
                have H1 : (laws_eqIntSS.l0 k1 l0 l1 (wrap64 (x5_1 + 1))) = some r := by rw [if_pos rfl] at H; exact H
                clear H
                have H := H1
                clear H1
                have H' := Aside0.mk H
                clear H
                have p187 : 0 ≤ (x5_1 : Int) := of_decide_eq_true (by first | (with_reducible assumption) | assumption)
                have q187 : x5_1 < (l0.length : Int) := of_decide_eq_true (by first | (with_reducible assumption) | assumption)
                obtain ⟨ad187, A187_0, c187_0, e187, hx187_0, hl187_0, hi187_0⟩ := at_L1 HR0.out x5_1 p187 q187
                cases e187
                have HR187_0 := Aside0.mk hi187_0
                have HC187_0 := Aside0.mk hl187_0
                clear hi187_0 hl187_0
                replace p187 := eq_true p187
                replace q187 := eq_true q187
                have p188 : 0 ≤ (x5_1 : Int) := of_decide_eq_true (by first | (with_reducible assumption) | assumption)
                have q188 : x5_1 < (l1.length : Int) := of_decide_eq_true (by first | (with_reducible assumption) | assumption)
                obtain ⟨ad188, A188_0, c188_0, e188, hx188_0, hl188_0, hi188_0⟩ := at_L1 HR1.out x5_1 p188 q188
                cases e188
                have HR188_0 := Aside0.mk hi188_0
                have HC188_0 := Aside0.mk hl188_0
                clear hi188_0 hl188_0
                replace p188 := eq_true p188
                replace q188 := eq_true q188
                go_wp2_with (first | (go_at_call 19; (with_reducible refine (laws_eqIntS.calls k1 _ _ (rd_L1 l0 x5_1) _ _ (rd_L1 l1 x5_1) true _ ?side1 ?side2 ?side3 ?side4 A7.out).mono ?_); (case side1 => repeat (first | exact HR187_0.out | (with_reducible refine Kd.C_alloc ?_ _) | (with_reducible refine Kd.C_drewN ?_ _) | (with_reducible refine Kd.C_drew ?_))); (case side2 => exact HC187_0.out); (case side3 => repeat (first | exact HR188_0.out | (with_reducible refine Kd.C_alloc ?_ _) | (with_reducible refine Kd.C_drewN ?_ _) | (with_reducible refine Kd.C_drew ?_))); (case side4 => exact HC188_0.out); rintro e w' ⟨rfl, ⟨nd, rfl⟩⟩; (try first | exact ⟨rfl, _, World.drewN_drewN _ _ _⟩ | exact ⟨rfl, _, Eq.trans (World.drewN_drewN _ _ _) (congrArg (World.drewN _) (Nat.add_assoc _ _ _))⟩)))
                repeat (go_quiet (first | (go_at_call 19; (with_reducible refine (laws_eqIntS.calls k1 _ _ (rd_L1 l0 x5_1) _ _ (rd_L1 l1 x5_1) true _ ?side1 ?side2 ?side3 ?side4 A7.out).mono ?_); (case side1 => repeat (first | exact HR187_0.out | (with_reducible refine Kd.C_alloc ?_ _) | (with_reducible refine Kd.C_drewN ?_ _) | (with_reducible refine Kd.C_drew ?_))); (case side2 => exact HC187_0.out); (case side3 => repeat (first | exact HR188_0.out | (with_reducible refine Kd.C_alloc ?_ _) | (with_reducible refine Kd.C_drewN ?_ _) | (with_reducible refine Kd.C_drew ?_))); (case side4 => exact HC188_0.out); rintro e w' ⟨rfl, ⟨nd, rfl⟩⟩; (try first | exact ⟨rfl, _, World.drewN_drewN _ _ _⟩ | exact ⟨rfl, _, Eq.trans (World.drewN_drewN _ _ _) (congrArg (World.drewN _) (Nat.add_assoc _ _ _))⟩))); try go_wp2_with (first | (go_at_call 19; (with_reducible refine (laws_eqIntS.calls k1 _ _ (rd_L1 l0 x5_1) _ _ (rd_L1 l1 x5_1) true _ ?side1 ?side2 ?side3 ?side4 A7.out).mono ?_); (case side1 => repeat (first | exact HR187_0.out | (with_reducible refine Kd.C_alloc ?_ _) | (with_reducible refine Kd.C_drewN ?_ _) | (with_reducible refine Kd.C_drew ?_))); (case side2 => exact HC187_0.out); (case side3 => repeat (first | exact HR188_0.out | (with_reducible refine Kd.C_alloc ?_ _) | (with_reducible refine Kd.C_drewN ?_ _) | (with_reducible refine Kd.C_drew ?_))); (case side4 => exact HC188_0.out); rintro e w' ⟨rfl, ⟨nd, rfl⟩⟩; (try first | exact ⟨rfl, _, World.drewN_drewN _ _ _⟩ | exact ⟨rfl, _, Eq.trans (World.drewN_drewN _ _ _) (congrArg (World.drewN _) (Nat.add_assoc _ _ _))⟩))))
                go_roundg k1
                case measure => have := HK1.out; omega
                case rel => exact ⟨(wrap64 (x5_1 + 1)), (by first | rfl | (simp; done) | (simp [*]; done)), H', ⟨by have := HK1.out; omega⟩, by repeat (first | exact Drawn0.refl _ | apply Drawn0.step)⟩
              · replace c8 := Bool.eq_false_iff.mpr c8
                subst c8
                have H1 : (some false) = some r := by rw [if_neg (show ¬ (false = true) by decide)] at H; exact H
                clear H
                have H := H1
                clear H1
                obtain rfl := Option.some.inj H
                have p187 : 0 ≤ (x5_1 : Int) := of_decide_eq_true (by first | (with_reducible assumption) | assumption)
                have q187 : x5_1 < (l0.length : Int) := of_decide_eq_true (by first | (with_reducible assumption) | assumption)
                obtain ⟨ad187, A187_0, c187_0, e187, hx187_0, hl187_0, hi187_0⟩ := at_L1 HR0.out x5_1 p187 q187
                cases e187
                have HR187_0 := Aside0.mk hi187_0
                have HC187_0 := Aside0.mk hl187_0
                clear hi187_0 hl187_0
                replace p187 := eq_true p187
                replace q187 := eq_true q187
                have p188 : 0 ≤ (x5_1 : Int) := of_decide_eq_true (by first | (with_reducible assumption) | assumption)
                have q188 : x5_1 < (l1.length : Int) := of_decide_eq_true (by first | (with_reducible assumption) | assumption)
                obtain ⟨ad188, A188_0, c188_0, e188, hx188_0, hl188_0, hi188_0⟩ := at_L1 HR1.out x5_1 p188 q188
                cases e188
                have HR188_0 := Aside0.mk hi188_0
                have HC188_0 := Aside0.mk hl188_0
                clear hi188_0 hl188_0
                replace p188 := eq_true p188
                replace q188 := eq_true q188
                go_wp2_with (first | (go_at_call 19; (with_reducible refine (laws_eqIntS.calls k1 _ _ (rd_L1 l0 x5_1) _ _ (rd_L1 l1 x5_1) false _ ?side1 ?side2 ?side3 ?side4 A7.out).mono ?_); (case side1 => repeat (first | exact HR187_0.out | (with_reducible refine Kd.C_alloc ?_ _) | (with_reducible refine Kd.C_drewN ?_ _) | (with_reducible refine Kd.C_drew ?_))); (case side2 => exact HC187_0.out); (case side3 => repeat (first | exact HR188_0.out | (with_reducible refine Kd.C_alloc ?_ _) | (with_reducible refine Kd.C_drewN ?_ _) | (with_reducible refine Kd.C_drew ?_))); (case side4 => exact HC188_0.out); rintro e w' ⟨rfl, ⟨nd, rfl⟩⟩; (try first | exact ⟨rfl, _, World.drewN_drewN _ _ _⟩ | exact ⟨rfl, _, Eq.trans (World.drewN_drewN _ _ _) (congrArg (World.drewN _) (Nat.add_assoc _ _ _))⟩)))
                repeat (go_quiet (first | (go_at_call 19; (with_reducible refine (laws_eqIntS.calls k1 _ _ (rd_L1 l0 x5_1) _ _ (rd_L1 l1 x5_1) false _ ?side1 ?side2 ?side3 ?side4 A7.out).mono ?_); (case side1 => repeat (first | exact HR187_0.out | (with_reducible refine Kd.C_alloc ?_ _) | (with_reducible refine Kd.C_drewN ?_ _) | (with_reducible refine Kd.C_drew ?_))); (case side2 => exact HC187_0.out); (case side3 => repeat (first | exact HR188_0.out | (with_reducible refine Kd.C_alloc ?_ _) | (with_reducible refine Kd.C_drewN ?_ _) | (with_reducible refine Kd.C_drew ?_))); (case side4 => exact HC188_0.out); rintro e w' ⟨rfl, ⟨nd, rfl⟩⟩; (try first | exact ⟨rfl, _, World.drewN_drewN _ _ _⟩ | exact ⟨rfl, _, Eq.trans (World.drewN_drewN _ _ _) (congrArg (World.drewN _) (Nat.add_assoc _ _ _))⟩))); try go_wp2_with (first | (go_at_call 19; (with_reducible refine (laws_eqIntS.calls k1 _ _ (rd_L1 l0 x5_1) _ _ (rd_L1 l1 x5_1) false _ ?side1 ?side2 ?side3 ?side4 A7.out).mono ?_); (case side1 => repeat (first | exact HR187_0.out | (with_reducible refine Kd.C_alloc ?_ _) | (with_reducible refine Kd.C_drewN ?_ _) | (with_reducible refine Kd.C_drew ?_))); (case side2 => exact HC187_0.out); (case side3 => repeat (first | exact HR188_0.out | (with_reducible refine Kd.C_alloc ?_ _) | (with_reducible refine Kd.C_drewN ?_ _) | (with_reducible refine Kd.C_drew ?_))); (case side4 => exact HC188_0.out); rintro e w' ⟨rfl, ⟨nd, rfl⟩⟩; (try first | exact ⟨rfl, _, World.drewN_drewN _ _ _⟩ | exact ⟨rfl, _, Eq.trans (World.drewN_drewN _ _ _) (congrArg (World.drewN _) (Nat.add_assoc _ _ _))⟩))))
                go_ret
                exact ⟨by first | rfl | (simp; done) | (simp [*]; done), by repeat (first | exact Drawn0.refl _ | apply Drawn0.step)⟩
            · rw [if_neg c6] at H
              exact absurd H (by simp)
          · rw [if_neg c5] at H
            exact absurd H (by simp)
        · rw [if_neg c4] at H
          have c4b0 : decide (x5_1 < (l0.length : Int)) = false := decide_eq_false c4
          clear c4
          obtain rfl := Option.some.inj H
          go_wp2
          repeat (go_quiet (fail); try go_wp2)
          go_ret
          exact ⟨by first | rfl | (simp; done) | (simp [*]; done), by repeat (first | exact Drawn0.refl _ | apply Drawn0.step)⟩
  · rw [if_neg c3] at H
    have c3b0 : ((l0.length : Int) == (l1.length : Int)) = false := beq_eq_false_iff_ne.mpr c3
    have c3b1 : ((l0.length : Int) != (l1.length : Int)) = true := bne_iff_ne.mpr c3
    have c3b2 : (l0.length == l1.length) = false := by first | simpa using c3 | (simp at c3 ⊢; omega)
    obtain rfl := Option.some.inj H
    go_enter Tryd.func13, Tryd.ntmps13
    go_wp2
    repeat (go_quiet (fail); try go_wp2)
    go_ret
    exact ⟨by first | rfl | (simp; done) | (simp [*]; done), by repeat (first | exact Drawn0.refl _ | apply Drawn0.step)⟩

end Go.Proofs.YtndlmckfacegeaaDoor.QFnExactPlanLine
