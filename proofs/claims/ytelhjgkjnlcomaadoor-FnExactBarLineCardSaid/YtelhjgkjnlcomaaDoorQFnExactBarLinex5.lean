-- Printed for this claim by a changed copy of the kit's print (the session's own; own contracts in place of some functions).
import Derived.Test.YtelhjgkjnlcomaaDoorQFnExactBarLinex0
import Derived.Test.YtelhjgkjnlcomaaDoorQFnExactBarLinex4
namespace Go.Proofs.YtelhjgkjnlcomaaDoor.QFnExactBarLine
open Go.RowKit Go.Proofs.YtelhjgkjnlcomaaDoorW.PrintWords Go.Proofs.YtelhjgkjnlcomaaDoorW.PrintLast Go.Proofs.YtelhjgkjnlcomaaDoorW.PrintMore
attribute [local go_sem] max2_int min2_int max_two min_two max_three min_three max_four min_four   -- for this text's walks alone
set_option linter.unusedVariables false
set_option linter.unusedSimpArgs false

/-! ### impl_bestBars: function 53 -/
--import Derived.WalkSpells
--import Derived.RegionTactic
--import Derived.Deep.RegionLaw
--import Derived.Deep.DeepCutAuto
--import Derived.Deep.WholeRow
def impl_bestBars.stp (rec : List Int → List Int → Option (List Int)) (bar p : Int) (P S1 : List Int) (k : Nat) (nx : Option (List Int)) : Option (List Int) :=
  if S1.getD k 0 + p ≤ bar then (match rec (P ++ [(k : Int)]) (S1.set k (S1.getD k 0 + p)) with | some r => some r | none => nx) else nx
def impl_bestBars.loop (rec : List Int → List Int → Option (List Int)) (bar p : Int) (most : Nat) (P S : List Int) : Nat → Option (List Int)
  | 0 => if S.length < most then impl_bestBars.stp rec bar p P (S ++ [0]) S.length none else none
  | d + 1 => if S.length - (d + 1) < most then impl_bestBars.stp rec bar p P S (S.length - (d + 1)) (impl_bestBars.loop rec bar p most P S d) else none
def impl_bestBars.put (bar : Int) (most : Nat) : List Int → List Int → List Int → Option (List Int)
  | [], P, _ => some P
  | p :: ps, P, S => impl_bestBars.loop (impl_bestBars.put bar most ps) bar p most P S S.length
def impl_bestBars.go (bar : Int) (xs : List Int) (m : Nat) : Nat → Option (List Int)
  | 0 => none
  | d + 1 => match impl_bestBars.put bar m xs [] [] with | some r => some r | none => impl_bestBars.go bar xs (m + 1) d
def impl_bestBars.ok (bar : Int) (xs : List Int) : Bool := (decide (1 ≤ bar) && decide (bar ≤ 1000)) && (decide (xs.length ≤ 8) && xs.all (fun x => decide (1 ≤ x) && decide (x ≤ bar)))
def impl_bestBars.f (a0 : Int) (l0 : List Int) : Option (List Int) := if impl_bestBars.ok a0 l0 = true then impl_bestBars.go a0 l0 0 (l0.length + 1) else none
/-- Two boxes that hold own rows, and the box of the closure. -/
structure impl_bestBars.BS (w0 w : World) (g1 g2 gq : Nat) (q v1 v2 : Value) (L1 L2 : List Int) : Prop where
  h1 : w.heap[g1]? = some (.cells #[v1] 22 (0, 0))
  h2 : w.heap[g2]? = some (.cells #[v2] 22 (0, 0))
  hq : w.heap[gq]? = some (.cells #[q] 88 (0, 0))
  ne : g1 ≠ g2
  r1 : Kd.R (Kd.int .i64) 3 w w0.heap.size (fun k => some k ≠ v2.ownBlock) v1 L1
  r2 : Kd.R (Kd.int .i64) 3 w w0.heap.size (fun k => some k ≠ v1.ownBlock) v2 L2
  below : Below w0.heap.size w0 w
  ge : w0.heap.size ≤ g1 ∧ w0.heap.size ≤ g2
section
variable {w0 w w1 : World} {g1 g2 gq : Nat} {q v1 v2 : Value} {L1 L2 : List Int}
theorem impl_bestBars.BS.swap (h : impl_bestBars.BS w0 w g1 g2 gq q v1 v2 L1 L2) : impl_bestBars.BS w0 w g2 g1 gq q v2 v1 L2 L1 :=
  ⟨h.h2, h.h1, h.hq, h.ne.symm, h.r2, h.r1, h.below, h.ge.2, h.ge.1⟩
theorem impl_bestBars.BS.step (h : impl_bestBars.BS w0 w g1 g2 gq q v1 v2 L1 L2) (hb : Below w.heap.size w w1) : impl_bestBars.BS w0 w1 g1 g2 gq q v1 v2 L1 L2 :=
  ⟨blk_below h.h1 hb, blk_below h.h2 hb, blk_below h.hq hb, h.ne, Kd.R_below h.r1 hb, Kd.R_below h.r2 hb, below_step h.below hb, h.ge⟩
theorem impl_bestBars.BS.ne1 (h : impl_bestBars.BS w0 w g1 g2 gq q v1 v2 L1 L2) {g : Nat} {t : TypeId} {cs : Array Value} (hg : w.heap[g]? = some (.cells cs t (0, 0))) (ht : t ≠ 3) : some g ≠ v1.ownBlock := fun e => by
  obtain ⟨cells, hc⟩ := Kd.R_typed h.r1 g e.symm
  rw [hg] at hc
  injection hc with hc
  injection hc with _ hc
  exact ht hc
/-- A new row for the first box, behind an append to its row. -/
theorem impl_bestBars.BS.app {W : World} {v : Value} {L : List Int} (h : impl_bestBars.BS w0 W g1 g2 gq q v1 v2 L1 L2) (hr : Kd.R (Kd.int .i64) 3 w1 w0.heap.size (fun k => some k ≠ v2.ownBlock) v L) (hb : Below w0.heap.size w0 w1) (hg : W.grownBy w1 v1.ownBlock) (hat : v.ownBlock = v1.ownBlock ∨ ∃ b, v.ownBlock = some b ∧ W.heap.size ≤ b) : impl_bestBars.BS w0 (w1.setCell ⟨g1, 0, none⟩ v) g1 g2 gq q v v2 L L2 := by
  have k1 := blk_grown h.h1 hg (h.ne1 h.h1 (by decide))
  have k2 := blk_grown h.h2 hg (h.ne1 h.h2 (by decide))
  have kq := blk_grown h.hq hg (h.ne1 h.hq (by decide))
  have m2 : Kd.R (Kd.int .i64) 3 w1 w0.heap.size (fun k => some k ≠ v1.ownBlock) v2 L2 := Kd.R_grown h.r2 hg (fun _ hk => hk)
  have n2 : Kd.R (Kd.int .i64) 3 w1 w0.heap.size (fun k => some k ≠ v.ownBlock) v2 L2 := by
    refine Kd.R_of_own (Kd.own_of_R m2) (fun k hk => ?_)
    intro e
    rcases hat with e2 | ⟨b, e2, hle⟩
    · exact m2.1 k hk (e.trans e2)
    · have := Kd.R_lt h.r2 k hk
      rw [e2] at e
      injection e with e
      omega
  have e1 : ∀ k, some k = v.ownBlock → k ≠ g1 := fun k hk he => by
    subst he
    obtain ⟨cells, hc⟩ := Kd.R_typed hr k hk.symm
    rw [k1] at hc
    injection hc with hc
    injection hc with _ hc
    exact absurd hc (by decide)
  have e2 : ∀ k, some k = v2.ownBlock → k ≠ g1 := fun k hk he => by
    subst he
    obtain ⟨cells, hc⟩ := Kd.R_typed n2 k hk.symm
    rw [k1] at hc
    injection hc with hc
    injection hc with _ hc
    exact absurd hc (by decide)
  have z1 : Kd.R (Kd.int .i64) 3 w1 w0.heap.size (fun k => some k ≠ v2.ownBlock ∧ k ≠ g1) v L := Kd.R_of_own (Kd.own_of_R hr) (fun k hk => ⟨hr.1 k hk, e1 k hk.symm⟩)
  have z2 : Kd.R (Kd.int .i64) 3 w1 w0.heap.size (fun k => some k ≠ v.ownBlock ∧ k ≠ g1) v2 L2 := Kd.R_of_own (Kd.own_of_R n2) (fun k hk => ⟨n2.1 k hk, e2 k hk.symm⟩)
  have nq : gq ≠ g1 := blk_ne kq k1 (by decide)
  exact ⟨blk_put k1 0 v rfl, (Below.heap_setCell w1 ⟨g1, 0, none⟩ v g2 h.ne.symm).trans k2, (Below.heap_setCell w1 ⟨g1, 0, none⟩ v gq nq).trans kq, h.ne,
    Kd.R_mono (Kd.R_far z1 (fun _ hk => hk.2) v) (fun _ hk => hk.1), Kd.R_mono (Kd.R_far z2 (fun _ hk => hk.2) v) (fun _ hk => hk.1), below_set hb h.ge.1, h.ge⟩
theorem impl_bestBars.take_own {e base n m c : Nat} {A : Option Addr} {L : List Int} {w : World} {ok : Nat → Prop} (h : Kd.R (Kd.int .i64) e w base ok (.slice A n c) L) (hm : m ≤ L.length) (h0 : A ≠ none) : Kd.R (Kd.int .i64) e w base ok (.slice A m c) (L.take m) := by
  have hl : (L.take m).length = m := by rw [List.length_take]; omega
  refine Kd.R_of_own ?_ (fun k hk => h.1 k ((show (Value.slice A n c).ownBlock = (Value.slice A m c).ownBlock by cases A <;> rfl).trans hk))
  obtain ⟨ho1, ho2⟩ := Kd.own_of_R h
  rw [hl]
  rcases ho2 with ⟨he, _⟩ | ⟨g, cap, cur, he, hb, hc, hn, hcm, hs, ht⟩
  · injection he with he
    exact absurd he h0
  · injection he with he1 he2 he3
    subst he1
    subst he3
    have et : (L.take m).map (Value.int .i64) = (L.map (Value.int .i64)).take m := List.map_take
    refine ⟨by rw [encs_length]; omega, .inr ⟨g, c, cur, rfl, hb, hc, by omega, hcm, hs, ?_⟩⟩
    show cur.toList.take (m * 1) = (L.take m).map (Value.int .i64)
    rw [et, ← show cur.toList.take (L.length * 1) = L.map (Value.int .i64) from ht, List.take_take]
    rw [Nat.mul_one, Nat.mul_one, Nat.min_eq_left hm]
theorem impl_bestBars.BS.cut {A : Option Addr} {n m c : Nat} (h : impl_bestBars.BS w0 w g1 g2 gq q (.slice A n c) v2 L1 L2) (hm : m ≤ L1.length) (h0 : A ≠ none) : impl_bestBars.BS w0 (w.setCell ⟨g1, 0, none⟩ (.slice A m c)) g1 g2 gq q (.slice A m c) v2 (L1.take m) L2 := by
  have ho : (Value.slice A m c).ownBlock = (Value.slice A n c).ownBlock := by cases A <;> rfl
  exact impl_bestBars.BS.app h (impl_bestBars.take_own h.r1 hm h0) h.below (World.grownBy.refl _ _) (.inl ho)
theorem impl_bestBars.BS.put {g n c : Nat} (h : impl_bestBars.BS w0 w g1 g2 gq q v1 (.slice (some ⟨g, 0, none⟩) n c) L1 L2) (k : Nat) (x : Int) : impl_bestBars.BS w0 (w.setCell ⟨g, k, none⟩ (.int .i64 x)) g1 g2 gq q v1 (.slice (some ⟨g, 0, none⟩) n c) L1 (L2.set k x) := by
  have p2 := Kd.R_putn (h1 := fun _ => rfl) h.r2 (k : Int) x
  rw [Int.toNat_natCast] at p2
  have b1 : ∀ {g' : Nat} {t : TypeId} {cs : Array Value}, w.heap[g']? = some (.cells cs t (0, 0)) → t ≠ 3 → (w.setCell ⟨g, k, none⟩ (.int .i64 x)).heap[g']? = some (.cells cs t (0, 0)) := fun {g' t cs} hg ht =>
    (Below.heap_setCell w ⟨g, k, none⟩ _ g' (fun e => (h.swap.ne1 hg ht) (by rw [e]; rfl))).trans hg
  have hge := Kd.R_base h.r2 g rfl
  exact ⟨b1 h.h1 (by decide), b1 h.h2 (by decide), b1 h.hq (by decide), h.ne, Kd.R_far h.r1 (fun k' hk => fun e => hk (by rw [e]; rfl)) _, p2, below_set h.below hge, h.ge⟩
theorem impl_bestBars.BS.fresh (h : impl_bestBars.BS w0 w g1 g2 gq q v1 v2 L1 L2) : ∀ k, w.heap.size ≤ k → some k ≠ v1.ownBlock := fun k hk e => by
  have := Kd.R_lt h.r1 k e.symm
  omega
theorem impl_bestBars.BS.cell2 {g n c : Nat} (h : impl_bestBars.BS w0 w g1 g2 gq q v1 (.slice (some ⟨g, 0, none⟩) n c) L1 L2) {k : Nat} (hk : k < n) : w.cell? ⟨g, k, none⟩ = some (.int .i64 (L2.getD k 0)) ∧ w.frozen? ⟨g, k, none⟩ = false := by
  have := Kd.R_celln (h1 := fun _ => rfl) (0 : Int) h.r2 (k : Int) (by omega) (by omega)
  rw [Int.toNat_natCast] at this
  unfold rdOf at this
  rwa [Int.toNat_natCast] at this
theorem impl_bestBars.BS.form2 (h : impl_bestBars.BS w0 w g1 g2 gq q v1 v2 L1 L2) (hp : 0 < L2.length) : ∃ g c, v2 = .slice (some ⟨g, 0, none⟩) L2.length c := by
  obtain ⟨g, c, e, _⟩ := Kd.R_form h.r2 hp
  exact ⟨g, c, e⟩
end
theorem impl_bestBars.cutRun (A : Option Addr) (n m c : Nat) (hm : m ≤ n) (hc : n ≤ c) (W : World) : (Instr.slice 22 (.slice A n c) none (some (.int .i64 (m : Int))) none).run Tryd.prog W = .ok (.slice A m c) W := by
  obtain ⟨i, hi, he⟩ := Option.map_eq_some_iff.mp info3
  have := (print_take_of (P := Tryd.prog) (Value.int .i64) (0 : Int) 22 3 .i64 Tryd.underlying22 hi (congrArg (fun z => z.2.1) he) A c (List.replicate n (0 : Int)) (m : Int) (by omega) (by rw [List.length_replicate]; omega) (by rw [List.length_replicate]; omega)).1 W
  rw [List.length_take, List.length_replicate, Int.toNat_natCast, Nat.min_eq_left hm] at this
  exact this
abbrev impl_bestBars.clo (gP gX gS gM gB gQ : Nat) : Value := .func (.func 85) #[] #[.pointer (some ⟨gP, 0, none⟩), .pointer (some ⟨gX, 0, none⟩), .pointer (some ⟨gS, 0, none⟩), .pointer (some ⟨gM, 0, none⟩), .pointer (some ⟨gB, 0, none⟩), .pointer (some ⟨gQ, 0, none⟩)]
structure impl_bestBars.B0 (w0 : World) (gX gM gB : Nat) (A : Option Addr) (c : Nat) (xs : List Int) (bar : Int) (most : Nat) : Prop where
  hX : w0.heap[gX]? = some (.cells #[.slice A xs.length c] 22 (0, 0))
  hM : w0.heap[gM]? = some (.cells #[.int .i64 (most : Int)] 3 (0, 0))
  hB : w0.heap[gB]? = some (.cells #[.int .i64 bar] 3 (0, 0))
  hC : Kd.C (Kd.int .i64) w0 A xs.length xs
  ok : (1 ≤ bar ∧ bar ≤ 1000) ∧ xs.length ≤ 8 ∧ most ≤ 9 ∧ ∀ x ∈ xs, 1 ≤ x ∧ x ≤ bar
def impl_bestBars.Post (w0 : World) (gP gX gS gM gB gQ : Nat) (P S : List Int) (res : Option (List Int)) (e : Ending) (w' : World) : Prop :=
  match res with
  | some r => e = .returned (.bool true) ∧ ∃ v1 v2 S', impl_bestBars.BS w0 w' gP gS gQ (impl_bestBars.clo gP gX gS gM gB gQ) v1 v2 r S'
  | none => e = .returned (.bool false) ∧ ∃ v1 v2, impl_bestBars.BS w0 w' gP gS gQ (impl_bestBars.clo gP gX gS gM gB gQ) v1 v2 P S
abbrev impl_bestBars.CallsAt (w0 : World) (gP gX gS gM gB gQ : Nat) (bar : Int) (most : Nat) (xs ps : List Int) : Prop := ∀ (P S : List Int) (v1 v2 : Value) (w : World),
    impl_bestBars.BS w0 w gP gS gQ (impl_bestBars.clo gP gX gS gM gB gQ) v1 v2 P S → xs.drop P.length = ps → P.length ≤ xs.length → (∀ x ∈ S, 1 ≤ x ∧ x ≤ bar) → S.length ≤ P.length →
    Calls Tryd.prog 85 #[.pointer (some ⟨gP, 0, none⟩), .pointer (some ⟨gX, 0, none⟩), .pointer (some ⟨gS, 0, none⟩), .pointer (some ⟨gM, 0, none⟩), .pointer (some ⟨gB, 0, none⟩), .pointer (some ⟨gQ, 0, none⟩)] w (impl_bestBars.Post w0 gP gX gS gM gB gQ P S (impl_bestBars.put bar most ps P S))
theorem impl_bestBars.cell0 {w : World} {g : Nat} {t : TypeId} {v : Value} (h : w.heap[g]? = some (.cells #[v] t (0, 0))) : w.cell? ⟨g, 0, none⟩ = some v := (blk_cell h 0).trans rfl
theorem impl_bestBars.old {w0 w : World} {g : Nat} {t : TypeId} {v : Value} (h : w0.heap[g]? = some (.cells #[v] t (0, 0))) (hb : Below w0.heap.size w0 w) : w.cell? ⟨g, 0, none⟩ = some v := impl_bestBars.cell0 (blk_below h hb)
set_option maxHeartbeats 16000000 in
set_option maxRecDepth 100000 in
theorem impl_bestBars.base (w0 : World) (gP gX gS gM gB gQ : Nat) (A : Option Addr) (c : Nat) (xs : List Int) (bar : Int) (most : Nat) (h0 : impl_bestBars.B0 w0 gX gM gB A c xs bar most) : impl_bestBars.CallsAt w0 gP gX gS gM gB gQ bar most xs [] := by
  intro P S v1 v2 w hS hd hl _ _
  have hlen : P.length = xs.length := by have := congrArg List.length hd; rw [List.length_drop] at this; simp at this; omega
  obtain ⟨A1, c1, e1⟩ := Kd.R_slice hS.r1
  subst e1
  have H0 := Aside0.mk h0
  have HS := Aside0.mk hS
  have x1 := impl_bestBars.cell0 hS.h1
  have x2 := impl_bestBars.old h0.hX hS.below
  have b1 : ((P.length : Int) == (xs.length : Int)) = true := by rw [beq_iff_eq]; omega
  have b2 : (P.length == xs.length) = true := by rw [beq_iff_eq]; omega
  have b3 : decide (P.length = xs.length) = true := decide_eq_true hlen
  clear h0 hS hd hl hlen
  go_enter Tryd.func85, Tryd.ntmps85
  go_wp2
  go_ret
  exact ⟨rfl, _, _, S, HS.out.step (by repeat (first | (with_reducible first | exact Below.refl _ _ | apply below_alloc | apply pw_below_drewN | apply below_drew1) | exact Below.refl _ _))⟩
theorem impl_bestBars.pos2 {S S1 : List Int} {k : Nat} {v bar : Int} (hpos : ∀ x ∈ S, 1 ≤ x ∧ x ≤ bar) (h1 : k < S1.length) (h2 : S1.length ≤ S.length + 1) (hv : 1 ≤ v ∧ v ≤ bar) (hc : S1.take k = S ∨ S1 = S) : ∀ y ∈ S1.set k v, 1 ≤ y ∧ y ≤ bar := by
  intro y hy
  obtain ⟨i, hi, rfl⟩ := List.getElem_of_mem hy
  rw [List.length_set] at hi
  rw [List.getElem_set]
  by_cases e : k = i
  · rw [if_pos e]; exact hv
  · rw [if_neg e]
    rcases hc with h | h
    · have hl : S.length = k := by rw [← h, List.length_take]; omega
      have hik : i < k := by omega
      refine hpos _ ?_
      rw [← h]
      have : (S1.take k)[i]'(by rw [List.length_take]; omega) = S1[i] := List.getElem_take
      rw [← this]
      exact List.getElem_mem _
    · exact hpos _ (h ▸ List.getElem_mem hi)
theorem impl_bestBars.loop_go {rec : List Int → List Int → Option (List Int)} {bar p : Int} {most : Nat} {P S S1 : List Int} {k kq : Nat} {res : Option (List Int)} (hk : k + kq = S.length) (hm : k < most) (hS : S1 = if k = S.length then S ++ [0] else S) (hpos : ∀ x ∈ S, 1 ≤ x ∧ x ≤ bar) (h : impl_bestBars.loop rec bar p most P S kq = res) :
    ∃ nx, impl_bestBars.stp rec bar p P S1 k nx = res ∧ k < S1.length ∧ S1.length ≤ S.length + 1 ∧ ((S1.getD k 0 = 0 ∧ nx = none ∧ S1.take k = S) ∨ ((1 ≤ S1.getD k 0 ∧ S1.getD k 0 ≤ bar) ∧ S1 = S ∧ ∃ d, kq = d + 1 ∧ nx = impl_bestBars.loop rec bar p most P S d)) := by
  cases kq with
  | zero =>
    have hk : k = S.length := by omega
    subst hk
    rw [if_pos rfl] at hS
    subst hS
    rw [impl_bestBars.loop, if_pos hm] at h
    refine ⟨none, h, by rw [List.length_append, List.length_singleton]; omega, by rw [List.length_append, List.length_singleton]; omega, .inl ⟨?_, rfl, ?_⟩⟩
    · rw [List.getD_eq_getElem?_getD, List.getElem?_append_right (Nat.le_refl _), Nat.sub_self]; rfl
    · rw [List.take_left]
  | succ d =>
    rw [if_neg (by omega)] at hS
    subst hS
    have e : S1.length - (d + 1) = k := by omega
    rw [impl_bestBars.loop, e, if_pos hm] at h
    have hl : k < S1.length := by omega
    refine ⟨_, h, hl, by omega, .inr ⟨?_, rfl, d, rfl, rfl⟩⟩
    rw [List.getD_eq_getElem?_getD, List.getElem?_eq_getElem hl]
    exact hpos _ (List.getElem_mem hl)
theorem impl_bestBars.stp_go {rec : List Int → List Int → Option (List Int)} {bar p : Int} {P S1 : List Int} {k : Nat} {nx res : Option (List Int)} (h : impl_bestBars.stp rec bar p P S1 k nx = res) :
    (S1.getD k 0 + p ≤ bar ∧ ((∃ r, rec (P ++ [(k : Int)]) (S1.set k (S1.getD k 0 + p)) = some r ∧ res = some r) ∨ (rec (P ++ [(k : Int)]) (S1.set k (S1.getD k 0 + p)) = none ∧ res = nx))) ∨ (¬ S1.getD k 0 + p ≤ bar ∧ res = nx) := by
  unfold impl_bestBars.stp at h
  by_cases c : S1.getD k 0 + p ≤ bar
  · rw [if_pos c] at h
    refine .inl ⟨c, ?_⟩
    cases hr : rec (P ++ [(k : Int)]) (S1.set k (S1.getD k 0 + p)) with
    | some r => rw [hr] at h; exact .inl ⟨r, rfl, h.symm⟩
    | none => rw [hr] at h; exact .inr ⟨rfl, h.symm⟩
  · rw [if_neg c] at h
    exact .inr ⟨c, h.symm⟩
set_option maxHeartbeats 16000000 in
set_option maxRecDepth 100000 in
theorem impl_bestBars.step (w0 : World) (gP gX gS gM gB gQ : Nat) (A : Option Addr) (c : Nat) (xs : List Int) (bar : Int) (most : Nat) (h0 : impl_bestBars.B0 w0 gX gM gB A c xs bar most) (p : Int) (ps : List Int) (ih : impl_bestBars.CallsAt w0 gP gX gS gM gB gQ bar most xs ps) : impl_bestBars.CallsAt w0 gP gX gS gM gB gQ bar most xs (p :: ps) := by
  intro P S v1 v2 w hS hd hl hpos hle
  have hlt : P.length < xs.length := by
    have := congrArg List.length hd; rw [List.length_drop, List.length_cons] at this; omega
  have hdp : xs.getD P.length 0 = p := by
    have := congrArg (fun l => l.getD 0 0) hd
    simp only [List.getD_eq_getElem?_getD, List.getElem?_drop, Nat.add_zero] at this
    rw [List.getD_eq_getElem?_getD, this]; rfl
  have hpp : 1 ≤ p ∧ p ≤ bar := h0.ok.2.2.2 p (by rw [← hdp, List.getD_eq_getElem?_getD, List.getElem?_eq_getElem hlt]; exact List.getElem_mem hlt)
  have hd2 : xs.drop (P.length + 1) = ps := by rw [← List.tail_drop, hd]; rfl
  obtain ⟨res, hres⟩ : ∃ res, res = impl_bestBars.put bar most (p :: ps) P S := ⟨_, rfl⟩
  rw [← hres]
  rw [impl_bestBars.put] at hres
  obtain ⟨A1, c1, e1⟩ := Kd.R_slice hS.r1
  obtain ⟨A2, c2, e2⟩ := Kd.R_slice hS.r2
  subst e1
  subst e2
  have H0 := Aside0.mk h0
  have HS := Aside0.mk hS
  have IH := Aside0.mk ih
  have HPP := Aside0.mk hpp
  have HD := Aside0.mk hd2
  have HL := Aside0.mk hlt
  have HPOS := Aside0.mk hpos
  have HLE := Aside0.mk hle
  have HRES := Aside0.mk hres.symm
  have x1 := impl_bestBars.cell0 hS.h1
  have x2 := impl_bestBars.old h0.hX hS.below
  obtain ⟨ad, ea, hxp⟩ := Kd.at_int (Kd.C_below h0.hC hS.below) (P.length : Int) (by omega) (by omega)
  subst ea
  have erd : rd xs (P.length : Int) = p := by unfold rd; rw [Int.toNat_natCast]; exact hdp
  rw [erd, Int.toNat_natCast] at hxp
  have b1 : ((P.length : Int) == (xs.length : Int)) = false := by rw [beq_eq_false_iff_ne]; omega
  have b2 : (P.length == xs.length) = false := by rw [beq_eq_false_iff_ne]; omega
  have b3 : decide (P.length = xs.length) = false := decide_eq_false (by omega)
  have b4 : ((P.length : Int) < (xs.length : Int)) = True := eq_true (by omega)
  have b5 : (P.length < xs.length) = True := eq_true hlt
  have b6 : (0 ≤ (P.length : Int)) = True := eq_true (by omega)
  clear h0 hS ih hd hl hpos hle hlt hdp hpp hd2 hres erd
  go_enter Tryd.func85, Tryd.ntmps85
  go_wp2_with fail
  go_loopg [8] S.length (fun kq v8 w' => ∃ (k : Nat) (u1 u2 : Value), v8 = .int .i64 (k : Int) ∧ Aside0 (k + kq = S.length) ∧ Aside0 (impl_bestBars.loop (impl_bestBars.put bar most ps) bar p most P S kq = res) ∧ Aside0 (impl_bestBars.BS w0 w' gP gS gQ (impl_bestBars.clo gP gX gS gM gB gQ) u1 u2 P S))
  case atStart => exact ⟨0, _, _, rfl, ⟨by omega⟩, HRES, ⟨HS.out.step (by repeat (first | (with_reducible first | exact Below.refl _ _ | apply below_alloc | apply pw_below_drewN | apply below_drew1) | exact Below.refl _ _))⟩⟩
  case round =>
    clear HS HRES x1 x2 hxp
    obtain ⟨k, u1, u2, rfl, HK, HRES, HS⟩ := hrel
    obtain ⟨A1, c1, e1⟩ := Kd.R_slice HS.out.r1
    obtain ⟨A2, c2, e2⟩ := Kd.R_slice HS.out.r2
    subst e1
    subst e2
    have x1 := impl_bestBars.cell0 HS.out.h1
    have x3 := impl_bestBars.cell0 HS.out.h2
    have x5 := impl_bestBars.old H0.out.hM HS.out.below
    have x6 := impl_bestBars.old H0.out.hB HS.out.below
    have hk := HK.out
    have d1 : ((k : Int) ≤ (S.length : Int)) = True := eq_true (by omega)
    have d2 : (k ≤ S.length) = True := eq_true (by omega)
    have d3 : decide ((k : Int) ≤ (S.length : Int)) = true := decide_eq_true (by omega)
    have d4 : decide (k ≤ S.length) = true := decide_eq_true (by omega)
    clear hk
    by_cases cm : k < most
    case neg =>
      have m1 : decide ((k : Int) < (most : Int)) = false := decide_eq_false (by omega)
      have m2 : decide (k < most) = false := decide_eq_false cm
      have hn : res = none := by
        have H := HRES.out
        have hk := HK.out
        cases gk with
        | zero => rw [impl_bestBars.loop, if_neg (by omega)] at H; exact H.symm
        | succ d => rw [impl_bestBars.loop, if_neg (by omega)] at H; exact H.symm
      subst hn
      clear cm HRES
      go_wp2_with fail
      go_ret
      exact ⟨rfl, _, _, HS.out.step (by repeat (first | (with_reducible first | exact Below.refl _ _ | apply below_alloc | apply pw_below_drewN | apply below_drew1) | exact Below.refl _ _))⟩
    have m1 : decide ((k : Int) < (most : Int)) = true := decide_eq_true (by omega)
    have m2 : decide (k < most) = true := decide_eq_true cm
    have CM := Aside0.mk cm
    clear cm
    go_upto_if 33 with (fail)
    go_cut [34] (fun v34 wc => ∃ (S1 : List Int) (u2 : Value), Aside0 (S1 = if k = S.length then S ++ [0] else S) ∧ Aside0 (impl_bestBars.BS w0 wc gP gS gQ (impl_bestBars.clo gP gX gS gM gB gQ) (.slice A1 P.length c1) u2 P S1))
    case first =>
      by_cases ce : k = S.length
      · have e1 : ((k : Int) == (S.length : Int)) = true := by rw [beq_iff_eq]; omega
        have e2 : (k == S.length) = true := by rw [beq_iff_eq]; exact ce
        have e3 : decide (k = S.length) = true := decide_eq_true ce
        have CE := Aside0.mk ce
        clear ce
        go_wp2_with (first | ((with_reducible refine gate_builtin (b := .append) (xs := #[.tmp 34, .tmp 35]) rfl ?_); at_builtin; refine Kd.R_append (Kd.int .i64) (w0 := w0) w0.heap.size rfl (.tmp 34) (.tmp 35) 22 3 (.int .i64 0) 8 rfl Tryd.underlying22 info3 rfl (by decide) (by omega) (.slice A2 S.length c2) S 0 [.int .i64 0] (fun k_ => some k_ ≠ (Value.slice A1 P.length c1).ownBlock) (fun _ => False) rfl rfl ?aP (fun _ hk => hk.elim) ?aF ?aO ?aB ?aS ?aL ?_; (case aP => exact rfl); (case aB => exact (HS.out.step (by repeat (first | (with_reducible first | exact Below.refl _ _ | apply below_alloc | apply pw_below_drewN | apply below_drew1) | exact Below.refl _ _))).below); (case aF => exact (HS.out.step (by repeat (first | (with_reducible first | exact Below.refl _ _ | apply below_alloc | apply pw_below_drewN | apply below_drew1) | exact Below.refl _ _))).fresh); (case aO => exact (HS.out.step (by repeat (first | (with_reducible first | exact Below.refl _ _ | apply below_alloc | apply pw_below_drewN | apply below_drew1) | exact Below.refl _ _))).r2); (case aS => exact (HS.out.step (by repeat (first | (with_reducible first | exact Below.refl _ _ | apply below_alloc | apply pw_below_drewN | apply below_drew1) | exact Below.refl _ _))).below.size); (case aL => have := HLE.out; have := HL.out; have := H0.out.ok.2.1; omega); intro v120 w15 ho hb hg hat; obtain ⟨A3, c3, e3⟩ := Kd.R_slice ho; rw [show (S ++ [(0 : Int)]).length = S.length + 1 by rw [List.length_append]; rfl] at e3; subst e3; have NB := Aside0.mk (impl_bestBars.BS.app (HS.out.step (by repeat (first | (with_reducible first | exact Below.refl _ _ | apply below_alloc | apply pw_below_drewN | apply below_drew1) | exact Below.refl _ _))).swap ho hb hg hat).swap; have y3 := impl_bestBars.cell0 (blk_grown (HS.out.step (by repeat (first | (with_reducible first | exact Below.refl _ _ | apply below_alloc | apply pw_below_drewN | apply below_drew1) | exact Below.refl _ _))).h2 hg ((HS.out.step (by repeat (first | (with_reducible first | exact Below.refl _ _ | apply below_alloc | apply pw_below_drewN | apply below_drew1) | exact Below.refl _ _))).swap.ne1 (HS.out.step (by repeat (first | (with_reducible first | exact Below.refl _ _ | apply below_alloc | apply pw_below_drewN | apply below_drew1) | exact Below.refl _ _))).h2 (by decide))); have y4 := blk_frozen (blk_grown (HS.out.step (by repeat (first | (with_reducible first | exact Below.refl _ _ | apply below_alloc | apply pw_below_drewN | apply below_drew1) | exact Below.refl _ _))).h2 hg ((HS.out.step (by repeat (first | (with_reducible first | exact Below.refl _ _ | apply below_alloc | apply pw_below_drewN | apply below_drew1) | exact Below.refl _ _))).swap.ne1 (HS.out.step (by repeat (first | (with_reducible first | exact Below.refl _ _ | apply below_alloc | apply pw_below_drewN | apply below_drew1) | exact Below.refl _ _))).h2 (by decide))) 0; clear x1 x3 x5 x6 ho hb hg hat))
        go_meet
        case rel => exact ⟨_, _, ⟨by rw [if_pos CE.out]⟩, ⟨NB.out.step (by repeat (first | (with_reducible first | exact Below.refl _ _ | apply below_alloc | apply pw_below_drewN | apply below_drew1) | exact Below.refl _ _))⟩⟩
      · have e1 : ((k : Int) == (S.length : Int)) = false := by rw [beq_eq_false_iff_ne]; omega
        have e2 : (k == S.length) = false := by rw [beq_eq_false_iff_ne]; exact ce
        have e3 : decide (k = S.length) = false := decide_eq_false ce
        have CE := Aside0.mk ce
        clear ce
        go_wp2
        go_meet
        case rel => exact ⟨_, _, ⟨by rw [if_neg CE.out]⟩, ⟨HS.out.step (by repeat (first | (with_reducible first | exact Below.refl _ _ | apply below_alloc | apply pw_below_drewN | apply below_drew1) | exact Below.refl _ _))⟩⟩
    case rest =>
    clear HS x1 x3 x5 x6 d1 d2 d3 d4
    obtain ⟨S1, u2, HS1, HS⟩ := hcut
    obtain ⟨nx, hst, hk1, hk2, hcase⟩ := impl_bestBars.loop_go HK.out CM.out HS1.out HPOS.out HRES.out
    obtain ⟨gs, cs, e2⟩ := HS.out.form2 (by omega)
    subst e2
    obtain ⟨hx, hf⟩ := HS.out.cell2 hk1
    obtain ⟨x, hxe⟩ : ∃ x, x = S1.getD k 0 := ⟨_, rfl⟩
    rw [← hxe] at hcase hx
    have hgo := impl_bestBars.stp_go hst
    rw [← hxe] at hgo
    have HX := Aside0.mk hxe
    have HCASE := Aside0.mk hcase
    have hx0 : 0 ≤ x ∧ x ≤ 1000 := by
      have := H0.out.ok.1
      rcases hcase with h | h
      · omega
      · omega
    have HX0 := Aside0.mk hx0
    have HK1 := Aside0.mk hk1
    have HK2 := Aside0.mk hk2
    have hlen8 : S1.length ≤ 9 ∧ P.length ≤ 8 := by have := H0.out.ok.2.1; have := HLE.out; have := HL.out; omega
    have HL8 := Aside0.mk hlen8
    have s1 : IntKind.i64.wrap (x + p) = x + p := by have := HPP.out; have := H0.out.ok.1; rw [i64_w]; unfold wrap64; omega
    have s2 : wrap64 (x + p) = x + p := by have := HPP.out; have := H0.out.ok.1; unfold wrap64; omega
    have i1 : ((k : Int) < (S1.length : Int)) = True := eq_true (by omega)
    have i2 : (k < S1.length) = True := eq_true hk1
    have i3 : (0 ≤ (k : Int)) = True := eq_true (by omega)
    have x1 := impl_bestBars.cell0 HS.out.h1
    have x3 := impl_bestBars.cell0 HS.out.h2
    have x5 := impl_bestBars.old H0.out.hM HS.out.below
    have x6 := impl_bestBars.old H0.out.hB HS.out.below
    clear hst hcase hxe hx0 hk1 hk2 hlen8 HRES HS1
    rcases hgo with ⟨c1_, hgo⟩ | ⟨c1_, hgo⟩
    · have c2_ : decide (x + p ≤ bar) = true := decide_eq_true c1_
      have HGO := Aside0.mk hgo
      have HC1 := Aside0.mk c1_
      clear hgo c1_
      go_wp2_with fail
      go_quiet (fail)
      go_upto_region 11 with (fail)
      have HS2 := Aside0.mk ((HS.out.step (pw_below_drewN (Below.refl _ _) nq)).put k (x + p))
      generalize ((wc.drewN nq).setCell ⟨gs, k, none⟩ (.int .i64 (x + p))) = w2 at HS2 ⊢
      clear HS x1 x3 x5 x6 hx hf
      have x1 := impl_bestBars.cell0 HS2.out.h1
      go_upto_region 12 with (first | ((with_reducible refine gate_builtin (b := .append) (xs := #[.tmp 52, .tmp 54]) rfl ?_); at_builtin; refine Kd.R_append (Kd.int .i64) (w0 := w0) w0.heap.size rfl (.tmp 52) (.tmp 54) 22 3 (.int .i64 0) 8 rfl Tryd.underlying22 info3 rfl (by decide) (by omega) (.slice A1 P.length c1) P (k : Int) [.int .i64 (k : Int)] (fun k_ => some k_ ≠ (Value.slice (some ⟨gs, 0, none⟩) S1.length cs).ownBlock) (fun _ => False) rfl rfl ?bP (fun _ hk => hk.elim) ?bF ?bO ?bB ?bS ?bL ?_; (case bP => exact rfl); (case bB => exact (HS2.out.step (by repeat (first | (with_reducible first | exact Below.refl _ _ | apply below_alloc | apply pw_below_drewN | apply below_drew1) | exact Below.refl _ _))).below); (case bF => exact (HS2.out.step (by repeat (first | (with_reducible first | exact Below.refl _ _ | apply below_alloc | apply pw_below_drewN | apply below_drew1) | exact Below.refl _ _))).swap.fresh); (case bO => exact (HS2.out.step (by repeat (first | (with_reducible first | exact Below.refl _ _ | apply below_alloc | apply pw_below_drewN | apply below_drew1) | exact Below.refl _ _))).r1); (case bS => exact (HS2.out.step (by repeat (first | (with_reducible first | exact Below.refl _ _ | apply below_alloc | apply pw_below_drewN | apply below_drew1) | exact Below.refl _ _))).below.size); (case bL => have := HL8.out; omega); intro v120 w15 ho hb hg hat; obtain ⟨A3, c3, e3⟩ := Kd.R_slice ho; rw [show (P ++ [(k : Int)]).length = P.length + 1 by rw [List.length_append]; rfl] at e3; subst e3; have NB := Aside0.mk (impl_bestBars.BS.app (HS2.out.step (by repeat (first | (with_reducible first | exact Below.refl _ _ | apply below_alloc | apply pw_below_drewN | apply below_drew1) | exact Below.refl _ _))) ho hb hg hat); have y3 := impl_bestBars.cell0 (blk_grown (HS2.out.step (by repeat (first | (with_reducible first | exact Below.refl _ _ | apply below_alloc | apply pw_below_drewN | apply below_drew1) | exact Below.refl _ _))).h1 hg ((HS2.out.step (by repeat (first | (with_reducible first | exact Below.refl _ _ | apply below_alloc | apply pw_below_drewN | apply below_drew1) | exact Below.refl _ _))).ne1 (HS2.out.step (by repeat (first | (with_reducible first | exact Below.refl _ _ | apply below_alloc | apply pw_below_drewN | apply below_drew1) | exact Below.refl _ _))).h1 (by decide))); have y4 := blk_frozen (blk_grown (HS2.out.step (by repeat (first | (with_reducible first | exact Below.refl _ _ | apply below_alloc | apply pw_below_drewN | apply below_drew1) | exact Below.refl _ _))).h1 hg ((HS2.out.step (by repeat (first | (with_reducible first | exact Below.refl _ _ | apply below_alloc | apply pw_below_drewN | apply below_drew1) | exact Below.refl _ _))).ne1 (HS2.out.step (by repeat (first | (with_reducible first | exact Below.refl _ _ | apply below_alloc | apply pw_below_drewN | apply below_drew1) | exact Below.refl _ _))).h1 (by decide))) 0; clear x1 ho hb hg hat))
      clear y3 y4 HS2
      generalize (w15.setCell ⟨gP, 0, none⟩ (.slice A3 (P.length + 1) c3)) = w3 at NB ⊢
      have x7 := impl_bestBars.cell0 NB.out.hq
      have HPOS2 : Aside0 (∀ y ∈ S1.set k (x + p), 1 ≤ y ∧ y ≤ bar) := ⟨impl_bestBars.pos2 HPOS.out HK1.out HK2.out (by have := HX0.out; have := HPP.out; have := HC1.out; omega) (by rcases HCASE.out with h | h; exact .inl h.2.2; exact .inr h.2.1)⟩
      rcases HGO.out with ⟨r, hr, hres⟩ | ⟨hr, hres⟩
      · subst hres
        have HRR := Aside0.mk hr
        clear hr
        go_wp2_with (first | (go_at_call 85; (with_reducible refine (IH.out (P ++ [(k : Int)]) (S1.set k (x + p)) (.slice A3 (P.length + 1) c3) (.slice (some ⟨gs, 0, none⟩) S1.length cs) _ ?cS ?cD ?cL HPOS2.out ?cQ).mono ?_); (case cS => exact NB.out.step (by repeat (first | (with_reducible first | exact Below.refl _ _ | apply below_alloc | apply pw_below_drewN | apply below_drew1) | exact Below.refl _ _))); (case cD => rw [List.length_append, List.length_singleton]; exact HD.out); (case cL => rw [List.length_append, List.length_singleton]; exact HL.out); (case cQ => have := HK2.out; have := HLE.out; rw [List.length_append, List.length_singleton, List.length_set]; omega); rintro e w4 hp; rw [HRR.out] at hp; obtain ⟨rfl, v1a, v2a, Sa, hB⟩ := hp; have HBB := Aside0.mk hB; clear hB))
        go_ret
        exact ⟨rfl, v1a, v2a, Sa, HBB.out.step (by repeat (first | (with_reducible first | exact Below.refl _ _ | apply below_alloc | apply pw_below_drewN | apply below_drew1) | exact Below.refl _ _))⟩
      · have HRR := Aside0.mk hr
        have HRE := Aside0.mk hres
        clear hr hres
        go_upto_region 14 with (first | (go_at_call 85; (with_reducible refine (IH.out (P ++ [(k : Int)]) (S1.set k (x + p)) (.slice A3 (P.length + 1) c3) (.slice (some ⟨gs, 0, none⟩) S1.length cs) _ ?dS ?dD ?dL HPOS2.out ?dQ).mono ?_); (case dS => exact NB.out.step (by repeat (first | (with_reducible first | exact Below.refl _ _ | apply below_alloc | apply pw_below_drewN | apply below_drew1) | exact Below.refl _ _))); (case dD => rw [List.length_append, List.length_singleton]; exact HD.out); (case dL => rw [List.length_append, List.length_singleton]; exact HL.out); (case dQ => have := HK2.out; have := HLE.out; rw [List.length_append, List.length_singleton, List.length_set]; omega); rintro e w4 hp; rw [HRR.out] at hp; obtain ⟨rfl, v1a, v2a, hB⟩ := hp; have HBB := Aside0.mk hB; clear hB))
        have hB := HBB.out
        obtain ⟨gp2, cp2, ev1⟩ := hB.swap.form2 (by rw [List.length_append, List.length_singleton]; omega)
        obtain ⟨gs2, cs2, ev2⟩ := hB.form2 (by rw [List.length_set]; have := HK1.out; omega)
        rw [List.length_append, List.length_singleton] at ev1
        rw [List.length_set] at ev2
        subst ev1
        subst ev2
        have z1 := impl_bestBars.cell0 hB.h1
        have z2 := blk_frozen hB.h1 0
        have z3 := impl_bestBars.cutRun (some ⟨gp2, 0, none⟩) (P.length + 1) P.length cp2 (by omega) (Kd.R_reads' hB.r1).2.1
        have z4 : IntKind.i64.wrap (((P.length + 1 : Nat) : Int) - 1) = (P.length : Int) := by have := HL8.out; rw [i64_w]; unfold wrap64; omega
        have z5 : IntKind.i64.wrap ((P.length : Int) + 1 - 1) = (P.length : Int) := by have := HL8.out; rw [i64_w]; unfold wrap64; omega
        have z6 : IntKind.i64.wrap (P.length : Int) = (P.length : Int) := by have := HL8.out; rw [i64_w]; unfold wrap64; omega
        have z7 : (P.length ≤ P.length + 1) = True := eq_true (by omega)
        clear hB x7
        go_upto_region 15 with (fail)
        have HB5 := Aside0.mk ((HBB.out.step (by repeat (first | (with_reducible first | exact Below.refl _ _ | apply below_alloc | apply pw_below_drewN | apply below_drew1) | exact Below.refl _ _))).cut (m := P.length) (by rw [List.length_append]; omega) (by simp))
        rw [List.take_left] at HB5
        generalize (w4.setCell ⟨gP, 0, none⟩ (.slice (some ⟨gp2, 0, none⟩) P.length cp2)) = w5 at HB5 ⊢
        clear HBB NB z1 z2 z3 z4 z5 z6 z7
        obtain ⟨hx, hf⟩ := HB5.out.cell2 HK1.out
        rw [show (S1.set k (x + p)).getD k 0 = x + p by rw [List.getD_eq_getElem?_getD, List.getElem?_set_self HK1.out]; rfl] at hx
        have x3 := impl_bestBars.cell0 HB5.out.h2
        have s3 : IntKind.i64.wrap (x + p - p) = x := by have := HX0.out; rw [i64_w]; unfold wrap64; omega
        have s4 : IntKind.i64.wrap x = x := by have := HX0.out; rw [i64_w]; unfold wrap64; omega
        go_upto_region 16 with (fail)
        have HT := Aside0.mk ((HB5.out.step (by repeat (first | (with_reducible first | exact Below.refl _ _ | apply below_alloc | apply pw_below_drewN | apply below_drew1) | exact Below.refl _ _))).put k x)
        rw [List.set_set, show S1.set k x = S1 by rw [HX.out, List.getD_eq_getElem?_getD, List.getElem?_eq_getElem HK1.out]; exact List.set_getElem_self ..] at HT
        generalize (w5.setCell ⟨gs2, k, none⟩ (.int .i64 x)) = w6 at HT ⊢
        clear HB5 hx hf x3
        obtain ⟨hx, hf⟩ := HT.out.cell2 HK1.out
        rw [← HX.out] at hx
        have x3 := impl_bestBars.cell0 HT.out.h2
        have xf := blk_frozen HT.out.h2 0
        rcases HCASE.out with ⟨hx0, hn, ht⟩ | ⟨hx0, hn, d, hd, hnx⟩
        · have c3 : (x == 0) = true := by rw [beq_iff_eq]; exact hx0
          have hr0 : res = none := HRE.out.trans hn
          have z3 := impl_bestBars.cutRun (some ⟨gs2, 0, none⟩) S1.length k cs2 (by have := HK1.out; omega) (Kd.R_reads' HT.out.r2).2.1
          have z7 : (k ≤ S1.length) = True := eq_true (by have := HK1.out; omega)
          have HTK := Aside0.mk ht
          clear hx0 hn ht HRE HCASE
          subst hr0
          go_wp2_with fail
          go_ret
          have HC := ((HT.out.step (by repeat (first | (with_reducible first | exact Below.refl _ _ | apply below_alloc | apply pw_below_drewN | apply below_drew1) | exact Below.refl _ _))).swap.cut (m := k) (by have := HK1.out; omega) (by simp)).swap
          rw [HTK.out] at HC
          exact ⟨rfl, _, _, HC.step (by repeat (first | (with_reducible first | exact Below.refl _ _ | apply below_alloc | apply pw_below_drewN | apply below_drew1) | exact Below.refl _ _))⟩
        · have c3 : (x == 0) = false := by rw [beq_eq_false_iff_ne]; omega
          have HNX := Aside0.mk hnx
          have HDD := Aside0.mk hd
          have HS1E := Aside0.mk hn
          have iwA := Aside0.mk (show wrap64 ((k : Int) + 1) = ((k + 1 : Nat) : Int) by have := HK1.out; have := HL8.out; unfold wrap64; omega)
          have iwB := iwA.out
          have iwC : IntKind.i64.wrap ((k : Int) + 1) = ((k + 1 : Nat) : Int) := (i64_w _).trans iwA.out
          clear hx0 hn hd hnx HCASE
          go_wp2_with fail
          go_roundg d
          case measure => have := HDD.out; omega
          case rel => exact ⟨k + 1, _, _, (by first | rfl | rw [iwA.out]), ⟨by have := HK.out; have := HDD.out; omega⟩, ⟨by rw [← HNX.out]; exact HRE.out.symm⟩, ⟨by have h := HT.out.step (by repeat (first | (with_reducible first | exact Below.refl _ _ | apply below_alloc | apply pw_below_drewN | apply below_drew1) | exact Below.refl _ _)); rw [HS1E.out] at h; exact h⟩⟩
    · have c2_ : decide (x + p ≤ bar) = false := decide_eq_false c1_
      have HRE := Aside0.mk hgo
      have HT := HS
      clear hgo c1_ HS
      go_wp2_with fail
      go_quiet (fail)
      go_upto_region 16 with (fail)
      have HT2 := Aside0.mk (HT.out.step (pw_below_drewN (Below.refl _ _) nq))
      generalize (wc.drewN nq) = w6 at HT2 ⊢
      clear HT x1 x3 hx hf x5 x6
      have HT := HT2
      clear HT2
      obtain ⟨hx, hf⟩ := HT.out.cell2 HK1.out
      rw [← HX.out] at hx
      have x3 := impl_bestBars.cell0 HT.out.h2
      have xf := blk_frozen HT.out.h2 0
      rcases HCASE.out with ⟨hx0, hn, ht⟩ | ⟨hx0, hn, d, hd, hnx⟩
      · have c3 : (x == 0) = true := by rw [beq_iff_eq]; exact hx0
        have hr0 : res = none := HRE.out.trans hn
        have z3 := impl_bestBars.cutRun (some ⟨gs, 0, none⟩) S1.length k cs (by have := HK1.out; omega) (Kd.R_reads' HT.out.r2).2.1
        have z7 : (k ≤ S1.length) = True := eq_true (by have := HK1.out; omega)
        have HTK := Aside0.mk ht
        clear hx0 hn ht HRE HCASE
        subst hr0
        go_wp2_with fail
        go_ret
        have HC := ((HT.out.step (by repeat (first | (with_reducible first | exact Below.refl _ _ | apply below_alloc | apply pw_below_drewN | apply below_drew1) | exact Below.refl _ _))).swap.cut (m := k) (by have := HK1.out; omega) (by simp)).swap
        rw [HTK.out] at HC
        exact ⟨rfl, _, _, HC.step (by repeat (first | (with_reducible first | exact Below.refl _ _ | apply below_alloc | apply pw_below_drewN | apply below_drew1) | exact Below.refl _ _))⟩
      · have c3 : (x == 0) = false := by rw [beq_eq_false_iff_ne]; omega
        have HNX := Aside0.mk hnx
        have HDD := Aside0.mk hd
        have HS1E := Aside0.mk hn
        have iwA := Aside0.mk (show wrap64 ((k : Int) + 1) = ((k + 1 : Nat) : Int) by have := HK1.out; have := HL8.out; unfold wrap64; omega)
        have iwB := iwA.out
        have iwC : IntKind.i64.wrap ((k : Int) + 1) = ((k + 1 : Nat) : Int) := (i64_w _).trans iwA.out
        clear hx0 hn hd hnx HCASE
        go_wp2_with fail
        go_roundg d
        case measure => have := HDD.out; omega
        case rel => exact ⟨k + 1, _, _, (by first | rfl | rw [iwA.out]), ⟨by have := HK.out; have := HDD.out; omega⟩, ⟨by rw [← HNX.out]; exact HRE.out.symm⟩, ⟨by have h := HT.out.step (by repeat (first | (with_reducible first | exact Below.refl _ _ | apply below_alloc | apply pw_below_drewN | apply below_drew1) | exact Below.refl _ _)); rw [HS1E.out] at h; exact h⟩⟩
theorem impl_bestBars.store_func (W : World) (g : Nat) (fn : Fn) (x y : Array Value) (o : Value) (t : TypeId) (h : W.heap[g]? = some (.cells #[o] t (0, 0))) : Sem.run Tryd.prog (store ⟨g, 0, none⟩ (.func fn x y)) W = .ok () (W.setCell ⟨g, 0, none⟩ (.func fn x y)) := by
  have hc : W.cell? ⟨g, 0, none⟩ = some o := (blk_cell h 0).trans rfl
  have hf := blk_frozen h 0
  rw [run_store Tryd.prog W _ _ _ rfl, hc]
  simp [hf]
theorem impl_bestBars.put_calls (w0 : World) (gP gX gS gM gB gQ : Nat) (A : Option Addr) (c : Nat) (xs : List Int) (bar : Int) (most : Nat) (h0 : impl_bestBars.B0 w0 gX gM gB A c xs bar most) : ∀ ps, impl_bestBars.CallsAt w0 gP gX gS gM gB gQ bar most xs ps
  | [] => impl_bestBars.base w0 gP gX gS gM gB gQ A c xs bar most h0
  | p :: ps => impl_bestBars.step w0 gP gX gS gM gB gQ A c xs bar most h0 p ps (impl_bestBars.put_calls w0 gP gX gS gM gB gQ A c xs bar most h0 ps)
set_option maxHeartbeats 16000000 in
set_option maxRecDepth 100000 in
theorem impl_bestBars.calls (a0 : Int) (A0 : Option Addr) (c0 : Nat) (l0 : List Int) (r : List Int) (w : World) (hr0 : Kd.C (Kd.int .i64) w A0 l0.length l0) (hc0 : l0.length ≤ c0) (h : impl_bestBars.f a0 l0 = some r) :
    Calls Tryd.prog 53 #[.int .i64 a0, .slice A0 l0.length c0] w fun e w' => ∃ v0_ : Value, e = .returned (v0_) ∧ Kd.R (Kd.int .i64) 3 w' w.heap.size (fun _ => True) v0_ r ∧ Below w.heap.size w w' := by
  unfold impl_bestBars.f at h
  by_cases hk : impl_bestBars.ok a0 l0 = true
  case neg => rw [if_neg hk] at h; cases h
  rw [if_pos hk] at h
  have hok : (1 ≤ a0 ∧ a0 ≤ 1000) ∧ l0.length ≤ 8 ∧ ∀ x ∈ l0, 1 ≤ x ∧ x ≤ a0 := by
    unfold impl_bestBars.ok at hk
    simp only [Bool.and_eq_true, decide_eq_true_eq, List.all_eq_true] at hk
    exact ⟨hk.1, hk.2.1, hk.2.2⟩
  have HOK := Aside0.mk hok
  have HR := Aside0.mk hr0
  have HG := Aside0.mk h
  clear hk hok hr0 hc0 h
  go_enter Tryd.func53, Tryd.ntmps53
  go_upto_region 1 with (fail)
  have KB : Aside0 (((w.alloc (.cells #[.int .i64 a0] 3)).alloc (.cells #[.slice A0 l0.length c0] 22)).heap[w.heap.size]? = some (.cells #[.int .i64 a0] 3 (0, 0))) := ⟨blk_below (blk_new w _) (below_alloc (Below.refl _ _) _)⟩
  have KX : Aside0 (((w.alloc (.cells #[.int .i64 a0] 3)).alloc (.cells #[.slice A0 l0.length c0] 22)).heap[w.heap.size + 1]? = some (.cells #[.slice A0 l0.length c0] 22 (0, 0))) := ⟨by have := blk_new (w.alloc (.cells #[.int .i64 a0] 3)) (.cells #[.slice A0 l0.length c0] 22); simpa using this⟩
  have KW : Aside0 (Below w.heap.size w ((w.alloc (.cells #[.int .i64 a0] 3)).alloc (.cells #[.slice A0 l0.length c0] 22))) := ⟨below_alloc (below_alloc (Below.refl _ _) _) _⟩
  generalize ((w.alloc (.cells #[.int .i64 a0] 3)).alloc (.cells #[.slice A0 l0.length c0] 22)) = W1 at KB KX KW ⊢
  have KN := Aside0.mk KW.out.size
  generalize hgx : w.heap.size + 1 = gX at KX ⊢
  generalize hgb : w.heap.size = gB at KB ⊢
  go_wp2_with fail
  go_loopg [5] (l0.length + 1) (fun kq v5 w' => ∃ (gM m : Nat), v5 = .pointer (some ⟨gM, 0, none⟩) ∧ Aside0 (w'.heap[gM]? = some (.cells #[.int .i64 (m : Int)] 3 (0, 0))) ∧ Aside0 (m + kq = l0.length + 1) ∧ Aside0 (impl_bestBars.go a0 l0 m kq = some r) ∧ Aside0 (Below W1.heap.size W1 w'))
  case atStart => exact ⟨_, 0, rfl, ⟨blk_new W1 _⟩, ⟨by omega⟩, HG, ⟨below_alloc (Below.refl _ _) _⟩⟩
  case round =>
    clear HG
    obtain ⟨gM, m, rfl, KM, HM, HG, HB⟩ := hrel
    obtain ⟨d, hd⟩ : ∃ d, gk = d + 1 := by
      have H := HG.out
      cases gk with
      | zero => rw [impl_bestBars.go] at H; cases H
      | succ d => exact ⟨d, rfl⟩
    have HD := Aside0.mk hd
    have hG := HG.out
    rw [hd, impl_bestBars.go] at hG
    have HG2 := Aside0.mk hG
    clear hG HG hd
    go_upto_region 4 with (fail)
    obtain ⟨W4, hW4⟩ : ∃ W4, W4 = ((((wr.alloc (.cells #[] 3)).alloc (.cells #[] 3)).alloc (.cells #[.slice (some ⟨wr.heap.size, 0, none⟩) 0 0] 22)).alloc (.cells #[.slice (some ⟨wr.heap.size + 1, 0, none⟩) 0 0] 22)) := ⟨_, rfl⟩
    have q5 : Below wr.heap.size wr W4 := by rw [hW4]; exact below_alloc (below_alloc (below_alloc (below_alloc (Below.refl _ _) _) _) _) _
    have q1 : W4.heap[wr.heap.size + 1 + 1]? = some (.cells #[.slice (some ⟨wr.heap.size, 0, none⟩) 0 0] 22 (0, 0)) := by
      rw [hW4]; refine blk_below ?_ (below_alloc (Below.refl _ _) _)
      have := blk_new ((wr.alloc (.cells #[] 3)).alloc (.cells #[] 3)) (.cells #[.slice (some ⟨wr.heap.size, 0, none⟩) 0 0] 22); simpa using this
    have q2 : W4.heap[wr.heap.size + 1 + 1 + 1]? = some (.cells #[.slice (some ⟨wr.heap.size + 1, 0, none⟩) 0 0] 22 (0, 0)) := by
      rw [hW4]
      have := blk_new (((wr.alloc (.cells #[] 3)).alloc (.cells #[] 3)).alloc (.cells #[.slice (some ⟨wr.heap.size, 0, none⟩) 0 0] 22)) (.cells #[.slice (some ⟨wr.heap.size + 1, 0, none⟩) 0 0] 22); simpa using this
    have q3 : W4.heap[wr.heap.size]? = some (.cells #[] 3 (0, 0)) := by
      rw [hW4]; exact blk_below (blk_below (blk_below (blk_new wr _) (below_alloc (Below.refl _ _) _)) (below_alloc (Below.refl _ _) _)) (below_alloc (Below.refl _ _) _)
    have q4 : W4.heap[wr.heap.size + 1]? = some (.cells #[] 3 (0, 0)) := by
      rw [hW4]; refine blk_below (blk_below ?_ (below_alloc (Below.refl _ _) _)) (below_alloc (Below.refl _ _) _)
      have := blk_new (wr.alloc (.cells #[] 3)) (.cells #[] 3); simpa using this
    rw [← hW4]
    have hBS : impl_bestBars.BS wr (W4.alloc (.cells #[(.func (.func 85) #[] #[.pointer (some ⟨wr.heap.size + 1 + 1, 0, none⟩), .pointer (some ⟨gX, 0, none⟩), .pointer (some ⟨wr.heap.size + 1 + 1 + 1, 0, none⟩), .pointer (some ⟨gM, 0, none⟩), .pointer (some ⟨gB, 0, none⟩), .pointer (some ⟨W4.heap.size, 0, none⟩)])] 88)) (wr.heap.size + 1 + 1) (wr.heap.size + 1 + 1 + 1) W4.heap.size (impl_bestBars.clo (wr.heap.size + 1 + 1) gX (wr.heap.size + 1 + 1 + 1) gM gB W4.heap.size) (.slice (some ⟨wr.heap.size, 0, none⟩) 0 0) (.slice (some ⟨wr.heap.size + 1, 0, none⟩) 0 0) [] [] := by
      have hb := below_alloc (Below.refl W4.heap.size W4) (.cells #[(.func (.func 85) #[] #[.pointer (some ⟨wr.heap.size + 1 + 1, 0, none⟩), .pointer (some ⟨gX, 0, none⟩), .pointer (some ⟨wr.heap.size + 1 + 1 + 1, 0, none⟩), .pointer (some ⟨gM, 0, none⟩), .pointer (some ⟨gB, 0, none⟩), .pointer (some ⟨W4.heap.size, 0, none⟩)])] 88)
      refine ⟨blk_below q1 hb, blk_below q2 hb, blk_new W4 _, by omega, Kd.R_of_own ⟨rfl, .inr ⟨wr.heap.size, 0, #[], rfl, Nat.le_refl _, blk_below q3 hb, Nat.le_refl _, Nat.zero_le _, rfl, rfl⟩⟩ ?_, Kd.R_of_own ⟨rfl, .inr ⟨wr.heap.size + 1, 0, #[], rfl, by omega, blk_below q4 hb, Nat.le_refl _, Nat.zero_le _, rfl, rfl⟩⟩ ?_, below_step q5 hb, by omega, by omega⟩
      · intro k hk e; simp [Value.ownBlock] at hk e; omega
      · intro k hk e; simp [Value.ownBlock] at hk e; omega
    have HBS := Aside0.mk hBS
    have h0 : impl_bestBars.B0 wr gX gM gB A0 c0 l0 a0 m := ⟨blk_below KX.out HB.out, KM.out, blk_below KB.out HB.out, Kd.C_below (Kd.C_below HR.out KW.out) HB.out, HOK.out.1, HOK.out.2.1, by have := HM.out; have := HD.out; have := HOK.out.2.1; omega, HOK.out.2.2⟩
    have H0 := Aside0.mk h0
    have hs8 := impl_bestBars.store_func (W4.alloc (.cells #[Value.nilFunc] 88)) W4.heap.size (.func 85) #[] #[.pointer (some ⟨wr.heap.size + 1 + 1, 0, none⟩), .pointer (some ⟨gX, 0, none⟩), .pointer (some ⟨wr.heap.size + 1 + 1 + 1, 0, none⟩), .pointer (some ⟨gM, 0, none⟩), .pointer (some ⟨gB, 0, none⟩), .pointer (some ⟨W4.heap.size, 0, none⟩)] Value.nilFunc 88 (blk_new W4 _)
    clear hBS h0 q1 q2 q3 q4 q5 hW4
    go_upto_region 6 with (fail)
    generalize (W4.alloc (.cells #[(.func (.func 85) #[] #[.pointer (some ⟨wr.heap.size + 1 + 1, 0, none⟩), .pointer (some ⟨gX, 0, none⟩), .pointer (some ⟨wr.heap.size + 1 + 1 + 1, 0, none⟩), .pointer (some ⟨gM, 0, none⟩), .pointer (some ⟨gB, 0, none⟩), .pointer (some ⟨W4.heap.size, 0, none⟩)])] 88)) = W5 at HBS ⊢
    clear hs8
    have x7 := impl_bestBars.cell0 HBS.out.hq
    cases hput : impl_bestBars.put a0 m l0 [] [] with
    | some r1 =>
      have HP := Aside0.mk hput
      have hG := HG2.out
      rw [hput] at hG
      obtain rfl := Option.some.inj hG
      clear hput hG HG2
      go_wp2_with (first | (go_at_call 85; (with_reducible refine (impl_bestBars.put_calls wr (wr.heap.size + 1 + 1) gX (wr.heap.size + 1 + 1 + 1) gM gB W4.heap.size A0 c0 l0 a0 m H0.out l0 [] [] (.slice (some ⟨wr.heap.size, 0, none⟩) 0 0) (.slice (some ⟨wr.heap.size + 1, 0, none⟩) 0 0) _ ?eS rfl (Nat.zero_le _) (fun _ hx => absurd hx List.not_mem_nil) (Nat.le_refl _)).mono ?_); (case eS => exact HBS.out.step (by repeat (first | (with_reducible first | exact Below.refl _ _ | apply below_alloc | apply pw_below_drewN | apply below_drew1) | exact Below.refl _ _))); rintro e w4 hp; rw [HP.out] at hp; obtain ⟨rfl, v1a, v2a, Sa, hB⟩ := hp; obtain ⟨A5, c5, e5⟩ := Kd.R_slice hB.r1; subst e5; have HBB := Aside0.mk hB; have y1 := impl_bestBars.cell0 hB.h1; clear hB))
      go_ret
      exact ⟨_, rfl, Kd.R_mono (Kd.R_lower (HBB.out.step (by repeat (first | (with_reducible first | exact Below.refl _ _ | apply below_alloc | apply pw_below_drewN | apply below_drew1) | exact Below.refl _ _))).r1 (by have := KN.out; have := HB.out.size; omega)) (fun _ _ => trivial), below_step (below_step KW.out HB.out) (HBB.out.step (by repeat (first | (with_reducible first | exact Below.refl _ _ | apply below_alloc | apply pw_below_drewN | apply below_drew1) | exact Below.refl _ _))).below⟩
    | none =>
      have HP := Aside0.mk hput
      have hG := HG2.out
      rw [hput] at hG
      have HG3 := Aside0.mk hG
      clear hput hG HG2
      go_upto_region 8 with (first | (go_at_call 85; (with_reducible refine (impl_bestBars.put_calls wr (wr.heap.size + 1 + 1) gX (wr.heap.size + 1 + 1 + 1) gM gB W4.heap.size A0 c0 l0 a0 m H0.out l0 [] [] (.slice (some ⟨wr.heap.size, 0, none⟩) 0 0) (.slice (some ⟨wr.heap.size + 1, 0, none⟩) 0 0) _ ?eS rfl (Nat.zero_le _) (fun _ hx => absurd hx List.not_mem_nil) (Nat.le_refl _)).mono ?_); (case eS => exact HBS.out.step (by repeat (first | (with_reducible first | exact Below.refl _ _ | apply below_alloc | apply pw_below_drewN | apply below_drew1) | exact Below.refl _ _))); rintro e w4 hp; rw [HP.out] at hp; obtain ⟨rfl, v1a, v2a, hB⟩ := hp; have HBB := Aside0.mk hB; clear hB))
      have x5 := impl_bestBars.old KM.out HBB.out.below
      have iwC : IntKind.i64.wrap ((m : Int) + 1) = ((m + 1 : Nat) : Int) := by have := HM.out; have := HOK.out.2.1; rw [i64_w]; unfold wrap64; omega
      have HBW := Aside0.mk (below_step HB.out HBB.out.below)
      clear HBB x7 HBS H0
      go_wp2_with fail
      go_roundg d
      case measure => have := HD.out; omega
      case rel => exact ⟨_, m + 1, rfl, ⟨by first | exact blk_new w4 _ | (simp; done) | exact blk_new _ _⟩, ⟨by have := HM.out; have := HD.out; omega⟩, HG3, ⟨below_step HBW.out (by repeat (first | (with_reducible first | exact Below.refl _ _ | apply below_alloc | apply pw_below_drewN | apply below_drew1) | exact Below.refl _ _))⟩⟩

/-! ### impl_BestBars: function 28 -/
def impl_BestBars.f (a0 : Int) (l1 : List Int) : Option (List Int × Bool) := (impl_BarsOk.f a0 l1).bind fun t181 => (if t181 = true then ((impl_bestBars.f a0 l1).bind fun t182 => (some (t182, true))) else (some (([] : List Int), false)))
set_option maxHeartbeats 8000000 in
set_option maxRecDepth 100000 in
theorem impl_BestBars.calls (a0 : Int) (A1 : Option Addr) (c1 : Nat) (l1 : List Int) (r1 : List Int) (r2 : Bool) (w : World) (hr1 : Kd.C (Kd.int .i64) w A1 l1.length l1) (hc1 : l1.length ≤ c1) (h : impl_BestBars.f a0 l1 = some (r1, r2)) :
    Calls Tryd.prog 28 #[.int .i64 a0, .slice A1 l1.length c1] w fun e w' => ∃ v0_ : Value, e = .returned (.tuple #[v0_, .bool r2]) ∧ Kd.R (Kd.int .i64) 3 w' w.heap.size (fun _ => True) v0_ r1 ∧ Below w.heap.size w w' := by
  have HR1 := Aside0.mk hr1
  have HC1 := Aside0.mk hc1
  clear hr1 hc1
  have HB := Aside0.mk (Below.refl w.heap.size w)
  have H : ((impl_BarsOk.f a0 l1).bind fun t181 => (if t181 = true then ((impl_bestBars.f a0 l1).bind fun t182 => (some (t182, true))) else (some (([] : List Int), false)))) = some (r1, r2) := h
  clear h
  replace H := Option.bind_eq_some_iff.mp H
  obtain ⟨t181, A30, H⟩ := H
  replace H : (if t181 = true then ((impl_bestBars.f a0 l1).bind fun t182 => (some (t182, true))) else (some (([] : List Int), false))) = some (r1, r2) := H
  have A3 := Aside0.mk A30
  clear A30
  by_cases c4 : t181 = true
  · subst c4
    have H1 : ((impl_bestBars.f a0 l1).bind fun t182 => (some (t182, true))) = some (r1, r2) := by rw [if_pos rfl] at H; exact H
    clear H
    have H := H1
    clear H1
    replace H := Option.bind_eq_some_iff.mp H
    obtain ⟨t182, A50, H⟩ := H
    replace H : (some (t182, true)) = some (r1, r2) := H
    have A5 := Aside0.mk A50
    clear A50
    simp only [Option.some.injEq, Prod.mk.injEq] at H
    obtain ⟨rfl, rfl⟩ := H
    go_enter Tryd.func28, Tryd.ntmps28
    go_wp2_with (first | ((with_reducible refine gate_callee (f := 52) rfl ?_); refine goesL_ (some 8) rfl rfl Tryd.func52 (by kernel_rfl) rfl #[.int .i64 a0, .slice A1 l1.length c1] rfl (by (try simp only [List.map_toArray, List.map_cons, List.map_nil]); first | done | rfl | (simp only [List.length_drop, List.length_take]; rfl)) ?_; (with_reducible refine (impl_BarsOk.calls a0 _ _ l1 true _ ?side1 ?side2 A3.out).mono ?_); (case side1 => repeat (first | exact HR1.out | (with_reducible refine Kd.C_alloc ?_ _) | (with_reducible refine Kd.C_drewN ?_ _) | (with_reducible refine Kd.C_drew ?_))); (case side2 => exact HC1.out); rintro e w6 ⟨rfl, hb⟩; refine ⟨_, rfl, ?_⟩; have n0_ := Aside0.mk (below_step (by repeat (first | (with_reducible first | exact HB.out | apply below_alloc | apply pw_below_drewN | apply below_drew1) | exact HB.out)) hb); clear HB; have HB := n0_; clear n0_; (try clear hb); (try clear hb2); (try clear hk); (try clear hi)) | ((with_reducible refine gate_callee (f := 53) rfl ?_); refine goesL_ (some 12) rfl rfl Tryd.func53 (by kernel_rfl) rfl #[.int .i64 a0, .slice A1 l1.length c1] rfl (by (try simp only [List.map_toArray, List.map_cons, List.map_nil]); first | done | rfl | (simp only [List.length_drop, List.length_take]; rfl)) ?_; (with_reducible refine (impl_bestBars.calls a0 _ _ l1 t182 _ ?side1 ?side2 A5.out).mono ?_); (case side1 => repeat (first | exact (Kd.C_below HR1.out HB.out) | (with_reducible refine Kd.C_alloc ?_ _) | (with_reducible refine Kd.C_drewN ?_ _) | (with_reducible refine Kd.C_drew ?_))); (case side2 => exact HC1.out); rintro e w7 ⟨v183, rfl, ho0, hb⟩; refine ⟨_, rfl, ?_⟩; have n0_ := Aside0.mk (Kd.R_lower ho0 (below_size (by repeat (first | (with_reducible first | exact HB.out | apply below_alloc | apply pw_below_drewN | apply below_drew1) | exact HB.out)))); have n1_ := Aside0.mk (below_step (by repeat (first | (with_reducible first | exact HB.out | apply below_alloc | apply pw_below_drewN | apply below_drew1) | exact HB.out)) hb); clear HB; have HO184 := n0_; have HB := n1_; clear n0_ n1_; (try clear hb); (try clear hb2); (try clear hk); (try clear hi); (try clear ho0)))
    go_ret2
    exact ⟨_, by first | rfl | (simp [errW_none, errW_some] <;> rfl) | (simp [*, errW_none, errW_some] <;> rfl), by (with_reducible repeat (first | apply Kd.R_alloc | apply Kd.R_drewN | apply Kd.R_drew)); exact HO184.out, by repeat (first | (with_reducible first | exact HB.out | apply below_alloc | apply pw_below_drewN | apply below_drew1) | exact HB.out)⟩
  · replace c4 := Bool.eq_false_iff.mpr c4
    subst c4
    have H1 : (some (([] : List Int), false)) = some (r1, r2) := by rw [if_neg (show ¬ (false = true) by decide)] at H; exact H
    clear H
    have H := H1
    clear H1
    simp only [Option.some.injEq, Prod.mk.injEq] at H
    obtain ⟨rfl, rfl⟩ := H
    go_enter Tryd.func28, Tryd.ntmps28
    go_wp2_with (first | ((with_reducible refine gate_callee (f := 52) rfl ?_); refine goesL_ (some 8) rfl rfl Tryd.func52 (by kernel_rfl) rfl #[.int .i64 a0, .slice A1 l1.length c1] rfl (by (try simp only [List.map_toArray, List.map_cons, List.map_nil]); first | done | rfl | (simp only [List.length_drop, List.length_take]; rfl)) ?_; (with_reducible refine (impl_BarsOk.calls a0 _ _ l1 false _ ?side1 ?side2 A3.out).mono ?_); (case side1 => repeat (first | exact HR1.out | (with_reducible refine Kd.C_alloc ?_ _) | (with_reducible refine Kd.C_drewN ?_ _) | (with_reducible refine Kd.C_drew ?_))); (case side2 => exact HC1.out); rintro e w8 ⟨rfl, hb⟩; refine ⟨_, rfl, ?_⟩; have n0_ := Aside0.mk (below_step (by repeat (first | (with_reducible first | exact HB.out | apply below_alloc | apply pw_below_drewN | apply below_drew1) | exact HB.out)) hb); clear HB; have HB := n0_; clear n0_; (try clear hb); (try clear hb2); (try clear hk); (try clear hi)))
    go_ret2
    exact ⟨_, by first | rfl | (simp [errW_none, errW_some] <;> rfl) | (simp [*, errW_none, errW_some] <;> rfl), by first | exact Kd.R_nil _ _ _ _ _ | exact Kd.N_nil _ _ _ _ _ | exact Kd.V_nil _ _ _ _ _ | exact Kd.Q_nil _ _ _ _ _ | exact Kd.S_nil _ _ _ _ _, by repeat (first | (with_reducible first | exact HB.out | apply below_alloc | apply pw_below_drewN | apply below_drew1) | exact HB.out)⟩

-- NOT PRINTED: function 86 (strconv_Itoa_86)

-- NOT PRINTED: function 54 (strconv_Itoa_54)

/-! ### impl_FormatInt: function 29 -/
/-- What the library's package-level variables hold. -/
structure GT (w : World) : Prop where
  tab : Lib.TabIs Tryd.prog w "internal/strconv.uint64pow10" .u64 Lib.pow10Tab
theorem GT.var {w w1 : World} {n : String} {cs : Array Value} (hb : Below w.heap.size w w1) (h : w.var? Tryd.prog n = some cs) : w1.var? Tryd.prog n = some cs := by
  unfold World.var? at h ⊢
  cases hg : Tryd.prog.globalNamed n with
  | none => rw [hg] at h; cases h
  | some g =>
    rw [hg] at h
    simp only [Option.bind_some] at h ⊢
    have hlt : g < w.heap.size := by
      apply Nat.lt_of_not_le
      intro hle
      rw [Array.getElem?_eq_none hle] at h
      cases h
    rw [hb.block g hlt]
    exact h
theorem GT.of {w w1 : World} (h : GT w) (hb : Below w.heap.size w w1) : GT w1 := ⟨GT.var hb h.tab⟩
--import Derived.Shelf.Strconv.Itoa3
def Tryd.laysM171_ren : Go.Shelf.Ren := ⟨fun | 171 => 54 | 243 => 86 | 246 => 114 | 283 => 134 | 284 => 135 | 285 => 136 | 286 => 137 | 129 => 132 | 317 => 155 | 318 => 156 | 319 => 157 | 320 => 158 | 337 => 164 | 338 => 165 | n => n, fun | 3 => 3 | 9 => 9 | 2 => 2 | 4 => 4 | 171 => 127 | 0 => 0 | 53 => 126 | 37 => 60 | 5 => 5 | 173 => 129 | 212 => 145 | 51 => 124 | 20 => 20 | 213 => 146 | 46 => 108 | 232 => 153 | 233 => 154 | n => n, fun | 17 => 0 | 18 => 2 | 19 => 3 | n => n⟩
theorem Tryd.laysM171 : Go.Proofs.LaysM.n171 Tryd.prog Tryd.laysM171_ren := {
  mixed := by kernel_rfl
  f129 := Tryd.func132.trans (congrArg some (by kernel_rfl))
  f171 := Tryd.func54.trans (congrArg some (by kernel_rfl))
  f243 := Tryd.func86.trans (congrArg some (by kernel_rfl))
  f246 := Tryd.func114.trans (congrArg some (by kernel_rfl))
  f283 := Tryd.func134.trans (congrArg some (by kernel_rfl))
  f284 := Tryd.func135.trans (congrArg some (by kernel_rfl))
  f285 := Tryd.func136.trans (congrArg some (by kernel_rfl))
  f286 := Tryd.func137.trans (congrArg some (by kernel_rfl))
  f317 := Tryd.func155.trans (congrArg some (by kernel_rfl))
  f318 := Tryd.func156.trans (congrArg some (by kernel_rfl))
  f319 := Tryd.func157.trans (congrArg some (by kernel_rfl))
  f320 := Tryd.func158.trans (congrArg some (by kernel_rfl))
  f337 := Tryd.func164.trans (congrArg some (by kernel_rfl))
  f338 := Tryd.func165.trans (congrArg some (by kernel_rfl))
  t0 := Tryd.underlying0
  a0 := Tryd.isAgg0
  z0 := Tryd.sizeOf0
  v0 := Tryd.zeroValue0
  t2 := Tryd.underlying2
  a2 := Tryd.isAgg2
  z2 := Tryd.sizeOf2
  v2 := Tryd.zeroValue2
  t3 := Tryd.underlying3
  a3 := Tryd.isAgg3
  z3 := Tryd.sizeOf3
  v3 := Tryd.zeroValue3
  t4 := Tryd.underlying4
  a4 := Tryd.isAgg4
  z4 := Tryd.sizeOf4
  v4 := Tryd.zeroValue4
  t5 := Tryd.underlying5
  a5 := Tryd.isAgg5
  z5 := Tryd.sizeOf5
  v5 := Tryd.zeroValue5
  t9 := Tryd.underlying9
  a9 := Tryd.isAgg9
  z9 := Tryd.sizeOf9
  v9 := Tryd.zeroValue9
  t20 := Tryd.underlying20
  a20 := Tryd.isAgg20
  z20 := Tryd.sizeOf20
  v20 := Tryd.zeroValue20
  t37 := Tryd.underlying60
  a37 := Tryd.isAgg60
  z37 := Tryd.sizeOf60
  v37 := Tryd.zeroValue60
  t46 := Tryd.underlying108
  a46 := Tryd.isAgg108
  z46 := Tryd.sizeOf108
  v46 := Tryd.zeroValue108
  t51 := Tryd.underlying124
  a51 := Tryd.isAgg124
  z51 := Tryd.sizeOf124
  v51 := Tryd.zeroValue124
  t53 := Tryd.underlying126
  a53 := Tryd.isAgg126
  z53 := Tryd.sizeOf126
  v53 := Tryd.zeroValue126
  t171 := Tryd.underlying127
  a171 := Tryd.isAgg127
  z171 := Tryd.sizeOf127
  v171 := Tryd.zeroValue127
  t173 := Tryd.underlying129
  a173 := Tryd.isAgg129
  z173 := Tryd.sizeOf129
  v173 := Tryd.zeroValue129
  t212 := Tryd.underlying145
  a212 := Tryd.isAgg145
  z212 := Tryd.sizeOf145
  v212 := Tryd.zeroValue145
  t213 := Tryd.underlying146
  a213 := Tryd.isAgg146
  z213 := Tryd.sizeOf146
  t232 := Tryd.underlying153
  a232 := Tryd.isAgg153
  z232 := Tryd.sizeOf153
  v232 := Tryd.zeroValue153
  t233 := Tryd.underlying154
  a233 := Tryd.isAgg154
  z233 := Tryd.sizeOf154
  v233 := Tryd.zeroValue154
  g17 := by kernel_rfl
  g18 := by kernel_rfl
  g19 := by kernel_rfl
  i0 := by kernel_rfl
  i2 := by kernel_rfl
  i3 := by kernel_rfl
  i4 := by kernel_rfl
  i5 := by kernel_rfl
  i9 := by kernel_rfl
  i20 := by kernel_rfl
  i37 := by kernel_rfl
  i46 := by kernel_rfl
  i51 := by kernel_rfl
  i53 := by kernel_rfl
  i171 := by kernel_rfl
  i173 := by kernel_rfl
  i212 := by kernel_rfl
  i232 := by kernel_rfl
  i233 := by kernel_rfl
  m17 := by kernel_rfl
  m18 := by kernel_rfl
  m19 := by kernel_rfl }
def impl_FormatInt.f (a0 : Int) : Option (ByteArray) := if -9223372036854775808 ≤ a0 ∧ a0 ≤ 9223372036854775807 then some ⟨(Lib.itoa a0).toArray⟩ else none
theorem impl_FormatInt.itoa (a0 : Int) (h0 : -9223372036854775808 ≤ a0) (h1 : a0 ≤ 9223372036854775807) (w : World) (hG : GT w) :
    Calls Tryd.prog 54 #[.int .i64 a0] w fun e w' => e = .returned (.string ⟨(Lib.itoa a0).toArray⟩) ∧ Below w.heap.size w w' := by
  refine (Any.strconv_Itoa Tryd.laysM171 a0 h0 h1 w hG.tab).mono ?_
  rintro e w' ⟨rfl, k, os, rfl⟩
  exact ⟨rfl, ⟨rfl, rfl, rfl, by show w.heap.size ≤ (w.heap ++ os).size; rw [Array.size_append]; omega, fun j hj => by show (w.heap ++ os)[j]? = w.heap[j]?; rw [Array.getElem?_append_left hj]⟩⟩
theorem impl_FormatInt.calls (a0 : Int) (r : ByteArray) (w : World) (h : impl_FormatInt.f a0 = some r) (hG : GT w) :
    Calls Tryd.prog 29 #[.int .i64 a0] w fun e w' => e = .returned (.string r) ∧ Below w.heap.size w w' := by
  unfold impl_FormatInt.f at h
  split at h
  · rename_i c
    obtain rfl := Option.some.inj h
    have hc := impl_FormatInt.itoa a0 c.1 c.2 w hG
    have HG := Aside0.mk hG
    clear hG h c
    go_enter Tryd.func29, Tryd.ntmps29
    go_wp2_with (go_at_call 54; refine hc.mono ?_; rintro e w' ⟨rfl, hb⟩)
    go_ret
    exact ⟨rfl, hb⟩
  · cases h

/-! ### impl_CountBars: function 30 -/
def impl_CountBars.l0 : Nat → Int → List Int → Int → Int → Option (Int)
  | 0, _, _, _, _ => none
  | k + 1, x3, x6, x7, x8 => if x8 < x7 then (if 0 ≤ x8 then (if x8 < (x6.length : Int) then ((impl_within.f (rd x6 x8) 0 100).bind fun t186 => (if t186 = true then (impl_CountBars.l0 k (mx x3 (rd x6 x8)) x6 x7 (wrap64 (x8 + 1))) else (some (-1)))) else (none)) else (none)) else (some (wrap64 (x3 + 1)))
def impl_CountBars.f (k : Nat) (l0 : List Int) : Option (Int) := impl_CountBars.l0 k (-1) l0 (l0.length : Int) 0
theorem impl_CountBars.mono_l : ∀ k, (∀ y0 y1 y2 y3, LeO (impl_CountBars.l0 k y0 y1 y2 y3) (impl_CountBars.l0 (k + 1) y0 y1 y2 y3))
  | 0 => fun _ _ _ _ r h => by simp [impl_CountBars.l0] at h
  | k + 1 => by
    have ih0 := impl_CountBars.mono_l k
    · intro y0 y1 y2 y3
      unfold impl_CountBars.l0
      repeat' first
      | (with_reducible exact ih0 _ _ _ _)
      | (with_reducible exact LeO.refl _)
      | (with_reducible exact LeO.none _)
      | (with_reducible refine LeO.ite ?_ ?_)
      | (with_reducible refine LeO.bind ?_ (fun _ => ?_))
      | exact ih0 _ _ _ _
      | exact LeO.none _
      | refine LeO.ite ?_ ?_
      | refine LeO.bind ?_ (fun _ => ?_)
theorem impl_CountBars.mono : ∀ a0 k, LeO (impl_CountBars.f k a0) (impl_CountBars.f (k + 1) a0) := by
  intro a0 k
  have ih0 := impl_CountBars.mono_l k
  unfold impl_CountBars.f
  repeat' first
      | (with_reducible exact ih0 _ _ _ _)
      | (with_reducible exact LeO.refl _)
      | (with_reducible exact LeO.none _)
      | (with_reducible refine LeO.ite ?_ ?_)
      | (with_reducible refine LeO.bind ?_ (fun _ => ?_))
      | exact ih0 _ _ _ _
      | exact LeO.none _
      | refine LeO.ite ?_ ?_
      | refine LeO.bind ?_ (fun _ => ?_)
set_option maxHeartbeats 8000000 in
set_option maxRecDepth 100000 in
theorem impl_CountBars.calls (k : Nat) (A0 : Option Addr) (c0 : Nat) (l0 : List Int) (r : Int) (w : World) (hr0 : Kd.C (Kd.int .i64) w A0 l0.length l0) (hc0 : l0.length ≤ c0) (h : impl_CountBars.f k l0 = some r) :
    Calls Tryd.prog 30 #[.slice A0 l0.length c0] w fun e w' => e = .returned (.int .i64 r) ∧ Below w.heap.size w w' := by
  have HR0 := Aside0.mk hr0
  have HC0 := Aside0.mk hc0
  clear hr0 hc0
  have HB := Aside0.mk (Below.refl w.heap.size w)
  have H : (impl_CountBars.l0 k (-1) l0 (l0.length : Int) 0) = some r := h
  clear h
  have H' := Aside0.mk H
  clear H
  go_enter Tryd.func30, Tryd.ntmps30
  go_wp2
  go_loopg [3, 8] k (fun kq v3 v8 w' => ∃ (x3_1 : Int) (x8_1 : Int), v3 = .int .i64 x3_1 ∧ v8 = .int .i64 x8_1 ∧ Aside0 (impl_CountBars.l0 kq x3_1 l0 (l0.length : Int) x8_1 = some r) ∧ Aside0 (kq ≤ k) ∧ Aside0 (Below w.heap.size w w'))
  case atStart => exact ⟨((-1)), (0), (by first | rfl | (simp; done) | (simp [*]; done)), (by first | rfl | (simp; done) | (simp [*]; done)), H', ⟨Nat.le_refl _⟩, ⟨by repeat (first | (with_reducible first | exact HB.out | apply below_alloc | apply pw_below_drewN | apply below_drew1) | exact HB.out)⟩⟩
  case round =>
    clear H'
    obtain ⟨x3_1, x8_1, rfl, rfl, HA, HK1, HB⟩ := hrel
    cases gk with
    | zero => exact absurd HA.out (by simp [impl_CountBars.l0])
    | succ k1 =>
      have H := HA.out
      clear HA
      simp only [impl_CountBars.l0] at H
      by_cases c2 : x8_1 < (l0.length : Int)
      · rw [if_pos c2] at H
        have c2b0 : decide (x8_1 < (l0.length : Int)) = true := decide_eq_true c2
        clear c2
        by_cases c3 : 0 ≤ x8_1
        · rw [if_pos c3] at H
          have c3b0 : decide (0 ≤ x8_1) = true := decide_eq_true c3
          clear c3
          by_cases c4 : x8_1 < (l0.length : Int)
          · rw [if_pos c4] at H
            have c4b0 : decide (x8_1 < (l0.length : Int)) = true := decide_eq_true c4
            clear c4
            replace H := Option.bind_eq_some_iff.mp H
            obtain ⟨t186, A50, H⟩ := H
            replace H : (if t186 = true then (impl_CountBars.l0 k1 (mx x3_1 (rd l0 x8_1)) l0 (l0.length : Int) (wrap64 (x8_1 + 1))) else (some (-1))) = some r := H
            have A5 := Aside0.mk A50
            clear A50
            by_cases c6 : t186 = true
            · subst c6
              have H1 : (impl_CountBars.l0 k1 (mx x3_1 (rd l0 x8_1)) l0 (l0.length : Int) (wrap64 (x8_1 + 1))) = some r := by rw [if_pos rfl] at H; exact H
              clear H
              have H := H1
              clear H1
              obtain ⟨ji7, hji7⟩ : ∃ j_ : Int, (mx x3_1 (rd l0 x8_1)) = j_ := ⟨_, rfl⟩
              replace H : (impl_CountBars.l0 k1 ji7 l0 (l0.length : Int) (wrap64 (x8_1 + 1))) = some r := by first | (rw [hji7] at H; exact H) | (simp only [hji7] at H ⊢; exact H)
              (try rw [hji7] at A5)
              have hji7_ : (if x3_1 < (rd l0 x8_1) then (rd l0 x8_1) else x3_1) = ji7 := hji7
              have H' := Aside0.mk H
              clear H
              have p185 : 0 ≤ (x8_1 : Int) := of_decide_eq_true (by first | (with_reducible assumption) | assumption)
              have q185 : x8_1 < (l0.length : Int) := of_decide_eq_true (by first | (with_reducible assumption) | assumption)
              obtain ⟨ad185, e185, hx185_0⟩ := Kd.at_int HR0.out x8_1 p185 q185
              cases e185
              (try replace hx185_0 := (HB.out.cell (World.block_lt_of_cell? w _ hx185_0)).trans hx185_0)
              replace p185 := eq_true p185
              replace q185 := eq_true q185
              go_wp2_with (first | ((with_reducible refine gate_callee (f := 55) rfl ?_); refine goesL_ (some 13) rfl rfl Tryd.func55 (by kernel_rfl) rfl #[.int .i64 (rd l0 x8_1), .int .i64 0, .int .i64 100] rfl (by (try simp only [List.map_toArray, List.map_cons, List.map_nil]); first | done | rfl | (simp only [List.length_drop, List.length_take]; rfl)) ?_; (with_reducible refine (impl_within.calls (rd l0 x8_1) 0 100 true _ A5.out).mono ?_); rintro e w' ⟨rfl, ⟨nd, rfl⟩⟩; refine ⟨_, rfl, ?_⟩))
              go_roundg k1
              case measure => have := HK1.out; omega
              case rel => exact ⟨(ji7), (wrap64 (x8_1 + 1)), (by first | rfl | (simp; done) | ((simp only [← hji7] <;> (first | rfl | simp)); done) | (simp [*]; done)), (by first | rfl | (simp; done) | (simp [*]; done)), H', ⟨by have := HK1.out; omega⟩, ⟨by repeat (first | (with_reducible first | exact HB.out | apply below_alloc | apply pw_below_drewN | apply below_drew1) | exact HB.out)⟩⟩
            · replace c6 := Bool.eq_false_iff.mpr c6
              subst c6
              have H1 : (some (-1)) = some r := by rw [if_neg (show ¬ (false = true) by decide)] at H; exact H
              clear H
              have H := H1
              clear H1
              obtain rfl := Option.some.inj H
              have p185 : 0 ≤ (x8_1 : Int) := of_decide_eq_true (by first | (with_reducible assumption) | assumption)
              have q185 : x8_1 < (l0.length : Int) := of_decide_eq_true (by first | (with_reducible assumption) | assumption)
              obtain ⟨ad185, e185, hx185_0⟩ := Kd.at_int HR0.out x8_1 p185 q185
              cases e185
              (try replace hx185_0 := (HB.out.cell (World.block_lt_of_cell? w _ hx185_0)).trans hx185_0)
              replace p185 := eq_true p185
              replace q185 := eq_true q185
              go_wp2_with (first | ((with_reducible refine gate_callee (f := 55) rfl ?_); refine goesL_ (some 13) rfl rfl Tryd.func55 (by kernel_rfl) rfl #[.int .i64 (rd l0 x8_1), .int .i64 0, .int .i64 100] rfl (by (try simp only [List.map_toArray, List.map_cons, List.map_nil]); first | done | rfl | (simp only [List.length_drop, List.length_take]; rfl)) ?_; (with_reducible refine (impl_within.calls (rd l0 x8_1) 0 100 false _ A5.out).mono ?_); rintro e w' ⟨rfl, ⟨nd, rfl⟩⟩; refine ⟨_, rfl, ?_⟩))
              go_ret
              exact ⟨by first | rfl | (simp [errW_none, errW_some] <;> rfl) | (simp [*, errW_none, errW_some] <;> rfl), by repeat (first | (with_reducible first | exact HB.out | apply below_alloc | apply pw_below_drewN | apply below_drew1) | exact HB.out)⟩
          · rw [if_neg c4] at H
            exact absurd H (by simp)
        · rw [if_neg c3] at H
          exact absurd H (by simp)
      · rw [if_neg c2] at H
        have c2b0 : decide (x8_1 < (l0.length : Int)) = false := decide_eq_false c2
        clear c2
        obtain rfl := Option.some.inj H
        go_wp2
        go_ret
        exact ⟨by first | rfl | (simp [errW_none, errW_some] <;> rfl) | (simp [*, errW_none, errW_some] <;> rfl), by repeat (first | (with_reducible first | exact HB.out | apply below_alloc | apply pw_below_drewN | apply below_drew1) | exact HB.out)⟩

end Go.Proofs.YtelhjgkjnlcomaaDoor.QFnExactBarLine
