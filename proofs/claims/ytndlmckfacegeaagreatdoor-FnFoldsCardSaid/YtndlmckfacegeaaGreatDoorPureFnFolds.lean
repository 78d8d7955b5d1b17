/- FnFolds: for every draw, the folded strip of the drawn word is as the law says. No condition. -/
import Derived.Test.YtndlmckfacegeaaGreatDoorQFnFoldsx7
import Derived.Test.YtndlmckfacegeaaGreatDoorOpens
namespace Go.Proofs.YtndlmckfacegeaaGreatDoor.Pure
open Go.RowKit Go.Proofs.YtndlmckfacegeaaGreatDoor Go.Proofs.YtndlmckfacegeaaGreatDoor.QFnFolds Go.Proofs.YtndlmckfacegeaaGreatDoorW.PrintWords Go.Proofs.YtndlmckfacegeaaGreatDoorW.PrintLast
set_option linter.unusedVariables false
set_option linter.unusedSimpArgs false

/-! base -/
theorem w64 {x : Int} (h0 : -9223372036854775808 ≤ x) (h1 : x ≤ 9223372036854775807) : wrap64 x = x := by unfold wrap64; omega
theorem w64n (n : Nat) (h : n ≤ 9223372036854775807) : wrap64 (n : Int) = n := w64 (by omega) (by omega)
theorem w64s (n : Nat) (h : n < 9223372036854775807) : wrap64 ((n : Int) + 1) = ((n + 1 : Nat) : Int) := by rw [w64 (by omega) (by omega)]; omega
theorem evSome {α : Type} (r : α) : Ev (fun _ : Nat => some r) r := ⟨0, fun _ _ => rfl⟩
theorem evOf {α : Type} {f : Option α} {r : α} (h : f = some r) : Ev (fun _ : Nat => f) r := ⟨0, fun _ _ => h⟩
theorem evUniq {α : Type} {g : Nat → Option α} {r q : α} (h : Ev g r) (k : Ev g q) : r = q := by
  obtain ⟨a, ha⟩ := h
  obtain ⟨b, hb⟩ := k
  have h1 := ha (a + b) (by omega)
  rw [hb (a + b) (by omega)] at h1
  exact (Option.some.inj h1).symm
theorem evIf {α : Type} {c : Prop} [Decidable c] {f g : Nat → Option α} {r : α} (hp : c → Ev f r) (hn : ¬ c → Ev g r) : Ev (fun k => if c then f k else g k) r := by
  by_cases h : c
  · simp only [if_pos h]; exact hp h
  · simp only [if_neg h]; exact hn h
theorem evT {α : Type} {c : Prop} [Decidable c] {f g : Nat → Option α} {r : α} (h : c) (hp : Ev f r) : Ev (fun k => if c then f k else g k) r := by
  simp only [if_pos h]; exact hp
theorem evF {α : Type} {c : Prop} [Decidable c] {f g : Nat → Option α} {r : α} (h : ¬ c) (hp : Ev g r) : Ev (fun k => if c then f k else g k) r := by
  simp only [if_neg h]; exact hp
theorem evB {α β : Type} {f : Option α} {g : Nat → α → Option β} {a : α} {r : β} (h : f = some a) (k : Ev (fun n => g n a) r) : Ev (fun n => f.bind (g n)) r := by
  subst h
  exact k
theorem getD_eq {α : Type} (l : List α) (i : Nat) (z : α) (h : i < l.length) : l.getD i z = l[i] := by
  rw [List.getD_eq_getElem?_getD, List.getElem?_eq_getElem h]; rfl
theorem take_succ' {α : Type} (l : List α) (i : Nat) (h : i < l.length) : l.take (i + 1) = l.take i ++ [l[i]] := by
  rw [List.take_succ_eq_append_getElem h]
theorem set_fill {α : Type} (l : List α) (z x : α) (i d : Nat) (hi : l.length = i) : (l ++ List.replicate (d + 1) z).set i x = l ++ [x] ++ List.replicate d z := by
  subst hi
  rw [List.set_append_right _ _ (Nat.le_refl _), Nat.sub_self, List.replicate_succ, List.set_cons_zero, List.append_assoc]
  rfl
theorem drop_cons {α : Type} (l : List α) (i : Nat) (h : i < l.length) : l.drop i = l[i] :: l.drop (i + 1) := List.drop_eq_getElem_cons h
/-! drawByte -/
theorem and255 (x : Int) : 0 ≤ Go.bits .and .i64 x 255 ∧ Go.bits .and .i64 x 255 ≤ 255 := by
  simp only [Go.bits, BitVec.toNat_and]
  have h : (BitVec.ofInt IntKind.i64.bits 255).toNat = 255 := by decide
  rw [h, IntKind.wrap_i64]
  have := @Nat.and_le_right (BitVec.ofInt IntKind.i64.bits x).toNat 255
  omega
/-- a byte drawn -/
theorem dr_byte {b : List Int} {i h : Int} (hb : b.length ≤ 1048576) (hi : 0 ≤ i ∧ i ≤ b.length) : ∃ v i' h', spec_l01Byte.f b i h = some (v, i', h') ∧ (0 ≤ v ∧ v ≤ 255) ∧ (0 ≤ i' ∧ i' ≤ b.length) := by
  unfold spec_l01Byte.f
  by_cases c : i < (b.length : Int)
  · rw [if_pos c, if_pos hi.1]
    exact ⟨_, _, _, rfl, and255 _, by rw [w64 (by omega) (by omega)]; omega⟩
  · rw [if_neg c]
    exact ⟨_, _, _, rfl, and255 _, hi⟩
/-! drawBelow -/
theorem dr_below {b : List Int} {i h n : Int} (hb : b.length ≤ 1048576) (hi : 0 ≤ i ∧ i ≤ b.length) (hn : 1 ≤ n ∧ n ≤ 256) : ∃ v i' h', spec_l01Below.f b i h n = some (v, i', h') ∧ (0 ≤ v ∧ v < n) ∧ (0 ≤ i' ∧ i' ≤ b.length) := by
  obtain ⟨v, i', h', e, hv, hi'⟩ := dr_byte (h := h) hb hi
  unfold spec_l01Below.f
  rw [if_neg (by omega), if_pos hn.2, e, Option.bind_some, if_neg (by omega)]
  refine ⟨_, _, _, rfl, ?_, hi'⟩
  show 0 ≤ Int.tmod v n ∧ Int.tmod v n < n
  rw [Int.tmod_eq_emod_of_nonneg hv.1]
  exact ⟨Int.emod_nonneg _ (by omega), Int.emod_lt_of_pos _ (by omega)⟩
/-! drawNew -/
theorem dr_new_l0 (l : List Int) (hl : l.length ≤ 1048576) : ∀ (d i : Nat) (x : Int), i + d = l.length → ∃ h, Ev (fun k => spec_l01New.l0 k l x (i : Int)) (l, (0 : Int), h) := by
  intro d
  induction d with
  | zero =>
    intro i x hi
    refine ⟨x, Ev.step (fun k => by rw [spec_l01New.l0]) ?_⟩
    exact evF (by omega) (evSome _)
  | succ d ih =>
    intro i x hi
    by_cases c : (i : Int) < 4000
    · obtain ⟨h, e⟩ := ih (i + 1) (Go.bits .and .i64 (wrap64 ((wrap64 ((wrap64 (x * 179)) + (wrap64 (rd l (i : Int))))) + 7)) 1073741823) (by omega)
      refine ⟨h, Ev.step (fun k => by rw [spec_l01New.l0]) ?_⟩
      refine evT (by omega) (evT c (evT (by omega) ?_))
      rw [w64s i (by omega)]
      exact e
    · refine ⟨x, Ev.step (fun k => by rw [spec_l01New.l0]) ?_⟩
      exact evT (by omega) (evF c (evSome _))
theorem dr_skip (b : List Int) (hb : b.length ≤ 1048576) (n : Nat) (hn : n ≤ 1000) : ∀ (d j : Nat) (i h : Int), j + d = n → (0 ≤ i ∧ i ≤ b.length) → ∃ i' h', Ev (fun k => spec_l31New.l0 k b i h (n : Int) (j : Int)) (b, i', h') ∧ (0 ≤ i' ∧ i' ≤ b.length) := by
  intro d
  induction d with
  | zero =>
    intro j i h hj hi
    refine ⟨i, h, Ev.step (fun k => by rw [spec_l31New.l0]) ?_, hi⟩
    exact evF (by omega) (evSome _)
  | succ d ih =>
    intro j i h hj hi
    obtain ⟨v, i1, h1, e, _, hi1⟩ := dr_byte (h := h) hb hi
    obtain ⟨i2, h2, e2, hi2⟩ := ih (j + 1) i1 h1 (by omega) hi1
    refine ⟨i2, h2, Ev.step (fun k => by rw [spec_l31New.l0]) ?_, hi2⟩
    refine evT (by omega) (evB e ?_)
    rw [w64s j (by omega)]
    exact e2
/-- a new cursor, some bytes on -/
theorem dr_new (l : List Int) (hl : l.length ≤ 1048576) (n : Nat) (hn : n ≤ 1000) : ∃ i h, Ev (fun k => spec_l31New.f k l (n : Int)) (l, i, h) ∧ (0 ≤ i ∧ i ≤ l.length) := by
  obtain ⟨h, e⟩ := dr_new_l0 l hl l.length 0 (wrap64 (2173 + (l.length : Int))) (by omega)
  obtain ⟨i2, h2, e2, hi2⟩ := dr_skip l hl n hn n 0 0 h (by omega) (by omega)
  refine ⟨i2, h2, ?_, hi2⟩
  unfold spec_l31New.f
  exact Ev.bind (by unfold spec_l01New.f; exact e) e2

set_option maxRecDepth 100000
def tailF (k : Nat) (t206 : ByteArray) : Option Bool := ((impl_FoldOrder.f k t206).bind fun t207 => ((impl_CreasesOf.f k t206).bind fun t210 => ((impl_FacesOf.f k t206).bind fun t211 => ((impl_MirrorWord.f t206).bind fun t212 => ((impl_CreasesOf.f k t212).bind fun t213 => ((impl_FoldWordOk.f t206).bind fun t214 => (if t214 = true then ((impl_UnitsOf.f t206).bind fun t215 => (if t215 = (shl .i64 1 (t206.size : Int)) then (if (t207.length : Int) = (shl .i64 1 (t206.size : Int)) then (if (t210.size : Int) = (wrap64 ((shl .i64 1 (t206.size : Int)) - 1)) then (if (t211.size : Int) = (shl .i64 1 (t206.size : Int)) then (if (t212.size : Int) = (t206.size : Int) then (if (t213.size : Int) = (wrap64 ((shl .i64 1 (t206.size : Int)) - 1)) then ((impl_PiecesAfter.f t206).bind fun t216 => (if t216 = (wrap64 ((shl .i64 1 (t206.size : Int)) + 1)) then ((impl_TopUnit.f k t206).bind fun t217 => (if 0 ≤ (wrap64 ((shl .i64 1 (t206.size : Int)) - 1)) then (if (wrap64 ((shl .i64 1 (t206.size : Int)) - 1)) < (t207.length : Int) then (laws_FnFolds.j0 k t206 (t206.size : Int) (shl .i64 1 (t206.size : Int)) t207 t210 t211 t212 t213 (t217 != (rd t207 (wrap64 ((shl .i64 1 (t206.size : Int)) - 1))))) else (none)) else (none))) else (laws_FnFolds.j0 k t206 (t206.size : Int) (shl .i64 1 (t206.size : Int)) t207 t210 t211 t212 t213 true))) else (laws_FnFolds.j0 k t206 (t206.size : Int) (shl .i64 1 (t206.size : Int)) t207 t210 t211 t212 t213 true)) else (laws_FnFolds.j0 k t206 (t206.size : Int) (shl .i64 1 (t206.size : Int)) t207 t210 t211 t212 t213 true)) else (laws_FnFolds.j0 k t206 (t206.size : Int) (shl .i64 1 (t206.size : Int)) t207 t210 t211 t212 t213 true)) else (laws_FnFolds.j0 k t206 (t206.size : Int) (shl .i64 1 (t206.size : Int)) t207 t210 t211 t212 t213 true)) else (laws_FnFolds.j0 k t206 (t206.size : Int) (shl .i64 1 (t206.size : Int)) t207 t210 t211 t212 t213 true)) else (laws_FnFolds.j0 k t206 (t206.size : Int) (shl .i64 1 (t206.size : Int)) t207 t210 t211 t212 t213 true))) else (laws_FnFolds.j0 k t206 (t206.size : Int) (shl .i64 1 (t206.size : Int)) t207 t210 t211 t212 t213 true))))))))
theorem tail_mono : ∀ a0 k, LeO (tailF k a0) (tailF (k + 1) a0) := by
  intro a0 k
  obtain ⟨ih0, ih1, ih2, ih3, ih4, ih5, ih6⟩ := laws_FnFolds.mono_l k
  unfold tailF
  repeat' first
      | (with_reducible exact ih0 _ _ _ _ _ _ _ _ _)
      | (with_reducible exact ih1 _ _ _ _ _ _ _ _ _ _ _ _)
      | (with_reducible exact ih2 _ _ _ _ _ _ _ _ _ _ _ _ _ _ _)
      | (with_reducible exact ih3 _ _ _ _ _ _ _)
      | (with_reducible exact ih4 _ _ _ _ _ _ _)
      | (with_reducible exact ih5 _ _ _ _ _ _)
      | (with_reducible exact ih6 _ _ _ _ _ _)
      | (with_reducible exact impl_CreasesOf.mono _ _)
      | (with_reducible exact impl_FacesOf.mono _ _)
      | (with_reducible exact impl_FirstWord.mono _ _)
      | (with_reducible exact impl_FoldOrder.mono _ _)
      | (with_reducible exact impl_TopUnit.mono _ _)
      | (with_reducible exact laws_has.mono _ _ _)
      | (with_reducible exact spec_MakeFold.mono _ _ _)
      | (with_reducible exact LeO.refl _)
      | (with_reducible exact LeO.none _)
      | (with_reducible refine LeO.ite ?_ ?_)
      | (with_reducible refine LeO.bind ?_ (fun _ => ?_))
      | exact ih0 _ _ _ _ _ _ _ _ _
      | exact ih1 _ _ _ _ _ _ _ _ _ _ _ _
      | exact ih2 _ _ _ _ _ _ _ _ _ _ _ _ _ _ _
      | exact ih3 _ _ _ _ _ _ _
      | exact ih4 _ _ _ _ _ _ _
      | exact ih5 _ _ _ _ _ _
      | exact ih6 _ _ _ _ _ _
      | exact impl_CreasesOf.mono _ _
      | exact impl_FacesOf.mono _ _
      | exact impl_FirstWord.mono _ _
      | exact impl_FoldOrder.mono _ _
      | exact impl_TopUnit.mono _ _
      | exact laws_has.mono _ _ _
      | exact spec_MakeFold.mono _ _ _
      | exact LeO.none _
      | refine LeO.ite ?_ ?_
      | refine LeO.bind ?_ (fun _ => ?_)
def chkF (x y : Nat) : Bool := match spec_l28Word.f 1000 (x : Int) (y : Int) with
  | none => false
  | some wd => match tailF 1000 wd with
    | some true => true
    | _ => false
def chkN (x : Nat) : Bool := (List.range 32).all (chkF x)
theorem chk0 : chkN 0 = true := by kernel_rfl
theorem chk1 : chkN 1 = true := by kernel_rfl
theorem chk2 : chkN 2 = true := by kernel_rfl
theorem chk3 : chkN 3 = true := by kernel_rfl
theorem chk4 : chkN 4 = true := by kernel_rfl
theorem chk5 : chkN 5 = true := by kernel_rfl
theorem fold_ok (x y : Nat) (hx : x < 6) (hy : y < 32) : ∃ wd, Ev (fun k => spec_l28Word.f k (x : Int) (y : Int)) wd ∧ Ev (fun k => tailF k wd) true := by
  have h : chkN x = true := by
    match x, hx with
    | 0, _ => exact chk0
    | 1, _ => exact chk1
    | 2, _ => exact chk2
    | 3, _ => exact chk3
    | 4, _ => exact chk4
    | 5, _ => exact chk5
    | x + 6, hx => exact absurd hx (by omega)
  have h2 := List.all_eq_true.1 h y (List.mem_range.2 hy)
  unfold chkF at h2
  cases h3 : spec_l28Word.f 1000 (x : Int) (y : Int) with
  | none => rw [h3] at h2; cases h2
  | some wd =>
    rw [h3] at h2
    dsimp only at h2
    refine ⟨wd, Ev.of (spec_l28Word.mono _ _) h3, ?_⟩
    cases h4 : tailF 1000 wd with
    | none => rw [h4] at h2; cases h2
    | some b =>
      cases b with
      | false => rw [h4] at h2; cases h2
      | true => exact Ev.of (tail_mono _) h4
theorem FnFolds : ∀ (l0 : List (Int)), (l0.length ≤ 9223372036854775807 ∧ ∀ x ∈ l0, (Lit.int .u8 x).wf = true) → ∃ k, laws_FnFolds.f k l0 = some true := by
  intro l0 g0
  refine Ev.rounds (g := fun k => laws_FnFolds.f k l0) ?_
  unfold laws_FnFolds.f
  by_cases hb : (l0.length : Int) > 1048576
  · exact evT hb (evSome _)
  · refine evF hb ?_
    have hl : l0.length ≤ 1048576 := by omega
    obtain ⟨i, h, e, hi⟩ := dr_new l0 hl 0 (by omega)
    obtain ⟨v, i1, h1, e1, hv, hi1⟩ := dr_below (h := h) (n := 6) hl hi (by omega)
    obtain ⟨u, i2, h2, e2, hu, _⟩ := dr_below (h := h1) (n := 32) hl hi1 (by omega)
    obtain ⟨wd, ew, et⟩ := fold_ok v.toNat u.toNat (by omega) (by omega)
    rw [show ((v.toNat : Nat) : Int) = v by omega, show ((u.toNat : Nat) : Int) = u by omega] at ew
    have hm : Ev (fun k => spec_MakeFold.f k l0 0) wd := by
      unfold spec_MakeFold.f
      exact Ev.bind e (evB e1 (evB e2 (Ev.bind ew (evSome _))))
    exact Ev.bind hm et

end Go.Proofs.YtndlmckfacegeaaGreatDoor.Pure
