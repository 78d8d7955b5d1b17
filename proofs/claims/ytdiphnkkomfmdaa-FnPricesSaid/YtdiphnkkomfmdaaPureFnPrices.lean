/- FnPrices (P4): for every code: the drawn price list is in order, larger amounts are not dearer by the piece, the best amount is the least, the shares add up and differ from the exact share by less than one, rounding up and values by years are as told. No condition. -/
import Derived.Test.YtdiphnkkomfmdaaQFnPricesx7
import Derived.Test.YtdiphnkkomfmdaaOpens
import Derived.Sort.LotA
namespace Go.Proofs.Ytdiphnkkomfmdaa.Pure
open Go.RowKit Go.Proofs.Ytdiphnkkomfmdaa Go.Proofs.Ytdiphnkkomfmdaa.QFnPrices Go.Proofs.YtdiphnkkomfmdaaW.PrintWords Go.Proofs.YtdiphnkkomfmdaaW.PrintLast
set_option linter.unusedVariables false
set_option linter.unusedSimpArgs false

/-! base -/
theorem w64 {x : Int} (h0 : -9223372036854775808 ≤ x) (h1 : x ≤ 9223372036854775807) : wrap64 x = x := by unfold wrap64; omega
theorem w64n (n : Nat) (h : n ≤ 9223372036854775807) : wrap64 (n : Int) = n := w64 (by omega) (by omega)
theorem w64s (n : Nat) (h : n < 9223372036854775807) : wrap64 ((n : Int) + 1) = ((n + 1 : Nat) : Int) := by rw [w64 (by omega) (by omega)]; omega
theorem evSome {α : Type} (r : α) : Ev (fun _ : Nat => some r) r := ⟨0, fun _ _ => rfl⟩
theorem evOf {α : Type} {f : Option α} {r : α} (h : f = some r) : Ev (fun _ : Nat => f) r := ⟨0, fun _ _ => h⟩
theorem evUniq {α : Type} {g : Nat → Option α} {r q : α} (h : Ev g r) (k : Ev g q) : r = q := by
  obtain ⟨a, ha⟩ := h
  obtain ⟨b, hb⟩ := k
  have h1 := ha (a + b) (by omega)
  rw [hb (a + b) (by omega)] at h1
  exact (Option.some.inj h1).symm
theorem evIf {α : Type} {c : Prop} [Decidable c] {f g : Nat → Option α} {r : α} (hp : c → Ev f r) (hn : ¬ c → Ev g r) : Ev (fun k => if c then f k else g k) r := by
  by_cases h : c
  · simp only [if_pos h]; exact hp h
  · simp only [if_neg h]; exact hn h
theorem evT {α : Type} {c : Prop} [Decidable c] {f g : Nat → Option α} {r : α} (h : c) (hp : Ev f r) : Ev (fun k => if c then f k else g k) r := by
  simp only [if_pos h]; exact hp
theorem evF {α : Type} {c : Prop} [Decidable c] {f g : Nat → Option α} {r : α} (h : ¬ c) (hp : Ev g r) : Ev (fun k => if c then f k else g k) r := by
  simp only [if_neg h]; exact hp
theorem evB {α β : Type} {f : Option α} {g : Nat → α → Option β} {a : α} {r : β} (h : f = some a) (k : Ev (fun n => g n a) r) : Ev (fun n => f.bind (g n)) r := by
  subst h
  exact k
theorem getD_eq {α : Type} (l : List α) (i : Nat) (z : α) (h : i < l.length) : l.getD i z = l[i] := by
  rw [List.getD_eq_getElem?_getD, List.getElem?_eq_getElem h]; rfl
theorem take_succ' {α : Type} (l : List α) (i : Nat) (h : i < l.length) : l.take (i + 1) = l.take i ++ [l[i]] := by
  rw [List.take_succ_eq_append_getElem h]
theorem set_fill {α : Type} (l : List α) (z x : α) (i d : Nat) (hi : l.length = i) : (l ++ List.replicate (d + 1) z).set i x = l ++ [x] ++ List.replicate d z := by
  subst hi
  rw [List.set_append_right _ _ (Nat.le_refl _), Nat.sub_self, List.replicate_succ, List.set_cons_zero, List.append_assoc]
  rfl
theorem drop_cons {α : Type} (l : List α) (i : Nat) (h : i < l.length) : l.drop i = l[i] :: l.drop (i + 1) := List.drop_eq_getElem_cons h
/-! within -/
theorem within_t {a lo hi : Int} (h0 : lo ≤ a) (h1 : a ≤ hi) : impl_within.f a lo hi = some true := by unfold impl_within.f; rw [if_pos h0]; simp [h1]
theorem within_f {a lo hi : Int} (h : ¬ (lo ≤ a ∧ a ≤ hi)) : impl_within.f a lo hi = some false := by
  unfold impl_within.f
  by_cases h0 : lo ≤ a
  · rw [if_pos h0]; simp; omega
  · rw [if_neg h0]
theorem within_eq (a lo hi : Int) : impl_within.f a lo hi = some (decide (lo ≤ a ∧ a ≤ hi)) := by
  by_cases h : lo ≤ a ∧ a ≤ hi
  · rw [within_t h.1 h.2]; simp [h]
  · rw [within_f h]; simp; omega
/-! stepsDef -/
def okI (l : List (List Int)) (i : Nat) : Bool :=
  decide (((rd_L1 l (i : Int)).length = 2 ∧ (0 ≤ rd (rd_L1 l (i : Int)) 0 ∧ rd (rd_L1 l (i : Int)) 0 ≤ 100000) ∧ 0 ≤ rd (rd_L1 l (i : Int)) 1 ∧ rd (rd_L1 l (i : Int)) 1 ≤ 1000) ∧
    (i = 0 → rd (rd_L1 l (i : Int)) 0 = 0) ∧ (0 < i → rd (rd_L1 l ((i : Int) - 1)) 0 < rd (rd_L1 l (i : Int)) 0 ∧ rd (rd_L1 l (i : Int)) 1 ≤ rd (rd_L1 l ((i : Int) - 1)) 1))
def allFrom (l : List (List Int)) : Nat → Nat → Bool
  | _, 0 => true
  | i, d + 1 => okI l i && allFrom l (i + 1) d
def stepsOk (l : List (List Int)) : Bool := decide (1 ≤ l.length ∧ l.length ≤ 6) && allFrom l 0 l.length
theorem allFrom_t {l : List (List Int)} {i d : Nat} (h : okI l i = true) : allFrom l i (d + 1) = allFrom l (i + 1) d := by simp [allFrom, h]
theorem allFrom_f {l : List (List Int)} {i d : Nat} (h : okI l i = false) : allFrom l i (d + 1) = false := by simp [allFrom, h]
theorem allFrom_get {l : List (List Int)} : ∀ (d i : Nat), allFrom l i d = true → ∀ j, i ≤ j → j < i + d → okI l j = true
  | 0, i, _, j, h0, h1 => by omega
  | d + 1, i, h, j, h0, h1 => by
    simp only [allFrom, Bool.and_eq_true] at h
    rcases Nat.eq_or_lt_of_le h0 with rfl | hlt
    · exact h.1
    · exact allFrom_get d (i + 1) h.2 j (by omega) (by omega)
theorem stepsOk_get {l : List (List Int)} (h : stepsOk l = true) : (1 ≤ l.length ∧ l.length ≤ 6) ∧ ∀ j, j < l.length → okI l j = true := by
  simp only [stepsOk, Bool.and_eq_true, decide_eq_true_eq] at h
  exact ⟨h.1, fun j hj => allFrom_get _ 0 h.2 j (by omega) (by omega)⟩
theorem okI_row {l : List (List Int)} {i : Nat} (h : okI l i = true) : (rd_L1 l (i : Int)).length = 2 ∧ (0 ≤ rd (rd_L1 l (i : Int)) 0 ∧ rd (rd_L1 l (i : Int)) 0 ≤ 100000) ∧ 0 ≤ rd (rd_L1 l (i : Int)) 1 ∧ rd (rd_L1 l (i : Int)) 1 ≤ 1000 := by
  simp only [okI, decide_eq_true_eq] at h
  exact h.1
theorem okI_t {l : List (List Int)} {i : Nat} {s : List Int} (hs : rd_L1 l (i : Int) = s) (c1 : (s.length : Int) = 2) (c2 : 0 ≤ rd s 0 ∧ rd s 0 ≤ 100000) (c3 : 0 ≤ rd s 1 ∧ rd s 1 ≤ 1000) (c4 : i = 0 → rd s 0 = 0) (c5 : 0 < i → rd (rd_L1 l ((i : Int) - 1)) 0 < rd s 0 ∧ rd s 1 ≤ rd (rd_L1 l ((i : Int) - 1)) 1) : okI l i = true := by
  unfold okI; rw [decide_eq_true_eq, hs]; exact ⟨⟨by omega, c2, c3⟩, c4, c5⟩
theorem okI_f {l : List (List Int)} {i : Nat} {s : List Int} (hs : rd_L1 l (i : Int) = s) (h : ¬ ((s.length : Int) = 2 ∧ (0 ≤ rd s 0 ∧ rd s 0 ≤ 100000) ∧ (0 ≤ rd s 1 ∧ rd s 1 ≤ 1000) ∧ (i = 0 → rd s 0 = 0) ∧ (0 < i → rd (rd_L1 l ((i : Int) - 1)) 0 < rd s 0 ∧ rd s 1 ≤ rd (rd_L1 l ((i : Int) - 1)) 1))) : okI l i = false := by
  unfold okI; rw [decide_eq_false_iff_not, hs]; exact fun h2 => h ⟨by omega, h2.1.2.1, h2.1.2.2, h2.2.1, h2.2.2⟩
/-! stepsImpl -/
theorem impl_steps_l0 (l : List (List Int)) (hl : l.length ≤ 1048576) : ∀ d i : Nat, i + d = l.length → (0 < i → (rd_L1 l ((i : Int) - 1)).length = 2) → Ev (fun k => impl_StepListOk.l0 k l l (l.length : Int) (i : Int)) (allFrom l i d) := by
  intro d
  induction d with
  | zero =>
    intro i hi _
    refine Ev.step (fun k => by rw [impl_StepListOk.l0]) ?_
    exact evF (by omega) (evSome _)
  | succ d ih =>
    intro i hi hp
    have hi1 := w64s i (by omega)
    have hm1 : wrap64 ((i : Int) - 1) = (i : Int) - 1 := w64 (by omega) (by omega)
    have ih' := ih (i + 1) (by omega)
    refine Ev.step (fun k => by rw [impl_StepListOk.l0]) ?_
    refine evT (by omega) (evT (by omega) (evT (by omega) ?_))
    generalize hs : rd_L1 l (i : Int) = s
    have hnx : (s.length : Int) = 2 → (0 < i + 1 → (rd_L1 l (((i + 1 : Nat) : Int) - 1)).length = 2) := by
      intro h _
      rw [show ((i + 1 : Nat) : Int) - 1 = (i : Int) by omega, hs]
      omega
    by_cases c1 : (s.length : Int) = 2
    · refine evT c1 (evT (by omega) ?_)
      by_cases c2 : 0 ≤ rd s 0 ∧ rd s 0 ≤ 100000
      · refine evB (within_t c2.1 c2.2) (evT rfl (evT (by omega) ?_))
        by_cases c3 : 0 ≤ rd s 1 ∧ rd s 1 ≤ 1000
        · refine evB (within_t c3.1 c3.2) ?_
          refine Ev.step (fun k => by rw [impl_StepListOk.j2]) ?_
          refine evF (by decide) ?_
          by_cases c4 : (i : Int) = 0
          · refine evT c4 (evT (by omega) ?_)
            by_cases c5 : rd s 0 = 0
            · refine evT c5 (evF (by omega) ?_)
              rw [hi1, allFrom_t (okI_t hs c1 c2 c3 (fun _ => c5) (by omega))]
              exact ih' (hnx c1)
            · rw [allFrom_f (okI_f hs (by omega))]
              exact evF c5 (evSome _)
          · refine evF c4 ?_
            have hpl := hp (by omega)
            refine evT (by omega) (evT (by omega) ?_)
            rw [hm1]
            refine evT (by omega) (evT (by omega) (evT (by omega) ?_))
            by_cases c5 : rd s 0 ≤ rd (rd_L1 l ((i : Int) - 1)) 0
            · rw [allFrom_f (okI_f hs (by omega))]
              exact evT c5 (evSome _)
            · refine evF c5 (evT (by omega) (evT (by omega) ?_))
              by_cases c6 : rd s 1 > rd (rd_L1 l ((i : Int) - 1)) 1
              · rw [allFrom_f (okI_f hs (by omega))]
                exact evT c6 (evSome _)
              · refine evF c6 ?_
                rw [hi1, allFrom_t (okI_t hs c1 c2 c3 (by omega) (by omega))]
                exact ih' (hnx c1)
        · refine evB (within_f c3) ?_
          refine Ev.step (fun k => by rw [impl_StepListOk.j2]) ?_
          rw [allFrom_f (okI_f hs (by omega))]
          exact evT rfl (evSome _)
      · refine evB (within_f c2) (evF (by decide) ?_)
        refine Ev.step (fun k => by rw [impl_StepListOk.j2]) ?_
        rw [allFrom_f (okI_f hs (by omega))]
        exact evT rfl (evSome _)
    · refine evF c1 ?_
      refine Ev.step (fun k => by rw [impl_StepListOk.j2]) ?_
      rw [allFrom_f (okI_f hs (by omega))]
      exact evT rfl (evSome _)
theorem impl_steps_ev (l : List (List Int)) (hl : l.length ≤ 1048576) : Ev (fun k => impl_StepListOk.f k l) (stepsOk l) := by
  unfold impl_StepListOk.f
  by_cases h : 1 ≤ l.length ∧ l.length ≤ 6
  · refine evF (by omega) ?_
    refine Ev.step (fun k => by rw [impl_StepListOk.j0]) ?_
    refine evF (by simp; omega) ?_
    have e : stepsOk l = allFrom l 0 l.length := by unfold stepsOk; rw [decide_eq_true h, Bool.true_and]
    rw [e]
    exact impl_steps_l0 l hl l.length 0 (by omega) (by omega)
  · have e : stepsOk l = false := by unfold stepsOk; rw [decide_eq_false h, Bool.false_and]
    rw [e]
    by_cases h1 : (l.length : Int) < 1
    · refine evT h1 ?_
      refine Ev.step (fun k => by rw [impl_StepListOk.j0]) ?_
      exact evT rfl (evSome _)
    · refine evF h1 ?_
      refine Ev.step (fun k => by rw [impl_StepListOk.j0]) ?_
      exact evT (by simp; omega) (evSome _)
/-! price -/
def priceFrom (a : Int) (l : List (List Int)) : Nat → Nat → Int → Int
  | _, 0, p => p
  | i, d + 1, p => priceFrom a l (i + 1) d (if rd (rd_L1 l (i : Int)) 0 ≤ a then rd (rd_L1 l (i : Int)) 1 else p)
def price (a : Int) (l : List (List Int)) : Int := priceFrom a l 0 l.length 0 * a
def priceOf (a : Int) (l : List (List Int)) : Int := if stepsOk l = true ∧ 0 ≤ a ∧ a ≤ 100000 then price a l else -1
theorem priceFrom_bound (a : Int) (l : List (List Int)) (ho : ∀ j, j < l.length → okI l j = true) : ∀ (d i : Nat) (p : Int), i + d = l.length → 0 ≤ p → p ≤ 1000 → 0 ≤ priceFrom a l i d p ∧ priceFrom a l i d p ≤ 1000
  | 0, i, p, _, h0, h1 => ⟨h0, h1⟩
  | d + 1, i, p, hi, h0, h1 => by
    have h2 := okI_row (ho i (by omega))
    unfold priceFrom
    refine priceFrom_bound a l ho d (i + 1) _ (by omega) ?_ ?_
    · split <;> omega
    · split <;> omega
theorem price_bound {a : Int} {l : List (List Int)} (h : stepsOk l = true) (h0 : 0 ≤ a) (h1 : a ≤ 100000) : 0 ≤ price a l ∧ price a l ≤ 100000000 := by
  have hb := priceFrom_bound a l (stepsOk_get h).2 l.length 0 0 (by omega) (by omega) (by omega)
  unfold price
  refine ⟨Int.mul_nonneg hb.1 h0, ?_⟩
  have := Int.mul_le_mul hb.2 h1 h0 (by omega)
  omega
theorem priceFrom_wrap {a : Int} {l : List (List Int)} (h : stepsOk l = true) (h0 : 0 ≤ a) (h1 : a ≤ 100000) : wrap64 (priceFrom a l 0 l.length 0 * a) = price a l := by
  have hb := price_bound h h0 h1
  unfold price at hb ⊢
  exact w64 (by omega) (by omega)
theorem priceOf_neg {a : Int} {l : List (List Int)} : priceOf a l < 0 ↔ ¬ (stepsOk l = true ∧ 0 ≤ a ∧ a ≤ 100000) := by
  unfold priceOf
  by_cases h : stepsOk l = true ∧ 0 ≤ a ∧ a ≤ 100000
  · rw [if_pos h]
    have := price_bound h.1 h.2.1 h.2.2
    exact ⟨fun h2 => by omega, fun h2 => absurd h h2⟩
  · rw [if_neg h]
    exact ⟨fun _ => h, fun _ => by omega⟩
/-! implPrice -/
theorem impl_price_l0 (a : Int) (l : List (List Int)) (hl : l.length ≤ 1048576) (ho : ∀ j, j < l.length → okI l j = true) : ∀ (d i : Nat) (p : Int), i + d = l.length → Ev (fun k => impl_PriceOf.l0 k a p l (l.length : Int) (i : Int)) (wrap64 (priceFrom a l i d p * a)) := by
  intro d
  induction d with
  | zero =>
    intro i p hi
    refine Ev.step (fun k => by rw [impl_PriceOf.l0]) ?_
    exact evF (by omega) (evSome _)
  | succ d ih =>
    intro i p hi
    have h2 := okI_row (ho i (by omega))
    have hi1 := w64s i (by omega)
    refine Ev.step (fun k => by rw [impl_PriceOf.l0]) ?_
    refine evT (by omega) (evT (by omega) (evT (by omega) (evT (by omega) ?_)))
    rw [hi1]
    unfold priceFrom
    by_cases c : rd (rd_L1 l (i : Int)) 0 ≤ a
    · rw [if_pos c]
      exact evT c (evT (by omega) (ih (i + 1) _ (by omega)))
    · rw [if_neg c]
      exact evF c (ih (i + 1) _ (by omega))
theorem impl_price_ev (a : Int) (l : List (List Int)) (hl : l.length ≤ 1048576) : Ev (fun k => impl_PriceOf.f k a l) (priceOf a l) := by
  unfold impl_PriceOf.f
  refine Ev.bind (impl_steps_ev l hl) ?_
  by_cases h : stepsOk l = true
  · refine evT h ?_
    by_cases c : 0 ≤ a ∧ a ≤ 100000
    · refine evB (within_t c.1 c.2) ?_
      refine Ev.step (fun k => by rw [impl_PriceOf.j0]) ?_
      refine evF (by decide) ?_
      have e : priceOf a l = price a l := if_pos ⟨h, c⟩
      rw [e, ← priceFrom_wrap h c.1 c.2]
      exact impl_price_l0 a l hl (stepsOk_get h).2 l.length 0 0 (by omega)
    · have e : priceOf a l = -1 := if_neg (fun h2 => c h2.2)
      rw [e]
      refine evB (within_f c) ?_
      refine Ev.step (fun k => by rw [impl_PriceOf.j0]) ?_
      exact evT (by decide) (evSome _)
  · have e : priceOf a l = -1 := if_neg (fun h2 => h h2.1)
    rw [e]
    refine evF h ?_
    refine Ev.step (fun k => by rw [impl_PriceOf.j0]) ?_
    exact evT rfl (evSome _)
/-! bestDef -/
def bestFrom (a : Int) (l : List (List Int)) : Nat → Nat → Int → Int
  | _, 0, b => b
  | i, d + 1, b => bestFrom a l (i + 1) d (if rd (rd_L1 l (i : Int)) 0 > a ∧ price (rd (rd_L1 l (i : Int)) 0) l < price b l then rd (rd_L1 l (i : Int)) 0 else b)
def bestOf (a : Int) (l : List (List Int)) : Int := if stepsOk l = true ∧ 0 ≤ a ∧ a ≤ 100000 then bestFrom a l 0 l.length a else -1
/-! bestImpl -/
theorem impl_best_l0 (a : Int) (l : List (List Int)) (hl : l.length ≤ 1048576) (ho : stepsOk l = true) : ∀ (d i : Nat) (b : Int), i + d = l.length → 0 ≤ b → b ≤ 100000 → Ev (fun k => impl_BestAmount.l0 k a l b l (l.length : Int) (i : Int)) (bestFrom a l i d b) := by
  intro d
  induction d with
  | zero =>
    intro i b hi _ _
    refine Ev.step (fun k => by rw [impl_BestAmount.l0]) ?_
    exact evF (by omega) (evSome _)
  | succ d ih =>
    intro i b hi hb0 hb1
    have h2 := okI_row ((stepsOk_get ho).2 i (by omega))
    have hi1 := w64s i (by omega)
    have e1 : priceOf (rd (rd_L1 l (i : Int)) 0) l = price (rd (rd_L1 l (i : Int)) 0) l := if_pos ⟨ho, h2.2.1⟩
    have e2 : priceOf b l = price b l := if_pos ⟨ho, hb0, hb1⟩
    refine Ev.step (fun k => by rw [impl_BestAmount.l0]) ?_
    refine evT (by omega) (evT (by omega) (evT (by omega) (evT (by omega) ?_)))
    rw [hi1]
    unfold bestFrom
    by_cases c : rd (rd_L1 l (i : Int)) 0 > a
    · refine evT c (Ev.bind (impl_price_ev _ l hl) (Ev.bind (impl_price_ev _ l hl) ?_))
      rw [e1, e2]
      by_cases c2 : price (rd (rd_L1 l (i : Int)) 0) l < price b l
      · rw [if_pos ⟨c, c2⟩]
        exact evT c2 (ih (i + 1) _ (by omega) h2.2.1.1 h2.2.1.2)
      · rw [if_neg (fun h => c2 h.2)]
        exact evF c2 (ih (i + 1) _ (by omega) hb0 hb1)
    · rw [if_neg (fun h => c h.1)]
      exact evF c (ih (i + 1) _ (by omega) hb0 hb1)
theorem impl_best_ev (a : Int) (l : List (List Int)) (hl : l.length ≤ 1048576) : Ev (fun k => impl_BestAmount.f k a l) (bestOf a l) := by
  unfold impl_BestAmount.f
  refine Ev.bind (impl_price_ev a l hl) ?_
  by_cases h : stepsOk l = true ∧ 0 ≤ a ∧ a ≤ 100000
  · have e : bestOf a l = bestFrom a l 0 l.length a := if_pos h
    rw [e]
    exact evF (fun h2 => priceOf_neg.1 h2 h) (impl_best_l0 a l hl h.1 l.length 0 a (by omega) h.2.1 h.2.2)
  · have e : bestOf a l = -1 := if_neg h
    rw [e]
    exact evT (priceOf_neg.2 h) (evSome _)
/-! cheapDef -/
def cheapFrom (a : Int) (l : List (List (List Int))) : Nat → Nat → Int → Int
  | _, 0, b => b
  | i, d + 1, b => if priceOf a (rd_L4 l (i : Int)) < 0 then -1 else cheapFrom a l (i + 1) d (if priceOf a (rd_L4 l (i : Int)) < priceOf a (rd_L4 l b) then (i : Int) else b)
def cheapOf (a : Int) (l : List (List (List Int))) : Int := if 1 ≤ l.length ∧ l.length ≤ 6 then cheapFrom a l 0 l.length 0 else -1
theorem rd_L4_len {l : List (List (List Int))} (hx : ∀ x ∈ l, x.length ≤ 1048576) (i : Int) : (rd_L4 l i).length ≤ 1048576 := by
  unfold rd_L4
  rw [List.getD_eq_getElem?_getD]
  rcases h : l[i.toNat]? with _ | x
  · simp
  · exact hx x (List.mem_of_getElem? h)
/-! cheapImpl -/
theorem impl_cheap_l0 (a : Int) (l : List (List (List Int))) (hl : l.length ≤ 1048576) (hx : ∀ x ∈ l, x.length ≤ 1048576) : ∀ (d i : Nat) (b : Int), i + d = l.length → 0 ≤ b → b < l.length → Ev (fun k => impl_CheapestAt.l0 k a l b l (l.length : Int) (i : Int)) (cheapFrom a l i d b) := by
  intro d
  induction d with
  | zero =>
    intro i b hi _ _
    refine Ev.step (fun k => by rw [impl_CheapestAt.l0]) ?_
    exact evF (by omega) (evSome _)
  | succ d ih =>
    intro i b hi hb0 hb1
    have hi1 := w64s i (by omega)
    refine Ev.step (fun k => by rw [impl_CheapestAt.l0]) ?_
    refine evT (by omega) (evT (by omega) (evT (by omega) (Ev.bind (impl_price_ev a _ (rd_L4_len hx _)) ?_)))
    rw [hi1]
    unfold cheapFrom
    by_cases c : priceOf a (rd_L4 l (i : Int)) < 0
    · rw [if_pos c]
      exact evT c (evSome _)
    · rw [if_neg c]
      refine evF c (evT hb0 (evT hb1 (Ev.bind (impl_price_ev a _ (rd_L4_len hx _)) ?_)))
      by_cases c2 : priceOf a (rd_L4 l (i : Int)) < priceOf a (rd_L4 l b)
      · rw [if_pos c2]
        exact evT c2 (ih (i + 1) _ (by omega) (by omega) (by omega))
      · rw [if_neg c2]
        exact evF c2 (ih (i + 1) _ (by omega) hb0 hb1)
theorem impl_cheap_ev (a : Int) (l : List (List (List Int))) (hl : l.length ≤ 1048576) (hx : ∀ x ∈ l, x.length ≤ 1048576) : Ev (fun k => impl_CheapestAt.f k a l) (cheapOf a l) := by
  unfold impl_CheapestAt.f
  by_cases h : 1 ≤ l.length ∧ l.length ≤ 6
  · have e : cheapOf a l = cheapFrom a l 0 l.length 0 := if_pos h
    rw [e]
    refine evF (by omega) ?_
    exact (by refine Ev.step (fun k => by rw [impl_CheapestAt.j0]) ?_; exact evF (by simp; omega) (impl_cheap_l0 a l hl hx l.length 0 0 (by omega) (by omega) (by omega)))
  · have e : cheapOf a l = -1 := if_neg h
    rw [e]
    by_cases h1 : (l.length : Int) < 1
    · refine evT h1 ?_
      exact (by refine Ev.step (fun k => by rw [impl_CheapestAt.j0]) ?_; exact evT rfl (evSome _))
    · refine evF h1 ?_
      exact (by refine Ev.step (fun k => by rw [impl_CheapestAt.j0]) ?_; exact evT (by simp; omega) (evSome _))
/-! shareOrd -/
/-! the stable order: the insertion sort by a weak order is, on 0, 1, .., the one by the total order -/
section
open Go.Sort
theorem shIns {α : Type} [Inhabited α] (lt lt' : α → α → Bool) : ∀ (j : Nat) (d : Array α), j < d.size → (∀ k, k < j → lt d[j]! d[k]! = lt' d[j]! d[k]!) → insInner lt 0 j d = insInner lt' 0 j d
  | 0, d, _, _ => rfl
  | j + 1, d, hj, h => by
    unfold insInner
    rw [h j (Nat.lt_succ_self j)]
    split
    · have g := swp_get d hj (show j < d.size by omega)
      refine shIns lt lt' j _ (by rw [swp_size]; omega) (fun k hk => ?_)
      rw [g, g, if_pos rfl, if_neg (by omega), if_neg (by omega)]
      exact h k (by omega)
    · rfl
theorem shKeep {α : Type} [Inhabited α] (lt : α → α → Bool) : ∀ (j : Nat) (d : Array α), j < d.size → (insInner lt 0 j d).size = d.size ∧ (∀ k, j < k → (insInner lt 0 j d)[k]! = d[k]!) ∧ (∀ Q : α → Prop, (∀ k, k ≤ j → Q d[k]!) → ∀ k, k ≤ j → Q (insInner lt 0 j d)[k]!)
  | 0, d, _ => ⟨rfl, fun _ _ => rfl, fun Q h => h⟩
  | j + 1, d, hj => by
    unfold insInner
    split
    · have g := swp_get d hj (show j < d.size by omega)
      obtain ⟨h1, h2, h3⟩ := shKeep lt j (swp d (j + 1) j) (by rw [swp_size]; omega)
      refine ⟨by rw [h1, swp_size], fun k hk => ?_, fun Q hq k hk => ?_⟩
      · rw [h2 k (by omega), g, if_neg (by omega), if_neg (by omega)]
      · by_cases e : k = j + 1
        · subst e
          rw [h2 _ (by omega), g, if_neg (by omega), if_pos rfl]
          exact hq j (by omega)
        · refine h3 Q (fun k' hk' => ?_) k (by omega)
          rw [g]
          by_cases e' : k' = j
          · rw [if_pos e']; exact hq _ (by omega)
          · rw [if_neg e', if_neg (by omega)]; exact hq _ (by omega)
    · exact ⟨rfl, fun _ _ => rfl, fun Q h => h⟩
theorem shOut (m : Nat) (lt lt' : Fin (m + 1) → Fin (m + 1) → Bool) (h : ∀ x y, y.val < x.val → lt x y = lt' x y) : ∀ (k i : Nat) (d : Array (Fin (m + 1))), (m + 1) - i = k → d.size = m + 1 → (∀ j, j < i → j < m + 1 → (d[j]!).val < i) → (∀ j, i ≤ j → j < m + 1 → (d[j]!).val = j) → insOuter lt 0 (m + 1) i d = insOuter lt' 0 (m + 1) i d
  | 0, i, d, hk, _, _, _ => by
    have e1 : insOuter lt 0 (m + 1) i d = d := by rw [insOuter, if_neg (by omega)]
    have e2 : insOuter lt' 0 (m + 1) i d = d := by rw [insOuter, if_neg (by omega)]
    rw [e1, e2]
  | k + 1, i, d, hk, hd, h1, h2 => by
    have e1 : insOuter lt 0 (m + 1) i d = insOuter lt 0 (m + 1) (i + 1) (insInner lt 0 i d) := by rw [insOuter, if_pos (by omega)]
    have e2 : insOuter lt' 0 (m + 1) i d = insOuter lt' 0 (m + 1) (i + 1) (insInner lt' 0 i d) := by rw [insOuter, if_pos (by omega)]
    rw [e1, e2, shIns lt lt' i d (by omega) (fun q hq => h _ _ (by rw [h2 i (Nat.le_refl _) (by omega)]; exact h1 q hq (by omega)))]
    obtain ⟨s1, s2, s3⟩ := shKeep lt' i d (by omega)
    refine shOut m lt lt' h k (i + 1) _ (by omega) (by rw [s1, hd]) (fun j hj hjm => ?_) (fun j hj hjm => ?_)
    · refine s3 (fun x => x.val < i + 1) (fun q hq => ?_) j (by omega)
      by_cases e : q = i
      · subst e
        show (d[q]!).val < q + 1
        rw [h2 q (Nat.le_refl _) (by omega)]
        omega
      · have := h1 q (by omega) (by omega)
        show (d[q]!).val < i + 1
        omega
    · rw [s2 j (by omega)]
      exact h2 j (by omega) hjm
def shLt (m : Nat) (ρ : Nat → Int) (x y : Fin (m + 1)) : Bool := decide (ρ y.val < ρ x.val ∨ (ρ y.val = ρ x.val ∧ x.val < y.val))
theorem shLt_swo (m : Nat) (ρ : Nat → Int) : SWO (shLt m ρ) := by
  refine ⟨fun x => ?_, fun x y z h1 h2 => ?_, fun x y z h1 h2 => ?_⟩
  · unfold shLt; rw [decide_eq_false_iff_not]; omega
  · unfold shLt at *; rw [decide_eq_true_eq] at *; omega
  · unfold shLt at *; rw [decide_eq_false_iff_not] at *; omega
end
/-- what is known of the order -/
structure ShO (n : Nat) (ρ : Nat → Int) (O : List Int) : Prop where
  len : O.length = n
  lt : ∀ s : Nat, s < n → 0 ≤ rd O (s : Int) ∧ rd O (s : Int) < n
  inj : ∀ s t : Nat, s < n → t < n → rd O (s : Int) = rd O (t : Int) → s = t
  sur : ∀ j : Nat, j < n → ∃ s : Nat, s < n ∧ rd O (s : Int) = j
  srt : ∀ s t : Nat, s < t → t < n → ρ (rd O (t : Int)).toNat < ρ (rd O (s : Int)).toNat ∨ (ρ (rd O (t : Int)).toNat = ρ (rd O (s : Int)).toNat ∧ rd O (s : Int) < rd O (t : Int))
theorem sh_rd (l : List Int) (j : Nat) (h : j < l.length) : rd l (j : Int) = l[j] := by
  simp [rd, List.getD_eq_getElem?_getD, List.getElem?_eq_getElem h]
theorem shExt {α : Type} (d : Array α) (n : Nat) (h : d.size = n) : (d.extract 0 n).toList = d.toList := by
  subst h
  simp
theorem shNodup {α : Type} {l : List α} (h : l.Nodup) {i j : Nat} (hi : i < l.length) (hj : j < l.length) (e : l[i] = l[j]) : i = j := by
  have hp := List.pairwise_iff_getElem.1 h
  rcases Nat.lt_trichotomy i j with c | c | c
  · exact absurd e (hp i j hi hj c)
  · exact c
  · exact absurd e.symm (hp j i hj hi c)
theorem shOrd (total all : Int) (l : List Int) (m : Nat) (ρ : Nat → Int) (hcf : ∀ x y : Fin (m + 1), impl_ShareOut.cfi total all l m x y = ρ y.val - ρ x.val) : ShO (m + 1) ρ (impl_ShareOut.ord total all l m) := by
  have hsz : (List.finRange (m + 1)).toArray.size = m + 1 := by simp
  have hat : ∀ j, j < m + 1 → ((List.finRange (m + 1)).toArray[j]!).val = j := fun j hj => by
    rw [getElem!_pos _ j (by rw [hsz]; exact hj)]
    simp
  have hlt : ∀ x y : Fin (m + 1), y.val < x.val → ltOf (impl_ShareOut.cfi total all l m) x y = shLt m ρ x y := fun x y hxy => by
    unfold ltOf shLt
    rw [hcf]
    by_cases c : ρ y.val < ρ x.val
    · rw [decide_eq_true (by omega), decide_eq_true (Or.inl c)]
    · rw [decide_eq_false (by omega), decide_eq_false (by omega)]
  have hsig : impl_ShareOut.sig total all l m = Go.Sort.insertionSort (shLt m ρ) (List.finRange (m + 1)).toArray 0 (m + 1) := by
    unfold impl_ShareOut.sig Go.Sort.insertionSort
    exact shOut m _ _ hlt m (0 + 1) _ (by omega) hsz (fun j hj hjm => by have := hat j hjm; omega) (fun j _ hjm => hat j hjm)
  obtain ⟨⟨_, _, hp⟩, hs⟩ := Go.Sort.insertionSort_holds (shLt_swo m ρ) (List.finRange (m + 1)).toArray 0 (m + 1) (by omega) (by rw [hsz]; exact Nat.le_refl _)
  rw [← hsig] at hp hs
  have hss := impl_ShareOut.sig_size total all l m
  have hol := impl_ShareOut.ord_len total all l m
  have hp2 : (impl_ShareOut.sig total all l m).toList.Perm (List.finRange (m + 1)) := by
    have e1 := shExt (impl_ShareOut.sig total all l m) (m + 1) hss
    have e2 := shExt (List.finRange (m + 1)).toArray (m + 1) hsz
    rw [e1, e2] at hp
    exact hp
  have hnd : (impl_ShareOut.ord total all l m).Nodup := by
    unfold impl_ShareOut.ord
    have h1 : (impl_ShareOut.sig total all l m).toList.Nodup := hp2.nodup_iff.2 (List.nodup_finRange _)
    rw [List.nodup_iff_pairwise_ne, List.pairwise_map]
    rw [List.nodup_iff_pairwise_ne] at h1
    exact h1.imp (fun {a b} hab e => hab (Fin.ext (by omega)))
  have hrd : ∀ s : Nat, s < m + 1 → rd (impl_ShareOut.ord total all l m) (s : Int) = (((impl_ShareOut.sig total all l m)[s]!).val : Int) := fun s hs => by
    rw [sh_rd _ s (by omega), getElem!_pos _ s (by omega)]
    unfold impl_ShareOut.ord
    simp
  refine ⟨hol, fun s hs => impl_ShareOut.ord_lt total all l m s hs, fun s t h1 h2 e => ?_, fun j hj => ?_, fun s t h1 h2 => ?_⟩
  · rw [sh_rd _ s (by omega), sh_rd _ t (by omega)] at e
    exact shNodup hnd _ _ e
  · have hm : (⟨j, hj⟩ : Fin (m + 1)) ∈ (impl_ShareOut.sig total all l m).toList := hp2.mem_iff.2 (List.mem_finRange _)
    have hm2 : (j : Int) ∈ impl_ShareOut.ord total all l m := List.mem_map.2 ⟨_, hm, rfl⟩
    obtain ⟨s, hs, e⟩ := List.getElem_of_mem hm2
    exact ⟨s, by omega, by rw [sh_rd _ s hs]; exact e⟩
  · have h := hs s t (Nat.zero_le _) h1 h2
    have hne : rd (impl_ShareOut.ord total all l m) (s : Int) ≠ rd (impl_ShareOut.ord total all l m) (t : Int) := fun e => by
      rw [sh_rd _ s (by omega), sh_rd _ t (by omega)] at e
      have := shNodup hnd _ _ e
      omega
    rw [hrd s (by omega), hrd t h2] at hne ⊢
    generalize (impl_ShareOut.sig total all l m)[s]! = x at h hne ⊢
    generalize (impl_ShareOut.sig total all l m)[t]! = y at h hne ⊢
    unfold shLt at h
    rw [decide_eq_false_iff_not] at h
    rw [Int.toNat_natCast, Int.toNat_natCast]
    omega
/-! the reference's picks: the first greatest rest, struck out -/
theorem sh_set (l : List Int) (i j : Int) (v : Int) (h0 : 0 ≤ i) (h1 : i < l.length) (h2 : 0 ≤ j) : rd (l.set i.toNat v) j = if j = i then v else rd l j := by
  unfold rd
  rw [List.getD_eq_getElem?_getD, List.getD_eq_getElem?_getD]
  by_cases e : j = i
  · subst e
    rw [if_pos rfl, List.getElem?_set_self (by omega)]
    rfl
  · rw [if_neg e, List.getElem?_set_ne (by omega)]
/-! the sums -/
def ssum : List Int → Int
  | [] => 0
  | x :: xs => x + ssum xs
theorem ssum_append (a b : List Int) : ssum (a ++ b) = ssum a + ssum b := by
  induction a with
  | nil => simp [ssum]
  | cons x a ih => simp only [List.cons_append, ssum, ih]; omega
theorem ssum_take (l : List Int) (i : Nat) (h : i < l.length) : ssum (l.take (i + 1)) = ssum (l.take i) + rd l (i : Int) := by
  rw [take_succ' l i h, ssum_append, sh_rd l i h]
  simp [ssum]
def shIn (l : List Int) : Prop := ∀ x ∈ l, 0 ≤ x ∧ x ≤ 1000
theorem shIn_rd {l : List Int} (h : shIn l) (i : Nat) (hi : i < l.length) : 0 ≤ rd l (i : Int) ∧ rd l (i : Int) ≤ 1000 := by
  rw [sh_rd l i hi]
  exact h _ (List.getElem_mem hi)
theorem ssum_b {l : List Int} (h : shIn l) (i : Nat) (hi : i ≤ l.length) : 0 ≤ ssum (l.take i) ∧ ssum (l.take i) ≤ 1000 * i := by
  induction i with
  | zero => simp [ssum]
  | succ i ih =>
    have := ih (by omega)
    have := shIn_rd h i (by omega)
    rw [ssum_take l i (by omega)]
    omega
theorem sumOf_l0 (l : List Int) (hl : l.length ≤ 10) (h : shIn l) : ∀ d i : Nat, i + d = l.length → Ev (fun k => impl_sumOf.l0 k (ssum (l.take i)) l (l.length : Int) (i : Int)) (ssum l) := by
  intro d
  induction d with
  | zero =>
    intro i hi
    obtain rfl : i = l.length := by omega
    refine Ev.step (fun k => by rw [impl_sumOf.l0]) ?_
    rw [List.take_length]
    exact evF (by omega) (evSome _)
  | succ d ih =>
    intro i hi
    refine Ev.step (fun k => by rw [impl_sumOf.l0]) ?_
    refine evT (by omega) (evT (by omega) (evT (by omega) ?_))
    have h1 := ssum_b h i (by omega)
    have h2 := shIn_rd h i (by omega)
    rw [w64s i (by omega), w64 (by omega) (by omega), ← ssum_take l i (by omega)]
    exact ih (i + 1) (by omega)
theorem sumOf_ev (l : List Int) (hl : l.length ≤ 10) (h : shIn l) : Ev (fun k => impl_sumOf.f k l) (ssum l) := by
  unfold impl_sumOf.f
  simpa [ssum] using sumOf_l0 l hl h l.length 0 (by omega)
theorem shIn_all (l : List Int) : l.all (impl_areWithin.ok 0 1000) = true ↔ shIn l := by
  rw [List.all_eq_true]
  unfold shIn impl_areWithin.ok
  constructor
  · intro h x hx
    have := h x hx
    rw [Bool.and_eq_true, decide_eq_true_eq, decide_eq_true_eq] at this
    exact this
  · intro h x hx
    rw [Bool.and_eq_true, decide_eq_true_eq, decide_eq_true_eq]
    exact h x hx
def shRs (a0 S x : Int) : Int := Int.tmod (wrap64 (a0 * x)) S
theorem shQ {a0 S x : Int} (h0 : 0 ≤ a0) (h1 : a0 ≤ 1000000) (hS : 1 ≤ S) (hx : 0 ≤ x ∧ x ≤ 1000) : S * impl_ShareOut.q a0 S x + shRs a0 S x = a0 * x ∧ 0 ≤ shRs a0 S x ∧ shRs a0 S x < S ∧ 0 ≤ impl_ShareOut.q a0 S x ∧ impl_ShareOut.q a0 S x ≤ 1000000000 := by
  have p0 : 0 ≤ a0 * x := Int.mul_nonneg h0 hx.1
  have p1 : a0 * x ≤ 1000000 * 1000 := Int.mul_le_mul h1 hx.2 hx.1 (by omega)
  unfold impl_ShareOut.q shRs
  have ew : wrap64 (a0 * x) = a0 * x := w64 (by omega) (by omega)
  rw [ew, Int.tdiv_eq_ediv_of_nonneg p0, Int.tmod_eq_emod_of_nonneg p0]
  have d0 : 0 ≤ a0 * x / S := Int.ediv_nonneg p0 (by omega)
  have d1 : a0 * x / S ≤ a0 * x := Int.ediv_le_self _ p0
  rw [w64 (by omega) (by omega)]
  exact ⟨Int.mul_ediv_add_emod _ _, Int.emod_nonneg _ (by omega), Int.emod_lt_of_pos _ (by omega), d0, by omega⟩
theorem shSums {a0 S : Int} {l : List Int} (h0 : 0 ≤ a0) (h1 : a0 ≤ 1000000) (hS : 1 ≤ S) (hl : l.length ≤ 10) (h : shIn l) : ∀ i : Nat, i ≤ l.length →
    S * ssum ((l.take i).map (impl_ShareOut.q a0 S)) + ssum ((l.take i).map (shRs a0 S)) = a0 * ssum (l.take i) ∧ 0 ≤ ssum ((l.take i).map (shRs a0 S)) ∧ ssum ((l.take i).map (shRs a0 S)) ≤ S * i ∧
    0 ≤ ssum ((l.take i).map (impl_ShareOut.q a0 S)) ∧ ssum ((l.take i).map (impl_ShareOut.q a0 S)) ≤ 1000000000 * i ∧ impl_ShareOut.lft a0 S (l.take i) = a0 - ssum ((l.take i).map (impl_ShareOut.q a0 S)) := by
  intro i
  induction i with
  | zero => intro _; simp [ssum, impl_ShareOut.lft]
  | succ i ih =>
    intro hi
    obtain ⟨e1, e2, e3, e4, e5, e6⟩ := ih (by omega)
    obtain ⟨f1, f2, f3, f4, f5⟩ := shQ h0 h1 hS (shIn_rd h i (by omega))
    rw [impl_ShareOut.lft_take a0 S l i (by omega), impl_ShareOut.map_take _ l i (by omega), impl_ShareOut.map_take _ l i (by omega), ssum_append, ssum_append, ssum_take l i (by omega), e6]
    have g1 : ssum [impl_ShareOut.q a0 S (rd l (i : Int))] = impl_ShareOut.q a0 S (rd l (i : Int)) := by simp [ssum]
    have g2 : ssum [shRs a0 S (rd l (i : Int))] = shRs a0 S (rd l (i : Int)) := by simp [ssum]
    rw [g1, g2, Int.mul_add, Int.mul_add, w64 (by omega) (by omega)]
    have g3 : S * ((i + 1 : Nat) : Int) = S * i + S := by rw [show ((i + 1 : Nat) : Int) = (i : Int) + 1 by omega, Int.mul_add, Int.mul_one]
    rw [g3]
    refine ⟨by omega, by omega, by omega, by omega, by omega, by omega⟩
theorem shLeft {a0 : Int} {l : List Int} (h0 : 0 ≤ a0) (h1 : a0 ≤ 1000000) (hS : 1 ≤ ssum l) (hl : l.length ≤ 10) (h : shIn l) : 0 ≤ impl_ShareOut.lft a0 (ssum l) l ∧ impl_ShareOut.lft a0 (ssum l) l ≤ (l.length : Int) := by
  have hs := shSums (l := l) h0 h1 hS hl h l.length (Nat.le_refl _)
  rw [List.take_length] at hs
  obtain ⟨e1, e2, e3, e4, e5, e6⟩ := hs
  generalize ssum l = S at *
  generalize ssum (l.map (impl_ShareOut.q a0 S)) = Q at *
  generalize ssum (l.map (shRs a0 S)) = W at *
  rw [e6]
  have hm : S * (a0 - Q) = W := by rw [Int.mul_sub, Int.mul_comm S a0]; omega
  constructor
  · refine Decidable.byContradiction fun hc => ?_
    have := Int.mul_le_mul_of_nonneg_left (show a0 - Q ≤ -1 by omega) (show 0 ≤ S by omega)
    rw [hm] at this
    omega
  · refine Decidable.byContradiction fun hc => ?_
    have := Int.mul_le_mul_of_nonneg_left (show (l.length : Int) + 1 ≤ a0 - Q by omega) (show 0 ≤ S by omega)
    rw [hm, Int.mul_add, Int.mul_one] at this
    omega
theorem sh_map_rd (f : Int → Int) (l : List Int) (j : Nat) (h : j < l.length) : rd (l.map f) (j : Int) = f (rd l (j : Int)) := by
  rw [sh_rd _ j (by rw [List.length_map]; exact h), sh_rd l j h, List.getElem_map]
theorem allF {l : List Int} (h : ¬ (l.length ≤ 10 ∧ shIn l)) : Ev (fun k => impl_ShareOut.all? k l) 0 := by
  unfold impl_ShareOut.all?
  refine evIf (fun h1 => ?_) (fun _ => evSome _)
  refine evIf (fun h2 => absurd ⟨h1, (shIn_all l).1 h2⟩ h) (fun _ => evSome _)
theorem allT {l : List Int} (h1 : l.length ≤ 10) (h2 : shIn l) : Ev (fun k => impl_ShareOut.all? k l) (ssum l) := by
  unfold impl_ShareOut.all?
  exact evT h1 (evT ((shIn_all l).2 h2) (sumOf_ev l h1 h2))
/-! drawByte -/
theorem and255 (x : Int) : 0 ≤ Go.bits .and .i64 x 255 ∧ Go.bits .and .i64 x 255 ≤ 255 := by
  simp only [Go.bits, BitVec.toNat_and]
  have h : (BitVec.ofInt IntKind.i64.bits 255).toNat = 255 := by decide
  rw [h, IntKind.wrap_i64]
  have := @Nat.and_le_right (BitVec.ofInt IntKind.i64.bits x).toNat 255
  omega
/-- a byte drawn -/
theorem dr_byte {b : List Int} {i h : Int} (hb : b.length ≤ 1048576) (hi : 0 ≤ i ∧ i ≤ b.length) : ∃ v i' h', spec_l01Byte.f b i h = some (v, i', h') ∧ (0 ≤ v ∧ v ≤ 255) ∧ (0 ≤ i' ∧ i' ≤ b.length) := by
  unfold spec_l01Byte.f
  by_cases c : i < (b.length : Int)
  · rw [if_pos c, if_pos hi.1]
    exact ⟨_, _, _, rfl, and255 _, by rw [w64 (by omega) (by omega)]; omega⟩
  · rw [if_neg c]
    exact ⟨_, _, _, rfl, and255 _, hi⟩
/-! drawBelow -/
theorem dr_below {b : List Int} {i h n : Int} (hb : b.length ≤ 1048576) (hi : 0 ≤ i ∧ i ≤ b.length) (hn : 1 ≤ n ∧ n ≤ 256) : ∃ v i' h', spec_l01Below.f b i h n = some (v, i', h') ∧ (0 ≤ v ∧ v < n) ∧ (0 ≤ i' ∧ i' ≤ b.length) := by
  obtain ⟨v, i', h', e, hv, hi'⟩ := dr_byte (h := h) hb hi
  unfold spec_l01Below.f
  rw [if_neg (by omega), if_pos hn.2, e, Option.bind_some, if_neg (by omega)]
  refine ⟨_, _, _, rfl, ?_, hi'⟩
  show 0 ≤ Int.tmod v n ∧ Int.tmod v n < n
  rw [Int.tmod_eq_emod_of_nonneg hv.1]
  exact ⟨Int.emod_nonneg _ (by omega), Int.emod_lt_of_pos _ (by omega)⟩
/-! drawNew -/
theorem dr_new_l0 (l : List Int) (hl : l.length ≤ 1048576) : ∀ (d i : Nat) (x : Int), i + d = l.length → ∃ h, Ev (fun k => spec_l01New.l0 k l x (i : Int)) (l, (0 : Int), h) := by
  intro d
  induction d with
  | zero =>
    intro i x hi
    refine ⟨x, Ev.step (fun k => by rw [spec_l01New.l0]) ?_⟩
    exact evF (by omega) (evSome _)
  | succ d ih =>
    intro i x hi
    by_cases c : (i : Int) < 4000
    · obtain ⟨h, e⟩ := ih (i + 1) (Go.bits .and .i64 (wrap64 ((wrap64 ((wrap64 (x * 179)) + (wrap64 (rd l (i : Int))))) + 7)) 1073741823) (by omega)
      refine ⟨h, Ev.step (fun k => by rw [spec_l01New.l0]) ?_⟩
      refine evT (by omega) (evT c (evT (by omega) ?_))
      rw [w64s i (by omega)]
      exact e
    · refine ⟨x, Ev.step (fun k => by rw [spec_l01New.l0]) ?_⟩
      exact evT (by omega) (evF c (evSome _))
theorem dr_skip (b : List Int) (hb : b.length ≤ 1048576) (n : Nat) (hn : n ≤ 1000) : ∀ (d j : Nat) (i h : Int), j + d = n → (0 ≤ i ∧ i ≤ b.length) → ∃ i' h', Ev (fun k => spec_l31New.l0 k b i h (n : Int) (j : Int)) (b, i', h') ∧ (0 ≤ i' ∧ i' ≤ b.length) := by
  intro d
  induction d with
  | zero =>
    intro j i h hj hi
    refine ⟨i, h, Ev.step (fun k => by rw [spec_l31New.l0]) ?_, hi⟩
    exact evF (by omega) (evSome _)
  | succ d ih =>
    intro j i h hj hi
    obtain ⟨v, i1, h1, e, _, hi1⟩ := dr_byte (h := h) hb hi
    obtain ⟨i2, h2, e2, hi2⟩ := ih (j + 1) i1 h1 (by omega) hi1
    refine ⟨i2, h2, Ev.step (fun k => by rw [spec_l31New.l0]) ?_, hi2⟩
    refine evT (by omega) (evB e ?_)
    rw [w64s j (by omega)]
    exact e2
/-- a new cursor, some bytes on -/
theorem dr_new (l : List Int) (hl : l.length ≤ 1048576) (n : Nat) (hn : n ≤ 1000) : ∃ i h, Ev (fun k => spec_l31New.f k l (n : Int)) (l, i, h) ∧ (0 ≤ i ∧ i ≤ l.length) := by
  obtain ⟨h, e⟩ := dr_new_l0 l hl l.length 0 (wrap64 (2173 + (l.length : Int))) (by omega)
  obtain ⟨i2, h2, e2, hi2⟩ := dr_skip l hl n hn n 0 0 h (by omega) (by omega)
  refine ⟨i2, h2, ?_, hi2⟩
  unfold spec_l31New.f
  exact Ev.bind (by unfold spec_l01New.f; exact e) e2
/-! drawNum -/
theorem dr_num (l : List Int) (hl : l.length ≤ 1048576) (n : Nat) (hn : n ≤ 1000) : ∃ v, Ev (fun k => spec_MakeNum.f k l (n : Int)) v ∧ 0 ≤ v ∧ v ≤ 65535 := by
  obtain ⟨i, h, e, hi⟩ := dr_new l hl n hn
  obtain ⟨v1, i1, h1, e1, hv1, hi1⟩ := dr_byte (h := h) hl hi
  obtain ⟨v2, i2, h2, e2, hv2, hi2⟩ := dr_byte (h := h1) hl hi1
  refine ⟨wrap64 (wrap64 (v1 * 256) + v2), ?_, ?_⟩
  · unfold spec_MakeNum.f
    exact Ev.bind e (evB e1 (evB e2 (evSome _)))
  · show 0 ≤ wrap64 (wrap64 (v1 * 256) + v2) ∧ wrap64 (wrap64 (v1 * 256) + v2) ≤ 65535
    rw [w64 (x := v1 * 256) (by omega) (by omega), w64 (by omega) (by omega)]
    omega
/-! drawSize -/
theorem dr_size_l1 : ∀ (d : Nat) (x : Int), 0 ≤ x → x + d ≤ 1000 → Ev (fun k => spec_MakeSize.l1 k x (d : Int)) (x + d) := by
  intro d
  induction d with
  | zero =>
    intro x h0 h1
    refine Ev.step (fun k => by rw [spec_MakeSize.l1]) ?_
    have e : x + ((0 : Nat) : Int) = x := by omega
    rw [e]
    exact evF (by omega) (evSome _)
  | succ d ih =>
    intro x h0 h1
    refine Ev.step (fun k => by rw [spec_MakeSize.l1]) ?_
    refine evT (by omega) ?_
    have h := ih (x + 1) (by omega) (by omega)
    rw [w64 (by omega) (by omega), w64 (by omega) (by omega)]
    have e1 : ((d + 1 : Nat) : Int) - 1 = (d : Int) := by omega
    have e2 : x + 1 + (d : Int) = x + ((d + 1 : Nat) : Int) := by omega
    rw [e1, ← e2]
    exact h
theorem dr_size (l : List Int) (hl : l.length ≤ 1048576) (n : Nat) (hn : n ≤ 1000) (lo hi : Int) (h0 : 0 ≤ lo) (h1 : lo ≤ hi) (h2 : hi - lo ≤ 98) (h3 : hi ≤ 900) : ∃ v, Ev (fun k => spec_MakeSize.f k l (n : Int) lo hi) v ∧ lo ≤ v ∧ v ≤ hi := by
  obtain ⟨i, h, e, hi'⟩ := dr_new l hl n hn
  obtain ⟨v, i1, h1', e1, hv, _⟩ := dr_below (h := h) (n := hi - lo + 1) hl hi' (by omega)
  obtain ⟨vn, rfl⟩ : ∃ vn : Nat, v = (vn : Int) := ⟨v.toNat, by omega⟩
  refine ⟨lo + vn, ?_, by omega, by omega⟩
  have hj : Ev (fun k => spec_MakeSize.j1 k l (n : Int) lo (hi - lo + 1)) (lo + vn) := by
    refine Ev.step (fun k => by rw [spec_MakeSize.j1]) ?_
    exact Ev.bind e (evB e1 (dr_size_l1 vn lo h0 (by omega)))
  have hl0 : ∀ (d : Nat) (j : Int), j + d = hi → lo ≤ j → Ev (fun k => spec_MakeSize.l0 k l (n : Int) lo hi (j - lo + 1) j) (lo + vn) := by
    intro d
    induction d with
    | zero =>
      intro j hj1 hj2
      obtain rfl : j = hi := by omega
      refine Ev.step (fun k => by rw [spec_MakeSize.l0]) ?_
      exact evF (by omega) hj
    | succ d ih =>
      intro j hj1 hj2
      refine Ev.step (fun k => by rw [spec_MakeSize.l0]) ?_
      refine evT (by omega) (evT (by omega) ?_)
      have h := ih (j + 1) (by omega) (by omega)
      rw [w64 (by omega) (by omega), w64 (by omega) (by omega)]
      have e3 : j + 1 - lo + 1 = j - lo + 1 + 1 := by omega
      rw [e3] at h
      exact h
  unfold spec_MakeSize.f
  have h := hl0 (hi - lo).toNat lo (by omega) (by omega)
  have e4 : lo - lo + 1 = 1 := by omega
  rw [e4] at h
  exact h
/-! drawWanted -/
theorem dr_wanted_l0 (b : List Int) (hb : b.length ≤ 1048576) : ∀ (d : Nat) (x : List Int) (i h : Int), x.length + d ≤ 10 → (∀ y ∈ x, 0 ≤ y ∧ y ≤ 29) → (0 ≤ i ∧ i ≤ b.length) → ∃ w i' h', Ev (fun k => spec_l19Draw.l0 k x (d : Int) b i h) (w, i', h') ∧ w.length = x.length + d ∧ (∀ y ∈ w, 0 ≤ y ∧ y ≤ 29) := by
  intro d
  induction d with
  | zero =>
    intro x i h hx hy hi
    refine ⟨x, i, h, Ev.step (fun k => by rw [spec_l19Draw.l0]) ?_, rfl, hy⟩
    exact evF (by omega) (evSome _)
  | succ d ih =>
    intro x i h hx hy hi
    obtain ⟨v, i1, h1, e1, hv, hi1⟩ := dr_below (h := h) (n := 30) hb hi (by omega)
    obtain ⟨w, i2, h2, e2, hw, hwy⟩ := ih (x ++ [v]) i1 h1 (by rw [List.length_append, List.length_singleton]; omega) (fun y hm => by
      rw [List.mem_append, List.mem_singleton] at hm
      rcases hm with hm | rfl
      · exact hy y hm
      · omega) hi1
    refine ⟨w, i2, h2, Ev.step (fun k => by rw [spec_l19Draw.l0]) ?_, by rw [hw, List.length_append, List.length_singleton]; omega, hwy⟩
    refine evT (by omega) (evB e1 (evT (by omega) ?_))
    have e : wrap64 (((d + 1 : Nat) : Int) - 1) = (d : Int) := by rw [w64 (by omega) (by omega)]; omega
    rw [e]
    exact e2
theorem dr_wanted (l : List Int) (hl : l.length ≤ 1048576) (n : Nat) (hn : n ≤ 1000) : ∃ w, Ev (fun k => spec_MakeWanted.f k l (n : Int)) w ∧ (1 ≤ w.length ∧ w.length ≤ 4) ∧ ∀ y ∈ w, 0 ≤ y ∧ y ≤ 29 := by
  obtain ⟨i, h, e, hi⟩ := dr_new l hl n hn
  obtain ⟨v, i1, h1, e1, hv, hi1⟩ := dr_below (h := h) (n := 4) hl hi (by omega)
  obtain ⟨w, i2, h2, e2, hw, hy⟩ := dr_wanted_l0 l hl (1 + v).toNat [] i1 h1 (by simp; omega) (fun y hm => by cases hm) hi1
  refine ⟨w, ?_, by simp at hw; omega, hy⟩
  unfold spec_MakeWanted.f spec_l19Draw.f
  refine Ev.bind e (Ev.bind (a := (w, i2, h2)) (evB e1 ?_) (evSome w))
  have e3 : wrap64 (1 + v) = ((1 + v).toNat : Int) := by rw [w64 (by omega) (by omega)]; omega
  show Ev (fun k => spec_l19Draw.l0 k [] (wrap64 (1 + v)) l i1 h1) (w, i2, h2)
  rw [e3]
  exact e2
/-! priceLaw -/
/-! what holds of the price list's laws: the price by the piece does not rise; the best amount is the least -/
def stA (l : List (List Int)) (i : Nat) : Int := rd (rd_L1 l (i : Int)) 0
def stP (l : List (List Int)) (i : Nat) : Int := rd (rd_L1 l (i : Int)) 1
theorem ok_step {l : List (List Int)} (ho : ∀ j, j < l.length → okI l j = true) {i : Nat} (hi : i + 1 < l.length) : stA l i < stA l (i + 1) ∧ stP l (i + 1) ≤ stP l i := by
  have h := ho (i + 1) hi
  simp only [okI, decide_eq_true_eq] at h
  have h2 := h.2.2 (by omega)
  have e : (((i + 1 : Nat) : Int) - 1) = (i : Int) := by omega
  rw [e] at h2
  exact h2
theorem ok_mono {l : List (List Int)} (ho : ∀ j, j < l.length → okI l j = true) (i : Nat) : ∀ d : Nat, i + d < l.length → stP l (i + d) ≤ stP l i ∧ stA l i ≤ stA l (i + d) ∧ (0 < d → stA l i < stA l (i + d)) := by
  intro d
  induction d with
  | zero => intro _; simp
  | succ d ih =>
    intro h
    have h1 := ih (by omega)
    have h2 := ok_step ho (i := i + d) (by omega)
    rw [show i + (d + 1) = i + d + 1 by omega]
    omega
theorem ok_zero {l : List (List Int)} (ho : ∀ j, j < l.length → okI l j = true) (h : 0 < l.length) : stA l 0 = 0 := by
  have h := ho 0 h
  simp only [okI, decide_eq_true_eq] at h
  exact h.2.1 trivial
theorem unit_spec {l : List (List Int)} (a : Int) : ∀ (d i : Nat) (p : Int), i + d = l.length → (∃ j, i ≤ j ∧ j < l.length ∧ stA l j ≤ a ∧ priceFrom a l i d p = stP l j ∧ ∀ t, j < t → t < l.length → a < stA l t) ∨ (priceFrom a l i d p = p ∧ ∀ t, i ≤ t → t < l.length → a < stA l t)
  | 0, i, p, hi => Or.inr ⟨rfl, fun t h1 h2 => by omega⟩
  | d + 1, i, p, hi => by
    rw [priceFrom]
    have e : (if rd (rd_L1 l (i : Int)) 0 ≤ a then rd (rd_L1 l (i : Int)) 1 else p) = if stA l i ≤ a then stP l i else p := rfl
    rw [e]
    rcases unit_spec (l := l) a d (i + 1) (if stA l i ≤ a then stP l i else p) (by omega) with ⟨j, h1, h2, h3, h4, h5⟩ | ⟨h1, h2⟩
    · exact Or.inl ⟨j, by omega, h2, h3, h4, h5⟩
    · by_cases c : stA l i ≤ a
      · refine Or.inl ⟨i, Nat.le_refl _, by omega, c, ?_, fun t ht1 ht2 => h2 t (by omega) ht2⟩
        rw [h1, if_pos c]
      · refine Or.inr ⟨?_, fun t ht1 ht2 => ?_⟩
        · rw [h1, if_neg c]
        · by_cases e2 : t = i
          · subst e2; omega
          · exact h2 t (by omega) ht2
/-- the price by the piece of an amount: that of the last step that is reached -/
theorem unit_of {l : List (List Int)} (h : stepsOk l = true) {a : Int} (ha : 0 ≤ a) : ∃ j, j < l.length ∧ stA l j ≤ a ∧ price a l = stP l j * a ∧ ∀ t, j < t → t < l.length → a < stA l t := by
  obtain ⟨⟨hn, _⟩, ho⟩ := stepsOk_get h
  rcases unit_spec (l := l) a l.length 0 0 (by omega) with ⟨j, _, h2, h3, h4, h5⟩ | ⟨_, h2⟩
  · exact ⟨j, h2, h3, by unfold price; rw [h4], h5⟩
  · have := h2 0 (Nat.le_refl _) (by omega)
    rw [ok_zero ho (by omega)] at this
    omega
theorem unit_eq {l : List (List Int)} (ho : ∀ j, j < l.length → okI l j = true) {a : Int} {i j : Nat} (hi : i < l.length) (hj : j < l.length) (h1 : stA l i ≤ a) (h2 : ∀ t, i < t → t < l.length → a < stA l t) (h3 : stA l j ≤ a) (h4 : ∀ t, j < t → t < l.length → a < stA l t) : i = j := by
  rcases Nat.lt_trichotomy i j with c | c | c
  · have := h2 j c hj; omega
  · exact c
  · have := h4 i c hi; omega
theorem stP_b {l : List (List Int)} (ho : ∀ j, j < l.length → okI l j = true) {j : Nat} (hj : j < l.length) : 0 ≤ stP l j ∧ stP l j ≤ 1000 ∧ 0 ≤ stA l j ∧ stA l j ≤ 100000 := by
  have := okI_row (ho j hj)
  exact ⟨this.2.2.1, this.2.2.2, this.2.1.1, this.2.1.2⟩
/-- larger amounts are never dearer by the piece -/
theorem price_piece {l : List (List Int)} (h : stepsOk l = true) {a : Int} (ha : 0 ≤ a) : price (a + 1) l * a ≤ price a l * (a + 1) := by
  obtain ⟨_, ho⟩ := stepsOk_get h
  obtain ⟨j, hj, h1, h2, h3⟩ := unit_of h ha
  obtain ⟨i, hi, g1, g2, g3⟩ := unit_of h (show 0 ≤ a + 1 by omega)
  have hij : j ≤ i := by
    refine Decidable.byContradiction fun c => ?_
    have := g3 j (by omega) hj
    omega
  have hm := (ok_mono ho j (i - j) (by omega)).1
  rw [show j + (i - j) = i by omega] at hm
  rw [h2, g2, Int.mul_assoc, Int.mul_assoc, Int.mul_comm (a + 1) a]
  exact Int.mul_le_mul_of_nonneg_right hm (Int.mul_nonneg ha (by omega))
/-- no amount from a on costs less than the best -/
theorem price_least {l : List (List Int)} (h : stepsOk l = true) {a b : Int} (ha : 0 ≤ a) (hb : price b l ≤ price a l) (hs : ∀ t, t < l.length → stA l t > a → price b l ≤ price (stA l t) l) {x : Int} (hx : a ≤ x) : price b l ≤ price x l := by
  obtain ⟨_, ho⟩ := stepsOk_get h
  obtain ⟨j, hj, h1, h2, h3⟩ := unit_of h (show 0 ≤ x by omega)
  have hp := stP_b ho hj
  by_cases c : stA l j > a
  · have hc := hs j hj c
    obtain ⟨i, hi, g1, g2, g3⟩ := unit_of h (show 0 ≤ stA l j by omega)
    have e : j = i := unit_eq ho hj hi (Int.le_refl _) (fun t ht1 ht2 => by
      have hm := (ok_mono ho j (t - j) (by omega)).2.2 (by omega)
      rw [show j + (t - j) = t by omega] at hm
      exact hm) g1 g3
    rw [← e] at g2
    rw [h2]
    rw [g2] at hc
    exact Int.le_trans hc (Int.mul_le_mul_of_nonneg_left h1 hp.1)
  · obtain ⟨i, hi, g1, g2, g3⟩ := unit_of h ha
    have e : j = i := unit_eq ho hj hi (show stA l j ≤ a by omega) (fun t ht1 ht2 => by have := h3 t ht1 ht2; omega) g1 g3
    rw [← e] at g2
    rw [h2]
    rw [g2] at hb
    exact Int.le_trans hb (Int.mul_le_mul_of_nonneg_left hx hp.1)
theorem bestFrom_spec {l : List (List Int)} (ho : ∀ j, j < l.length → okI l j = true) (a : Int) : ∀ (d i : Nat) (b : Int), i + d = l.length → (a ≤ b ∧ b ≤ 100000 ∧ (b = a ∨ price b l < price a l)) →
    a ≤ bestFrom a l i d b ∧ bestFrom a l i d b ≤ 100000 ∧ (bestFrom a l i d b = a ∨ price (bestFrom a l i d b) l < price a l) ∧ price (bestFrom a l i d b) l ≤ price b l ∧ ∀ t, i ≤ t → t < l.length → stA l t > a → price (bestFrom a l i d b) l ≤ price (stA l t) l
  | 0, i, b, hi, h => ⟨h.1, h.2.1, h.2.2, Int.le_refl _, fun t h1 h2 => by omega⟩
  | d + 1, i, b, hi, h => by
    rw [bestFrom]
    have e : (if rd (rd_L1 l (i : Int)) 0 > a ∧ price (rd (rd_L1 l (i : Int)) 0) l < price b l then rd (rd_L1 l (i : Int)) 0 else b) = if stA l i > a ∧ price (stA l i) l < price b l then stA l i else b := rfl
    rw [e]
    have hi2 := stP_b ho (j := i) (by omega)
    by_cases c : stA l i > a ∧ price (stA l i) l < price b l
    · rw [if_pos c]
      have hpa : price (stA l i) l < price a l := by
        rcases h.2.2 with e2 | e2
        · rw [e2] at c; exact c.2
        · exact Int.lt_trans c.2 e2
      obtain ⟨r1, r2, r3, r4, r5⟩ := bestFrom_spec ho a d (i + 1) (stA l i) (by omega) ⟨by omega, hi2.2.2.2, Or.inr hpa⟩
      refine ⟨r1, r2, r3, by omega, fun t h1 h2 h3 => ?_⟩
      by_cases e3 : t = i
      · rw [e3]; exact r4
      · exact r5 t (by omega) h2 h3
    · rw [if_neg c]
      obtain ⟨r1, r2, r3, r4, r5⟩ := bestFrom_spec ho a d (i + 1) b (by omega) h
      refine ⟨r1, r2, r3, r4, fun t h1 h2 h3 => ?_⟩
      by_cases e3 : t = i
      · rw [e3]
        rw [e3] at h3
        have : ¬ price (stA l i) l < price b l := fun h4 => c ⟨h3, h4⟩
        omega
      · exact r5 t (by omega) h2 h3
/-! drawSteps -/
theorem rd_app {L : List (List Int)} {r : List Int} {j : Nat} (h : j < L.length) : rd_L1 (L ++ [r]) (j : Int) = rd_L1 L (j : Int) := by
  unfold rd_L1
  rw [List.getD_eq_getElem?_getD, List.getD_eq_getElem?_getD, Int.toNat_natCast, List.getElem?_append_left h]
theorem rd_last {L : List (List Int)} {r : List Int} : rd_L1 (L ++ [r]) (L.length : Int) = r := by
  unfold rd_L1
  rw [List.getD_eq_getElem?_getD, Int.toNat_natCast, List.getElem?_append_right (Nat.le_refl _)]
  simp
theorem ok_app {L : List (List Int)} {x y : Int} (hL : 1 ≤ L.length) (ho : ∀ j, j < L.length → okI L j = true) (hx : stA L (L.length - 1) < x ∧ x ≤ 100000) (hy : 0 ≤ y ∧ y ≤ stP L (L.length - 1)) : ∀ j, j < (L ++ [[x, y]]).length → okI (L ++ [[x, y]]) j = true := by
  intro j hj
  rw [List.length_append, List.length_singleton] at hj
  have hb := stP_b ho (j := L.length - 1) (by omega)
  by_cases c : j < L.length
  · have h := ho j c
    unfold okI at h ⊢
    rw [decide_eq_true_eq] at h ⊢
    rw [rd_app c]
    refine ⟨h.1, h.2.1, fun hp => ?_⟩
    have e : ((j : Int) - 1) = ((j - 1 : Nat) : Int) := by omega
    have h2 := h.2.2 hp
    rw [e] at h2 ⊢
    rw [rd_app (by omega)]
    exact h2
  · obtain rfl : j = L.length := by omega
    refine okI_t rd_last (by simp) ?_ ?_ (fun h => by omega) (fun _ => ?_)
    · show 0 ≤ x ∧ x ≤ 100000
      omega
    · show 0 ≤ y ∧ y ≤ 1000
      omega
    · have e : ((L.length : Int) - 1) = ((L.length - 1 : Nat) : Int) := by omega
      rw [e, rd_app (by omega)]
      exact ⟨hx.1, hy.2⟩
theorem stepsOk_of {L : List (List Int)} (h : 1 ≤ L.length ∧ L.length ≤ 6) (ho : ∀ j, j < L.length → okI L j = true) : stepsOk L = true := by
  have : ∀ d i, i + d = L.length → allFrom L i d = true := by
    intro d
    induction d with
    | zero => intro i _; rfl
    | succ d ih => intro i hi; rw [allFrom_t (ho i (by omega))]; exact ih (i + 1) (by omega)
  unfold stepsOk
  rw [this L.length 0 (by omega), decide_eq_true h]
  rfl
theorem dr_steps_l0 (b : List Int) (hb : b.length ≤ 1048576) : ∀ (d : Nat) (L : List (List Int)) (i h : Int), L.length + d ≤ 5 → 1 ≤ L.length → (∀ j, j < L.length → okI L j = true) → stA L (L.length - 1) ≤ 12 * L.length → (0 ≤ i ∧ i ≤ b.length) →
    ∃ s i' h', Ev (fun k => spec_l25Steps.l0 k L (d : Int) b i h) (s, i', h') ∧ stepsOk s = true ∧ s.length ≤ 5 := by
  intro d
  induction d with
  | zero =>
    intro L i h h1 h2 ho hA hi
    refine ⟨L, i, h, Ev.step (fun k => by rw [spec_l25Steps.l0]) ?_, stepsOk_of (by omega) ho, by omega⟩
    exact evF (by omega) (evSome _)
  | succ d ih =>
    intro L i h h1 h2 ho hA hi
    have hw : wrap64 ((L.length : Int) - 1) = ((L.length - 1 : Nat) : Int) := by rw [w64 (by omega) (by omega)]; omega
    have hrow := okI_row (ho (L.length - 1) (by omega))
    have hbd := stP_b ho (j := L.length - 1) (by omega)
    obtain ⟨v1, i1, h1', e1, hv1, hi1⟩ := dr_below (h := h) (n := 12) hb hi (by omega)
    obtain ⟨v2, i2, h2', e2, hv2, hi2⟩ := dr_below (h := h1') (n := 4) hb hi1 (by omega)
    obtain ⟨y, hy⟩ : ∃ y, y = mx 0 (wrap64 (stP L (L.length - 1) - v2)) := ⟨_, rfl⟩
    have hy2 : 0 ≤ y ∧ y ≤ stP L (L.length - 1) := by
      rw [hy, w64 (by omega) (by omega)]
      unfold mx
      split <;> omega
    have hx : wrap64 (wrap64 (stA L (L.length - 1) + 1) + v1) = stA L (L.length - 1) + 1 + v1 := by rw [w64 (x := stA L (L.length - 1) + 1) (by omega) (by omega), w64 (by omega) (by omega)]
    have hnew := ok_app (x := stA L (L.length - 1) + 1 + v1) (y := y) h2 ho ⟨by omega, by omega⟩ hy2
    obtain ⟨s, i3, h3, e3, hs, hsl⟩ := ih (L ++ [[stA L (L.length - 1) + 1 + v1, y]]) i2 h2' (by rw [List.length_append, List.length_singleton]; omega) (by rw [List.length_append, List.length_singleton]; omega) hnew (by
      rw [List.length_append, List.length_singleton, show L.length + 1 - 1 = L.length by omega]
      unfold stA
      rw [rd_last]
      show stA L (L.length - 1) + 1 + v1 ≤ _
      omega) hi2
    refine ⟨s, i3, h3, Ev.step (fun k => by rw [spec_l25Steps.l0]) ?_, hs, hsl⟩
    rw [hw]
    refine evT (by omega) (evT (by omega) (evT (by omega) (evT (by omega) (evB e1 (evT (by omega) (evB e2 (evT (by omega) ?_)))))))
    have e : wrap64 (((d + 1 : Nat) : Int) - 1) = (d : Int) := by rw [w64 (by omega) (by omega)]; omega
    rw [e]
    show Ev (fun k => spec_l25Steps.l0 k (L ++ [[wrap64 (wrap64 (stA L (L.length - 1) + 1) + v1), mx 0 (wrap64 (stP L (L.length - 1) - v2))]]) (d : Int) b i2 h2') _
    rw [hx, ← hy]
    exact e3
theorem dr_steps (l : List Int) (hl : l.length ≤ 1048576) (n : Nat) (hn : n ≤ 1000) : ∃ s, Ev (fun k => spec_MakeSteps.f k l (n : Int)) s ∧ stepsOk s = true ∧ s.length ≤ 5 := by
  obtain ⟨i, h, e, hi⟩ := dr_new l hl n hn
  obtain ⟨v, i1, h1, e1, hv, hi1⟩ := dr_below (h := h) (n := 20) hl hi (by omega)
  obtain ⟨v2, i2, h2, e2, hv2, hi2⟩ := dr_below (h := h1) (n := 5) hl hi1 (by omega)
  obtain ⟨d, rfl⟩ : ∃ d : Nat, v2 = (d : Int) := ⟨v2.toNat, by omega⟩
  obtain ⟨s, i3, h3, e3, hs, hsl⟩ := dr_steps_l0 l hl d [[0, wrap64 (5 + v)]] i2 h2 (by simp; omega) (by simp) (fun j hj => by
    obtain rfl : j = 0 := by simpa using hj
    refine okI_t rfl (by rfl) (show 0 ≤ (0 : Int) ∧ (0 : Int) ≤ 100000 by omega) ?_ (fun _ => rfl) (fun h => absurd h (by omega))
    show 0 ≤ wrap64 (5 + v) ∧ wrap64 (5 + v) ≤ 1000
    rw [w64 (by omega) (by omega)]
    omega) (show (0 : Int) ≤ 12 * ((1 : Nat) : Int) by omega) hi2
  refine ⟨s, ?_, hs, hsl⟩
  unfold spec_MakeSteps.f spec_l25Steps.f
  refine Ev.bind e (Ev.bind (a := (s, i3, h3)) (evB e1 (evB e2 e3)) (evSome s))
/-! shareLaw -/
theorem shPerm (total all : Int) (l : List Int) (m : Nat) (ρ : Nat → Int) (hcf : ∀ x y : Fin (m + 1), impl_ShareOut.cfi total all l m x y = ρ y.val - ρ x.val) : (impl_ShareOut.ord total all l m).Perm (impl_ShareOut.ids m) := by
  have hO := shOrd total all l m ρ hcf
  have hnd : (impl_ShareOut.ord total all l m).Nodup := by
    rw [List.nodup_iff_pairwise_ne, List.pairwise_iff_getElem]
    intro i j hi hj hij e
    have hl := hO.len
    have := hO.inj i j (by omega) (by omega) (by rw [sh_rd _ i hi, sh_rd _ j hj]; exact e)
    omega
  have hnd2 : (impl_ShareOut.ids m).Nodup := by
    unfold impl_ShareOut.ids
    have h1 := List.nodup_finRange (m + 1)
    rw [List.nodup_iff_pairwise_ne, List.pairwise_map]
    rw [List.nodup_iff_pairwise_ne] at h1
    exact h1.imp (fun {a b} hab e => hab (Fin.ext (by omega)))
  refine (List.perm_ext_iff_of_nodup hnd hnd2).2 (fun x => ⟨fun hx => ?_, fun hx => ?_⟩)
  · unfold impl_ShareOut.ord at hx
    obtain ⟨i, _, hi⟩ := List.mem_map.1 hx
    exact List.mem_map.2 ⟨i, List.mem_finRange _, hi⟩
  · obtain ⟨i, _, hi⟩ := List.mem_map.1 hx
    obtain ⟨s, hs, e⟩ := hO.sur i.val i.isLt
    rw [← hi, ← e, sh_rd _ s (by rw [hO.len]; exact hs)]
    exact List.getElem_mem _
theorem ssum_perm {a b : List Int} (h : a.Perm b) : ssum a = ssum b := by
  induction h with
  | nil => rfl
  | cons x _ ih => simp only [ssum, ih]
  | swap x y l => simp only [ssum]; omega
  | trans _ _ ih1 ih2 => rw [ih1, ih2]
theorem ids_map (l : List Int) (m : Nat) (hm : l.length = m + 1) (f : Int → Int) : (impl_ShareOut.ids m).map (fun j => f (rd l j)) = l.map f := by
  apply List.ext_getElem
  · simp [impl_ShareOut.ids, hm]
  · intro i h1 h2
    rw [List.getElem_map, List.getElem_map]
    have e : (impl_ShareOut.ids m)[i]'(by simpa using h1) = (i : Int) := by simp [impl_ShareOut.ids]
    rw [e, sh_rd l i (by simpa using h2)]
theorem ssum_set (l : List Int) : ∀ (p : Nat) (v : Int), p < l.length → ssum (l.set p v) = ssum l - rd l (p : Int) + v := by
  induction l with
  | nil => intro p v h; exact absurd h (by simp)
  | cons x l ih =>
    intro p v h
    cases p with
    | zero => simp only [List.set_cons_zero, ssum]; rw [sh_rd _ 0 (by simp)]; simp; omega
    | succ p =>
      have h2 : p < l.length := by simpa using h
      have := ih p v h2
      rw [sh_rd l p h2] at this
      rw [sh_rd _ (p + 1) h]
      simp only [List.set_cons_succ, ssum, this, List.getElem_cons_succ]
      omega
/-- what the shares are: one more at the first places of the order -/
theorem incs_spec {n : Nat} {ρ : Nat → Int} {O : List Int} (hO : ShO n ρ O) (o : List Int) (ho : o.length = n) (hb : ∀ x ∈ o, 0 ≤ x ∧ x ≤ 1000000000) : ∀ t : Nat, t ≤ n →
    ssum (impl_ShareOut.incs o (O.take t)) = ssum o + t ∧ ∀ s : Nat, s < n → rd (impl_ShareOut.incs o (O.take t)) (rd O (s : Int)) = rd o (rd O (s : Int)) + (if s < t then 1 else 0) := by
  intro t
  induction t with
  | zero =>
    intro _
    refine ⟨by simp [impl_ShareOut.incs], fun s _ => ?_⟩
    rw [if_neg (by omega)]
    simp [impl_ShareOut.incs]
  | succ t ih =>
    intro ht
    obtain ⟨h1, h2⟩ := ih (by omega)
    have hp := hO.lt t (by omega)
    obtain ⟨p, hpe⟩ : ∃ p : Nat, rd O (t : Int) = (p : Int) := ⟨(rd O (t : Int)).toNat, by omega⟩
    have hlen := impl_ShareOut.incs_len o (O.take t)
    have hv := h2 t (by omega)
    rw [if_neg (by omega), hpe] at hv
    have hop : 0 ≤ rd o (p : Int) ∧ rd o (p : Int) ≤ 1000000000 := by
      rw [sh_rd o p (by omega)]
      exact hb _ (List.getElem_mem _)
    rw [impl_ShareOut.incs_take o O t (by rw [hO.len]; omega), hpe, hv, w64 (by omega) (by omega)]
    refine ⟨?_, fun s hs => ?_⟩
    · rw [Int.toNat_natCast, ssum_set _ p _ (by omega), h1, hv]
      omega
    · have hs2 := hO.lt s hs
      rw [sh_set _ (p : Int) _ _ (by omega) (by omega) hs2.1]
      by_cases e : rd O (s : Int) = (p : Int)
      · have : s = t := hO.inj s t hs (by omega) (by rw [e, hpe])
        rw [if_pos e, e, if_pos (by omega)]
        omega
      · have : s ≠ t := fun e2 => e (by rw [e2, hpe])
        rw [if_neg e, h2 s hs]
        by_cases c : s < t
        · rw [if_pos c, if_pos (by omega)]
        · rw [if_neg c, if_neg (by omega)]
/-- the places that get one more have a rest -/
theorem rest_pos {n : Nat} {ρ : Nat → Int} {O : List Int} (hO : ShO n ρ O) (S : Int) (left : Nat) (hS : 1 ≤ S) (hρ : ∀ j, j < n → 0 ≤ ρ j ∧ ρ j < S) (hsum : ssum (O.map (fun j => ρ j.toNat)) = S * left) : ∀ s : Nat, s < n → s < left → 1 ≤ ρ (rd O (s : Int)).toNat := by
  intro s hs hsl
  refine Decidable.byContradiction fun c => ?_
  have hz : ∀ t, s ≤ t → t < n → ρ (rd O (t : Int)).toNat ≤ 0 := fun t h1 h2 => by
    by_cases e : t = s
    · subst e; omega
    · have := hO.srt s t (by omega) h2
      omega
  have hb : ∀ t : Nat, t ≤ n → ssum ((O.take t).map (fun j => ρ j.toNat)) ≤ (S - 1) * s ∧ (t ≤ s → ssum ((O.take t).map (fun j => ρ j.toNat)) ≤ (S - 1) * t) := by
    intro t
    induction t with
    | zero =>
      intro _
      have h0 : 0 ≤ (S - 1) * (s : Int) := Int.mul_nonneg (by omega) (by omega)
      simp [ssum]
      exact h0
    | succ t ih =>
      intro ht
      obtain ⟨i1, i2⟩ := ih (by omega)
      have hlt := hO.lt t (by omega)
      have hg := hρ (rd O (t : Int)).toNat (by omega)
      rw [impl_ShareOut.map_take _ O t (by rw [hO.len]; omega), ssum_append]
      have g1 : ssum [ρ (rd O (t : Int)).toNat] = ρ (rd O (t : Int)).toNat := by simp [ssum]
      rw [g1]
      have e1 : (S - 1) * ((t + 1 : Nat) : Int) = (S - 1) * t + (S - 1) := by rw [show ((t + 1 : Nat) : Int) = (t : Int) + 1 by omega, Int.mul_add, Int.mul_one]
      by_cases c2 : t + 1 ≤ s
      · have h3 := i2 (by omega)
        have h4 : (S - 1) * ((t + 1 : Nat) : Int) ≤ (S - 1) * s := Int.mul_le_mul_of_nonneg_left (by omega) (by omega)
        rw [e1] at h4 ⊢
        exact ⟨by omega, fun _ => by omega⟩
      · have := hz t (by omega) (by omega)
        exact ⟨by omega, fun h => absurd h c2⟩
  have h1 := (hb n (Nat.le_refl _)).1
  rw [← hO.len, List.take_length, hsum] at h1
  have h2 : S * (s + 1 : Int) ≤ S * left := Int.mul_le_mul_of_nonneg_left (by omega) (by omega)
  rw [Int.mul_add, Int.mul_one] at h2
  rw [Int.sub_mul, Int.one_mul] at h1
  omega
theorem share_law (a0 : Int) (l : List Int) (h0 : 0 ≤ a0) (h1 : a0 ≤ 1000000) (hn : 1 ≤ l.length ∧ l.length ≤ 10) (hin : shIn l) : ∃ out : List Int, Ev (fun k => impl_ShareOut.f k a0 l) out ∧ (ssum l = 0 → out = []) ∧
    (ssum l ≠ 0 → out.length = l.length ∧ ssum out = a0 ∧ (∀ x ∈ out, 0 ≤ x ∧ x ≤ 1000000001) ∧ ∀ j : Nat, j < l.length → -(ssum l) < rd out (j : Int) * ssum l - a0 * rd l (j : Int) ∧ rd out (j : Int) * ssum l - a0 * rd l (j : Int) < ssum l) := by
  have hl := hn.2
  have hw := within_t (lo := 0) (hi := 1000000) h0 h1
  have hb := ssum_b hin l.length (Nat.le_refl _)
  rw [List.take_length] at hb
  by_cases hS : ssum l = 0
  · refine ⟨[], ?_, fun _ => rfl, fun h => absurd hS h⟩
    unfold impl_ShareOut.f
    exact Ev.bind (allT hl hin) (evB hw (evF (fun h => by have := h.2; omega) (evSome _)))
  have hS1 : 1 ≤ ssum l := by omega
  obtain ⟨m, hm⟩ : ∃ m, l.length = m + 1 := ⟨l.length - 1, by omega⟩
  obtain ⟨hL0, hL1⟩ := shLeft h0 h1 hS1 hl hin
  have hcf : ∀ x y : Fin (m + 1), impl_ShareOut.cfi a0 (ssum l) l m x y = (fun i : Nat => shRs a0 (ssum l) (rd l (i : Int))) y.val - (fun i : Nat => shRs a0 (ssum l) (rd l (i : Int))) x.val := fun x y => by
    have hx := shQ h0 h1 hS1 (shIn_rd hin x.val (by have := x.isLt; omega))
    have hy := shQ h0 h1 hS1 (shIn_rd hin y.val (by have := y.isLt; omega))
    have e : impl_ShareOut.cfi a0 (ssum l) l m x y = wrap64 (shRs a0 (ssum l) (rd l (y.val : Int)) - shRs a0 (ssum l) (rd l (x.val : Int))) := rfl
    rw [e, w64 (by omega) (by omega)]
  have hO := shOrd a0 (ssum l) l m (fun i : Nat => shRs a0 (ssum l) (rd l (i : Int))) hcf
  have hP := shPerm a0 (ssum l) l m (fun i : Nat => shRs a0 (ssum l) (rd l (i : Int))) hcf
  have hs := shSums (l := l) h0 h1 hS1 hl hin l.length (Nat.le_refl _)
  rw [List.take_length] at hs
  obtain ⟨e1, _, _, _, _, e6⟩ := hs
  have hsum : ssum ((impl_ShareOut.ord a0 (ssum l) l m).map (fun j => shRs a0 (ssum l) (rd l j))) = ssum l * ((impl_ShareOut.lft a0 (ssum l) l).toNat : Int) := by
    rw [ssum_perm (hP.map _), ids_map l m hm (shRs a0 (ssum l)), Int.toNat_of_nonneg hL0, e6, Int.mul_sub, Int.mul_comm (ssum l) a0]
    omega
  have hpos := rest_pos hO (ssum l) (impl_ShareOut.lft a0 (ssum l) l).toNat hS1 (fun j hj => by
    have := shQ h0 h1 hS1 (shIn_rd hin j (by omega))
    exact ⟨this.2.1, this.2.2.1⟩) hsum
  have hq : ∀ x ∈ l.map (impl_ShareOut.q a0 (ssum l)), 0 ≤ x ∧ x ≤ 1000000000 := fun x hx => by
    obtain ⟨y, hy, rfl⟩ := List.mem_map.1 hx
    have := shQ h0 h1 hS1 (hin y hy)
    exact ⟨this.2.2.2.1, this.2.2.2.2⟩
  obtain ⟨i1, i2⟩ := incs_spec hO (l.map (impl_ShareOut.q a0 (ssum l))) (by rw [List.length_map, hm]) hq (impl_ShareOut.lft a0 (ssum l) l).toNat (by omega)
  have hlen : (impl_ShareOut.incs (l.map (impl_ShareOut.q a0 (ssum l))) ((impl_ShareOut.ord a0 (ssum l) l m).take (impl_ShareOut.lft a0 (ssum l) l).toNat)).length = l.length := by rw [impl_ShareOut.incs_len, List.length_map]
  have hval : ∀ j : Nat, j < l.length → ∃ dl : Int, (dl = 0 ∨ dl = 1 ∧ 1 ≤ shRs a0 (ssum l) (rd l (j : Int))) ∧ rd (impl_ShareOut.incs (l.map (impl_ShareOut.q a0 (ssum l))) ((impl_ShareOut.ord a0 (ssum l) l m).take (impl_ShareOut.lft a0 (ssum l) l).toNat)) (j : Int) = impl_ShareOut.q a0 (ssum l) (rd l (j : Int)) + dl := fun j hj => by
    obtain ⟨s, hs, e⟩ := hO.sur j (by omega)
    have h2 := i2 s hs
    rw [e, sh_map_rd _ l j hj] at h2
    refine ⟨_, ?_, h2⟩
    by_cases c : s < (impl_ShareOut.lft a0 (ssum l) l).toNat
    · rw [if_pos c]
      refine Or.inr ⟨rfl, ?_⟩
      have h3 := hpos s hs c
      rw [e, Int.toNat_natCast] at h3
      exact h3
    · rw [if_neg c]
      exact Or.inl rfl
  refine ⟨_, ?_, fun h => absurd h hS, fun _ => ⟨hlen, ?_, fun x hx => ?_, fun j hj => ?_⟩⟩
  · unfold impl_ShareOut.f
    refine Ev.bind (allT hl hin) (evB hw (evT ⟨rfl, hS1⟩ ?_))
    unfold impl_ShareOut.main
    refine evT ⟨by omega, hl, hL0, hL1⟩ ?_
    rw [show l.length - 1 = m by omega]
    exact evSome _
  · rw [i1]
    omega
  · obtain ⟨j, hj, rfl⟩ := List.getElem_of_mem hx
    obtain ⟨dl, hd, e⟩ := hval j (by omega)
    rw [sh_rd _ j hj] at e
    have := shQ h0 h1 hS1 (shIn_rd hin j (by omega))
    rw [e]
    rcases hd with rfl | ⟨rfl, _⟩ <;> omega
  · obtain ⟨dl, hd, e⟩ := hval j hj
    have h3 := shQ h0 h1 hS1 (shIn_rd hin j hj)
    rw [e, Int.add_mul, Int.mul_comm (impl_ShareOut.q a0 (ssum l) (rd l (j : Int))) (ssum l)]
    rcases hd with rfl | ⟨rfl, hr⟩
    · rw [Int.zero_mul]; omega
    · rw [Int.one_mul]; omega
/-! lawsSum -/
theorem lsum_l0 (l : List Int) (hl : l.length ≤ 10) (h : ∀ x ∈ l, 0 ≤ x ∧ x ≤ 1000000001) : ∀ d i : Nat, i + d = l.length → (0 ≤ ssum (l.take i) ∧ ssum (l.take i) ≤ 1000000001 * i) → Ev (fun k => laws_sum.l0 k (ssum (l.take i)) l (l.length : Int) (i : Int)) (ssum l) := by
  intro d
  induction d with
  | zero =>
    intro i hi _
    obtain rfl : i = l.length := by omega
    refine Ev.step (fun k => by rw [laws_sum.l0]) ?_
    rw [List.take_length]
    exact evF (by omega) (evSome _)
  | succ d ih =>
    intro i hi h1
    refine Ev.step (fun k => by rw [laws_sum.l0]) ?_
    refine evT (by omega) (evT (by omega) (evT (by omega) ?_))
    have h2 : 0 ≤ rd l (i : Int) ∧ rd l (i : Int) ≤ 1000000001 := by rw [sh_rd l i (by omega)]; exact h _ (List.getElem_mem _)
    have hs := ssum_take l i (by omega)
    rw [w64s i (by omega), w64 (by omega) (by omega), ← hs]
    exact ih (i + 1) (by omega) (by rw [hs]; omega)
theorem lsum_ev (l : List Int) (hl : l.length ≤ 10) (h : ∀ x ∈ l, 0 ≤ x ∧ x ≤ 1000000001) : Ev (fun k => laws_sum.f k l) (ssum l) := by
  unfold laws_sum.f
  simpa [ssum] using lsum_l0 l hl h l.length 0 (by omega) (by simp [ssum])
/-! roundUp -/
theorem roundUp_ev (p u : Int) (hp : 0 ≤ p ∧ p ≤ 100000000) (hu : 1 ≤ u ∧ u ≤ 1000) : ∃ r, impl_RoundUp.f p u = some r ∧ p ≤ r ∧ r < p + u ∧ Int.tmod r u = 0 := by
  unfold impl_RoundUp.f
  rw [within_t hp.1 hp.2, Option.bind_some, if_pos rfl, within_t hu.1 hu.2, Option.bind_some, if_pos rfl, if_neg (by omega)]
  have e1 : wrap64 (wrap64 (p + u) - 1) = p + u - 1 := by rw [w64 (x := p + u) (by omega) (by omega), w64 (by omega) (by omega)]
  rw [e1, Int.tdiv_eq_ediv_of_nonneg (by omega)]
  have d1 := Int.mul_ediv_add_emod (p + u - 1) u
  have d2 := Int.emod_nonneg (p + u - 1) (show u ≠ 0 by omega)
  have d3 := Int.emod_lt_of_pos (p + u - 1) (show 0 < u by omega)
  have d4 : 0 ≤ (p + u - 1) / u := Int.ediv_nonneg (by omega) (by omega)
  have d5 : (p + u - 1) / u ≤ p + u - 1 := Int.ediv_le_self _ (by omega)
  generalize (p + u - 1) / u = q at *
  generalize (p + u - 1) % u = e at *
  rw [Int.mul_comm] at d1
  refine ⟨_, rfl, ?_⟩
  rw [w64 (x := q) (by omega) (by omega), w64 (by omega) (by omega)]
  exact ⟨by omega, by omega, Int.mul_tmod_left _ _⟩
/-! valueAfter -/
def va (p : Int) : Int → Nat → Int
  | x, 0 => x
  | x, n + 1 => va p (x - x * p / 100) n
theorem va_step {p x : Int} (hp : 0 ≤ p ∧ p ≤ 100) (hx : 0 ≤ x ∧ x ≤ 1000000) : 0 ≤ x - x * p / 100 ∧ x - x * p / 100 ≤ x ∧ wrap64 (x - wrap64 (Int.tdiv (wrap64 (x * p)) 100)) = x - x * p / 100 := by
  have p0 : 0 ≤ x * p := Int.mul_nonneg hx.1 hp.1
  have p1 : x * p ≤ x * 100 := Int.mul_le_mul_of_nonneg_left hp.2 hx.1
  rw [w64 (x := x * p) (by omega) (by omega), Int.tdiv_eq_ediv_of_nonneg p0]
  generalize x * p = y at *
  rw [w64 (x := y / 100) (by omega) (by omega), w64 (by omega) (by omega)]
  omega
theorem va_b {p : Int} (hp : 0 ≤ p ∧ p ≤ 100) : ∀ (n : Nat) (x : Int), (0 ≤ x ∧ x ≤ 1000000) → 0 ≤ va p x n ∧ va p x n ≤ x
  | 0, x, hx => ⟨hx.1, Int.le_refl _⟩
  | n + 1, x, hx => by
    have h := va_step hp hx
    have := va_b hp n (x - x * p / 100) ⟨h.1, by omega⟩
    rw [va]
    omega
theorem va_zero (x : Int) : ∀ n : Nat, va 0 x n = x
  | 0 => rfl
  | n + 1 => by
    rw [va]
    have e : x - x * 0 / 100 = x := by rw [Int.mul_zero]; omega
    rw [e]
    exact va_zero x n
theorem va_l0 (p : Int) (hp : 0 ≤ p ∧ p ≤ 100) (n : Nat) (hn : n ≤ 50) : ∀ (d j : Nat) (x : Int), j + d = n → (0 ≤ x ∧ x ≤ 1000000) → Ev (fun k => impl_ValueAfter.l0 k x p (n : Int) (j : Int)) (va p x d) := by
  intro d
  induction d with
  | zero =>
    intro j x hj hx
    refine Ev.step (fun k => by rw [impl_ValueAfter.l0]) ?_
    exact evF (by omega) (evSome _)
  | succ d ih =>
    intro j x hj hx
    have h := va_step hp hx
    refine Ev.step (fun k => by rw [impl_ValueAfter.l0]) ?_
    refine evT (by omega) ?_
    rw [w64s j (by omega), h.2.2]
    exact ih (j + 1) _ (by omega) ⟨h.1, by omega⟩
theorem va_ev (x p : Int) (n : Nat) (hx : 0 ≤ x ∧ x ≤ 1000000) (hp : 0 ≤ p ∧ p ≤ 100) (hn : n ≤ 50) : Ev (fun k => impl_ValueAfter.f k x p (n : Int)) (va p x n) := by
  unfold impl_ValueAfter.f
  refine evB (within_t hx.1 hx.2) (evT rfl (evB (within_t hp.1 hp.2) (evT rfl (evB (within_t (show (0 : Int) ≤ n by omega) (show (n : Int) ≤ 50 by omega)) ?_))))
  refine Ev.step (fun k => by rw [impl_ValueAfter.j0]) ?_
  exact evF (by decide) (va_l0 p hp n hn n 0 x (by omega) hx)
/-! cheapTwo -/
theorem ok09 : stepsOk [[0, 9]] = true := by
  refine stepsOk_of (by decide) (fun j hj => ?_)
  obtain rfl : j = 0 := by simpa using hj
  exact okI_t rfl (by rfl) (show 0 ≤ (0 : Int) ∧ (0 : Int) ≤ 100000 by omega) (show 0 ≤ (9 : Int) ∧ (9 : Int) ≤ 1000 by omega) (fun _ => rfl) (fun h => absurd h (by omega))
theorem price09 {a : Int} (ha : 0 ≤ a) : price a [[0, 9]] = 9 * a := by
  have e : price a [[0, 9]] = (if (0 : Int) ≤ a then (9 : Int) else 0) * a := rfl
  rw [e, if_pos ha]
theorem cheapTwo (a : Int) (s : List (List Int)) (hs : stepsOk s = true) (ha : 0 ≤ a ∧ a ≤ 100000) : cheapOf a [s, [[0, 9]]] = if 9 * a < price a s then 1 else 0 := by
  have p0 : priceOf a s = price a s := if_pos ⟨hs, ha⟩
  have p1 : priceOf a [[0, 9]] = 9 * a := by unfold priceOf; rw [if_pos ⟨ok09, ha⟩, price09 ha.1]
  have hb := price_bound hs ha.1 ha.2
  have e : cheapOf a [s, [[0, 9]]] = cheapFrom a [s, [[0, 9]]] 0 2 0 := rfl
  have e0 : rd_L4 [s, [[0, 9]]] ((0 : Nat) : Int) = s := rfl
  have e00 : rd_L4 [s, [[0, 9]]] 0 = s := rfl
  have e1 : rd_L4 [s, [[0, 9]]] ((0 + 1 : Nat) : Int) = [[0, 9]] := rfl
  rw [e, cheapFrom, e0, e00, p0, if_neg (by omega), if_neg (by omega), cheapFrom, e1, e00, p0, p1, if_neg (by omega), cheapFrom]
  rfl

--import Derived.Sort.LotA
theorem cost_ev (a : Int) (ha : 0 ≤ a ∧ a ≤ 1000) : impl_CostOf.f a 2 3 4 = some (wrap64 (wrap64 (3 * a) + 8)) := by
  unfold impl_CostOf.f
  rw [within_t ha.1 (show a ≤ 100000 by omega), Option.bind_some, if_pos rfl, within_t (by omega) (by omega), Option.bind_some, if_pos rfl, within_t (by omega) (by omega), Option.bind_some, if_pos rfl, within_t (by omega) (by omega), Option.bind_some, if_pos rfl, Int.mul_comm a 3, show wrap64 (2 * 4) = 8 from w64 (by omega) (by omega)]
theorem fp_end (l0 : List Int) (hL : l0.length ≤ 1048576) (a p total : Int) (w out : List Int) (ha : 0 ≤ a ∧ a ≤ 1000) (hp : 0 ≤ p ∧ p ≤ 100000000) (ht : 0 ≤ total ∧ total ≤ 65535) (i : Int) (n : Int) (hi : ¬ i < n) : Ev (fun k => laws_FnPrices.l1 k l0 a p total w out n i) true := by
  obtain ⟨u, eU, hu0, hu1⟩ := dr_size l0 hL 42 (by omega) 1 60 (by omega) (by omega) (by omega) (by omega)
  replace eU : Ev (fun k => spec_MakeSize.f k l0 42 1 60) u := eU
  obtain ⟨r, eR, hr0, hr1, hr2⟩ := roundUp_ev p u hp ⟨hu0, by omega⟩
  have hp10 : 0 ≤ (10 : Int) ∧ (10 : Int) ≤ 100 := by omega
  have hv1 := va_b hp10 1 total ⟨ht.1, by omega⟩
  have hv3 := va_b hp10 3 total ⟨ht.1, by omega⟩
  have eV3 : Ev (fun k => impl_ValueAfter.f k total 10 3) (va 10 total 3) := va_ev total 10 3 ⟨ht.1, by omega⟩ hp10 (by omega)
  have eV1 : Ev (fun k => impl_ValueAfter.f k total 10 1) (va 10 total 1) := va_ev total 10 1 ⟨ht.1, by omega⟩ hp10 (by omega)
  have eV2 : Ev (fun k => impl_ValueAfter.f k (va 10 total 1) 10 2) (va 10 total 3) := va_ev (va 10 total 1) 10 2 ⟨hv1.1, by omega⟩ hp10 (by omega)
  have eV0 : Ev (fun k => impl_ValueAfter.f k total 0 9) total := by
    have h := va_ev total 0 9 ⟨ht.1, by omega⟩ (by omega) (by omega)
    rw [va_zero] at h
    exact h
  have eV100 : Ev (fun k => impl_ValueAfter.f k total 100 1) 0 := by
    have h := va_ev total 100 1 ⟨ht.1, by omega⟩ (by omega) (by omega)
    have e : va 100 total 1 = 0 := by
      show total - total * 100 / 100 = 0
      omega
    rw [e] at h
    exact h
  have hw : wrap64 (p + u) = p + u := w64 (by omega) (by omega)
  refine Ev.step (fun k => by rw [laws_FnPrices.l1]) ?_
  refine evF hi (Ev.bind eU (evB eR (Ev.bind eV3 (evT (by omega) (evT (by rw [hw]; exact hr1) (evF (by omega) (evT hr2 (Ev.bind eV1 (Ev.bind eV2 (evT rfl (evT hv3.2 (evT hv3.1 (Ev.bind eV0 (evT rfl (Ev.bind eV100 (evT rfl (evB (cost_ev a ha) ?_)))))))))))))))))
  rw [beq_self_eq_true]
  exact evSome true
theorem fp_l1 (l0 : List Int) (hL : l0.length ≤ 1048576) (a p total : Int) (w out : List Int) (ha : 0 ≤ a ∧ a ≤ 1000) (hp : 0 ≤ p ∧ p ≤ 100000000) (ht : 0 ≤ total ∧ total ≤ 65535) (hlen : out.length = w.length) (hn : w.length ≤ 4) (hy : ∀ y ∈ w, 0 ≤ y ∧ y ≤ 29)
    (hout : ∀ x ∈ out, 0 ≤ x ∧ x ≤ 1000000001) (hS : 1 ≤ ssum w ∧ ssum w ≤ 4000) (eSum : Ev (fun k => laws_sum.f k w) (ssum w))
    (hd : ∀ j : Nat, j < w.length → -(ssum w) < rd out (j : Int) * ssum w - total * rd w (j : Int) ∧ rd out (j : Int) * ssum w - total * rd w (j : Int) < ssum w) :
    ∀ d j : Nat, j + d = out.length → Ev (fun k => laws_FnPrices.l1 k l0 a p total w out (out.length : Int) (j : Int)) true := by
  intro d
  induction d with
  | zero =>
    intro j hj
    exact fp_end l0 hL a p total w out ha hp ht _ _ (by omega)
  | succ d ih =>
    intro j hj
    have h1 := hd j (by omega)
    have ho : 0 ≤ rd out (j : Int) ∧ rd out (j : Int) ≤ 1000000001 := by rw [sh_rd out j (by omega)]; exact hout _ (List.getElem_mem _)
    have hwj : 0 ≤ rd w (j : Int) ∧ rd w (j : Int) ≤ 29 := by rw [sh_rd w j (by omega)]; exact hy _ (List.getElem_mem _)
    have b1 : 0 ≤ rd out (j : Int) * ssum w := Int.mul_nonneg ho.1 (by omega)
    have b2 : rd out (j : Int) * ssum w ≤ 1000000001 * 4000 := Int.mul_le_mul ho.2 hS.2 (by omega) (by omega)
    have b3 : 0 ≤ total * rd w (j : Int) := Int.mul_nonneg ht.1 hwj.1
    have b4 : total * rd w (j : Int) ≤ 65535 * 29 := Int.mul_le_mul ht.2 hwj.2 hwj.1 (by omega)
    have w1 : wrap64 (wrap64 (rd out (j : Int) * ssum w) - wrap64 (total * rd w (j : Int))) = rd out (j : Int) * ssum w - total * rd w (j : Int) := by
      rw [w64 (x := rd out (j : Int) * ssum w) (by omega) (by omega), w64 (x := total * rd w (j : Int)) (by omega) (by omega), w64 (by omega) (by omega)]
    have w2 : wrap64 (-(ssum w)) = -(ssum w) := w64 (by omega) (by omega)
    refine Ev.step (fun k => by rw [laws_FnPrices.l1]) ?_
    refine evT (by omega) (evT (by omega) (evT (by omega) (Ev.bind eSum (evT (by omega) (Ev.bind eSum (evF (by rw [w1, w2]; omega) (Ev.bind eSum (evF (by rw [w1]; omega) ?_))))))))
    rw [w64s j (by omega)]
    exact ih (j + 1) (by omega)
theorem fp_j2 (l0 : List Int) (hL : l0.length ≤ 1048576) (a p : Int) (ha : 0 ≤ a ∧ a ≤ 1000) (hp : 0 ≤ p ∧ p ≤ 100000000) : Ev (fun k => laws_FnPrices.j2 k l0 a p false) true := by
  obtain ⟨total, eN, ht⟩ := dr_num l0 hL 41 (by omega)
  replace eN : Ev (fun k => spec_MakeNum.f k l0 41) total := eN
  obtain ⟨w, eW, hn, hy⟩ := dr_wanted l0 hL 50 (by omega)
  replace eW : Ev (fun k => spec_MakeWanted.f k l0 50) w := eW
  have hin : shIn w := fun y h => by have := hy y h; omega
  have hb := ssum_b hin w.length (Nat.le_refl _)
  rw [List.take_length] at hb
  obtain ⟨out, eO, h0, h1⟩ := share_law total w ht.1 (by omega) ⟨hn.1, by omega⟩ hin
  have eS := lsum_ev w (by omega) (fun x hx => by have := hy x hx; omega)
  refine Ev.step (fun k => by rw [laws_FnPrices.j2]) ?_
  refine evF (by decide) (Ev.bind eN (Ev.bind eW (Ev.bind eO (Ev.bind eS ?_))))
  by_cases hS : ssum w = 0
  · refine evT hS ?_
    rw [h0 hS]
    exact evSome true
  · obtain ⟨hlen, hsum, hout, hd⟩ := h1 hS
    have eT := lsum_ev out (by omega) hout
    rw [hsum] at eT
    refine evF hS (evT (by omega) (Ev.bind eT ?_))
    rw [show (total != total) = false by simp]
    refine Ev.step (fun k => by rw [laws_FnPrices.j3]) ?_
    exact evF (by decide) (fp_l1 l0 hL a p total w out ha hp ht hlen (by omega) hy hout (by omega) eS hd out.length 0 (by omega))
theorem priceOf_ev (s : List (List Int)) (hs : stepsOk s = true) (hsl : s.length ≤ 5) (x : Int) (hx : 0 ≤ x ∧ x ≤ 100000) : Ev (fun k => impl_PriceOf.f k x s) (price x s) := by
  have h := impl_price_ev x s (by omega)
  have e : priceOf x s = price x s := if_pos ⟨hs, hx⟩
  rw [e] at h
  exact h
theorem fp_l0 (l0 : List Int) (hL : l0.length ≤ 1048576) (s : List (List Int)) (hs : stepsOk s = true) (hsl : s.length ≤ 5) (a b : Int) (ha : 0 ≤ a ∧ a ≤ 1000) (hb : 0 ≤ b ∧ b ≤ 100000) (hmin : ∀ x, a ≤ x → price b s ≤ price x s) :
    ∀ (d : Nat) (x : Int), x + d = a + 81 → a ≤ x → Ev (fun k => laws_FnPrices.l0 k l0 s a (price a s) b x) true := by
  have hp := price_bound hs ha.1 (show a ≤ 100000 by omega)
  have hw : wrap64 (a + 80) = a + 80 := w64 (by omega) (by omega)
  intro d
  induction d with
  | zero =>
    intro x hx _
    have eC := impl_cheap_ev a [s, [[0, 9]]] (by simp) (fun y hy => by
      simp only [List.mem_cons, List.not_mem_nil, or_false] at hy
      rcases hy with rfl | rfl
      · omega
      · simp)
    rw [cheapTwo a s hs ⟨ha.1, by omega⟩] at eC
    have hJ := fp_j2 l0 hL a (price a s) ha hp
    refine Ev.step (fun k => by rw [laws_FnPrices.l0]) ?_
    refine evF (by rw [hw]; omega) (Ev.bind eC ?_)
    have h9 : wrap64 (9 * a) = 9 * a := w64 (by omega) (by omega)
    by_cases c : 9 * a < price a s
    · rw [if_pos c]
      refine evF (by omega) (evF (by omega) ?_)
      rw [h9, decide_eq_true c]
      exact hJ
    · rw [if_neg c]
      refine evF (by omega) (evF (by omega) ?_)
      rw [h9, decide_eq_false c]
      exact hJ
  | succ d ih =>
    intro x hx hax
    have h1 := hmin x hax
    refine Ev.step (fun k => by rw [laws_FnPrices.l0]) ?_
    refine evT (by rw [hw]; omega) (Ev.bind (priceOf_ev s hs hsl x ⟨by omega, by omega⟩) (Ev.bind (priceOf_ev s hs hsl b hb) (evF (by omega) ?_)))
    rw [w64 (by omega) (by omega)]
    exact ih (x + 1) (by omega) (by omega)
theorem FnPrices : ∀ (l0 : List (Int)), (l0.length ≤ 9223372036854775807 ∧ ∀ x ∈ l0, (Lit.int .u8 x).wf = true) → ∃ k, laws_FnPrices.f k l0 = some true := by
  intro l0 g0
  refine Ev.rounds (g := fun k => laws_FnPrices.f k l0) ?_
  by_cases h : (l0.length : Int) > 1048576
  · unfold laws_FnPrices.f; exact evT h (evSome _)
  have hL : l0.length ≤ 1048576 := by omega
  obtain ⟨s, eS, hs, hsl⟩ := dr_steps l0 hL 0 (by omega)
  replace eS : Ev (fun k => spec_MakeSteps.f k l0 0) s := eS
  obtain ⟨a, eA, ha0, ha1⟩ := dr_size l0 hL 40 (by omega) 0 60 (by omega) (by omega) (by omega) (by omega)
  replace eA : Ev (fun k => spec_MakeSize.f k l0 40 0 60) a := eA
  obtain ⟨_, ho⟩ := stepsOk_get hs
  have hpb := price_bound hs ha0 (show a ≤ 100000 by omega)
  obtain ⟨b, hbe⟩ : ∃ b, b = bestOf a s := ⟨_, rfl⟩
  have hb1 : bestOf a s = bestFrom a s 0 s.length a := if_pos ⟨hs, ha0, by omega⟩
  obtain ⟨r1, r2, r3, r4, r5⟩ := bestFrom_spec ho a s.length 0 a (by omega) ⟨Int.le_refl _, by omega, Or.inl rfl⟩
  rw [← hb1, ← hbe] at r1 r2 r3 r4 r5
  have eB := impl_best_ev a s (by omega)
  rw [← hbe] at eB
  have eO := impl_steps_ev s (by omega)
  rw [hs] at eO
  have eP := priceOf_ev s hs hsl a ⟨ha0, by omega⟩
  have eQ := priceOf_ev s hs hsl b ⟨by omega, r2⟩
  have hw1 : wrap64 (a + 1) = a + 1 := w64 (by omega) (by omega)
  have eR : Ev (fun k => impl_PriceOf.f k (wrap64 (a + 1)) s) (price (a + 1) s) := by rw [hw1]; exact priceOf_ev s hs hsl (a + 1) ⟨by omega, by omega⟩
  have hpc := price_piece hs ha0
  have hp2 := price_bound hs (show 0 ≤ a + 1 by omega) (show a + 1 ≤ 100000 by omega)
  have c1 : 0 ≤ price (a + 1) s * a := Int.mul_nonneg hp2.1 ha0
  have c2 : price (a + 1) s * a ≤ 100000000 * 60 := Int.mul_le_mul hp2.2 ha1 ha0 (by omega)
  have c3 : 0 ≤ price a s * (a + 1) := Int.mul_nonneg hpb.1 (by omega)
  have c4 : price a s * (a + 1) ≤ 100000000 * 61 := Int.mul_le_mul hpb.2 (by omega) (by omega) (by omega)
  have hmin : ∀ x, a ≤ x → price b s ≤ price x s := fun x hx => price_least hs ha0 r4 (fun t ht => r5 t (Nat.zero_le _) ht) hx
  have hJ : Ev (fun k => laws_FnPrices.j0 k l0 s a (price a s) b false) true := by
    refine Ev.step (fun k => by rw [laws_FnPrices.j0]) ?_
    exact evF (by decide) (fp_l0 l0 hL s hs hsl a b ⟨ha0, by omega⟩ ⟨by omega, r2⟩ hmin 81 a (by omega) (Int.le_refl _))
  unfold laws_FnPrices.f
  refine evF h (Ev.bind eS (Ev.bind eA (Ev.bind eP (Ev.bind eB (Ev.bind eO (evT rfl (evF (by omega) (evF (by omega) (Ev.bind eQ (evF (by omega) (Ev.bind eR (evF ?_ ?_))))))))))))
  · rw [hw1, w64 (x := price (a + 1) s * a) (by omega) (by omega), w64 (x := price a s * (a + 1)) (by omega) (by omega)]
    omega
  · refine evIf (fun _ => hJ) (fun hne => ?_)
    refine Ev.bind eQ ?_
    have hlt : price b s < price a s := r3.resolve_left hne
    rw [decide_eq_false (by omega)]
    exact hJ

end Go.Proofs.Ytdiphnkkomfmdaa.Pure
