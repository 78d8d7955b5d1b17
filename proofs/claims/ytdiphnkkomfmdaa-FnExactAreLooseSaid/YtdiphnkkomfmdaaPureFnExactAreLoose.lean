/- FnExactAreLoose: for every two lists of points, AreLoose of the program and of the reference answer alike and leave the lists as they are. No condition. -/
import Derived.Test.YtdiphnkkomfmdaaQFnExactAreLoosex4
import Derived.Test.YtdiphnkkomfmdaaOpens
namespace Go.Proofs.Ytdiphnkkomfmdaa.Pure
open Go.RowKit Go.Proofs.Ytdiphnkkomfmdaa Go.Proofs.Ytdiphnkkomfmdaa.QFnExactAreLoose Go.Proofs.YtdiphnkkomfmdaaW.PrintWords Go.Proofs.YtdiphnkkomfmdaaW.PrintLast
set_option linter.unusedVariables false
set_option linter.unusedSimpArgs false

/-! base -/
theorem w64 {x : Int} (h0 : -9223372036854775808 ≤ x) (h1 : x ≤ 9223372036854775807) : wrap64 x = x := by unfold wrap64; omega
theorem w64n (n : Nat) (h : n ≤ 9223372036854775807) : wrap64 (n : Int) = n := w64 (by omega) (by omega)
theorem w64s (n : Nat) (h : n < 9223372036854775807) : wrap64 ((n : Int) + 1) = ((n + 1 : Nat) : Int) := by rw [w64 (by omega) (by omega)]; omega
theorem evSome {α : Type} (r : α) : Ev (fun _ : Nat => some r) r := ⟨0, fun _ _ => rfl⟩
theorem evOf {α : Type} {f : Option α} {r : α} (h : f = some r) : Ev (fun _ : Nat => f) r := ⟨0, fun _ _ => h⟩
theorem evUniq {α : Type} {g : Nat → Option α} {r q : α} (h : Ev g r) (k : Ev g q) : r = q := by
  obtain ⟨a, ha⟩ := h
  obtain ⟨b, hb⟩ := k
  have h1 := ha (a + b) (by omega)
  rw [hb (a + b) (by omega)] at h1
  exact (Option.some.inj h1).symm
theorem evIf {α : Type} {c : Prop} [Decidable c] {f g : Nat → Option α} {r : α} (hp : c → Ev f r) (hn : ¬ c → Ev g r) : Ev (fun k => if c then f k else g k) r := by
  by_cases h : c
  · simp only [if_pos h]; exact hp h
  · simp only [if_neg h]; exact hn h
theorem evT {α : Type} {c : Prop} [Decidable c] {f g : Nat → Option α} {r : α} (h : c) (hp : Ev f r) : Ev (fun k => if c then f k else g k) r := by
  simp only [if_pos h]; exact hp
theorem evF {α : Type} {c : Prop} [Decidable c] {f g : Nat → Option α} {r : α} (h : ¬ c) (hp : Ev g r) : Ev (fun k => if c then f k else g k) r := by
  simp only [if_neg h]; exact hp
theorem evB {α β : Type} {f : Option α} {g : Nat → α → Option β} {a : α} {r : β} (h : f = some a) (k : Ev (fun n => g n a) r) : Ev (fun n => f.bind (g n)) r := by
  subst h
  exact k
theorem getD_eq {α : Type} (l : List α) (i : Nat) (z : α) (h : i < l.length) : l.getD i z = l[i] := by
  rw [List.getD_eq_getElem?_getD, List.getElem?_eq_getElem h]; rfl
theorem take_succ' {α : Type} (l : List α) (i : Nat) (h : i < l.length) : l.take (i + 1) = l.take i ++ [l[i]] := by
  rw [List.take_succ_eq_append_getElem h]
theorem set_fill {α : Type} (l : List α) (z x : α) (i d : Nat) (hi : l.length = i) : (l ++ List.replicate (d + 1) z).set i x = l ++ [x] ++ List.replicate d z := by
  subst hi
  rw [List.set_append_right _ _ (Nat.le_refl _), Nat.sub_self, List.replicate_succ, List.set_cons_zero, List.append_assoc]
  rfl
theorem drop_cons {α : Type} (l : List α) (i : Nat) (h : i < l.length) : l.drop i = l[i] :: l.drop (i + 1) := List.drop_eq_getElem_cons h
/-! l01In -/
theorem l01In_t {a lo hi : Int} (h0 : lo ≤ a) (h1 : a ≤ hi) : spec_l01In.f a lo hi = some true := by unfold spec_l01In.f; rw [if_pos h0]; simp [h1]
theorem l01In_f {a lo hi : Int} (h : ¬ (lo ≤ a ∧ a ≤ hi)) : spec_l01In.f a lo hi = some false := by
  unfold spec_l01In.f
  by_cases h0 : lo ≤ a
  · rw [if_pos h0]; simp; omega
  · rw [if_neg h0]
theorem l01In_eq (a lo hi : Int) : spec_l01In.f a lo hi = some (decide (lo ≤ a ∧ a ≤ hi)) := by
  by_cases h : lo ≤ a ∧ a ≤ hi
  · rw [l01In_t h.1 h.2]; simp [h]
  · rw [l01In_f h]; simp; omega
/-! within -/
theorem within_t {a lo hi : Int} (h0 : lo ≤ a) (h1 : a ≤ hi) : impl_within.f a lo hi = some true := by unfold impl_within.f; rw [if_pos h0]; simp [h1]
theorem within_f {a lo hi : Int} (h : ¬ (lo ≤ a ∧ a ≤ hi)) : impl_within.f a lo hi = some false := by
  unfold impl_within.f
  by_cases h0 : lo ≤ a
  · rw [if_pos h0]; simp; omega
  · rw [if_neg h0]
theorem within_eq (a lo hi : Int) : impl_within.f a lo hi = some (decide (lo ≤ a ∧ a ≤ hi)) := by
  by_cases h : lo ≤ a ∧ a ≤ hi
  · rw [within_t h.1 h.2]; simp [h]
  · rw [within_f h]; simp; omega
/-! down -/
theorem down {P : Nat → Prop} (n : Nat) (h0 : P n) (hs : ∀ i, i < n → P (i + 1) → P i) : ∀ i, i ≤ n → P i := by
  intro i hi
  obtain ⟨d, hd⟩ : ∃ d, i + d = n := ⟨n - i, by omega⟩
  induction d generalizing i with
  | zero => have : i = n := by omega
            subst this; exact h0
  | succ d ih => exact hs i (by omega) (ih (i + 1) (by omega) (by omega))
/-! rdP -/
theorem rdP (l : List S61) (i : Nat) (h : i < l.length) : rd_T61 l (i : Int) = l[i] := by
  unfold rd_T61; rw [show ((i : Int)).toNat = i from by omega]; exact getD_eq _ _ _ h
/-! rdLP -/
theorem rdLP (l : List S77) (i : Nat) (h : i < l.length) : rd_T77 l (i : Int) = l[i] := by
  unfold rd_T77; rw [show ((i : Int)).toNat = i from by omega]; exact getD_eq _ _ _ h
/-! conv -/
def conv (l : List S77) : List S61 := l.map (fun p => ⟨p.f0, p.f1⟩)
theorem conv_length (l : List S77) : (conv l).length = l.length := by simp [conv]
theorem conv_take_succ (l : List S77) (i : Nat) (h : i < l.length) : conv (l.take (i + 1)) = conv (l.take i) ++ [(⟨l[i].f0, l[i].f1⟩ : S61)] := by
  simp only [conv, take_succ' l i h, List.map_append, List.map_cons, List.map_nil]
/-! laws_toPointS -/
theorem toPointS_l0 (l : List S77) (hl : l.length ≤ 9223372036854775806) : ∀ i, i ≤ l.length → Ev (fun k => laws_toPointS.l0 k l (conv (l.take i) ++ List.replicate (l.length - i) z61) (i : Int)) (conv l) := by
  refine down l.length ?_ ?_
  · refine Ev.step (fun k => by rw [laws_toPointS.l0]) ?_
    refine evF (by omega) ?_
    have : conv (l.take l.length) ++ List.replicate (l.length - l.length) z61 = conv l := by rw [List.take_length, Nat.sub_self]; simp
    rw [this]
    exact evSome _
  · intro i hi ih
    refine Ev.step (fun k => by rw [laws_toPointS.l0]) ?_
    refine evT (by omega) (evT (by omega) (evB rfl (evT (by simp [conv]; omega) ?_)))
    rw [w64s i (by omega), rdLP l i hi, show l.length - i = (l.length - (i + 1)) + 1 by omega, show ((i : Int)).toNat = i from by omega, set_fill _ _ _ _ _ (by simp [conv]; omega), ← conv_take_succ l i hi]
    exact ih
theorem toPointS_ev (l : List S77) (hl : l.length ≤ 1048576) : Ev (fun k => laws_toPointS.f k l) (conv l) := by
  unfold laws_toPointS.f
  refine evT (by omega) (evT (by omega) ?_)
  have h := toPointS_l0 l (by omega) 0 (by omega)
  simpa [conv] using h
/-! laws_szPointS -/
theorem szPointS_ev (l : List S77) (a : Int) (ha : 0 ≤ a) (ha2 : a ≤ 1048576) (hl : l.length ≤ 9223372036854775807) : (laws_szPointS.f l a = some (-1)) ∨ (laws_szPointS.f l a = some (a - l.length) ∧ 0 ≤ a - (l.length : Int)) := by
  unfold laws_szPointS.f
  rw [w64 (x := a - (l.length : Int)) (by omega) (by omega)]
  by_cases h : a - (l.length : Int) < 0
  · exact .inl (if_pos h)
  · exact .inr ⟨if_neg h, by omega⟩
/-! laws_eqPointS -/
theorem eqPoint_same (x y : Int) : laws_eqPoint.f x y x y = some true := by unfold laws_eqPoint.f; rw [if_pos rfl, if_pos rfl]
theorem eqPointS_l0 (l : List S61) (hl : l.length ≤ 9223372036854775806) : ∀ i, i ≤ l.length → Ev (fun k => laws_eqPointS.l0 k l l (i : Int)) true := by
  refine down l.length ?_ ?_
  · refine Ev.step (fun k => by rw [laws_eqPointS.l0]) ?_
    exact evF (by omega) (evSome _)
  · intro i hi ih
    refine Ev.step (fun k => by rw [laws_eqPointS.l0]) ?_
    refine evT (by omega) (evT (by omega) (evT (by omega) (evB (eqPoint_same _ _) (evT rfl ?_))))
    rw [w64s i (by omega)]
    exact ih
theorem eqPointS_ev (l : List S61) (hl : l.length ≤ 1048576) : Ev (fun k => laws_eqPointS.f k l l) true := by
  unfold laws_eqPointS.f
  exact evT rfl (by simpa using eqPointS_l0 l (by omega) 0 (by omega))
/-! pts -/
def ptOk (p : S61) : Bool := decide ((0 ≤ p.f0 ∧ p.f0 ≤ 40) ∧ 0 ≤ p.f1 ∧ p.f1 ≤ 40)
theorem spec_PointOk_eq (x y : Int) : spec_PointOk.f x y = some (ptOk ⟨x, y⟩) := by
  unfold spec_PointOk.f ptOk
  rw [l01In_eq, l01In_eq]
  by_cases h : 0 ≤ x ∧ x ≤ 40 <;> simp [h]
theorem impl_PointOk_eq (x y : Int) : impl_PointOk.f x y = some (ptOk ⟨x, y⟩) := by
  unfold impl_PointOk.f ptOk
  rw [within_eq, within_eq]
  by_cases h : 0 ≤ x ∧ x ≤ 40 <;> simp [h]
theorem all_drop {α : Type} (p : α → Bool) (l : List α) (i : Nat) (h : i < l.length) : (l.drop i).all p = (p l[i] && (l.drop (i + 1)).all p) := by
  rw [drop_cons l i h]; rfl
/-! arePoints -/
theorem arePoints_l0 (l : List S61) (hl : l.length ≤ 9223372036854775806) : ∀ i, i ≤ l.length → Ev (fun k => impl_arePoints.l0 k l (l.length : Int) (i : Int)) ((l.drop i).all ptOk) := by
  refine down l.length ?_ ?_
  · refine Ev.step (fun k => by rw [impl_arePoints.l0]) ?_
    rw [List.drop_length]
    exact evF (by omega) (evSome _)
  · intro i hi ih
    refine Ev.step (fun k => by rw [impl_arePoints.l0]) ?_
    refine evT (by omega) (evT (by omega) (evT (by omega) (evB (impl_PointOk_eq _ _) ?_)))
    rw [rdP l i hi, all_drop ptOk l i hi, w64s i (by omega)]
    by_cases c : ptOk l[i] = true
    · rw [c, Bool.true_and]
      exact evT (by first | exact c | rfl) ih
    · rw [Bool.eq_false_iff.2 c, Bool.false_and]
      exact evF (by first | exact c | decide) (evSome _)
theorem arePoints_ev (l : List S61) (hl : l.length ≤ 9223372036854775806) : Ev (fun k => impl_arePoints.f k l) (l.all ptOk) := by
  unfold impl_arePoints.f
  simpa using arePoints_l0 l hl 0 (by omega)
/-! concat -/
theorem concat_ev (a b : List S61) (h : a.length + b.length ≤ 1048576) : Ev (fun k => slices_Concat_Point.f k [a, b]) (a ++ b) := by
  have e0 : slices_Concat_Point.rdl [a, b] 0 = a := rfl
  have e1 : slices_Concat_Point.rdl [a, b] 1 = b := rfl
  have w0 : wrap64 ((0 : Int) + (a.length : Int)) = (a.length : Int) := by rw [w64 (by omega) (by omega)]; omega
  have w1 : wrap64 ((a.length : Int) + (b.length : Int)) = ((a.length + b.length : Nat) : Int) := by rw [w64 (by omega) (by omega)]; omega
  have z1 : wrap64 ((0 : Int) + 1) = 1 := by rw [w64 (by omega) (by omega)]; rfl
  have z2 : wrap64 ((1 : Int) + 1) = 2 := by rw [w64 (by omega) (by omega)]; rfl
  unfold slices_Concat_Point.f
  refine Ev.step (fun k => by rw [slices_Concat_Point.l0]) ?_
  refine evT (show (0 : Int) < ((2 : Nat) : Int) by decide) (evT (by decide) (evT (show (0 : Int) < ((2 : Nat) : Int) by decide) ?_))
  rw [e0, w0]
  refine evF (by omega) ?_
  rw [z1]
  refine Ev.step (fun k => by rw [slices_Concat_Point.l0]) ?_
  refine evT (show (1 : Int) < ((2 : Nat) : Int) by decide) (evT (by decide) (evT (show (1 : Int) < ((2 : Nat) : Int) by decide) ?_))
  rw [e1, w1]
  refine evF (by omega) ?_
  rw [z2]
  refine Ev.step (fun k => by rw [slices_Concat_Point.l0]) ?_
  refine evF (show ¬ (2 : Int) < ((2 : Nat) : Int) by decide) ?_
  refine evB (a := ([] : List S61)) (by unfold slices_Grow_Point.f; exact if_pos ⟨rfl, by omega, by omega⟩) ?_
  refine Ev.step (fun k => by rw [slices_Concat_Point.l1]) ?_
  refine evT (show (0 : Int) < ((2 : Nat) : Int) by decide) (evT (by decide) (evT (show (0 : Int) < ((2 : Nat) : Int) by decide) ?_))
  rw [e0]
  refine evT (by simp; omega) ?_
  rw [z1, List.nil_append]
  refine Ev.step (fun k => by rw [slices_Concat_Point.l1]) ?_
  refine evT (show (1 : Int) < ((2 : Nat) : Int) by decide) (evT (by decide) (evT (show (1 : Int) < ((2 : Nat) : Int) by decide) ?_))
  rw [e1]
  refine evT (by omega) ?_
  rw [z2]
  refine Ev.step (fun k => by rw [slices_Concat_Point.l1]) ?_
  exact evF (show ¬ (2 : Int) < ((2 : Nat) : Int) by decide) (evSome _)
/-! loose -/
theorem loose_eq (l : List S61) : spec_AreLoose.loose l = (l.all ptOk && impl_AreLoose.loose l) := by
  rw [Bool.eq_iff_iff, Bool.and_eq_true]
  unfold spec_AreLoose.loose impl_AreLoose.loose
  rw [List.all_eq_true, List.all_eq_true, List.all_eq_true]
  have hok : ∀ i : Nat, (hi : i < l.length) → (spec_PointOk.f (rd_T61 l (i : Int)).f0 (rd_T61 l (i : Int)).f1 == some true) = ptOk l[i] := by
    intro i hi
    rw [rdP l i hi, spec_PointOk_eq]
    cases ptOk (⟨l[i].f0, l[i].f1⟩ : S61) <;> rfl
  have hrow : ∀ i : Nat, (hi : i < l.length) → spec_AreLoose.row l i = (ptOk l[i] && impl_AreLoose.row l i) := by
    intro i hi
    unfold spec_AreLoose.row impl_AreLoose.row
    rw [hok i hi]
    rfl
  constructor
  · intro h
    refine ⟨fun x hx => ?_, fun i hi => ?_⟩
    · obtain ⟨i, hi, rfl⟩ := List.getElem_of_mem hx
      have h1 := h i (List.mem_range.2 hi)
      rw [hrow i hi, Bool.and_eq_true] at h1
      exact h1.1
    · have hi' := List.mem_range.1 hi
      have h1 := h i hi
      rw [hrow i hi', Bool.and_eq_true] at h1
      exact h1.2
  · rintro ⟨h1, h2⟩ i hi
    have hi' := List.mem_range.1 hi
    rw [hrow i hi', Bool.and_eq_true]
    exact ⟨h1 _ (List.getElem_mem hi'), h2 i hi⟩
theorem loose_ev (a b : List S61) (h : a.length + b.length ≤ 1048576) : ∃ r, spec_AreLoose.f a b = some r ∧ Ev (fun k => impl_AreLoose.f k a b) r := by
  unfold spec_AreLoose.f impl_AreLoose.f
  by_cases c0 : (a.length : Int) > 9
  · rw [if_pos c0]
    exact ⟨false, rfl, Ev.bind (concat_ev a b h) (evT c0 (evSome _))⟩
  · rw [if_neg c0]
    by_cases c1 : (b.length : Int) > 9
    · rw [if_pos c1]
      exact ⟨false, rfl, Ev.bind (concat_ev a b h) (evF c0 (evT c1 (evSome _)))⟩
    · rw [if_neg c1]
      refine ⟨_, rfl, Ev.bind (concat_ev a b h) (evF c0 (evF c1 (Ev.bind (arePoints_ev (a ++ b) (by rw [List.length_append]; omega)) ?_)))⟩
      rw [loose_eq]
      cases hh : (a ++ b).all ptOk with
      | false => exact evF (by decide) (evSome _)
      | true =>
        rw [Bool.true_and]
        exact evT rfl (evT (by rw [List.length_append]; omega) (evSome _))

theorem FnExactAreLoose : ∀ (l0 : List (S77)) (l1 : List (S77)), (l0.length ≤ 9223372036854775807 ∧ ∀ x ∈ l0, (Opens.I64 x.f0 ∧ Opens.I64 x.f1)) → (l1.length ≤ 9223372036854775807 ∧ ∀ x ∈ l1, (Opens.I64 x.f0 ∧ Opens.I64 x.f1)) → ∃ k, laws_FnExactAreLoose.f k l0 l1 = some true := by
  intro l0 l1 g0 g1
  refine Ev.rounds (g := fun k => laws_FnExactAreLoose.f k l0 l1) ?_
  unfold laws_FnExactAreLoose.f
  rcases szPointS_ev l0 1048576 (by omega) (by omega) g0.1 with h | ⟨h, hb⟩
  · exact evB h (evT (by omega) (evSome _))
  · rcases szPointS_ev l1 (1048576 - (l0.length : Int)) (by omega) (by omega) g1.1 with h' | ⟨h', hb'⟩
    · exact evB h (evF (by omega) (evB h' (evT (by omega) (evSome _))))
    · have hc0 : (conv l0).length ≤ 1048576 := by rw [conv_length]; omega
      have hc1 : (conv l1).length ≤ 1048576 := by rw [conv_length]; omega
      have hT0 := toPointS_ev l0 (by omega)
      have hT1 := toPointS_ev l1 (by omega)
      obtain ⟨r, hS, hI⟩ := loose_ev (conv l0) (conv l1) (by rw [conv_length, conv_length]; omega)
      refine evB h ?_
      refine evF (by omega) ?_
      refine evB h' ?_
      refine evF (by omega) ?_
      refine Ev.bind hT0 ?_
      refine Ev.bind hT1 ?_
      refine evB hS ?_
      refine Ev.bind hT0 ?_
      refine Ev.bind hT1 ?_
      refine Ev.bind hI ?_
      refine evF (by simp) ?_
      refine Ev.bind hT0 ?_
      refine Ev.bind (eqPointS_ev _ hc0) ?_
      refine evT rfl ?_
      refine Ev.bind hT1 ?_
      refine Ev.bind (eqPointS_ev _ hc1) ?_
      exact evT rfl (evSome _)

end Go.Proofs.Ytdiphnkkomfmdaa.Pure
