/- FnExactTableOk: for every table, TableOk of the program and of the reference answer alike and leave the table as it is. No condition. -/
import Derived.Test.YteelfcmlghjknaaQFnExactTableOkx10
import Derived.Test.YteelfcmlghjknaaOpens
namespace Go.Proofs.Yteelfcmlghjknaa.Pure
open Go.RowKit Go.Proofs.Yteelfcmlghjknaa Go.Proofs.Yteelfcmlghjknaa.QFnExactTableOk Go.Proofs.YteelfcmlghjknaaW.PrintWords Go.Proofs.YteelfcmlghjknaaW.PrintLast
set_option linter.unusedVariables false
set_option linter.unusedSimpArgs false

/-! base -/
theorem w64 {x : Int} (h0 : -9223372036854775808 ≤ x) (h1 : x ≤ 9223372036854775807) : wrap64 x = x := by unfold wrap64; omega
theorem w64n (n : Nat) (h : n ≤ 9223372036854775807) : wrap64 (n : Int) = n := w64 (by omega) (by omega)
theorem w64s (n : Nat) (h : n < 9223372036854775807) : wrap64 ((n : Int) + 1) = ((n + 1 : Nat) : Int) := by rw [w64 (by omega) (by omega)]; omega
theorem evSome {α : Type} (r : α) : Ev (fun _ : Nat => some r) r := ⟨0, fun _ _ => rfl⟩
theorem evOf {α : Type} {f : Option α} {r : α} (h : f = some r) : Ev (fun _ : Nat => f) r := ⟨0, fun _ _ => h⟩
theorem evUniq {α : Type} {g : Nat → Option α} {r q : α} (h : Ev g r) (k : Ev g q) : r = q := by
  obtain ⟨a, ha⟩ := h
  obtain ⟨b, hb⟩ := k
  have h1 := ha (a + b) (by omega)
  rw [hb (a + b) (by omega)] at h1
  exact (Option.some.inj h1).symm
theorem evIf {α : Type} {c : Prop} [Decidable c] {f g : Nat → Option α} {r : α} (hp : c → Ev f r) (hn : ¬ c → Ev g r) : Ev (fun k => if c then f k else g k) r := by
  by_cases h : c
  · simp only [if_pos h]; exact hp h
  · simp only [if_neg h]; exact hn h
theorem evT {α : Type} {c : Prop} [Decidable c] {f g : Nat → Option α} {r : α} (h : c) (hp : Ev f r) : Ev (fun k => if c then f k else g k) r := by
  simp only [if_pos h]; exact hp
theorem evF {α : Type} {c : Prop} [Decidable c] {f g : Nat → Option α} {r : α} (h : ¬ c) (hp : Ev g r) : Ev (fun k => if c then f k else g k) r := by
  simp only [if_neg h]; exact hp
theorem evB {α β : Type} {f : Option α} {g : Nat → α → Option β} {a : α} {r : β} (h : f = some a) (k : Ev (fun n => g n a) r) : Ev (fun n => f.bind (g n)) r := by
  subst h
  exact k
theorem getD_eq {α : Type} (l : List α) (i : Nat) (z : α) (h : i < l.length) : l.getD i z = l[i] := by
  rw [List.getD_eq_getElem?_getD, List.getElem?_eq_getElem h]; rfl
theorem take_succ' {α : Type} (l : List α) (i : Nat) (h : i < l.length) : l.take (i + 1) = l.take i ++ [l[i]] := by
  rw [List.take_succ_eq_append_getElem h]
theorem set_fill {α : Type} (l : List α) (z x : α) (i d : Nat) (hi : l.length = i) : (l ++ List.replicate (d + 1) z).set i x = l ++ [x] ++ List.replicate d z := by
  subst hi
  rw [List.set_append_right _ _ (Nat.le_refl _), Nat.sub_self, List.replicate_succ, List.set_cons_zero, List.append_assoc]
  rfl
theorem drop_cons {α : Type} (l : List α) (i : Nat) (h : i < l.length) : l.drop i = l[i] :: l.drop (i + 1) := List.drop_eq_getElem_cons h
/-! laws_toIntS -/
theorem toIntS_l0 (l : List Int) (hl : l.length ≤ 9223372036854775806) : ∀ d i : Nat, i + d = l.length → Ev (fun k => laws_toIntS.l0 k l (l.take i ++ List.replicate d 0) (i : Int)) l := by
  intro d
  induction d with
  | zero =>
    intro i hi
    refine Ev.step (fun k => by rw [laws_toIntS.l0]) ?_
    refine evF (by omega) ?_
    have : l.take i ++ List.replicate 0 0 = l := by rw [List.take_of_length_le (by omega)]; simp
    rw [this]
    exact evSome _
  | succ d ih =>
    intro i hi
    refine Ev.step (fun k => by rw [laws_toIntS.l0]) ?_
    refine evT (by omega) (evT (by omega) (evT (by simp; omega) ?_))
    rw [w64s i (by omega), show ((i : Int)).toNat = i from by omega, set_fill _ _ _ _ _ (by rw [List.length_take]; omega)]
    have h2 : rd l (i : Int) = l[i] := by unfold rd; rw [show ((i : Int)).toNat = i from by omega]; exact getD_eq _ _ _ (by omega)
    rw [h2, ← take_succ' l i (by omega)]
    exact ih (i + 1) (by omega)
theorem toIntS_ev (l : List Int) (hl : l.length ≤ 1048576) : Ev (fun k => laws_toIntS.f k l) l := by
  unfold laws_toIntS.f
  refine evT (by omega) (evT (by omega) ?_)
  have h := toIntS_l0 l (by omega) l.length 0 (by omega)
  simpa using h
/-! laws_toIntSS -/
theorem toIntSS_l0 (l : List (List Int)) (hl : l.length ≤ 1048576) (hx : ∀ x ∈ l, x.length ≤ 1048576) : ∀ d i : Nat, i + d = l.length → Ev (fun k => laws_toIntSS.l0 k l (l.take i ++ List.replicate d []) (i : Int)) l := by
  intro d
  induction d with
  | zero =>
    intro i hi
    refine Ev.step (fun k => by rw [laws_toIntSS.l0]) ?_
    refine evF (by omega) ?_
    have : l.take i ++ List.replicate 0 [] = l := by rw [List.take_of_length_le (by omega)]; simp
    rw [this]
    exact evSome _
  | succ d ih =>
    intro i hi
    have h2 : rd_L1 l (i : Int) = l[i] := by unfold rd_L1; rw [show ((i : Int)).toNat = i from by omega]; exact getD_eq _ _ _ (by omega)
    refine Ev.step (fun k => by rw [laws_toIntSS.l0]) ?_
    refine evT (by omega) (evT (by omega) ?_)
    rw [h2]
    refine Ev.bind (toIntS_ev _ (hx _ (List.getElem_mem _))) ?_
    refine evT (by simp; omega) ?_
    rw [w64s i (by omega), show ((i : Int)).toNat = i from by omega, set_fill _ _ _ _ _ (by rw [List.length_take]; omega)]
    rw [← take_succ' l i (by omega)]
    exact ih (i + 1) (by omega)
theorem toIntSS_ev (l : List (List Int)) (hl : l.length ≤ 1048576) (hx : ∀ x ∈ l, x.length ≤ 1048576) : Ev (fun k => laws_toIntSS.f k l) l := by
  unfold laws_toIntSS.f
  refine evT (by omega) (evT (by omega) ?_)
  have h := toIntSS_l0 l hl hx l.length 0 (by omega)
  simpa using h
/-! laws_szIntS -/
theorem szIntS_ev (l : List Int) (a : Int) (ha : 0 ≤ a) (ha2 : a ≤ 1048576) (hl : l.length ≤ 9223372036854775807) : (laws_szIntS.f l a = some (-1)) ∨ (laws_szIntS.f l a = some (a - l.length) ∧ 0 ≤ a - (l.length : Int)) := by
  unfold laws_szIntS.f
  rw [w64 (x := a - (l.length : Int)) (by omega) (by omega)]
  by_cases h : a - (l.length : Int) < 0
  · exact .inl (if_pos h)
  · exact .inr ⟨if_neg h, by omega⟩
/-! laws_szIntSS -/
theorem szIntSS_l0 (l : List (List Int)) (hl : l.length ≤ 1048576) (hx : ∀ x ∈ l, x.length ≤ 9223372036854775807) : ∀ d i : Nat, i + d = l.length → ∀ a : Int, 0 ≤ a → a ≤ 1048576 →
    Ev (fun k => laws_szIntSS.l0 k l a (i : Int)) (-1) ∨ ∃ b : Int, Ev (fun k => laws_szIntSS.l0 k l a (i : Int)) b ∧ 0 ≤ b ∧ b ≤ a ∧ ∀ x ∈ l.drop i, x.length ≤ 1048576 := by
  intro d
  induction d with
  | zero =>
    intro i hi a ha ha2
    refine .inr ⟨a, ?_, ha, by omega, by rw [List.drop_of_length_le (by omega)]; simp⟩
    refine Ev.step (fun k => by rw [laws_szIntSS.l0]) ?_
    exact evF (by omega) (evSome _)
  | succ d ih =>
    intro i hi a ha ha2
    have h2 : rd_L1 l (i : Int) = l[i] := by unfold rd_L1; rw [show ((i : Int)).toNat = i from by omega]; exact getD_eq _ _ _ (by omega)
    rcases szIntS_ev l[i] a ha ha2 (hx _ (List.getElem_mem _)) with h | ⟨h, h0⟩
    · left
      refine Ev.step (fun k => by rw [laws_szIntSS.l0]) ?_
      refine evT (by omega) (evT (by omega) ?_)
      rw [h2]
      exact evB h (evT (by omega) (evSome _))
    · rcases ih (i + 1) (by omega) (a - (l[i].length : Int)) h0 (by omega) with h3 | ⟨b, h3, hb0, hba, hd⟩
      · left
        refine Ev.step (fun k => by rw [laws_szIntSS.l0]) ?_
        refine evT (by omega) (evT (by omega) ?_)
        rw [h2]
        refine evB h (evF (by omega) ?_)
        rw [w64s i (by omega)]
        exact h3
      · right
        refine ⟨b, ?_, hb0, by omega, ?_⟩
        · refine Ev.step (fun k => by rw [laws_szIntSS.l0]) ?_
          refine evT (by omega) (evT (by omega) ?_)
          rw [h2]
          refine evB h (evF (by omega) ?_)
          rw [w64s i (by omega)]
          exact h3
        · rw [drop_cons l i (by omega)]
          intro x hxm
          rcases List.mem_cons.1 hxm with rfl | hxm
          · omega
          · exact hd x hxm
theorem szIntSS_ev (l : List (List Int)) (a : Int) (ha : 0 ≤ a) (ha2 : a ≤ 1048576) (hl : l.length ≤ 9223372036854775807) (hx : ∀ x ∈ l, x.length ≤ 9223372036854775807) :
    Ev (fun k => laws_szIntSS.f k l a) (-1) ∨ ∃ b : Int, Ev (fun k => laws_szIntSS.f k l a) b ∧ 0 ≤ b ∧ b ≤ a ∧ l.length ≤ 1048576 ∧ ∀ x ∈ l, x.length ≤ 1048576 := by
  unfold laws_szIntSS.f
  rw [w64 (x := a - (l.length : Int)) (by omega) (by omega)]
  by_cases h : a - (l.length : Int) < 0
  · exact .inl (evT h (evSome _))
  · rcases szIntSS_l0 l (by omega) hx l.length 0 (by omega) (a - (l.length : Int)) (by omega) (by omega) with h3 | ⟨b, h3, hb0, hba, hd⟩
    · exact .inl (evF h h3)
    · exact .inr ⟨b, evF h h3, hb0, by omega, by omega, by simpa using hd⟩
/-! laws_eqIntS -/
theorem eqIntS_l0 (l : List Int) (hl : l.length ≤ 9223372036854775806) : ∀ d i : Nat, i + d = l.length → Ev (fun k => laws_eqIntS.l0 k l l (i : Int)) true := by
  intro d
  induction d with
  | zero =>
    intro i hi
    refine Ev.step (fun k => by rw [laws_eqIntS.l0]) ?_
    exact evF (by omega) (evSome _)
  | succ d ih =>
    intro i hi
    refine Ev.step (fun k => by rw [laws_eqIntS.l0]) ?_
    refine evT (by omega) (evT (by omega) (evT (by omega) (evT rfl ?_)))
    rw [w64s i (by omega)]
    exact ih (i + 1) (by omega)
theorem eqIntS_ev (l : List Int) (hl : l.length ≤ 1048576) : Ev (fun k => laws_eqIntS.f k l l) true := by
  unfold laws_eqIntS.f
  exact evT rfl (by simpa using eqIntS_l0 l (by omega) l.length 0 (by omega))
/-! laws_eqIntSS -/
theorem eqIntSS_l0 (l : List (List Int)) (hl : l.length ≤ 9223372036854775806) (hx : ∀ x ∈ l, x.length ≤ 1048576) : ∀ d i : Nat, i + d = l.length → Ev (fun k => laws_eqIntSS.l0 k l l (i : Int)) true := by
  intro d
  induction d with
  | zero =>
    intro i hi
    refine Ev.step (fun k => by rw [laws_eqIntSS.l0]) ?_
    exact evF (by omega) (evSome _)
  | succ d ih =>
    intro i hi
    have h2 : rd_L1 l (i : Int) = l[i] := by unfold rd_L1; rw [show ((i : Int)).toNat = i from by omega]; exact getD_eq _ _ _ (by omega)
    refine Ev.step (fun k => by rw [laws_eqIntSS.l0]) ?_
    refine evT (by omega) (evT (by omega) (evT (by omega) ?_))
    rw [h2]
    refine Ev.bind (eqIntS_ev _ (hx _ (List.getElem_mem _))) (evT rfl ?_)
    rw [w64s i (by omega)]
    exact ih (i + 1) (by omega)
theorem eqIntSS_ev (l : List (List Int)) (hl : l.length ≤ 1048576) (hx : ∀ x ∈ l, x.length ≤ 1048576) : Ev (fun k => laws_eqIntSS.f k l l) true := by
  unfold laws_eqIntSS.f
  exact evT rfl (by simpa using eqIntSS_l0 l (by omega) hx l.length 0 (by omega))
/-! l01In -/
theorem l01In_t {a lo hi : Int} (h0 : lo ≤ a) (h1 : a ≤ hi) : spec_l01In.f a lo hi = some true := by unfold spec_l01In.f; rw [if_pos h0]; simp [h1]
theorem l01In_f {a lo hi : Int} (h : ¬ (lo ≤ a ∧ a ≤ hi)) : spec_l01In.f a lo hi = some false := by
  unfold spec_l01In.f
  by_cases h0 : lo ≤ a
  · rw [if_pos h0]; simp; omega
  · rw [if_neg h0]
theorem l01In_eq (a lo hi : Int) : spec_l01In.f a lo hi = some (decide (lo ≤ a ∧ a ≤ hi)) := by
  by_cases h : lo ≤ a ∧ a ≤ hi
  · rw [l01In_t h.1 h.2]; simp [h]
  · rw [l01In_f h]; simp; omega
/-! within -/
theorem within_t {a lo hi : Int} (h0 : lo ≤ a) (h1 : a ≤ hi) : impl_within.f a lo hi = some true := by unfold impl_within.f; rw [if_pos h0]; simp [h1]
theorem within_f {a lo hi : Int} (h : ¬ (lo ≤ a ∧ a ≤ hi)) : impl_within.f a lo hi = some false := by
  unfold impl_within.f
  by_cases h0 : lo ≤ a
  · rw [if_pos h0]; simp; omega
  · rw [if_neg h0]
theorem within_eq (a lo hi : Int) : impl_within.f a lo hi = some (decide (lo ≤ a ∧ a ≤ hi)) := by
  by_cases h : lo ≤ a ∧ a ≤ hi
  · rw [within_t h.1 h.2]; simp [h]
  · rw [within_f h]; simp; omega
/-! down -/
theorem down {P : Nat → Prop} (n : Nat) (h0 : P n) (hs : ∀ i, i < n → P (i + 1) → P i) : ∀ i, i ≤ n → P i := by
  intro i hi
  obtain ⟨d, hd⟩ : ∃ d, i + d = n := ⟨n - i, by omega⟩
  induction d generalizing i with
  | zero => have : i = n := by omega
            subst this; exact h0
  | succ d ih => exact hs i (by omega) (ih (i + 1) (by omega) (by omega))
/-! rdP -/
theorem rdP (l : List S65) (i : Nat) (h : i < l.length) : rd_T65 l (i : Int) = l[i] := by
  unfold rd_T65; rw [show ((i : Int)).toNat = i from by omega]; exact getD_eq _ _ _ h
/-! rdLP -/
theorem rdLP (l : List S69) (i : Nat) (h : i < l.length) : rd_T69 l (i : Int) = l[i] := by
  unfold rd_T69; rw [show ((i : Int)).toNat = i from by omega]; exact getD_eq _ _ _ h
/-! conv -/
def conv (l : List S69) : List S65 := l.map (fun p => ⟨p.f0, p.f1⟩)
theorem conv_length (l : List S69) : (conv l).length = l.length := by simp [conv]
theorem conv_take_succ (l : List S69) (i : Nat) (h : i < l.length) : conv (l.take (i + 1)) = conv (l.take i) ++ [(⟨l[i].f0, l[i].f1⟩ : S65)] := by
  simp only [conv, take_succ' l i h, List.map_append, List.map_cons, List.map_nil]
/-! laws_toPointS -/
theorem toPointS_l0 (l : List S69) (hl : l.length ≤ 9223372036854775806) : ∀ i, i ≤ l.length → Ev (fun k => laws_toPointS.l0 k l (conv (l.take i) ++ List.replicate (l.length - i) z65) (i : Int)) (conv l) := by
  refine down l.length ?_ ?_
  · refine Ev.step (fun k => by rw [laws_toPointS.l0]) ?_
    refine evF (by omega) ?_
    have : conv (l.take l.length) ++ List.replicate (l.length - l.length) z65 = conv l := by rw [List.take_length, Nat.sub_self]; simp
    rw [this]
    exact evSome _
  · intro i hi ih
    refine Ev.step (fun k => by rw [laws_toPointS.l0]) ?_
    refine evT (by omega) (evT (by omega) (evB rfl (evT (by simp [conv]; omega) ?_)))
    rw [w64s i (by omega), rdLP l i hi, show l.length - i = (l.length - (i + 1)) + 1 by omega, show ((i : Int)).toNat = i from by omega, set_fill _ _ _ _ _ (by simp [conv]; omega), ← conv_take_succ l i hi]
    exact ih
theorem toPointS_ev (l : List S69) (hl : l.length ≤ 1048576) : Ev (fun k => laws_toPointS.f k l) (conv l) := by
  unfold laws_toPointS.f
  refine evT (by omega) (evT (by omega) ?_)
  have h := toPointS_l0 l (by omega) 0 (by omega)
  simpa [conv] using h
/-! laws_szPointS -/
theorem szPointS_ev (l : List S69) (a : Int) (ha : 0 ≤ a) (ha2 : a ≤ 1048576) (hl : l.length ≤ 9223372036854775807) : (laws_szPointS.f l a = some (-1)) ∨ (laws_szPointS.f l a = some (a - l.length) ∧ 0 ≤ a - (l.length : Int)) := by
  unfold laws_szPointS.f
  rw [w64 (x := a - (l.length : Int)) (by omega) (by omega)]
  by_cases h : a - (l.length : Int) < 0
  · exact .inl (if_pos h)
  · exact .inr ⟨if_neg h, by omega⟩
/-! laws_eqPointS -/
theorem eqPoint_same (x y : Int) : laws_eqPoint.f x y x y = some true := by unfold laws_eqPoint.f; rw [if_pos rfl, if_pos rfl]
theorem eqPointS_l0 (l : List S65) (hl : l.length ≤ 9223372036854775806) : ∀ i, i ≤ l.length → Ev (fun k => laws_eqPointS.l0 k l l (i : Int)) true := by
  refine down l.length ?_ ?_
  · refine Ev.step (fun k => by rw [laws_eqPointS.l0]) ?_
    exact evF (by omega) (evSome _)
  · intro i hi ih
    refine Ev.step (fun k => by rw [laws_eqPointS.l0]) ?_
    refine evT (by omega) (evT (by omega) (evT (by omega) (evB (eqPoint_same _ _) (evT rfl ?_))))
    rw [w64s i (by omega)]
    exact ih
theorem eqPointS_ev (l : List S65) (hl : l.length ≤ 1048576) : Ev (fun k => laws_eqPointS.f k l l) true := by
  unfold laws_eqPointS.f
  exact evT rfl (by simpa using eqPointS_l0 l (by omega) 0 (by omega))
/-! pts -/
def ptOk (p : S65) : Bool := decide ((0 ≤ p.f0 ∧ p.f0 ≤ 40) ∧ 0 ≤ p.f1 ∧ p.f1 ≤ 40)
theorem spec_PointOk_eq (x y : Int) : spec_PointOk.f x y = some (ptOk ⟨x, y⟩) := by
  unfold spec_PointOk.f ptOk
  rw [l01In_eq, l01In_eq]
  by_cases h : 0 ≤ x ∧ x ≤ 40 <;> simp [h]
theorem impl_PointOk_eq (x y : Int) : impl_PointOk.f x y = some (ptOk ⟨x, y⟩) := by
  unfold impl_PointOk.f ptOk
  rw [within_eq, within_eq]
  by_cases h : 0 ≤ x ∧ x ≤ 40 <;> simp [h]
theorem all_drop {α : Type} (p : α → Bool) (l : List α) (i : Nat) (h : i < l.length) : (l.drop i).all p = (p l[i] && (l.drop (i + 1)).all p) := by
  rw [drop_cons l i h]; rfl
/-! arePoints -/
theorem arePoints_l0 (l : List S65) (hl : l.length ≤ 9223372036854775806) : ∀ i, i ≤ l.length → Ev (fun k => impl_arePoints.l0 k l (l.length : Int) (i : Int)) ((l.drop i).all ptOk) := by
  refine down l.length ?_ ?_
  · refine Ev.step (fun k => by rw [impl_arePoints.l0]) ?_
    rw [List.drop_length]
    exact evF (by omega) (evSome _)
  · intro i hi ih
    refine Ev.step (fun k => by rw [impl_arePoints.l0]) ?_
    refine evT (by omega) (evT (by omega) (evT (by omega) (evB (impl_PointOk_eq _ _) ?_)))
    rw [rdP l i hi, all_drop ptOk l i hi, w64s i (by omega)]
    by_cases c : ptOk l[i] = true
    · rw [c, Bool.true_and]
      exact evT (by first | exact c | rfl) ih
    · rw [Bool.eq_false_iff.2 c, Bool.false_and]
      exact evF (by first | exact c | decide) (evSome _)
theorem arePoints_ev (l : List S65) (hl : l.length ≤ 9223372036854775806) : Ev (fun k => impl_arePoints.f k l) (l.all ptOk) := by
  unfold impl_arePoints.f
  simpa using arePoints_l0 l hl 0 (by omega)
/-! crossBase -/
def crossW (a b p : S65) : Int := wrap64 ((wrap64 ((wrap64 (b.f0 - a.f0)) * (wrap64 (p.f1 - a.f1)))) - (wrap64 ((wrap64 (b.f1 - a.f1)) * (wrap64 (p.f0 - a.f0)))))
def sgn (n : Int) : Int := if n > 0 then 1 else if n < 0 then -1 else 0
theorem sgn_range (n : Int) : -1 ≤ sgn n ∧ sgn n ≤ 1 := by unfold sgn; split <;> (try split) <;> omega
def ptEq (a b : S65) : Bool := a.f0 == b.f0 && (a.f1 == b.f1)
/-! specSign -/
theorem spec_sign_eq (n : Int) : spec_l02Sign.f n = some (sgn n) := by unfold spec_l02Sign.f sgn; split <;> (try split) <;> rfl
/-! implSign -/
theorem impl_sign_eq (n : Int) : impl_sign.f n = some (sgn n) := by unfold impl_sign.f sgn; split <;> (try split) <;> rfl
/-! onB -/
def onB (a b p : S65) : Bool := decide (crossW a b p = 0) && (decide (mn a.f0 b.f0 ≤ p.f0) && (decide (p.f0 ≤ mx a.f0 b.f0) && (decide (mn a.f1 b.f1 ≤ p.f1) && decide (p.f1 ≤ mx a.f1 b.f1))))
theorem spec_cross_eq (a b p : S65) : spec_l02Cross.f a.f0 a.f1 b.f0 b.f1 p.f0 p.f1 = some (crossW a b p) := rfl
theorem impl_cross_eq (a b p : S65) : impl_cross.f a.f0 a.f1 b.f0 b.f1 p.f0 p.f1 = some (crossW a b p) := rfl
theorem spec_on_eq (a b p : S65) : spec_l02On.f a.f0 a.f1 b.f0 b.f1 p.f0 p.f1 = some (onB a b p) := by
  unfold spec_l02On.f onB
  rw [spec_cross_eq, Option.bind_some]
  by_cases h : crossW a b p = 0 <;> by_cases h1 : mn a.f0 b.f0 ≤ p.f0 <;> by_cases h2 : p.f0 ≤ mx a.f0 b.f0 <;> by_cases h3 : mn a.f1 b.f1 ≤ p.f1 <;> simp [h, h1, h2, h3]
theorem impl_on_eq (a b p : S65) : impl_isOn.f a.f0 a.f1 b.f0 b.f1 p.f0 p.f1 = some (onB a b p) := by
  unfold impl_isOn.f onB
  rw [impl_cross_eq, Option.bind_some]
  simp only [within_eq, Option.bind_some]
  by_cases h : crossW a b p = 0 <;> by_cases h1 : mn a.f0 b.f0 ≤ p.f0 <;> by_cases h2 : p.f0 ≤ mx a.f0 b.f0 <;> by_cases h3 : mn a.f1 b.f1 ≤ p.f1 <;> simp [h, h1, h2, h3]
/-! meetV -/
def shared (a b c d : S65) : List S65 := spec_l02Meet.appif (onB a b d) (spec_l02Meet.appif (onB a b c) (spec_l02Meet.appif (onB c d b) (spec_l02Meet.appif (onB c d a) [] a.f0 a.f1) b.f0 b.f1) c.f0 c.f1) d.f0 d.f1
def meetEnds (a b c d : S65) : List S65 := impl_meet.addif (onB c d b) (impl_meet.addif (onB c d a) (impl_meet.addif (onB a b d) (impl_meet.addif (onB a b c) [] c.f0 c.f1) d.f0 d.f1) a.f0 a.f1) b.f0 b.f1
def crosses (a b c d : S65) : Bool := decide (wrap64 (sgn (crossW a b c) * sgn (crossW a b d)) < 0) && decide (wrap64 (sgn (crossW c d a) * sgn (crossW c d b)) < 0)
def meetV (a b c d : S65) : Int := if crosses a b c d = true then 2 else if (shared a b c d).length = 0 then 0 else if spec_l02Meet.far (shared a b c d) = true then 3 else 1
theorem spec_meet_eq (a b c d : S65) : spec_l02Meet.f a.f0 a.f1 b.f0 b.f1 c.f0 c.f1 d.f0 d.f1 = some (meetV a b c d) := by
  unfold spec_l02Meet.f meetV
  simp only [spec_cross_eq, spec_sign_eq, spec_on_eq, Option.bind_some]
  show (if crosses a b c d = true then some 2 else if (shared a b c d).length = 0 then some 0 else if spec_l02Meet.far (shared a b c d) = true then some 3 else some 1) = _
  split
  · rfl
  · split
    · rfl
    · split <;> rfl
theorem mem_appif (t : Bool) (xs : List S65) (p : S65) (x : S65) : x ∈ spec_l02Meet.appif t xs p.f0 p.f1 ↔ x ∈ xs ∨ (t = true ∧ x = p) := by
  unfold spec_l02Meet.appif
  cases t <;> simp
theorem has_mem (xs : List S65) (p : S65) : impl_meet.has xs p.f0 p.f1 = true ↔ p ∈ xs := by
  unfold impl_meet.has
  rw [List.any_eq_true]
  constructor
  · rintro ⟨q, hq, h⟩
    obtain ⟨h0, h1⟩ : p.f0 = q.f0 ∧ p.f1 = q.f1 := by simpa using h
    cases p; cases q
    simp only at h0 h1
    subst h0; subst h1
    exact hq
  · intro h
    exact ⟨p, h, by simp⟩
theorem mem_addif (t : Bool) (xs : List S65) (p : S65) (x : S65) : x ∈ impl_meet.addif t xs p.f0 p.f1 ↔ x ∈ xs ∨ (t = true ∧ x = p) := by
  unfold impl_meet.addif impl_meet.addp
  cases t with
  | false => simp
  | true =>
    rw [if_pos rfl]
    split
    · rename_i h
      rw [has_mem] at h
      constructor
      · exact fun h2 => .inl h2
      · rintro (h2 | ⟨_, rfl⟩)
        · exact h2
        · exact h
    · simp
theorem nodup_addif (t : Bool) (xs : List S65) (p : S65) (h : xs.Nodup) : (impl_meet.addif t xs p.f0 p.f1).Nodup := by
  unfold impl_meet.addif impl_meet.addp
  split
  · split
    · exact h
    · rename_i h2
      rw [has_mem] at h2
      rw [List.nodup_append]
      refine ⟨h, by simp, fun a ha b hb => ?_⟩
      rw [List.mem_singleton] at hb
      subst hb
      intro e
      exact h2 (by rw [e] at ha; exact ha)
  · exact h
theorem ends_mem (a b c d x : S65) : x ∈ meetEnds a b c d ↔ x ∈ shared a b c d := by
  unfold meetEnds shared
  simp only [mem_addif, mem_appif]
  constructor
  · rintro ((((h | h) | h) | h) | h)
    · cases h
    · exact .inl (.inr h)
    · exact .inr h
    · exact .inl (.inl (.inl (.inr h)))
    · exact .inl (.inl (.inr h))
  · rintro ((((h | h) | h) | h) | h)
    · cases h
    · exact .inl (.inr h)
    · exact .inr h
    · exact .inl (.inl (.inl (.inr h)))
    · exact .inl (.inl (.inr h))
theorem ends_nodup (a b c d : S65) : (meetEnds a b c d).Nodup := nodup_addif _ _ _ (nodup_addif _ _ _ (nodup_addif _ _ _ (nodup_addif _ _ _ List.nodup_nil)))
theorem w64_0 : wrap64 0 = 0 := w64 (by omega) (by omega)
theorem sgn0 {n : Int} (h : n = 0) : sgn n = 0 := by subst h; rfl
theorem crosses_f {a b c d : S65} (h : crossW a b c = 0 ∨ crossW a b d = 0 ∨ crossW c d a = 0 ∨ crossW c d b = 0) : crosses a b c d = false := by
  have w0 : ¬ wrap64 0 < 0 := by rw [w64_0]; decide
  unfold crosses
  rcases h with h | h | h | h <;> rw [sgn0 h] <;> simp [w0]
theorem onB_cross {a b p : S65} (h : onB a b p = true) : crossW a b p = 0 := by
  unfold onB at h
  simp only [Bool.and_eq_true, decide_eq_true_eq] at h
  exact h.1
theorem shared_crosses {a b c d x : S65} (h : x ∈ shared a b c d) : crosses a b c d = false := by
  unfold shared at h
  simp only [mem_appif] at h
  apply crosses_f
  rcases h with (((h | h) | h) | h) | h
  · cases h
  · exact .inr (.inr (.inl (onB_cross h.1)))
  · exact .inr (.inr (.inr (onB_cross h.1)))
  · exact .inl (onB_cross h.1)
  · exact .inr (.inl (onB_cross h.1))
theorem far_iff (xs : List S65) : spec_l02Meet.far xs = true ↔ ∃ q ∈ xs, q ≠ rd_T65 xs 0 := by
  unfold spec_l02Meet.far
  rw [List.any_eq_true]
  constructor
  · rintro ⟨q, hq, h⟩
    refine ⟨q, hq, fun e => ?_⟩
    rw [← e] at h
    simp at h
  · rintro ⟨q, hq, h⟩
    refine ⟨q, hq, ?_⟩
    rw [Bool.not_eq_true', Bool.and_eq_false_iff]
    by_cases h0 : q.f0 = (rd_T65 xs 0).f0
    · by_cases h1 : q.f1 = (rd_T65 xs 0).f1
      · exact absurd (by cases q; generalize rd_T65 xs 0 = y at *; cases y; simp_all) h
      · exact .inr (by simpa using h1)
    · exact .inl (by simpa using h0)
theorem impl_meet_eq (a b c d : S65) : impl_meet.f a.f0 a.f1 b.f0 b.f1 c.f0 c.f1 d.f0 d.f1 = some (meetV a b c d) := by
  unfold impl_meet.f meetV
  simp only [impl_cross_eq, impl_sign_eq, impl_on_eq, Option.bind_some]
  show (if (meetEnds a b c d).length > 1 then some 3 else if (meetEnds a b c d).length = 1 then some 1 else if wrap64 (sgn (crossW a b c) * sgn (crossW a b d)) < 0 then (if wrap64 (sgn (crossW c d a) * sgn (crossW c d b)) < 0 then some 2 else some 0) else some 0) = _
  have hm := ends_mem a b c d
  have hn := ends_nodup a b c d
  by_cases hS : shared a b c d = []
  · have hE : meetEnds a b c d = [] := by
      rw [List.eq_nil_iff_forall_not_mem]
      intro x hx
      rw [hm, hS] at hx
      cases hx
    rw [hE, hS]
    simp only [List.length_nil, if_true]
    rw [if_neg (by omega), if_neg (by omega)]
    unfold crosses
    by_cases h1 : wrap64 (sgn (crossW a b c) * sgn (crossW a b d)) < 0 <;> by_cases h2 : wrap64 (sgn (crossW c d a) * sgn (crossW c d b)) < 0 <;> simp [h1, h2]
  · obtain ⟨y, S, hy⟩ : ∃ y S, shared a b c d = y :: S := by
      cases h : shared a b c d with
      | nil => exact absurd h hS
      | cons y S => exact ⟨y, S, rfl⟩
    have hcr : crosses a b c d = false := shared_crosses (x := y) (by rw [hy]; exact List.mem_cons_self)
    have hR : ∀ z : Int, (if crosses a b c d = true then 2 else if (shared a b c d).length = 0 then 0 else z) = z := fun z => by rw [hcr, if_neg (by decide), if_neg (by rw [hy]; simp)]
    rw [hR]
    have h0 : rd_T65 (shared a b c d) 0 = y := by rw [hy]; rfl
    generalize meetEnds a b c d = E at hm hn
    match E, hm, hn with
    | [], hm, _ => exact absurd ((hm y).2 (by rw [hy]; exact List.mem_cons_self)) (by simp)
    | [x], hm, _ =>
      have hf : ¬ spec_l02Meet.far (shared a b c d) = true := by
        rw [far_iff, h0]
        rintro ⟨q, hq, hne⟩
        have h1 := (hm q).2 hq
        have h2 := (hm y).2 (by rw [hy]; exact List.mem_cons_self)
        rw [List.mem_singleton] at h1 h2
        exact hne (h1.trans h2.symm)
      rw [if_neg hf]
      rfl
    | x :: z :: E, hm, hn =>
      have hf : spec_l02Meet.far (shared a b c d) = true := by
        rw [far_iff, h0]
        have hxz : x ≠ z := by
          intro e
          rw [List.nodup_cons] at hn
          exact hn.1 (by rw [e]; exact List.mem_cons_self)
        by_cases e : x = y
        · exact ⟨z, (hm z).1 (by simp), fun e2 => hxz (e.trans e2.symm)⟩
        · exact ⟨x, (hm x).1 (by simp), e⟩
      rw [if_pos hf]
      exact if_pos (by simp)
theorem crossW_self0 (a b : S65) : crossW a b a = 0 := by
  unfold crossW
  rw [Int.sub_self, Int.sub_self, w64_0, Int.mul_zero, Int.mul_zero, w64_0, Int.sub_self, w64_0]
theorem crossW_self1 (a b : S65) : crossW a b b = 0 := by
  unfold crossW
  rw [Int.mul_comm (wrap64 (b.f1 - a.f1)), Int.sub_self, w64_0]
theorem mn_le (a b : Int) : mn a b ≤ a ∧ mn a b ≤ b := by unfold mn; split <;> omega
theorem le_mx (a b : Int) : a ≤ mx a b ∧ b ≤ mx a b := by unfold mx; split <;> omega
theorem onB_0 (a b : S65) : onB a b a = true := by
  unfold onB
  simp [crossW_self0, mn_le, le_mx]
theorem onB_1 (a b : S65) : onB a b b = true := by
  unfold onB
  simp [crossW_self1, mn_le, le_mx]
theorem meet_share {a b c d : S65} (h : c = a ∨ c = b ∨ d = a ∨ d = b) : meetV a b c d = 1 ∨ meetV a b c d = 3 := by
  have hx : ∃ x, x ∈ shared a b c d := by
    unfold shared
    simp only [mem_appif]
    rcases h with rfl | rfl | rfl | rfl
    · exact ⟨c, .inl (.inr ⟨onB_0 _ _, rfl⟩)⟩
    · exact ⟨c, .inl (.inr ⟨onB_1 _ _, rfl⟩)⟩
    · exact ⟨d, .inr ⟨onB_0 _ _, rfl⟩⟩
    · exact ⟨d, .inr ⟨onB_1 _ _, rfl⟩⟩
  obtain ⟨x, hx⟩ := hx
  unfold meetV
  rw [shared_crosses hx, if_neg (by decide), if_neg (fun h => by rw [List.length_eq_zero_iff] at h; rw [h] at hx; cases hx)]
  split
  · exact .inr rfl
  · exact .inl rfl
/-! polyBase -/
def allF (P : Nat → Bool) : Nat → Nat → Bool
  | _, 0 => true
  | i, d + 1 => P i && allF P (i + 1) d
theorem allF_iff (P : Nat → Bool) : ∀ d i, allF P i d = true ↔ ∀ j, i ≤ j → j < i + d → P j = true
  | 0, i => ⟨fun _ j h0 h1 => by omega, fun _ => rfl⟩
  | d + 1, i => by
    rw [allF, Bool.and_eq_true, allF_iff P d (i + 1)]
    constructor
    · rintro ⟨h0, h⟩ j h1 h2
      by_cases e : j = i
      · rw [e]; exact h0
      · exact h j (by omega) (by omega)
    · intro h
      exact ⟨h i (Nat.le_refl _) (by omega), fun j h1 h2 => h j (by omega) (by omega)⟩
theorem allF_t {P : Nat → Bool} {i d : Nat} (h : P i = true) : allF P i (d + 1) = allF P (i + 1) d := by simp [allF, h]
theorem allF_f {P : Nat → Bool} {i d : Nat} (h : P i = false) : allF P i (d + 1) = false := by simp [allF, h]
def pt (p : List S65) (j : Nat) : S65 := rd_T65 p (j : Int)
theorem tmod_nxt {i n : Nat} (hi : i < 1152921504606846976) : Int.tmod (wrap64 ((i : Int) + 1)) (n : Int) = (((i + 1) % n : Nat) : Int) := by
  rw [w64s i (by omega)]
  rfl
def nx (p : List S65) (j : Nat) : S65 := pt p ((j + 1) % p.length)
def edgeNe (p : List S65) (j : Nat) : Bool := !(ptEq (pt p j) (nx p j))
def pairB (p : List S65) (i k : Nat) : Bool := decide (meetV (pt p i) (nx p i) (pt p k) (nx p k) = impl_PolygonOk.want (p.length : Int) (i : Int) (k : Int))
def rowB (p : List S65) (i : Nat) : Bool := allF (pairB p i) (i + 1) (p.length - (i + 1))
def polyOk (p : List S65) : Bool := decide (3 ≤ p.length ∧ p.length ≤ 10) && (p.all ptOk && (allF (edgeNe p) 0 p.length && allF (rowB p) 0 p.length))
theorem polyOk_len {p : List S65} (h : polyOk p = true) : 3 ≤ p.length ∧ p.length ≤ 10 := by
  unfold polyOk at h
  rw [Bool.and_eq_true, decide_eq_true_eq] at h
  exact h.1
theorem polyOk_pt {p : List S65} (h : polyOk p = true) {j : Nat} (hj : j < p.length) : (0 ≤ (pt p j).f0 ∧ (pt p j).f0 ≤ 40) ∧ 0 ≤ (pt p j).f1 ∧ (pt p j).f1 ≤ 40 := by
  unfold polyOk at h
  simp only [Bool.and_eq_true, List.all_eq_true] at h
  have h2 := h.2.1 _ (List.getElem_mem hj)
  unfold pt
  rw [rdP _ _ hj]
  unfold ptOk at h2
  simpa using h2
/-! specPoly -/
theorem spec_poly_l3 (p : List S65) (hn : p.length ≤ 10) (i : Nat) (hi : i < p.length) (R : Bool) (c : Int) (hR : Ev (fun k => spec_PolygonOk.l2 k p (p.length : Int) c (wrap64 ((i : Int) + 1))) R) :
    ∀ d k : Nat, k + d = p.length → Ev (fun f => spec_PolygonOk.l3 f p (p.length : Int) (i : Int) (k : Int) c (i : Int)) (allF (pairB p i) k d && R) := by
  intro d
  induction d with
  | zero =>
    intro k hk
    refine Ev.step (fun f => by rw [spec_PolygonOk.l3]) ?_
    refine evF (by omega) ?_
    simpa [allF] using hR
  | succ d ih =>
    intro k hk
    have ti := tmod_nxt (i := i) (n := p.length) (by omega)
    have tk := tmod_nxt (i := k) (n := p.length) (by omega)
    have hmi : (i + 1) % p.length < p.length := Nat.mod_lt _ (by omega)
    have hmk : (k + 1) % p.length < p.length := Nat.mod_lt _ (by omega)
    refine Ev.step (fun f => by rw [spec_PolygonOk.l3]) ?_
    refine evT (by omega) (evT (by omega) (evT (by omega) (evF (by omega) ?_)))
    rw [ti, tk]
    refine evT (by omega) (evT (by omega) (evT (by omega) (evT (by omega) (evT (by omega) (evT (by omega) ?_)))))
    refine evB (spec_meet_eq (pt p i) (nx p i) (pt p k) (nx p k)) ?_
    have hj : ∀ b : Bool, ((if b = true then (1 : Int) else 0) = impl_PolygonOk.want (p.length : Int) (i : Int) (k : Int)) → Ev (fun f => spec_PolygonOk.j4 f p (p.length : Int) (i : Int) (k : Int) (meetV (pt p i) (nx p i) (pt p k) (nx p k)) c (i : Int) b) (allF (pairB p i) k (d + 1) && R) := by
      intro b hb
      refine Ev.step (fun f => by rw [spec_PolygonOk.j4]) ?_
      by_cases hm : meetV (pt p i) (nx p i) (pt p k) (nx p k) = impl_PolygonOk.want (p.length : Int) (i : Int) (k : Int)
      · have h1 : pairB p i k = true := decide_eq_true hm
        rw [allF_t h1]
        have := ih (k + 1) (by omega)
        rw [← w64s k (by omega)] at this
        cases b with
        | true => exact evT rfl (evT (by rw [hm, ← hb]; rfl) this)
        | false => exact evF (by decide) (evT (by rw [hm, ← hb]; rfl) this)
      · have h1 : pairB p i k = false := decide_eq_false hm
        rw [allF_f h1]
        cases b with
        | true => exact evT rfl (evF (by rw [if_pos rfl] at hb; omega) (evSome _))
        | false => exact evF (by decide) (evF (by rw [if_neg (by decide)] at hb; omega) (evSome _))
    have w1 : wrap64 ((i : Int) + 1) = (i : Int) + 1 := w64 (by omega) (by omega)
    have w2 : wrap64 ((p.length : Int) - 1) = (p.length : Int) - 1 := w64 (by omega) (by omega)
    by_cases e1 : (k : Int) = wrap64 ((i : Int) + 1)
    · refine evT e1 (hj true ?_)
      show (1 : Int) = impl_PolygonOk.want _ _ _
      unfold impl_PolygonOk.want
      rw [if_pos (by omega)]
    · refine evF e1 ?_
      by_cases e2 : (i : Int) = 0
      · refine evT e2 (hj _ ?_)
        have hw : impl_PolygonOk.want (p.length : Int) (i : Int) (k : Int) = if (k : Int) = (p.length : Int) - 1 then 1 else 0 := by
          unfold impl_PolygonOk.want
          rw [if_neg (by omega), if_pos e2]
        rw [hw, w2]
        by_cases e3 : (k : Int) = (p.length : Int) - 1
        · rw [if_pos e3, if_pos (by rw [e3]; simp)]
        · rw [if_neg e3, if_neg (by simpa using e3)]
      · refine evF e2 (hj false ?_)
        show (0 : Int) = impl_PolygonOk.want _ _ _
        unfold impl_PolygonOk.want
        rw [if_neg (by omega), if_neg e2]
theorem spec_poly_l2 (p : List S65) (hn : p.length ≤ 10) : ∀ d i : Nat, i + d = p.length → Ev (fun f => spec_PolygonOk.l2 f p (p.length : Int) (p.length : Int) (i : Int)) (allF (rowB p) i d) := by
  intro d
  induction d with
  | zero =>
    intro i hi
    refine Ev.step (fun f => by rw [spec_PolygonOk.l2]) ?_
    exact evF (by omega) (evSome _)
  | succ d ih =>
    intro i hi
    refine Ev.step (fun f => by rw [spec_PolygonOk.l2]) ?_
    refine evT (by omega) ?_
    have h2 := ih (i + 1) (by omega)
    rw [← w64s i (by omega)] at h2
    have h := spec_poly_l3 p hn i (by omega) _ _ h2 (p.length - (i + 1)) (i + 1) (by omega)
    rw [← w64s i (by omega)] at h
    exact h
theorem spec_poly_l1 (p : List S65) (hn : p.length ≤ 10) : ∀ d i : Nat, i + d = p.length → Ev (fun f => spec_PolygonOk.l1 f p (p.length : Int) (p.length : Int) (i : Int)) (allF (edgeNe p) i d && allF (rowB p) 0 p.length) := by
  intro d
  induction d with
  | zero =>
    intro i hi
    refine Ev.step (fun f => by rw [spec_PolygonOk.l1]) ?_
    refine evF (by omega) ?_
    simpa [allF] using spec_poly_l2 p hn p.length 0 (by omega)
  | succ d ih =>
    intro i hi
    have ti := tmod_nxt (i := i) (n := p.length) (by omega)
    have hmi : (i + 1) % p.length < p.length := Nat.mod_lt _ (by omega)
    refine Ev.step (fun f => by rw [spec_PolygonOk.l1]) ?_
    refine evT (by omega) (evT (by omega) (evT (by omega) (evF (by omega) ?_)))
    rw [ti]
    refine evT (by omega) (evT (by omega) ?_)
    by_cases e : ptEq (pt p i) (nx p i) = true
    · refine evT e ?_
      rw [allF_f (by unfold edgeNe; rw [e]; rfl)]
      exact evSome _
    · refine evF e ?_
      rw [allF_t (by unfold edgeNe; rw [Bool.not_eq_true] at e; rw [e]; rfl), w64s i (by omega)]
      exact ih (i + 1) (by omega)
theorem spec_poly_l0 (p : List S65) (hn : p.length ≤ 10) : ∀ i, i ≤ p.length → Ev (fun k => spec_PolygonOk.l0 k p p (p.length : Int) (i : Int)) ((p.drop i).all ptOk && (allF (edgeNe p) 0 p.length && allF (rowB p) 0 p.length)) := by
  refine down p.length ?_ ?_
  · refine Ev.step (fun f => by rw [spec_PolygonOk.l0]) ?_
    refine evF (by omega) ?_
    rw [List.drop_length]
    simpa using spec_poly_l1 p hn p.length 0 (by omega)
  · intro i hi ih
    refine Ev.step (fun f => by rw [spec_PolygonOk.l0]) ?_
    refine evT (by omega) (evT (by omega) (evT (by omega) ?_))
    refine evB (spec_PointOk_eq _ _) ?_
    rw [all_drop _ _ _ hi, rdP _ _ hi, w64s i (by omega)]
    cases h : ptOk p[i] with
    | true => exact evT rfl (by simpa using ih)
    | false => exact evF (by decide) (by simpa using evSome false)
theorem spec_poly_ev (p : List S65) : Ev (fun k => spec_PolygonOk.f k p) (polyOk p) := by
  unfold spec_PolygonOk.f polyOk
  by_cases h : 3 ≤ p.length ∧ p.length ≤ 10
  · refine evB (l01In_t (by omega) (by omega)) (evT rfl ?_)
    have := spec_poly_l0 p h.2 0 (by omega)
    simpa [h] using this
  · refine evB (l01In_f (by omega)) (evF (by decide) ?_)
    simpa [h] using evSome false
/-! implPoly -/
def cellB (p : List S65) (i k : Nat) : Bool := edgeNe p i && (edgeNe p k && pairB p i k)
theorem impl_poly_row (p : List S65) (hn : p.length ≤ 10) (i : Nat) (hi : i < p.length) (R : Bool) (hR : Ev (fun f => if (i : Int) + 1 < (p.length : Int) then impl_PolygonOk.li p f ((i : Int) + 1) ((i : Int) + 2) else some true) R) :
    ∀ d k : Nat, k + d = p.length → i < k → Ev (fun f => impl_PolygonOk.li p f (i : Int) (k : Int)) (allF (cellB p i) k d && R) := by
  intro d
  induction d with
  | zero =>
    intro k hk hik
    refine Ev.step (fun f => by rw [impl_PolygonOk.li]) ?_
    refine evF (by omega) ?_
    simpa [allF] using hR
  | succ d ih =>
    intro k hk hik
    have tk : ((k : Int) + 1) % (p.length : Int) = (((k + 1) % p.length : Nat) : Int) := rfl
    have ti : (i + 1) % p.length = i + 1 := Nat.mod_eq_of_lt (by omega)
    have hx : rd_T65 p ((i : Int) + 1) = nx p i := by unfold nx pt; rw [ti]; rfl
    have hy : rd_T65 p (((k : Int) + 1) % (p.length : Int)) = nx p k := by unfold nx pt; rw [tk]
    refine Ev.step (fun f => by rw [impl_PolygonOk.li]) ?_
    refine evT (by omega) ?_
    rw [hx, hy]
    by_cases e : ptEq (pt p i) (nx p i) = true
    · refine evT e ?_
      rw [allF_f (by unfold cellB edgeNe; rw [e]; rfl)]
      exact evSome _
    · refine evF e ?_
      have e' : edgeNe p i = true := by unfold edgeNe; rw [Bool.not_eq_true] at e; rw [e]; rfl
      by_cases g : ptEq (pt p k) (nx p k) = true
      · refine evT g ?_
        rw [allF_f (by unfold cellB; rw [e']; unfold edgeNe; rw [g]; rfl)]
        exact evSome _
      · refine evF g ?_
        have g' : edgeNe p k = true := by unfold edgeNe; rw [Bool.not_eq_true] at g; rw [g]; rfl
        refine evB (impl_meet_eq (pt p i) (nx p i) (pt p k) (nx p k)) ?_
        by_cases hm : meetV (pt p i) (nx p i) (pt p k) (nx p k) = impl_PolygonOk.want (p.length : Int) (i : Int) (k : Int)
        · refine evT hm ?_
          rw [allF_t (by unfold cellB pairB; rw [e', g', decide_eq_true hm]; rfl)]
          exact ih (k + 1) (by omega) (by omega)
        · refine evF hm ?_
          rw [allF_f (by unfold cellB pairB; rw [e', g', decide_eq_false hm]; rfl)]
          exact evSome _
def rowC (p : List S65) (i : Nat) : Bool := allF (cellB p i) (i + 1) (p.length - (i + 1))
theorem impl_poly_li (p : List S65) (hn : p.length ≤ 10) : ∀ d i : Nat, i + 1 + d = p.length → Ev (fun f => impl_PolygonOk.li p f (i : Int) ((i : Int) + 1)) (allF (rowC p) i (d + 1)) := by
  intro d
  induction d with
  | zero =>
    intro i hi
    have h := impl_poly_row p hn i (by omega) true (evF (by omega) (evSome _)) (p.length - (i + 1)) (i + 1) (by omega) (by omega)
    rw [allF, allF]
    exact h
  | succ d ih =>
    intro i hi
    have h1 := ih (i + 1) (by omega)
    have h := impl_poly_row p hn i (by omega) _ (evT (by omega) (by rw [show (((i + 1 : Nat) : Int) + 1) = (i : Int) + 2 by omega] at h1; exact h1)) (p.length - (i + 1)) (i + 1) (by omega) (by omega)
    rw [allF]
    exact h
theorem rows_same (p : List S65) (h3 : 3 ≤ p.length) : allF (rowC p) 0 p.length = (allF (edgeNe p) 0 p.length && allF (rowB p) 0 p.length) := by
  rw [Bool.eq_iff_iff, Bool.and_eq_true, allF_iff, allF_iff, allF_iff]
  have hB : ∀ j, rowB p j = true ↔ ∀ k, j + 1 ≤ k → k < j + 1 + (p.length - (j + 1)) → pairB p j k = true := fun j => allF_iff _ _ _
  have hC : ∀ j, rowC p j = true ↔ ∀ k, j + 1 ≤ k → k < j + 1 + (p.length - (j + 1)) → cellB p j k = true := fun j => allF_iff _ _ _
  have hc : ∀ i k, cellB p i k = true ↔ edgeNe p i = true ∧ edgeNe p k = true ∧ pairB p i k = true := fun i k => by unfold cellB; rw [Bool.and_eq_true, Bool.and_eq_true]
  constructor
  · intro h
    refine ⟨fun j _ hj => ?_, fun j _ hj => (hB j).2 fun k h1 h2 => ((hc j k).1 ((hC j).1 (h j (by omega) hj) k h1 h2)).2.2⟩
    by_cases e : j + 1 < p.length
    · exact ((hc j (j + 1)).1 ((hC j).1 (h j (by omega) hj) (j + 1) (by omega) (by omega))).1
    · exact ((hc 0 j).1 ((hC 0).1 (h 0 (by omega) (by omega)) j (by omega) (by omega))).2.1
  · rintro ⟨h1, h2⟩ j _ hj
    exact (hC j).2 fun k h3 h4 => (hc j k).2 ⟨h1 j (by omega) hj, h1 k (by omega) (by omega), (hB j).1 (h2 j (by omega) hj) k h3 h4⟩
theorem impl_poly_ev (p : List S65) (hl : p.length ≤ 1048576) : Ev (fun k => impl_PolygonOk.f k p) (polyOk p) := by
  unfold impl_PolygonOk.f polyOk
  by_cases h : 3 ≤ p.length ∧ p.length ≤ 10
  · refine evF (by omega) ?_
    refine Ev.bind (arePoints_ev p (by omega)) ?_
    rw [decide_eq_true h, Bool.true_and]
    cases ha : p.all ptOk with
    | false => exact evF (by decide) (evSome _)
    | true =>
      refine evT rfl ?_
      rw [Bool.true_and, ← rows_same p h.1]
      have := impl_poly_li p h.2 (p.length - 1) 0 (by omega)
      rw [show p.length - 1 + 1 = p.length by omega] at this
      exact this
  · refine evT (by omega) ?_
    rw [decide_eq_false h]
    exact evSome _
/-! storeOk -/
theorem spec_store_l0 (l : List (List Int)) (hl : l.length ≤ 1048576) : ∀ d i : Nat, i + d = l.length → Ev (fun k => spec_StoreOk.l0 k l (l.length : Int) (i : Int)) ((l.drop i).all impl_StoreOk.row) := by
  intro d
  induction d with
  | zero =>
    intro i hi
    refine Ev.step (fun k => by rw [spec_StoreOk.l0]) ?_
    rw [List.drop_of_length_le (by omega)]
    exact evF (by omega) (evSome _)
  | succ d ih =>
    intro i hi
    have hil : i < l.length := by omega
    refine Ev.step (fun k => by rw [spec_StoreOk.l0]) ?_
    refine evT (by omega) (evT (by omega) (evT (by omega) ?_))
    have hrd : rd_L1 l (i : Int) = l[i] := by unfold rd_L1; rw [show ((i : Int)).toNat = i from by omega]; exact getD_eq _ _ _ hil
    rw [hrd, drop_cons l i hil, List.all_cons, w64s i (by omega)]
    have hrow : ∀ x : List Int, impl_StoreOk.row x = (decide (x.length = 2) && ((decide (1 ≤ rd x 0) && decide (rd x 0 ≤ 100)) && (decide (1 ≤ rd x 1) && decide (rd x 1 ≤ 100)))) := fun _ => rfl
    by_cases c0 : ((l[i].length : Nat) : Int) = 2
    · refine evT c0 (evT (by omega) ?_)
      by_cases c1 : 1 ≤ rd l[i] 0 ∧ rd l[i] 0 ≤ 100
      · refine evB (l01In_t c1.1 c1.2) (evT rfl (evT (by omega) ?_))
        by_cases c2 : 1 ≤ rd l[i] 1 ∧ rd l[i] 1 ≤ 100
        · refine evB (l01In_t c2.1 c2.2) (evT rfl ?_)
          rw [hrow, decide_eq_true (show l[i].length = 2 by omega), decide_eq_true c1.1, decide_eq_true c1.2, decide_eq_true c2.1, decide_eq_true c2.2]
          exact ih (i + 1) (by omega)
        · refine evB (l01In_f c2) (evF (by decide) ?_)
          have e : (decide (1 ≤ rd l[i] 1) && decide (rd l[i] 1 ≤ 100)) = false := by rw [← Bool.decide_and]; exact decide_eq_false c2
          rw [hrow, e]
          simpa using evSome false
      · refine evB (l01In_f c1) (evF (by decide) ?_)
        have e : (decide (1 ≤ rd l[i] 0) && decide (rd l[i] 0 ≤ 100)) = false := by rw [← Bool.decide_and]; exact decide_eq_false c1
        rw [hrow, e]
        simpa using evSome false
    · refine evF c0 ?_
      rw [hrow, decide_eq_false (show ¬ l[i].length = 2 by omega)]
      simpa using evSome false
theorem spec_store_ev (l : List (List Int)) (hl : l.length ≤ 1048576) : Ev (fun k => spec_StoreOk.f k l) (decide (l.length ≤ 20) && l.all impl_StoreOk.row) := by
  unfold spec_StoreOk.f
  by_cases h : l.length ≤ 20
  · rw [decide_eq_true h, Bool.true_and]
    exact evF (by omega) (by simpa using spec_store_l0 l hl l.length 0 (by omega))
  · rw [decide_eq_false h]
    exact evT (by omega) (evSome _)

theorem FnExactTableOk : ∀ (l0_0 : List (S69)) (l0_1 : List (List (Int))), (l0_0.length ≤ 9223372036854775807 ∧ ∀ x ∈ l0_0, (Opens.I64 x.f0 ∧ Opens.I64 x.f1)) → (l0_1.length ≤ 9223372036854775807 ∧ ∀ x ∈ l0_1, (x.length ≤ 9223372036854775807 ∧ ∀ y ∈ x, Opens.I64 y)) → ∃ k, laws_FnExactTableOk.f k l0_0 l0_1 = some true := by
  intro p s g0 g1
  refine Ev.rounds (g := fun k => laws_FnExactTableOk.f k p s) ?_
  unfold laws_FnExactTableOk.f laws_szTable.f
  rcases szPointS_ev p 1048576 (by omega) (by omega) g0.1 with h | ⟨h, hb⟩
  · exact Ev.bind (evB h (evT (by omega) (evSome (-1)))) (evT (by omega) (evSome _))
  · rcases szIntSS_ev s (1048576 - (p.length : Int)) (by omega) (by omega) g1.1 (fun x hx => (g1.2 x hx).1) with h2 | ⟨b, h2, hb2, _, hl, hx⟩
    · exact Ev.bind (evB h (evF (by omega) (Ev.bind h2 (evT (by omega) (evSome (-1)))))) (evT (by omega) (evSome _))
    · refine Ev.bind (a := b) (evB h (evF (by omega) (Ev.bind h2 (evF (by omega) (evSome _))))) (evF (by omega) ?_)
      have hlp : p.length ≤ 1048576 := by omega
      have hc : (conv p).length ≤ 1048576 := by rw [conv_length]; exact hlp
      have hT : Ev (fun k => laws_toTable.f k p s) (conv p, s) := by
        unfold laws_toTable.f
        exact Ev.bind (toPointS_ev p hlp) (Ev.bind (toIntSS_ev s hl hx) (evSome _))
      have hS : Ev (fun k => spec_TableOk.f k (conv p) s) (polyOk (conv p) && (decide (s.length ≤ 20) && s.all impl_StoreOk.row)) := by
        unfold spec_TableOk.f
        refine Ev.bind (spec_poly_ev (conv p)) ?_
        cases polyOk (conv p) with
        | true => exact evT rfl (Ev.bind (spec_store_ev s hl) (evSome _))
        | false => exact evF (by decide) (evSome _)
      have hI : Ev (fun k => impl_TableOk.f k (conv p) s) (polyOk (conv p) && (decide (s.length ≤ 20) && s.all impl_StoreOk.row)) := by
        unfold impl_TableOk.f
        refine Ev.bind (impl_poly_ev (conv p) hc) ?_
        cases polyOk (conv p) with
        | true => exact evT rfl (evB rfl (evSome _))
        | false => exact evF (by decide) (evSome _)
      refine Ev.bind hT (Ev.bind hS (Ev.bind hT (Ev.bind hI (evF (by simp) (Ev.bind hT ?_)))))
      refine Ev.bind (a := true) ?_ (evT rfl (evSome _))
      unfold laws_eqTable.f
      exact Ev.bind (eqPointS_ev _ hc) (evT rfl (Ev.bind (eqIntSS_ev s hl hx) (evT rfl (evSome _))))

end Go.Proofs.Yteelfcmlghjknaa.Pure
