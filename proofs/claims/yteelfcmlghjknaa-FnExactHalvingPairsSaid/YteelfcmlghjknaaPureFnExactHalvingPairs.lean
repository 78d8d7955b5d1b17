/- FnExactHalvingPairs: for every list of points, HalvingPairs of the program and of the reference answer alike, in rows of their own, and leave the list as it is. No condition. -/
import Derived.Test.YteelfcmlghjknaaQFnExactHalvingPairsx7
import Derived.Test.YteelfcmlghjknaaOpens
namespace Go.Proofs.Yteelfcmlghjknaa.Pure
open Go.RowKit Go.Proofs.Yteelfcmlghjknaa Go.Proofs.Yteelfcmlghjknaa.QFnExactHalvingPairs Go.Proofs.YteelfcmlghjknaaW.PrintWords Go.Proofs.YteelfcmlghjknaaW.PrintLast
set_option linter.unusedVariables false
set_option linter.unusedSimpArgs false

/-! base -/
theorem w64 {x : Int} (h0 : -9223372036854775808 ≤ x) (h1 : x ≤ 9223372036854775807) : wrap64 x = x := by unfold wrap64; omega
theorem w64n (n : Nat) (h : n ≤ 9223372036854775807) : wrap64 (n : Int) = n := w64 (by omega) (by omega)
theorem w64s (n : Nat) (h : n < 9223372036854775807) : wrap64 ((n : Int) + 1) = ((n + 1 : Nat) : Int) := by rw [w64 (by omega) (by omega)]; omega
theorem evSome {α : Type} (r : α) : Ev (fun _ : Nat => some r) r := ⟨0, fun _ _ => rfl⟩
theorem evOf {α : Type} {f : Option α} {r : α} (h : f = some r) : Ev (fun _ : Nat => f) r := ⟨0, fun _ _ => h⟩
theorem evUniq {α : Type} {g : Nat → Option α} {r q : α} (h : Ev g r) (k : Ev g q) : r = q := by
  obtain ⟨a, ha⟩ := h
  obtain ⟨b, hb⟩ := k
  have h1 := ha (a + b) (by omega)
  rw [hb (a + b) (by omega)] at h1
  exact (Option.some.inj h1).symm
theorem evIf {α : Type} {c : Prop} [Decidable c] {f g : Nat → Option α} {r : α} (hp : c → Ev f r) (hn : ¬ c → Ev g r) : Ev (fun k => if c then f k else g k) r := by
  by_cases h : c
  · simp only [if_pos h]; exact hp h
  · simp only [if_neg h]; exact hn h
theorem evT {α : Type} {c : Prop} [Decidable c] {f g : Nat → Option α} {r : α} (h : c) (hp : Ev f r) : Ev (fun k => if c then f k else g k) r := by
  simp only [if_pos h]; exact hp
theorem evF {α : Type} {c : Prop} [Decidable c] {f g : Nat → Option α} {r : α} (h : ¬ c) (hp : Ev g r) : Ev (fun k => if c then f k else g k) r := by
  simp only [if_neg h]; exact hp
theorem evB {α β : Type} {f : Option α} {g : Nat → α → Option β} {a : α} {r : β} (h : f = some a) (k : Ev (fun n => g n a) r) : Ev (fun n => f.bind (g n)) r := by
  subst h
  exact k
theorem getD_eq {α : Type} (l : List α) (i : Nat) (z : α) (h : i < l.length) : l.getD i z = l[i] := by
  rw [List.getD_eq_getElem?_getD, List.getElem?_eq_getElem h]; rfl
theorem take_succ' {α : Type} (l : List α) (i : Nat) (h : i < l.length) : l.take (i + 1) = l.take i ++ [l[i]] := by
  rw [List.take_succ_eq_append_getElem h]
theorem set_fill {α : Type} (l : List α) (z x : α) (i d : Nat) (hi : l.length = i) : (l ++ List.replicate (d + 1) z).set i x = l ++ [x] ++ List.replicate d z := by
  subst hi
  rw [List.set_append_right _ _ (Nat.le_refl _), Nat.sub_self, List.replicate_succ, List.set_cons_zero, List.append_assoc]
  rfl
theorem drop_cons {α : Type} (l : List α) (i : Nat) (h : i < l.length) : l.drop i = l[i] :: l.drop (i + 1) := List.drop_eq_getElem_cons h
/-! laws_eqIntS -/
theorem eqIntS_l0 (l : List Int) (hl : l.length ≤ 9223372036854775806) : ∀ d i : Nat, i + d = l.length → Ev (fun k => laws_eqIntS.l0 k l l (i : Int)) true := by
  intro d
  induction d with
  | zero =>
    intro i hi
    refine Ev.step (fun k => by rw [laws_eqIntS.l0]) ?_
    exact evF (by omega) (evSome _)
  | succ d ih =>
    intro i hi
    refine Ev.step (fun k => by rw [laws_eqIntS.l0]) ?_
    refine evT (by omega) (evT (by omega) (evT (by omega) (evT rfl ?_)))
    rw [w64s i (by omega)]
    exact ih (i + 1) (by omega)
theorem eqIntS_ev (l : List Int) (hl : l.length ≤ 1048576) : Ev (fun k => laws_eqIntS.f k l l) true := by
  unfold laws_eqIntS.f
  exact evT rfl (by simpa using eqIntS_l0 l (by omega) l.length 0 (by omega))
/-! laws_eqIntSS -/
theorem eqIntSS_l0 (l : List (List Int)) (hl : l.length ≤ 9223372036854775806) (hx : ∀ x ∈ l, x.length ≤ 1048576) : ∀ d i : Nat, i + d = l.length → Ev (fun k => laws_eqIntSS.l0 k l l (i : Int)) true := by
  intro d
  induction d with
  | zero =>
    intro i hi
    refine Ev.step (fun k => by rw [laws_eqIntSS.l0]) ?_
    exact evF (by omega) (evSome _)
  | succ d ih =>
    intro i hi
    have h2 : rd_L3 l (i : Int) = l[i] := by unfold rd_L3; rw [show ((i : Int)).toNat = i from by omega]; exact getD_eq _ _ _ (by omega)
    refine Ev.step (fun k => by rw [laws_eqIntSS.l0]) ?_
    refine evT (by omega) (evT (by omega) (evT (by omega) ?_))
    rw [h2]
    refine Ev.bind (eqIntS_ev _ (hx _ (List.getElem_mem _))) (evT rfl ?_)
    rw [w64s i (by omega)]
    exact ih (i + 1) (by omega)
theorem eqIntSS_ev (l : List (List Int)) (hl : l.length ≤ 1048576) (hx : ∀ x ∈ l, x.length ≤ 1048576) : Ev (fun k => laws_eqIntSS.f k l l) true := by
  unfold laws_eqIntSS.f
  exact evT rfl (by simpa using eqIntSS_l0 l (by omega) hx l.length 0 (by omega))
/-! l01In -/
theorem l01In_t {a lo hi : Int} (h0 : lo ≤ a) (h1 : a ≤ hi) : spec_l01In.f a lo hi = some true := by unfold spec_l01In.f; rw [if_pos h0]; simp [h1]
theorem l01In_f {a lo hi : Int} (h : ¬ (lo ≤ a ∧ a ≤ hi)) : spec_l01In.f a lo hi = some false := by
  unfold spec_l01In.f
  by_cases h0 : lo ≤ a
  · rw [if_pos h0]; simp; omega
  · rw [if_neg h0]
theorem l01In_eq (a lo hi : Int) : spec_l01In.f a lo hi = some (decide (lo ≤ a ∧ a ≤ hi)) := by
  by_cases h : lo ≤ a ∧ a ≤ hi
  · rw [l01In_t h.1 h.2]; simp [h]
  · rw [l01In_f h]; simp; omega
/-! within -/
theorem within_t {a lo hi : Int} (h0 : lo ≤ a) (h1 : a ≤ hi) : impl_within.f a lo hi = some true := by unfold impl_within.f; rw [if_pos h0]; simp [h1]
theorem within_f {a lo hi : Int} (h : ¬ (lo ≤ a ∧ a ≤ hi)) : impl_within.f a lo hi = some false := by
  unfold impl_within.f
  by_cases h0 : lo ≤ a
  · rw [if_pos h0]; simp; omega
  · rw [if_neg h0]
theorem within_eq (a lo hi : Int) : impl_within.f a lo hi = some (decide (lo ≤ a ∧ a ≤ hi)) := by
  by_cases h : lo ≤ a ∧ a ≤ hi
  · rw [within_t h.1 h.2]; simp [h]
  · rw [within_f h]; simp; omega
/-! down -/
theorem down {P : Nat → Prop} (n : Nat) (h0 : P n) (hs : ∀ i, i < n → P (i + 1) → P i) : ∀ i, i ≤ n → P i := by
  intro i hi
  obtain ⟨d, hd⟩ : ∃ d, i + d = n := ⟨n - i, by omega⟩
  induction d generalizing i with
  | zero => have : i = n := by omega
            subst this; exact h0
  | succ d ih => exact hs i (by omega) (ih (i + 1) (by omega) (by omega))
/-! rdP -/
theorem rdP (l : List S65) (i : Nat) (h : i < l.length) : rd_T65 l (i : Int) = l[i] := by
  unfold rd_T65; rw [show ((i : Int)).toNat = i from by omega]; exact getD_eq _ _ _ h
/-! rdLP -/
theorem rdLP (l : List S69) (i : Nat) (h : i < l.length) : rd_T69 l (i : Int) = l[i] := by
  unfold rd_T69; rw [show ((i : Int)).toNat = i from by omega]; exact getD_eq _ _ _ h
/-! rdI -/
theorem rdI (l : List Int) (i : Nat) (h : i < l.length) : rd l (i : Int) = l[i] := by
  unfold rd; rw [show ((i : Int)).toNat = i from by omega]; exact getD_eq _ _ _ h
/-! conv -/
def conv (l : List S69) : List S65 := l.map (fun p => ⟨p.f0, p.f1⟩)
theorem conv_length (l : List S69) : (conv l).length = l.length := by simp [conv]
theorem conv_take_succ (l : List S69) (i : Nat) (h : i < l.length) : conv (l.take (i + 1)) = conv (l.take i) ++ [(⟨l[i].f0, l[i].f1⟩ : S65)] := by
  simp only [conv, take_succ' l i h, List.map_append, List.map_cons, List.map_nil]
/-! laws_toPointS -/
theorem toPointS_l0 (l : List S69) (hl : l.length ≤ 9223372036854775806) : ∀ i, i ≤ l.length → Ev (fun k => laws_toPointS.l0 k l (conv (l.take i) ++ List.replicate (l.length - i) z65) (i : Int)) (conv l) := by
  refine down l.length ?_ ?_
  · refine Ev.step (fun k => by rw [laws_toPointS.l0]) ?_
    refine evF (by omega) ?_
    have : conv (l.take l.length) ++ List.replicate (l.length - l.length) z65 = conv l := by rw [List.take_length, Nat.sub_self]; simp
    rw [this]
    exact evSome _
  · intro i hi ih
    refine Ev.step (fun k => by rw [laws_toPointS.l0]) ?_
    refine evT (by omega) (evT (by omega) (evB rfl (evT (by simp [conv]; omega) ?_)))
    rw [w64s i (by omega), rdLP l i hi, show l.length - i = (l.length - (i + 1)) + 1 by omega, show ((i : Int)).toNat = i from by omega, set_fill _ _ _ _ _ (by simp [conv]; omega), ← conv_take_succ l i hi]
    exact ih
theorem toPointS_ev (l : List S69) (hl : l.length ≤ 1048576) : Ev (fun k => laws_toPointS.f k l) (conv l) := by
  unfold laws_toPointS.f
  refine evT (by omega) (evT (by omega) ?_)
  have h := toPointS_l0 l (by omega) 0 (by omega)
  simpa [conv] using h
/-! laws_szPointS -/
theorem szPointS_ev (l : List S69) (a : Int) (ha : 0 ≤ a) (ha2 : a ≤ 1048576) (hl : l.length ≤ 9223372036854775807) : (laws_szPointS.f l a = some (-1)) ∨ (laws_szPointS.f l a = some (a - l.length) ∧ 0 ≤ a - (l.length : Int)) := by
  unfold laws_szPointS.f
  rw [w64 (x := a - (l.length : Int)) (by omega) (by omega)]
  by_cases h : a - (l.length : Int) < 0
  · exact .inl (if_pos h)
  · exact .inr ⟨if_neg h, by omega⟩
/-! laws_eqPointS -/
theorem eqPoint_same (x y : Int) : laws_eqPoint.f x y x y = some true := by unfold laws_eqPoint.f; rw [if_pos rfl, if_pos rfl]
theorem eqPointS_l0 (l : List S65) (hl : l.length ≤ 9223372036854775806) : ∀ i, i ≤ l.length → Ev (fun k => laws_eqPointS.l0 k l l (i : Int)) true := by
  refine down l.length ?_ ?_
  · refine Ev.step (fun k => by rw [laws_eqPointS.l0]) ?_
    exact evF (by omega) (evSome _)
  · intro i hi ih
    refine Ev.step (fun k => by rw [laws_eqPointS.l0]) ?_
    refine evT (by omega) (evT (by omega) (evT (by omega) (evB (eqPoint_same _ _) (evT rfl ?_))))
    rw [w64s i (by omega)]
    exact ih
theorem eqPointS_ev (l : List S65) (hl : l.length ≤ 1048576) : Ev (fun k => laws_eqPointS.f k l l) true := by
  unfold laws_eqPointS.f
  exact evT rfl (by simpa using eqPointS_l0 l (by omega) 0 (by omega))
/-! marks -/
def marks (m : Nat) (n : Nat) : List Int := (List.range n).map (fun i => ((m + i : Nat) : Int))
theorem marks_length (m n : Nat) : (marks m n).length = n := by simp [marks]
theorem marks_get (m n i : Nat) (h : i < (marks m n).length) : (marks m n)[i] = ((m + i : Nat) : Int) := by simp [marks]
/-! laws_markIntS -/
theorem set_mid {α : Type} (a b : List α) (x : α) (i : Nat) (hi : a.length = i) (hb : i < b.length) : (a ++ b.drop i).set i x = (a ++ [x]) ++ b.drop (i + 1) := by
  subst hi
  rw [List.set_append_right _ _ (Nat.le_refl _), Nat.sub_self, List.drop_eq_getElem_cons hb, List.set_cons_zero, List.append_assoc]
  rfl
theorem marks_succ (m i : Nat) : marks m (i + 1) = marks m i ++ [((m + i : Nat) : Int)] := by simp [marks, List.range_succ]
theorem markIntS_l0 (l : List Int) (m : Nat) (hm : m + l.length ≤ 9223372036854775806) : ∀ i, i ≤ l.length → Ev (fun k => laws_markIntS.l0 k (marks m i ++ l.drop i) ((m + i : Nat) : Int) (i : Int)) (((m + l.length : Nat) : Int), marks m l.length) := by
  refine down l.length ?_ ?_
  · refine Ev.step (fun k => by rw [laws_markIntS.l0]) ?_
    refine evF (by simp [marks]) ?_
    rw [List.drop_length, List.append_nil]
    exact evSome _
  · intro i hi ih
    refine Ev.step (fun k => by rw [laws_markIntS.l0]) ?_
    refine evT (by simp [marks]; omega) (evT (by omega) ?_)
    rw [w64s i (by omega), w64s (m + i) (by omega), show ((i : Int)).toNat = i from by omega, set_mid _ _ _ _ (marks_length m i) hi, ← marks_succ]
    exact ih
theorem markIntS_ev (l : List Int) (m : Nat) (hm : m + l.length ≤ 9223372036854775806) : Ev (fun k => laws_markIntS.f k l (m : Int)) (((m + l.length : Nat) : Int), marks m l.length) := by
  unfold laws_markIntS.f
  have h := markIntS_l0 l m hm 0 (by omega)
  simpa [marks] using h
/-! laws_heldIntS -/
theorem heldIntS_l0 (m n : Nat) (hm : m + n ≤ 9223372036854775806) : ∀ i, i ≤ n → Ev (fun k => laws_heldIntS.l0 k (marks m n) ((m + i : Nat) : Int) (i : Int)) ((m + n : Nat) : Int) := by
  refine down n ?_ ?_
  · refine Ev.step (fun k => by rw [laws_heldIntS.l0]) ?_
    exact evF (by simp [marks]) (evSome _)
  · intro i hi ih
    refine Ev.step (fun k => by rw [laws_heldIntS.l0]) ?_
    refine evT (by simp [marks]; omega) (evT (by omega) (evT ?_ ?_))
    · rw [rdI _ i (by simp [marks]; omega), marks_get]
    · rw [w64s i (by omega), w64s (m + i) (by omega)]
      exact ih
theorem heldIntS_ev (m n : Nat) (hm : m + n ≤ 9223372036854775806) : Ev (fun k => laws_heldIntS.f k (marks m n) (m : Int)) ((m + n : Nat) : Int) := by
  unfold laws_heldIntS.f
  exact heldIntS_l0 m n hm 0 (by omega)
/-! laws_markPointS -/
theorem set_mid' {α : Type} (a b : List α) (x : α) (i : Nat) (hi : a.length = i) (hb : i < b.length) : (a ++ b.drop i).set i x = (a ++ [x]) ++ b.drop (i + 1) := by
  subst hi
  rw [List.set_append_right _ _ (Nat.le_refl _), Nat.sub_self, List.drop_eq_getElem_cons hb, List.set_cons_zero, List.append_assoc]
  rfl
theorem set_mid2 {α : Type} (a r : List α) (e x : α) (i : Nat) (hi : a.length = i) : ((a ++ [e]) ++ r).set i x = (a ++ [x]) ++ r := by
  subst hi
  rw [List.append_assoc, List.set_append_right _ _ (Nat.le_refl _), Nat.sub_self, List.append_assoc]
  rfl
theorem rd_mid2 (a r : List S65) (e : S65) (i : Nat) (hi : a.length = i) : rd_T65 ((a ++ [e]) ++ r) (i : Int) = e := by
  subst hi
  rw [rdP _ _ (by simp)]
  simp
def markP (m : Nat) (n : Nat) : List S65 := (List.range n).map (fun i => ⟨((m + 2 * i : Nat) : Int), ((m + 2 * i + 1 : Nat) : Int)⟩)
theorem markP_length (m n : Nat) : (markP m n).length = n := by simp [markP]
theorem markP_get (m n i : Nat) (h : i < (markP m n).length) : (markP m n)[i] = ⟨((m + 2 * i : Nat) : Int), ((m + 2 * i + 1 : Nat) : Int)⟩ := by simp [markP]
theorem markP_succ (m i : Nat) : markP m (i + 1) = markP m i ++ [⟨((m + 2 * i : Nat) : Int), ((m + 2 * i + 1 : Nat) : Int)⟩] := by simp [markP, List.range_succ]
theorem markPointS_l0 (l : List S65) (m : Nat) (hm : m + 2 * l.length ≤ 9223372036854775800) : ∀ i, i ≤ l.length → Ev (fun k => laws_markPointS.l0 k (markP m i ++ l.drop i) ((m + 2 * i : Nat) : Int) (i : Int)) (((m + 2 * l.length : Nat) : Int), markP m l.length) := by
  refine down l.length ?_ ?_
  · refine Ev.step (fun k => by rw [laws_markPointS.l0]) ?_
    refine evF (by simp [markP]) ?_
    rw [List.drop_length, List.append_nil]
    exact evSome _
  · intro i hi ih
    refine Ev.step (fun k => by rw [laws_markPointS.l0]) ?_
    refine evT (by simp [markP]; omega) (evT (by omega) (evB rfl ?_))
    rw [w64s i (by omega), w64s (m + 2 * i) (by omega), w64s (m + 2 * i + 1) (by omega), show ((i : Int)).toNat = i from by omega, set_mid' _ _ _ _ (markP_length m i) hi, rd_mid2 _ _ _ i (markP_length m i), set_mid2 _ _ _ _ i (markP_length m i), ← markP_succ]
    exact ih
theorem markPointS_ev (l : List S65) (m : Nat) (hm : m + 2 * l.length ≤ 9223372036854775800) : Ev (fun k => laws_markPointS.f k l (m : Int)) (((m + 2 * l.length : Nat) : Int), markP m l.length) := by
  unfold laws_markPointS.f
  have h := markPointS_l0 l m hm 0 (by omega)
  simpa [markP] using h
/-! pts -/
def ptOk (p : S65) : Bool := decide ((0 ≤ p.f0 ∧ p.f0 ≤ 40) ∧ 0 ≤ p.f1 ∧ p.f1 ≤ 40)
theorem spec_PointOk_eq (x y : Int) : spec_PointOk.f x y = some (ptOk ⟨x, y⟩) := by
  unfold spec_PointOk.f ptOk
  rw [l01In_eq, l01In_eq]
  by_cases h : 0 ≤ x ∧ x ≤ 40 <;> simp [h]
theorem impl_PointOk_eq (x y : Int) : impl_PointOk.f x y = some (ptOk ⟨x, y⟩) := by
  unfold impl_PointOk.f ptOk
  rw [within_eq, within_eq]
  by_cases h : 0 ≤ x ∧ x ≤ 40 <;> simp [h]
theorem all_drop {α : Type} (p : α → Bool) (l : List α) (i : Nat) (h : i < l.length) : (l.drop i).all p = (p l[i] && (l.drop (i + 1)).all p) := by
  rw [drop_cons l i h]; rfl
/-! arePoints -/
theorem arePoints_l0 (l : List S65) (hl : l.length ≤ 9223372036854775806) : ∀ i, i ≤ l.length → Ev (fun k => impl_arePoints.l0 k l (l.length : Int) (i : Int)) ((l.drop i).all ptOk) := by
  refine down l.length ?_ ?_
  · refine Ev.step (fun k => by rw [impl_arePoints.l0]) ?_
    rw [List.drop_length]
    exact evF (by omega) (evSome _)
  · intro i hi ih
    refine Ev.step (fun k => by rw [impl_arePoints.l0]) ?_
    refine evT (by omega) (evT (by omega) (evT (by omega) (evB (impl_PointOk_eq _ _) ?_)))
    rw [rdP l i hi, all_drop ptOk l i hi, w64s i (by omega)]
    by_cases c : ptOk l[i] = true
    · rw [c, Bool.true_and]
      exact evT (by first | exact c | rfl) ih
    · rw [Bool.eq_false_iff.2 c, Bool.false_and]
      exact evF (by first | exact c | decide) (evSome _)
theorem arePoints_ev (l : List S65) (hl : l.length ≤ 9223372036854775806) : Ev (fun k => impl_arePoints.f k l) (l.all ptOk) := by
  unfold impl_arePoints.f
  simpa using arePoints_l0 l hl 0 (by omega)
/-! l27Ok -/
def okList (l : List S65) : Bool := decide (l.length ≤ 30) && l.all ptOk
theorem l27Ok_l0 (l : List S65) (hl : l.length ≤ 9223372036854775806) : ∀ i, i ≤ l.length → Ev (fun k => spec_l27Ok.l0 k l (l.length : Int) (i : Int)) ((l.drop i).all ptOk) := by
  refine down l.length ?_ ?_
  · refine Ev.step (fun k => by rw [spec_l27Ok.l0]) ?_
    rw [List.drop_length]
    exact evF (by omega) (evSome _)
  · intro i hi ih
    refine Ev.step (fun k => by rw [spec_l27Ok.l0]) ?_
    refine evT (by omega) (evT (by omega) (evT (by omega) (evB (spec_PointOk_eq _ _) ?_)))
    rw [rdP l i hi, all_drop ptOk l i hi, w64s i (by omega)]
    by_cases c : ptOk l[i] = true
    · rw [c, Bool.true_and]
      exact evT (by first | exact c | rfl) ih
    · rw [Bool.eq_false_iff.2 c, Bool.false_and]
      exact evF (by first | exact c | decide) (evSome _)
theorem l27Ok_ev (l : List S65) (hl : l.length ≤ 9223372036854775806) : Ev (fun k => spec_l27Ok.f k l) (okList l) := by
  unfold spec_l27Ok.f okList
  by_cases h : l.length ≤ 30
  · rw [decide_eq_true h, Bool.true_and]
    refine evF (by omega) ?_
    simpa using l27Ok_l0 l hl 0 (by omega)
  · rw [decide_eq_false h, Bool.false_and]
    exact evT (by omega) (evSome _)
/-! crossBase -/
def crossW (a b p : S65) : Int := wrap64 ((wrap64 ((wrap64 (b.f0 - a.f0)) * (wrap64 (p.f1 - a.f1)))) - (wrap64 ((wrap64 (b.f1 - a.f1)) * (wrap64 (p.f0 - a.f0)))))
def sgn (n : Int) : Int := if n > 0 then 1 else if n < 0 then -1 else 0
theorem sgn_range (n : Int) : -1 ≤ sgn n ∧ sgn n ≤ 1 := by unfold sgn; split <;> (try split) <;> omega
def ptEq (a b : S65) : Bool := a.f0 == b.f0 && (a.f1 == b.f1)
/-! countsBase -/
def cntStep (a b : S65) (c : List Int) (x : S65) : List Int := c.set (1 - sgn (crossW a b x)).toNat (wrap64 (rd c (1 - sgn (crossW a b x)) + 1))
def counts (l : List S65) (a b : S65) : List Int := l.foldl (cntStep a b) [0, 0, 0]
theorem cntStep_length (a b : S65) (c : List Int) (x : S65) : (cntStep a b c x).length = c.length := by simp [cntStep]
theorem foldl_drop {α β : Type} (f : β → α → β) (l : List α) (i : Nat) (h : i < l.length) (c : β) : (l.drop i).foldl f c = (l.drop (i + 1)).foldl f (f c l[i]) := by
  rw [drop_cons l i h]; rfl
def countsOf (l : List S65) (a b : S65) : List Int := if okList l = true ∧ ptOk a = true ∧ ptOk b = true ∧ ptEq a b = false then counts l a b else []
/-! specSign -/
theorem spec_sign_eq (n : Int) : spec_l02Sign.f n = some (sgn n) := by unfold spec_l02Sign.f sgn; split <;> (try split) <;> rfl
/-! implSign -/
theorem impl_sign_eq (n : Int) : impl_sign.f n = some (sgn n) := by unfold impl_sign.f sgn; split <;> (try split) <;> rfl
/-! l27Counts -/
theorem spec_counts_l0 (l : List S65) (a b : S65) (hl : l.length ≤ 9223372036854775806) : ∀ i, i ≤ l.length → ∀ c : List Int, c.length = 3 → Ev (fun k => spec_l27Counts.l0 k c l (l.length : Int) (i : Int) a.f0 a.f1 b.f0 b.f1) ((l.drop i).foldl (cntStep a b) c) := by
  refine down l.length ?_ ?_
  · intro c hc
    refine Ev.step (fun k => by rw [spec_l27Counts.l0]) ?_
    rw [List.drop_length]
    exact evF (by omega) (evSome _)
  · intro i hi ih c hc
    have hs := sgn_range (crossW a b l[i])
    have hw : wrap64 (1 - sgn (crossW a b l[i])) = 1 - sgn (crossW a b l[i]) := w64 (by omega) (by omega)
    refine Ev.step (fun k => by rw [spec_l27Counts.l0]) ?_
    refine evT (by omega) (evT (by omega) (evT (by omega) (evB (a := crossW a b l[i]) (by rw [rdP l i hi]; rfl) (evB (spec_sign_eq _) ?_))))
    rw [hw, w64s i (by omega), foldl_drop _ l i hi]
    exact evT (by omega) (evT (by omega) (ih _ (by rw [List.length_set]; exact hc)))
theorem l27Counts_ev (l : List S65) (a b : S65) (hl : l.length ≤ 9223372036854775806) : Ev (fun k => spec_l27Counts.f k l a.f0 a.f1 b.f0 b.f1) (counts l a b) := by
  unfold spec_l27Counts.f counts
  simpa using spec_counts_l0 l a b hl 0 (by omega) [0, 0, 0] rfl
/-! implCounts -/
theorem impl_counts_l0 (l : List S65) (a b : S65) (hl : l.length ≤ 9223372036854775806) : ∀ i, i ≤ l.length → ∀ c : List Int, c.length = 3 → Ev (fun k => impl_CountsOf.l0 k c l (l.length : Int) (i : Int) a.f0 a.f1 b.f0 b.f1) ((l.drop i).foldl (cntStep a b) c) := by
  refine down l.length ?_ ?_
  · intro c hc
    refine Ev.step (fun k => by rw [impl_CountsOf.l0]) ?_
    rw [List.drop_length]
    exact evF (by omega) (evSome _)
  · intro i hi ih c hc
    have hs := sgn_range (crossW a b l[i])
    have hw : wrap64 (1 - sgn (crossW a b l[i])) = 1 - sgn (crossW a b l[i]) := w64 (by omega) (by omega)
    refine Ev.step (fun k => by rw [impl_CountsOf.l0]) ?_
    refine evT (by omega) (evT (by omega) (evT (by omega) (evB (a := crossW a b l[i]) (by rw [rdP l i hi]; rfl) (evB (impl_sign_eq _) ?_))))
    rw [hw, w64s i (by omega), foldl_drop _ l i hi]
    exact evT (by omega) (evT (by omega) (ih _ (by rw [List.length_set]; exact hc)))
theorem impl_counts_j0t (l : List S65) (a b : S65) : Ev (fun k => impl_CountsOf.j0 k l true a.f0 a.f1 b.f0 b.f1) [] := (by refine Ev.step (fun k => by rw [impl_CountsOf.j0]) ?_; exact evT rfl (evSome _))
theorem impl_counts_ev (l : List S65) (a b : S65) (hl : l.length ≤ 9223372036854775806) : Ev (fun k => impl_CountsOf.f k l a.f0 a.f1 b.f0 b.f1) (countsOf l a b) := by
  unfold impl_CountsOf.f
  by_cases h0 : l.length ≤ 30
  · refine evF (by omega) (Ev.bind (arePoints_ev l hl) ?_)
    by_cases h1 : l.all ptOk = true
    · have ho : okList l = true := by unfold okList; rw [decide_eq_true h0, h1]; rfl
      refine evT h1 (Ev.bind (arePoints_ev _ (by simp)) ?_)
      by_cases h2 : ptOk a = true ∧ ptOk b = true
      · refine evT (by simp [h2.1, h2.2]) ?_
        refine Ev.step (fun k => by rw [impl_CountsOf.j0]) ?_
        by_cases h3 : ptEq a b = true
        · have e : countsOf l a b = [] := if_neg (fun h => by rw [h.2.2.2] at h3; cases h3)
          rw [e]
          exact evT h3 (evSome _)
        · have e : countsOf l a b = counts l a b := if_pos ⟨ho, h2.1, h2.2, Bool.eq_false_iff.2 h3⟩
          rw [e]
          refine evF h3 (evT (by omega) ?_)
          simpa [counts] using impl_counts_l0 l a b hl 0 (by omega) [0, 0, 0] rfl
      · have e : countsOf l a b = [] := if_neg (fun h => h2 ⟨h.2.1, h.2.2.1⟩)
        rw [e]
        exact evF (by simpa using h2) (impl_counts_j0t l a b)
    · have e : countsOf l a b = [] := if_neg (fun h => by have := h.1; unfold okList at this; simp only [Bool.and_eq_true] at this; exact h1 this.2)
      rw [e]
      exact evF h1 (impl_counts_j0t l a b)
  · have e : countsOf l a b = [] := if_neg (fun h => by have := h.1; unfold okList at this; simp only [Bool.and_eq_true, decide_eq_true_eq] at this; exact h0 this.1)
    rw [e]
    exact evT (by omega) (impl_counts_j0t l a b)
/-! halvBase -/
def halvC (l : List S65) (a b : S65) : Bool := decide (wrap64 (2 * rd (counts l a b) 0) ≤ (l.length : Int)) && decide (wrap64 (2 * rd (counts l a b) 2) ≤ (l.length : Int))
def isHalv (l : List S65) (a b : S65) : Bool := decide (okList l = true ∧ ptOk a = true ∧ ptOk b = true ∧ ptEq a b = false) && halvC l a b
theorem counts_length (l : List S65) (a b : S65) : (counts l a b).length = 3 := by
  have h : ∀ (l : List S65) (c : List Int), (l.foldl (cntStep a b) c).length = c.length := by
    intro l
    induction l with
    | nil => intro c; rfl
    | cons x l ih => intro c; rw [List.foldl_cons, ih, cntStep_length]
  unfold counts
  rw [h]
  rfl
/-! l27Halves -/
theorem l27Halves_ev (l : List S65) (a b : S65) (hl : l.length ≤ 9223372036854775806) : Ev (fun k => spec_l27Halves.f k l a.f0 a.f1 b.f0 b.f1) (halvC l a b) := by
  unfold spec_l27Halves.f halvC
  have h3 := counts_length l a b
  refine Ev.bind (l27Counts_ev l a b hl) ?_
  revert h3
  generalize counts l a b = c
  intro h3
  refine evT (by omega) ?_
  by_cases h : wrap64 (2 * rd c 0) ≤ (l.length : Int)
  · rw [decide_eq_true h, Bool.true_and]
    exact evT h (evT (by omega) (evSome _))
  · rw [decide_eq_false h, Bool.false_and]
    exact evF h (evSome _)
/-! implIsHalv -/
theorem impl_isHalv_ev (l : List S65) (a b : S65) (hl : l.length ≤ 9223372036854775806) : Ev (fun k => impl_IsHalving.f k l a.f0 a.f1 b.f0 b.f1) (isHalv l a b) := by
  unfold impl_IsHalving.f
  refine Ev.bind (impl_counts_ev l a b hl) ?_
  by_cases h : okList l = true ∧ ptOk a = true ∧ ptOk b = true ∧ ptEq a b = false
  · have e : isHalv l a b = halvC l a b := by unfold isHalv; rw [decide_eq_true h, Bool.true_and]
    have e2 : countsOf l a b = counts l a b := if_pos h
    rw [e, e2]
    unfold halvC
    have h3 := counts_length l a b
    revert h3
    generalize counts l a b = c
    intro h3
    refine evF (by intro hc; rw [hc] at h3; simp at h3) (evT (by omega) ?_)
    by_cases h4 : wrap64 (2 * rd c 0) ≤ (l.length : Int)
    · rw [decide_eq_true h4, Bool.true_and]
      exact evT h4 (evSome _)
    · rw [decide_eq_false h4, Bool.false_and]
      exact evF h4 (evSome _)
  · have e : isHalv l a b = false := by unfold isHalv; rw [decide_eq_false h, Bool.false_and]
    have e2 : countsOf l a b = [] := if_neg h
    rw [e, e2]
    exact evT rfl (evSome _)
/-! totBase -/
def tot : List (List Int) → Nat
  | [] => 0
  | x :: xs => x.length + tot xs
theorem tot_app (l : List (List Int)) (x : List Int) : tot (l ++ [x]) = tot l + x.length := by
  induction l with
  | nil => simp [tot]
  | cons y l ih => simp only [List.cons_append, tot, ih]; omega
def marksSS : Nat → List (List Int) → List (List Int)
  | _, [] => []
  | m, x :: xs => marks m x.length :: marksSS (m + x.length) xs
theorem marksSS_length : ∀ (l : List (List Int)) (m : Nat), (marksSS m l).length = l.length
  | [], _ => rfl
  | x :: xs, m => by simp [marksSS, marksSS_length xs]
theorem marksSS_app : ∀ (l : List (List Int)) (m : Nat) (x : List Int), marksSS m (l ++ [x]) = marksSS m l ++ [marks (m + tot l) x.length]
  | [], m, x => by simp [marksSS, tot]
  | y :: l, m, x => by
    simp only [List.cons_append, marksSS, tot, marksSS_app l, List.cons.injEq, true_and]
    rw [Nat.add_assoc]
theorem tot_take_le (l : List (List Int)) : ∀ i, tot (l.take i) ≤ tot l := by
  induction l with
  | nil => intro i; simp [tot]
  | cons x l ih =>
    intro i
    cases i with
    | zero => simp [tot]
    | succ i => simp only [List.take_succ_cons, tot]; have := ih i; omega
theorem tot_take_succ (l : List (List Int)) (i : Nat) (h : i < l.length) : tot (l.take (i + 1)) = tot (l.take i) + l[i].length := by
  rw [List.take_succ_eq_append_getElem h, tot_app]
theorem marksSS_get : ∀ (l : List (List Int)) (m i : Nat) (h : i < (marksSS m l).length) (h2 : i < l.length), (marksSS m l)[i] = marks (m + tot (l.take i)) l[i].length
  | x :: l, m, 0, _, _ => by simp [marksSS, tot]
  | x :: l, m, i + 1, h, h2 => by
    simp only [marksSS, List.getElem_cons_succ, List.take_succ_cons, tot]
    rw [marksSS_get l (m + x.length) i (by simpa [marksSS] using h) (by simpa using h2), Nat.add_assoc]
/-! laws_markIntSS -/
theorem set_mid3 {α : Type} (a b : List α) (x : α) (i : Nat) (hi : a.length = i) (hb : i < b.length) : (a ++ b.drop i).set i x = (a ++ [x]) ++ b.drop (i + 1) := by
  subst hi
  rw [List.set_append_right _ _ (Nat.le_refl _), Nat.sub_self, drop_cons b _ hb, List.set_cons_zero, List.append_assoc]
  rfl
theorem markIntSS_l0 (l : List (List Int)) (m : Nat) (hl : l.length ≤ 9223372036854775800) (hm : m + tot l ≤ 9223372036854775800) : ∀ d i : Nat, i + d = l.length → Ev (fun k => laws_markIntSS.l0 k (marksSS m (l.take i) ++ l.drop i) ((m + tot (l.take i) : Nat) : Int) (i : Int)) (((m + tot l : Nat) : Int), marksSS m l) := by
  intro d
  induction d with
  | zero =>
    intro i hi
    refine Ev.step (fun k => by rw [laws_markIntSS.l0]) ?_
    refine evF (by simp [marksSS_length]; omega) ?_
    rw [List.take_of_length_le (by omega), List.drop_of_length_le (by omega), List.append_nil]
    exact evSome _
  | succ d ih =>
    intro i hi
    have hil : i < l.length := by omega
    have hlen : (marksSS m (l.take i)).length = i := by rw [marksSS_length, List.length_take]; omega
    have hg : (marksSS m (l.take i) ++ l.drop i).getD ((i : Int)).toNat [] = l[i] := by
      rw [show ((i : Int)).toNat = i from by omega, List.getD_eq_getElem?_getD, List.getElem?_append_right (by omega), hlen, Nat.sub_self, List.getElem?_drop, Nat.add_zero, List.getElem?_eq_getElem hil]
      rfl
    have ht := tot_take_succ l i hil
    have hle := tot_take_le l (i + 1)
    refine Ev.step (fun k => by rw [laws_markIntSS.l0]) ?_
    refine evT (by simp [marksSS_length]; omega) (evT (by omega) ?_)
    rw [hg]
    refine Ev.bind (markIntS_ev l[i] (m + tot (l.take i)) (by omega)) ?_
    rw [show ((i : Int)).toNat = i from by omega, set_mid3 _ _ _ _ hlen hil, w64s i (by omega)]
    have h := ih (i + 1) (by omega)
    rw [List.take_succ_eq_append_getElem hil, marksSS_app, tot_app] at h
    rw [show m + tot (l.take i) + l[i].length = m + (tot (l.take i) + l[i].length) by omega]
    exact h
theorem markIntSS_ev (l : List (List Int)) (m : Nat) (hl : l.length ≤ 9223372036854775800) (hm : m + tot l ≤ 9223372036854775800) : Ev (fun k => laws_markIntSS.f k l (m : Int)) (((m + tot l : Nat) : Int), marksSS m l) := by
  unfold laws_markIntSS.f
  have h := markIntSS_l0 l m hl hm l.length 0 (by omega)
  simpa [marksSS, tot] using h
/-! laws_heldIntSS -/
theorem heldIntSS_l0 (l : List (List Int)) (m : Nat) (hl : l.length ≤ 9223372036854775800) (hm : m + tot l ≤ 9223372036854775800) : ∀ d i : Nat, i + d = l.length → Ev (fun k => laws_heldIntSS.l0 k (marksSS m l) ((m + tot (l.take i) : Nat) : Int) (i : Int)) ((m + tot l : Nat) : Int) := by
  intro d
  induction d with
  | zero =>
    intro i hi
    refine Ev.step (fun k => by rw [laws_heldIntSS.l0]) ?_
    refine evF (by rw [marksSS_length]; omega) ?_
    rw [List.take_of_length_le (by omega)]
    exact evSome _
  | succ d ih =>
    intro i hi
    have hil : i < l.length := by omega
    have hg : rd_L3 (marksSS m l) (i : Int) = marks (m + tot (l.take i)) l[i].length := by
      unfold rd_L3
      rw [show ((i : Int)).toNat = i from by omega, getD_eq _ _ _ (by rw [marksSS_length]; exact hil), marksSS_get _ _ _ _ hil]
    have ht := tot_take_succ l i hil
    have hle := tot_take_le l (i + 1)
    refine Ev.step (fun k => by rw [laws_heldIntSS.l0]) ?_
    refine evT (by rw [marksSS_length]; omega) (evT (by omega) ?_)
    rw [hg]
    refine Ev.bind (heldIntS_ev (m + tot (l.take i)) l[i].length (by omega)) ?_
    refine evF (by omega) ?_
    rw [w64s i (by omega), show m + tot (l.take i) + l[i].length = m + tot (l.take (i + 1)) by omega]
    exact ih (i + 1) (by omega)
theorem heldIntSS_ev (l : List (List Int)) (m : Nat) (hl : l.length ≤ 9223372036854775800) (hm : m + tot l ≤ 9223372036854775800) : Ev (fun k => laws_heldIntSS.f k (marksSS m l) (m : Int)) ((m + tot l : Nat) : Int) := by
  unfold laws_heldIntSS.f
  have h := heldIntSS_l0 l m hl hm l.length 0 (by omega)
  simpa [tot] using h
/-! pairsBase -/
def rowP (P : Nat → Nat → Bool) (i : Nat) : Nat → Nat → List (List Int) → List (List Int)
  | _, 0, acc => acc
  | j, d + 1, acc => rowP P i (j + 1) d (if P i j = true then acc ++ [[(i : Int), (j : Int)]] else acc)
def rowsP (P : Nat → Nat → Bool) (n : Nat) : Nat → Nat → List (List Int) → List (List Int)
  | _, 0, acc => acc
  | i, d + 1, acc => rowsP P n (i + 1) d (rowP P i (i + 1) (n - (i + 1)) acc)
theorem rowP_two (P : Nat → Nat → Bool) (i : Nat) : ∀ (d j : Nat) (acc : List (List Int)), (∀ x ∈ acc, x.length = 2) → (∀ x ∈ rowP P i j d acc, x.length = 2) ∧ (rowP P i j d acc).length ≤ acc.length + d
  | 0, _, acc, h => ⟨h, Nat.le_refl _⟩
  | d + 1, j, acc, h => by
    rw [rowP]
    have h2 := rowP_two P i d (j + 1) (if P i j = true then acc ++ [[(i : Int), (j : Int)]] else acc) (by
      split
      · intro x hx
        rw [List.mem_append] at hx
        rcases hx with hx | hx
        · exact h x hx
        · rw [List.mem_singleton] at hx; subst hx; rfl
      · exact h)
    refine ⟨h2.1, Nat.le_trans h2.2 ?_⟩
    split
    · simp only [List.length_append, List.length_cons, List.length_nil]; omega
    · omega
theorem rowsP_two (P : Nat → Nat → Bool) (n : Nat) : ∀ (d i : Nat) (acc : List (List Int)), (∀ x ∈ acc, x.length = 2) → (∀ x ∈ rowsP P n i d acc, x.length = 2) ∧ (rowsP P n i d acc).length ≤ acc.length + d * n
  | 0, _, acc, h => ⟨h, by simp [rowsP]⟩
  | d + 1, i, acc, h => by
    rw [rowsP]
    have h1 := rowP_two P i (n - (i + 1)) (i + 1) acc h
    have h2 := rowsP_two P n d (i + 1) _ h1.1
    refine ⟨h2.1, Nat.le_trans h2.2 ?_⟩
    have h3 := h1.2
    rw [Nat.succ_mul]
    omega
theorem rowP_congr {P Q : Nat → Nat → Bool} (i : Nat) : ∀ (d j : Nat) (acc : List (List Int)), (∀ x, j ≤ x → x < j + d → P i x = Q i x) → rowP P i j d acc = rowP Q i j d acc
  | 0, _, _, _ => rfl
  | d + 1, j, acc, h => by
    rw [rowP, rowP, h j (Nat.le_refl _) (by omega)]
    exact rowP_congr i d (j + 1) _ (fun x h1 h2 => h x (by omega) (by omega))
theorem rowsP_congr {P Q : Nat → Nat → Bool} (n : Nat) : ∀ (d i : Nat) (acc : List (List Int)), i + d = n → (∀ x y, x < n → y < n → x < y → P x y = Q x y) → rowsP P n i d acc = rowsP Q n i d acc
  | 0, _, _, _, _ => rfl
  | d + 1, i, acc, hi, h => by
    rw [rowsP, rowsP, rowP_congr (Q := Q) i _ _ _ (fun x h1 h2 => h i x (by omega) (by omega) (by omega))]
    exact rowsP_congr n d (i + 1) _ (by omega) h
/-! halvPairs -/
def atQ (l : List S65) (i : Nat) : S65 := rd_T65 l (i : Int)
def hpP (l : List S65) (i j : Nat) : Bool := isHalv l (atQ l i) (atQ l j)
def hpS (l : List S65) (i j : Nat) : Bool := !(ptEq (atQ l i) (atQ l j)) && halvC l (atQ l i) (atQ l j)
theorem ne_ptEq' (a b : S65) : ((!(a.f0 == b.f0) || (!(a.f1 == b.f1))) = true) ↔ ¬ (ptEq a b = true) := by
  unfold ptEq
  cases a.f0 == b.f0 <;> cases a.f1 == b.f1 <;> simp
theorem spec_hp_l1 (l : List S65) (hl : l.length ≤ 30) (i : Nat) (hi : i < l.length) (R : List (List Int)) : ∀ (d j : Nat) (acc : List (List Int)), j + d = l.length → acc.length + d ≤ 1000000 →
    Ev (fun k => spec_HalvingPairs.l0 k l (rowP (hpS l) i j d acc) l (l.length : Int) (((i + 1 : Nat)) : Int)) R →
    Ev (fun k => spec_HalvingPairs.l1 k l acc (i : Int) (j : Int) l (l.length : Int) (i : Int) (atQ l i).f0 (atQ l i).f1) R := by
  intro d
  induction d with
  | zero =>
    intro j acc hj ha hR
    refine Ev.step (fun k => by rw [spec_HalvingPairs.l1]) ?_
    refine evF (by omega) ?_
    rw [w64s i (by omega)]
    exact hR
  | succ d ih =>
    intro j acc hj ha hR
    refine Ev.step (fun k => by rw [spec_HalvingPairs.l1]) ?_
    refine evT (by omega) (evT (by omega) ?_)
    rw [rowP] at hR
    have hnext : ∀ b : Bool, hpS l i j = b → Ev (fun k => spec_HalvingPairs.l1 k l (if b = true then acc ++ [[(i : Int), (j : Int)]] else acc) (i : Int) (wrap64 ((j : Int) + 1)) l (l.length : Int) (i : Int) (atQ l i).f0 (atQ l i).f1) R := by
      intro b hb
      rw [hb] at hR
      rw [w64s j (by omega)]
      refine ih (j + 1) _ (by omega) ?_ hR
      split
      · simp only [List.length_append, List.length_cons, List.length_nil]; omega
      · omega
    by_cases e : ptEq (atQ l i) (atQ l j) = true
    · refine evF (fun h => (ne_ptEq' _ _).1 h e) ?_
      exact hnext false (by unfold hpS; rw [e]; rfl)
    · refine evT ((ne_ptEq' _ _).2 e) ?_
      refine Ev.bind (l27Halves_ev l (atQ l i) (atQ l j) (by omega)) ?_
      rw [Bool.not_eq_true] at e
      cases hh : halvC l (atQ l i) (atQ l j) with
      | true => exact evT rfl (evT (by omega) (hnext true (by unfold hpS; rw [e, hh]; rfl)))
      | false => exact evF (by decide) (hnext false (by unfold hpS; rw [e, hh]; rfl))
theorem spec_hp_l0 (l : List S65) (hl : l.length ≤ 30) : ∀ (d i : Nat) (acc : List (List Int)), i + d = l.length → (∀ x ∈ acc, x.length = 2) → acc.length + d * l.length ≤ 900000 →
    Ev (fun k => spec_HalvingPairs.l0 k l acc l (l.length : Int) (i : Int)) (rowsP (hpS l) l.length i d acc) := by
  intro d
  induction d with
  | zero =>
    intro i acc hi h2 ha
    refine Ev.step (fun k => by rw [spec_HalvingPairs.l0]) ?_
    exact evF (by omega) (evSome _)
  | succ d ih =>
    intro i acc hi h2 ha
    rw [Nat.succ_mul] at ha
    refine Ev.step (fun k => by rw [spec_HalvingPairs.l0]) ?_
    refine evT (by omega) (evT (by omega) (evT (by omega) ?_))
    rw [rowsP]
    have h3 := rowP_two (hpS l) i (l.length - (i + 1)) (i + 1) acc h2
    have h := spec_hp_l1 l hl i (by omega) _ (l.length - (i + 1)) (i + 1) acc (by omega) (by omega) (ih (i + 1) _ (by omega) h3.1 (by have := h3.2; omega))
    rw [← w64s i (by omega)] at h
    exact h
theorem impl_hp_l1 (l : List S65) (hl : l.length ≤ 30) (i : Nat) (hi : i < l.length) (R : List (List Int)) : ∀ (d j : Nat) (acc : List (List Int)), j + d = l.length → acc.length + d ≤ 1000000 →
    Ev (fun k => impl_HalvingPairs.l0 k l (rowP (hpP l) i j d acc) (l.length : Int) (((i + 1 : Nat)) : Int)) R →
    Ev (fun k => impl_HalvingPairs.l1 k l acc (i : Int) (j : Int) (l.length : Int) (i : Int)) R := by
  intro d
  induction d with
  | zero =>
    intro j acc hj ha hR
    refine Ev.step (fun k => by rw [impl_HalvingPairs.l1]) ?_
    refine evF (by omega) ?_
    rw [w64s i (by omega)]
    exact hR
  | succ d ih =>
    intro j acc hj ha hR
    refine Ev.step (fun k => by rw [impl_HalvingPairs.l1]) ?_
    refine evT (by omega) (evT (by omega) (evT (by omega) (evT (by omega) ?_)))
    rw [rowP] at hR
    have hnext : ∀ b : Bool, hpP l i j = b → Ev (fun k => impl_HalvingPairs.l1 k l (if b = true then acc ++ [[(i : Int), (j : Int)]] else acc) (i : Int) (wrap64 ((j : Int) + 1)) (l.length : Int) (i : Int)) R := by
      intro b hb
      rw [hb] at hR
      rw [w64s j (by omega)]
      refine ih (j + 1) _ (by omega) ?_ hR
      split
      · simp only [List.length_append, List.length_cons, List.length_nil]; omega
      · omega
    refine Ev.bind (impl_isHalv_ev l (atQ l i) (atQ l j) (by omega)) ?_
    cases hh : isHalv l (atQ l i) (atQ l j) with
    | true => exact evT rfl (evT (by omega) (hnext true hh))
    | false => exact evF (by decide) (hnext false hh)
theorem impl_hp_l0 (l : List S65) (hl : l.length ≤ 30) : ∀ (d i : Nat) (acc : List (List Int)), i + d = l.length → (∀ x ∈ acc, x.length = 2) → acc.length + d * l.length ≤ 900000 →
    Ev (fun k => impl_HalvingPairs.l0 k l acc (l.length : Int) (i : Int)) (rowsP (hpP l) l.length i d acc) := by
  intro d
  induction d with
  | zero =>
    intro i acc hi h2 ha
    refine Ev.step (fun k => by rw [impl_HalvingPairs.l0]) ?_
    exact evF (by omega) (evSome _)
  | succ d ih =>
    intro i acc hi h2 ha
    rw [Nat.succ_mul] at ha
    refine Ev.step (fun k => by rw [impl_HalvingPairs.l0]) ?_
    refine evT (by omega) ?_
    rw [rowsP]
    have h3 := rowP_two (hpP l) i (l.length - (i + 1)) (i + 1) acc h2
    have h := impl_hp_l1 l hl i (by omega) _ (l.length - (i + 1)) (i + 1) acc (by omega) (by omega) (ih (i + 1) _ (by omega) h3.1 (by have := h3.2; omega))
    rw [← w64s i (by omega)] at h
    exact h
def hpOf (l : List S65) : List (List Int) := if okList l = true then rowsP (hpP l) l.length 0 l.length [] else []
theorem okList_at' {x : List S65} (h : okList x = true) (i : Nat) (hi : i < x.length) : ptOk (atQ x i) = true := by
  unfold okList at h
  rw [Bool.and_eq_true, List.all_eq_true] at h
  unfold atQ
  rw [rdP _ _ hi]
  exact h.2 _ (List.getElem_mem hi)
theorem hp_same {l : List S65} (h : okList l = true) : rowsP (hpS l) l.length 0 l.length [] = rowsP (hpP l) l.length 0 l.length [] := by
  refine rowsP_congr _ _ _ _ (by omega) (fun x y hx hy _ => ?_)
  unfold hpS hpP isHalv
  have h1 := okList_at' h x hx
  have h2 := okList_at' h y hy
  cases e : ptEq (atQ l x) (atQ l y) <;> simp [h, h1, h2]
theorem spec_hp_ev (l : List S65) (hl : l.length ≤ 1048576) : Ev (fun k => spec_HalvingPairs.f k l) (hpOf l) := by
  unfold spec_HalvingPairs.f hpOf
  refine Ev.bind (l27Ok_ev l (by omega)) ?_
  cases h : okList l with
  | false => exact evF (by decide) (evSome _)
  | true =>
    refine evT rfl ?_
    rw [if_pos rfl, ← hp_same h]
    have h30 : l.length ≤ 30 := by unfold okList at h; rw [Bool.and_eq_true, decide_eq_true_eq] at h; exact h.1
    exact spec_hp_l0 l h30 l.length 0 [] (by omega) (by simp) (by have : l.length * l.length ≤ 30 * 30 := Nat.mul_le_mul h30 h30; simp only [List.length_nil]; omega)
theorem impl_hp_ev (l : List S65) (hl : l.length ≤ 1048576) : Ev (fun k => impl_HalvingPairs.f k l) (hpOf l) := by
  unfold impl_HalvingPairs.f hpOf
  by_cases h30 : l.length ≤ 30
  · refine evF (by omega) ?_
    refine Ev.bind (arePoints_ev l (by omega)) ?_
    have ho : okList l = l.all ptOk := by unfold okList; rw [decide_eq_true h30, Bool.true_and]
    rw [ho]
    refine Ev.step (fun k => by rw [impl_HalvingPairs.j0]) ?_
    cases h : l.all ptOk with
    | false => exact evT rfl (evSome _)
    | true =>
      refine evF (by decide) ?_
      rw [if_pos rfl]
      exact impl_hp_l0 l h30 l.length 0 [] (by omega) (by simp) (by have : l.length * l.length ≤ 30 * 30 := Nat.mul_le_mul h30 h30; simp only [List.length_nil]; omega)
  · have ho : okList l = false := by unfold okList; rw [decide_eq_false h30]; rfl
    rw [ho]
    refine evT (by omega) ?_
    refine Ev.step (fun k => by rw [impl_HalvingPairs.j0]) ?_
    exact evT rfl (evSome _)
theorem hpOf_two (l : List S65) : (∀ x ∈ hpOf l, x.length = 2) ∧ (hpOf l).length ≤ 900 := by
  unfold hpOf
  split
  · rename_i h
    have h30 : l.length ≤ 30 := by unfold okList at h; rw [Bool.and_eq_true, decide_eq_true_eq] at h; exact h.1
    have h2 := rowsP_two (hpP l) l.length l.length 0 [] (by simp)
    have h3 : l.length * l.length ≤ 30 * 30 := Nat.mul_le_mul h30 h30
    exact ⟨h2.1, by have := h2.2; simp only [List.length_nil] at this; omega⟩
  · exact ⟨by simp, by simp⟩
/-! totTwo -/
theorem tot_le (n : Nat) : ∀ (l : List (List Int)), (∀ x ∈ l, x.length ≤ n) → tot l ≤ l.length * n
  | [], _ => by simp [tot]
  | x :: l, h => by
    simp only [tot, List.length_cons, Nat.succ_mul]
    have h1 := h x (by simp)
    have h2 := tot_le n l (fun y hy => h y (by simp [hy]))
    omega

theorem FnExactHalvingPairs : ∀ (l0 : List (S69)), (l0.length ≤ 9223372036854775807 ∧ ∀ x ∈ l0, (Opens.I64 x.f0 ∧ Opens.I64 x.f1)) → ∃ k, laws_FnExactHalvingPairs.Good k l0 := by
  intro l0 g0
  rcases szPointS_ev l0 1048576 (by omega) (by omega) g0.1 with h | ⟨h, hb⟩
  · exact ⟨0, .inl ⟨_, h, by omega⟩⟩
  · have hl : l0.length ≤ 1048576 := by omega
    have hc : (conv l0).length ≤ 1048576 := by rw [conv_length]; exact hl
    have h2 := hpOf_two (conv l0)
    have ht := tot_le 2 (hpOf (conv l0)) (fun x hx => by rw [h2.1 x hx]; omega)
    obtain ⟨n1, e1⟩ := toPointS_ev l0 hl
    obtain ⟨n2, e2⟩ := spec_hp_ev (conv l0) hc
    obtain ⟨n3, e3⟩ := impl_hp_ev (conv l0) hc
    obtain ⟨n4, e4⟩ := eqIntSS_ev (hpOf (conv l0)) (by omega) (fun x hx => by rw [h2.1 x hx]; omega)
    obtain ⟨n5, e5⟩ := eqPointS_ev (conv l0) hc
    obtain ⟨n6, e6⟩ := markPointS_ev (conv l0) 1 (by omega)
    obtain ⟨n7, e7⟩ := markIntSS_ev (hpOf (conv l0)) 1 (by omega) (by omega)
    obtain ⟨n8, e8⟩ := heldIntSS_ev (hpOf (conv l0)) 1 (by omega) (by omega)
    refine ⟨n1 + n2 + n3 + n4 + n5 + n6 + n7 + n8, .inr ⟨_, _, _, _, _, _, _, ⟨h, hb, e1 _ (by omega), e2 _ (by omega), e3 _ (by omega), e4 _ (by omega), e5 _ (by omega), e6 _ (by omega), by omega, e7 _ (by omega), e8 _ (by omega), by omega⟩⟩⟩

end Go.Proofs.Yteelfcmlghjknaa.Pure
