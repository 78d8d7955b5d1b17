/- FnExactIsHalving: for every list of points and every two points, IsHalving of the program and of the reference answer alike and leave the list as it is. No condition. -/
import Derived.Test.YtcjliekgkilkoaaQFnExactIsHalvingx5
import Derived.Test.YtcjliekgkilkoaaOpens
namespace Go.Proofs.Ytcjliekgkilkoaa.Pure
open Go.RowKit Go.Proofs.Ytcjliekgkilkoaa Go.Proofs.Ytcjliekgkilkoaa.QFnExactIsHalving Go.Proofs.YtcjliekgkilkoaaW.PrintWords Go.Proofs.YtcjliekgkilkoaaW.PrintLast
set_option linter.unusedVariables false
set_option linter.unusedSimpArgs false

/-! base -/
theorem w64 {x : Int} (h0 : -9223372036854775808 ≤ x) (h1 : x ≤ 9223372036854775807) : wrap64 x = x := by unfold wrap64; omega
theorem w64n (n : Nat) (h : n ≤ 9223372036854775807) : wrap64 (n : Int) = n := w64 (by omega) (by omega)
theorem w64s (n : Nat) (h : n < 9223372036854775807) : wrap64 ((n : Int) + 1) = ((n + 1 : Nat) : Int) := by rw [w64 (by omega) (by omega)]; omega
theorem evSome {α : Type} (r : α) : Ev (fun _ : Nat => some r) r := ⟨0, fun _ _ => rfl⟩
theorem evOf {α : Type} {f : Option α} {r : α} (h : f = some r) : Ev (fun _ : Nat => f) r := ⟨0, fun _ _ => h⟩
theorem evUniq {α : Type} {g : Nat → Option α} {r q : α} (h : Ev g r) (k : Ev g q) : r = q := by
  obtain ⟨a, ha⟩ := h
  obtain ⟨b, hb⟩ := k
  have h1 := ha (a + b) (by omega)
  rw [hb (a + b) (by omega)] at h1
  exact (Option.some.inj h1).symm
theorem evIf {α : Type} {c : Prop} [Decidable c] {f g : Nat → Option α} {r : α} (hp : c → Ev f r) (hn : ¬ c → Ev g r) : Ev (fun k => if c then f k else g k) r := by
  by_cases h : c
  · simp only [if_pos h]; exact hp h
  · simp only [if_neg h]; exact hn h
theorem evT {α : Type} {c : Prop} [Decidable c] {f g : Nat → Option α} {r : α} (h : c) (hp : Ev f r) : Ev (fun k => if c then f k else g k) r := by
  simp only [if_pos h]; exact hp
theorem evF {α : Type} {c : Prop} [Decidable c] {f g : Nat → Option α} {r : α} (h : ¬ c) (hp : Ev g r) : Ev (fun k => if c then f k else g k) r := by
  simp only [if_neg h]; exact hp
theorem evB {α β : Type} {f : Option α} {g : Nat → α → Option β} {a : α} {r : β} (h : f = some a) (k : Ev (fun n => g n a) r) : Ev (fun n => f.bind (g n)) r := by
  subst h
  exact k
theorem getD_eq {α : Type} (l : List α) (i : Nat) (z : α) (h : i < l.length) : l.getD i z = l[i] := by
  rw [List.getD_eq_getElem?_getD, List.getElem?_eq_getElem h]; rfl
theorem take_succ' {α : Type} (l : List α) (i : Nat) (h : i < l.length) : l.take (i + 1) = l.take i ++ [l[i]] := by
  rw [List.take_succ_eq_append_getElem h]
theorem set_fill {α : Type} (l : List α) (z x : α) (i d : Nat) (hi : l.length = i) : (l ++ List.replicate (d + 1) z).set i x = l ++ [x] ++ List.replicate d z := by
  subst hi
  rw [List.set_append_right _ _ (Nat.le_refl _), Nat.sub_self, List.replicate_succ, List.set_cons_zero, List.append_assoc]
  rfl
theorem drop_cons {α : Type} (l : List α) (i : Nat) (h : i < l.length) : l.drop i = l[i] :: l.drop (i + 1) := List.drop_eq_getElem_cons h
/-! l01In -/
theorem l01In_t {a lo hi : Int} (h0 : lo ≤ a) (h1 : a ≤ hi) : spec_l01In.f a lo hi = some true := by unfold spec_l01In.f; rw [if_pos h0]; simp [h1]
theorem l01In_f {a lo hi : Int} (h : ¬ (lo ≤ a ∧ a ≤ hi)) : spec_l01In.f a lo hi = some false := by
  unfold spec_l01In.f
  by_cases h0 : lo ≤ a
  · rw [if_pos h0]; simp; omega
  · rw [if_neg h0]
theorem l01In_eq (a lo hi : Int) : spec_l01In.f a lo hi = some (decide (lo ≤ a ∧ a ≤ hi)) := by
  by_cases h : lo ≤ a ∧ a ≤ hi
  · rw [l01In_t h.1 h.2]; simp [h]
  · rw [l01In_f h]; simp; omega
/-! within -/
theorem within_t {a lo hi : Int} (h0 : lo ≤ a) (h1 : a ≤ hi) : impl_within.f a lo hi = some true := by unfold impl_within.f; rw [if_pos h0]; simp [h1]
theorem within_f {a lo hi : Int} (h : ¬ (lo ≤ a ∧ a ≤ hi)) : impl_within.f a lo hi = some false := by
  unfold impl_within.f
  by_cases h0 : lo ≤ a
  · rw [if_pos h0]; simp; omega
  · rw [if_neg h0]
theorem within_eq (a lo hi : Int) : impl_within.f a lo hi = some (decide (lo ≤ a ∧ a ≤ hi)) := by
  by_cases h : lo ≤ a ∧ a ≤ hi
  · rw [within_t h.1 h.2]; simp [h]
  · rw [within_f h]; simp; omega
/-! down -/
theorem down {P : Nat → Prop} (n : Nat) (h0 : P n) (hs : ∀ i, i < n → P (i + 1) → P i) : ∀ i, i ≤ n → P i := by
  intro i hi
  obtain ⟨d, hd⟩ : ∃ d, i + d = n := ⟨n - i, by omega⟩
  induction d generalizing i with
  | zero => have : i = n := by omega
            subst this; exact h0
  | succ d ih => exact hs i (by omega) (ih (i + 1) (by omega) (by omega))
/-! rdP -/
theorem rdP (l : List S38) (i : Nat) (h : i < l.length) : rd_T38 l (i : Int) = l[i] := by
  unfold rd_T38; rw [show ((i : Int)).toNat = i from by omega]; exact getD_eq _ _ _ h
/-! rdLP -/
theorem rdLP (l : List S33) (i : Nat) (h : i < l.length) : rd_T33 l (i : Int) = l[i] := by
  unfold rd_T33; rw [show ((i : Int)).toNat = i from by omega]; exact getD_eq _ _ _ h
/-! conv -/
def conv (l : List S33) : List S38 := l.map (fun p => ⟨p.f0, p.f1⟩)
theorem conv_length (l : List S33) : (conv l).length = l.length := by simp [conv]
theorem conv_take_succ (l : List S33) (i : Nat) (h : i < l.length) : conv (l.take (i + 1)) = conv (l.take i) ++ [(⟨l[i].f0, l[i].f1⟩ : S38)] := by
  simp only [conv, take_succ' l i h, List.map_append, List.map_cons, List.map_nil]
/-! laws_toPointS -/
theorem toPointS_l0 (l : List S33) (hl : l.length ≤ 9223372036854775806) : ∀ i, i ≤ l.length → Ev (fun k => laws_toPointS.l0 k l (conv (l.take i) ++ List.replicate (l.length - i) z38) (i : Int)) (conv l) := by
  refine down l.length ?_ ?_
  · refine Ev.step (fun k => by rw [laws_toPointS.l0]) ?_
    refine evF (by omega) ?_
    have : conv (l.take l.length) ++ List.replicate (l.length - l.length) z38 = conv l := by rw [List.take_length, Nat.sub_self]; simp
    rw [this]
    exact evSome _
  · intro i hi ih
    refine Ev.step (fun k => by rw [laws_toPointS.l0]) ?_
    refine evT (by omega) (evT (by omega) (evB rfl (evT (by simp [conv]; omega) ?_)))
    rw [w64s i (by omega), rdLP l i hi, show l.length - i = (l.length - (i + 1)) + 1 by omega, show ((i : Int)).toNat = i from by omega, set_fill _ _ _ _ _ (by simp [conv]; omega), ← conv_take_succ l i hi]
    exact ih
theorem toPointS_ev (l : List S33) (hl : l.length ≤ 1048576) : Ev (fun k => laws_toPointS.f k l) (conv l) := by
  unfold laws_toPointS.f
  refine evT (by omega) (evT (by omega) ?_)
  have h := toPointS_l0 l (by omega) 0 (by omega)
  simpa [conv] using h
/-! laws_szPointS -/
theorem szPointS_ev (l : List S33) (a : Int) (ha : 0 ≤ a) (ha2 : a ≤ 1048576) (hl : l.length ≤ 9223372036854775807) : (laws_szPointS.f l a = some (-1)) ∨ (laws_szPointS.f l a = some (a - l.length) ∧ 0 ≤ a - (l.length : Int)) := by
  unfold laws_szPointS.f
  rw [w64 (x := a - (l.length : Int)) (by omega) (by omega)]
  by_cases h : a - (l.length : Int) < 0
  · exact .inl (if_pos h)
  · exact .inr ⟨if_neg h, by omega⟩
/-! laws_eqPointS -/
theorem eqPoint_same (x y : Int) : laws_eqPoint.f x y x y = some true := by unfold laws_eqPoint.f; rw [if_pos rfl, if_pos rfl]
theorem eqPointS_l0 (l : List S38) (hl : l.length ≤ 9223372036854775806) : ∀ i, i ≤ l.length → Ev (fun k => laws_eqPointS.l0 k l l (i : Int)) true := by
  refine down l.length ?_ ?_
  · refine Ev.step (fun k => by rw [laws_eqPointS.l0]) ?_
    exact evF (by omega) (evSome _)
  · intro i hi ih
    refine Ev.step (fun k => by rw [laws_eqPointS.l0]) ?_
    refine evT (by omega) (evT (by omega) (evT (by omega) (evB (eqPoint_same _ _) (evT rfl ?_))))
    rw [w64s i (by omega)]
    exact ih
theorem eqPointS_ev (l : List S38) (hl : l.length ≤ 1048576) : Ev (fun k => laws_eqPointS.f k l l) true := by
  unfold laws_eqPointS.f
  exact evT rfl (by simpa using eqPointS_l0 l (by omega) 0 (by omega))
/-! pts -/
def ptOk (p : S38) : Bool := decide ((0 ≤ p.f0 ∧ p.f0 ≤ 40) ∧ 0 ≤ p.f1 ∧ p.f1 ≤ 40)
theorem spec_PointOk_eq (x y : Int) : spec_PointOk.f x y = some (ptOk ⟨x, y⟩) := by
  unfold spec_PointOk.f ptOk
  rw [l01In_eq, l01In_eq]
  by_cases h : 0 ≤ x ∧ x ≤ 40 <;> simp [h]
theorem impl_PointOk_eq (x y : Int) : impl_PointOk.f x y = some (ptOk ⟨x, y⟩) := by
  unfold impl_PointOk.f ptOk
  rw [within_eq, within_eq]
  by_cases h : 0 ≤ x ∧ x ≤ 40 <;> simp [h]
theorem all_drop {α : Type} (p : α → Bool) (l : List α) (i : Nat) (h : i < l.length) : (l.drop i).all p = (p l[i] && (l.drop (i + 1)).all p) := by
  rw [drop_cons l i h]; rfl
/-! arePoints -/
theorem arePoints_l0 (l : List S38) (hl : l.length ≤ 9223372036854775806) : ∀ i, i ≤ l.length → Ev (fun k => impl_arePoints.l0 k l (l.length : Int) (i : Int)) ((l.drop i).all ptOk) := by
  refine down l.length ?_ ?_
  · refine Ev.step (fun k => by rw [impl_arePoints.l0]) ?_
    rw [List.drop_length]
    exact evF (by omega) (evSome _)
  · intro i hi ih
    refine Ev.step (fun k => by rw [impl_arePoints.l0]) ?_
    refine evT (by omega) (evT (by omega) (evT (by omega) (evB (impl_PointOk_eq _ _) ?_)))
    rw [rdP l i hi, all_drop ptOk l i hi, w64s i (by omega)]
    by_cases c : ptOk l[i] = true
    · rw [c, Bool.true_and]
      exact evT (by first | exact c | rfl) ih
    · rw [Bool.eq_false_iff.2 c, Bool.false_and]
      exact evF (by first | exact c | decide) (evSome _)
theorem arePoints_ev (l : List S38) (hl : l.length ≤ 9223372036854775806) : Ev (fun k => impl_arePoints.f k l) (l.all ptOk) := by
  unfold impl_arePoints.f
  simpa using arePoints_l0 l hl 0 (by omega)
/-! l27Ok -/
def okList (l : List S38) : Bool := decide (l.length ≤ 30) && l.all ptOk
theorem l27Ok_l0 (l : List S38) (hl : l.length ≤ 9223372036854775806) : ∀ i, i ≤ l.length → Ev (fun k => spec_l27Ok.l0 k l (l.length : Int) (i : Int)) ((l.drop i).all ptOk) := by
  refine down l.length ?_ ?_
  · refine Ev.step (fun k => by rw [spec_l27Ok.l0]) ?_
    rw [List.drop_length]
    exact evF (by omega) (evSome _)
  · intro i hi ih
    refine Ev.step (fun k => by rw [spec_l27Ok.l0]) ?_
    refine evT (by omega) (evT (by omega) (evT (by omega) (evB (spec_PointOk_eq _ _) ?_)))
    rw [rdP l i hi, all_drop ptOk l i hi, w64s i (by omega)]
    by_cases c : ptOk l[i] = true
    · rw [c, Bool.true_and]
      exact evT (by first | exact c | rfl) ih
    · rw [Bool.eq_false_iff.2 c, Bool.false_and]
      exact evF (by first | exact c | decide) (evSome _)
theorem l27Ok_ev (l : List S38) (hl : l.length ≤ 9223372036854775806) : Ev (fun k => spec_l27Ok.f k l) (okList l) := by
  unfold spec_l27Ok.f okList
  by_cases h : l.length ≤ 30
  · rw [decide_eq_true h, Bool.true_and]
    refine evF (by omega) ?_
    simpa using l27Ok_l0 l hl 0 (by omega)
  · rw [decide_eq_false h, Bool.false_and]
    exact evT (by omega) (evSome _)
/-! countsBase -/
def crossW (a b p : S38) : Int := wrap64 ((wrap64 ((wrap64 (b.f0 - a.f0)) * (wrap64 (p.f1 - a.f1)))) - (wrap64 ((wrap64 (b.f1 - a.f1)) * (wrap64 (p.f0 - a.f0)))))
def sgn (n : Int) : Int := if n > 0 then 1 else if n < 0 then -1 else 0
theorem sgn_range (n : Int) : -1 ≤ sgn n ∧ sgn n ≤ 1 := by unfold sgn; split <;> (try split) <;> omega
def cntStep (a b : S38) (c : List Int) (x : S38) : List Int := c.set (1 - sgn (crossW a b x)).toNat (wrap64 (rd c (1 - sgn (crossW a b x)) + 1))
def counts (l : List S38) (a b : S38) : List Int := l.foldl (cntStep a b) [0, 0, 0]
theorem cntStep_length (a b : S38) (c : List Int) (x : S38) : (cntStep a b c x).length = c.length := by simp [cntStep]
theorem foldl_drop {α β : Type} (f : β → α → β) (l : List α) (i : Nat) (h : i < l.length) (c : β) : (l.drop i).foldl f c = (l.drop (i + 1)).foldl f (f c l[i]) := by
  rw [drop_cons l i h]; rfl
def ptEq (a b : S38) : Bool := a.f0 == b.f0 && (a.f1 == b.f1)
def countsOf (l : List S38) (a b : S38) : List Int := if okList l = true ∧ ptOk a = true ∧ ptOk b = true ∧ ptEq a b = false then counts l a b else []
/-! specSign -/
theorem spec_sign_eq (n : Int) : spec_l02Sign.f n = some (sgn n) := by unfold spec_l02Sign.f sgn; split <;> (try split) <;> rfl
/-! implSign -/
theorem impl_sign_eq (n : Int) : impl_sign.f n = some (sgn n) := by unfold impl_sign.f sgn; split <;> (try split) <;> rfl
/-! l27Counts -/
theorem spec_counts_l0 (l : List S38) (a b : S38) (hl : l.length ≤ 9223372036854775806) : ∀ i, i ≤ l.length → ∀ c : List Int, c.length = 3 → Ev (fun k => spec_l27Counts.l0 k c l (l.length : Int) (i : Int) a.f0 a.f1 b.f0 b.f1) ((l.drop i).foldl (cntStep a b) c) := by
  refine down l.length ?_ ?_
  · intro c hc
    refine Ev.step (fun k => by rw [spec_l27Counts.l0]) ?_
    rw [List.drop_length]
    exact evF (by omega) (evSome _)
  · intro i hi ih c hc
    have hs := sgn_range (crossW a b l[i])
    have hw : wrap64 (1 - sgn (crossW a b l[i])) = 1 - sgn (crossW a b l[i]) := w64 (by omega) (by omega)
    refine Ev.step (fun k => by rw [spec_l27Counts.l0]) ?_
    refine evT (by omega) (evT (by omega) (evT (by omega) (evB (a := crossW a b l[i]) (by rw [rdP l i hi]; rfl) (evB (spec_sign_eq _) ?_))))
    rw [hw, w64s i (by omega), foldl_drop _ l i hi]
    exact evT (by omega) (evT (by omega) (ih _ (by rw [List.length_set]; exact hc)))
theorem l27Counts_ev (l : List S38) (a b : S38) (hl : l.length ≤ 9223372036854775806) : Ev (fun k => spec_l27Counts.f k l a.f0 a.f1 b.f0 b.f1) (counts l a b) := by
  unfold spec_l27Counts.f counts
  simpa using spec_counts_l0 l a b hl 0 (by omega) [0, 0, 0] rfl
/-! implCounts -/
theorem impl_counts_l0 (l : List S38) (a b : S38) (hl : l.length ≤ 9223372036854775806) : ∀ i, i ≤ l.length → ∀ c : List Int, c.length = 3 → Ev (fun k => impl_CountsOf.l0 k c l (l.length : Int) (i : Int) a.f0 a.f1 b.f0 b.f1) ((l.drop i).foldl (cntStep a b) c) := by
  refine down l.length ?_ ?_
  · intro c hc
    refine Ev.step (fun k => by rw [impl_CountsOf.l0]) ?_
    rw [List.drop_length]
    exact evF (by omega) (evSome _)
  · intro i hi ih c hc
    have hs := sgn_range (crossW a b l[i])
    have hw : wrap64 (1 - sgn (crossW a b l[i])) = 1 - sgn (crossW a b l[i]) := w64 (by omega) (by omega)
    refine Ev.step (fun k => by rw [impl_CountsOf.l0]) ?_
    refine evT (by omega) (evT (by omega) (evT (by omega) (evB (a := crossW a b l[i]) (by rw [rdP l i hi]; rfl) (evB (impl_sign_eq _) ?_))))
    rw [hw, w64s i (by omega), foldl_drop _ l i hi]
    exact evT (by omega) (evT (by omega) (ih _ (by rw [List.length_set]; exact hc)))
theorem impl_counts_j0t (l : List S38) (a b : S38) : Ev (fun k => impl_CountsOf.j0 k l true a.f0 a.f1 b.f0 b.f1) [] := (by refine Ev.step (fun k => by rw [impl_CountsOf.j0]) ?_; exact evT rfl (evSome _))
theorem impl_counts_ev (l : List S38) (a b : S38) (hl : l.length ≤ 9223372036854775806) : Ev (fun k => impl_CountsOf.f k l a.f0 a.f1 b.f0 b.f1) (countsOf l a b) := by
  unfold impl_CountsOf.f
  by_cases h0 : l.length ≤ 30
  · refine evF (by omega) (Ev.bind (arePoints_ev l hl) ?_)
    by_cases h1 : l.all ptOk = true
    · have ho : okList l = true := by unfold okList; rw [decide_eq_true h0, h1]; rfl
      refine evT h1 (Ev.bind (arePoints_ev _ (by simp)) ?_)
      by_cases h2 : ptOk a = true ∧ ptOk b = true
      · refine evT (by simp [h2.1, h2.2]) ?_
        refine Ev.step (fun k => by rw [impl_CountsOf.j0]) ?_
        by_cases h3 : ptEq a b = true
        · have e : countsOf l a b = [] := if_neg (fun h => by rw [h.2.2.2] at h3; cases h3)
          rw [e]
          exact evT h3 (evSome _)
        · have e : countsOf l a b = counts l a b := if_pos ⟨ho, h2.1, h2.2, Bool.eq_false_iff.2 h3⟩
          rw [e]
          refine evF h3 (evT (by omega) ?_)
          simpa [counts] using impl_counts_l0 l a b hl 0 (by omega) [0, 0, 0] rfl
      · have e : countsOf l a b = [] := if_neg (fun h => h2 ⟨h.2.1, h.2.2.1⟩)
        rw [e]
        exact evF (by simpa using h2) (impl_counts_j0t l a b)
    · have e : countsOf l a b = [] := if_neg (fun h => by have := h.1; unfold okList at this; simp only [Bool.and_eq_true] at this; exact h1 this.2)
      rw [e]
      exact evF h1 (impl_counts_j0t l a b)
  · have e : countsOf l a b = [] := if_neg (fun h => by have := h.1; unfold okList at this; simp only [Bool.and_eq_true, decide_eq_true_eq] at this; exact h0 this.1)
    rw [e]
    exact evT (by omega) (impl_counts_j0t l a b)
/-! halvBase -/
def halvC (l : List S38) (a b : S38) : Bool := decide (wrap64 (2 * rd (counts l a b) 0) ≤ (l.length : Int)) && decide (wrap64 (2 * rd (counts l a b) 2) ≤ (l.length : Int))
def isHalv (l : List S38) (a b : S38) : Bool := decide (okList l = true ∧ ptOk a = true ∧ ptOk b = true ∧ ptEq a b = false) && halvC l a b
theorem counts_length (l : List S38) (a b : S38) : (counts l a b).length = 3 := by
  have h : ∀ (l : List S38) (c : List Int), (l.foldl (cntStep a b) c).length = c.length := by
    intro l
    induction l with
    | nil => intro c; rfl
    | cons x l ih => intro c; rw [List.foldl_cons, ih, cntStep_length]
  unfold counts
  rw [h]
  rfl
/-! l27Halves -/
theorem l27Halves_ev (l : List S38) (a b : S38) (hl : l.length ≤ 9223372036854775806) : Ev (fun k => spec_l27Halves.f k l a.f0 a.f1 b.f0 b.f1) (halvC l a b) := by
  unfold spec_l27Halves.f halvC
  have h3 := counts_length l a b
  refine Ev.bind (l27Counts_ev l a b hl) ?_
  revert h3
  generalize counts l a b = c
  intro h3
  refine evT (by omega) ?_
  by_cases h : wrap64 (2 * rd c 0) ≤ (l.length : Int)
  · rw [decide_eq_true h, Bool.true_and]
    exact evT h (evT (by omega) (evSome _))
  · rw [decide_eq_false h, Bool.false_and]
    exact evF h (evSome _)
/-! specIsHalv -/
theorem spec_isHalv_ev (l : List S38) (a b : S38) (hl : l.length ≤ 9223372036854775806) : Ev (fun k => spec_IsHalving.f k l a.f0 a.f1 b.f0 b.f1) (isHalv l a b) := by
  unfold spec_IsHalving.f
  refine Ev.bind (l27Ok_ev l hl) ?_
  by_cases h0 : okList l = true
  · refine evT h0 (evB (spec_PointOk_eq _ _) ?_)
    by_cases h1 : ptOk a = true
    · refine evT h1 (evB (spec_PointOk_eq _ _) ?_)
      by_cases h2 : ptOk b = true
      · refine evT h2 ?_
        by_cases h3 : ptEq a b = true
        · have e : isHalv l a b = false := by unfold isHalv; rw [decide_eq_false (fun h => by rw [h.2.2.2] at h3; cases h3), Bool.false_and]
          have e2 : (a.f0 == b.f0) = true ∧ (a.f1 == b.f1) = true := by unfold ptEq at h3; simpa using h3
          rw [e]
          exact evF (by simp [e2.1, e2.2]) (evSome _)
        · have e : isHalv l a b = halvC l a b := by unfold isHalv; rw [decide_eq_true ⟨h0, h1, h2, Bool.eq_false_iff.2 h3⟩, Bool.true_and]
          rw [e]
          refine evT ?_ (Ev.bind (l27Halves_ev l a b hl) (evSome _))
          have h4 : (a.f0 == b.f0 && (a.f1 == b.f1)) = false := Bool.eq_false_iff.2 h3
          cases hx : (a.f0 == b.f0) <;> cases hy : (a.f1 == b.f1) <;> rw [hx, hy] at h4 <;> simp_all
      · have e : isHalv l a b = false := by unfold isHalv; rw [decide_eq_false (fun h => h2 h.2.2.1), Bool.false_and]
        rw [e]
        exact evF h2 (evSome _)
    · have e : isHalv l a b = false := by unfold isHalv; rw [decide_eq_false (fun h => h1 h.2.1), Bool.false_and]
      rw [e]
      exact evF h1 (evSome _)
  · have e : isHalv l a b = false := by unfold isHalv; rw [decide_eq_false (fun h => h0 h.1), Bool.false_and]
    rw [e]
    exact evF h0 (evSome _)
/-! implIsHalv -/
theorem impl_isHalv_ev (l : List S38) (a b : S38) (hl : l.length ≤ 9223372036854775806) : Ev (fun k => impl_IsHalving.f k l a.f0 a.f1 b.f0 b.f1) (isHalv l a b) := by
  unfold impl_IsHalving.f
  refine Ev.bind (impl_counts_ev l a b hl) ?_
  by_cases h : okList l = true ∧ ptOk a = true ∧ ptOk b = true ∧ ptEq a b = false
  · have e : isHalv l a b = halvC l a b := by unfold isHalv; rw [decide_eq_true h, Bool.true_and]
    have e2 : countsOf l a b = counts l a b := if_pos h
    rw [e, e2]
    unfold halvC
    have h3 := counts_length l a b
    revert h3
    generalize counts l a b = c
    intro h3
    refine evF (by intro hc; rw [hc] at h3; simp at h3) (evT (by omega) ?_)
    by_cases h4 : wrap64 (2 * rd c 0) ≤ (l.length : Int)
    · rw [decide_eq_true h4, Bool.true_and]
      exact evT h4 (evSome _)
    · rw [decide_eq_false h4, Bool.false_and]
      exact evF h4 (evSome _)
  · have e : isHalv l a b = false := by unfold isHalv; rw [decide_eq_false h, Bool.false_and]
    have e2 : countsOf l a b = [] := if_neg h
    rw [e, e2]
    exact evT rfl (evSome _)

theorem FnExactIsHalving : ∀ (l0 : List (S33)) (a1_0 : Int) (a1_1 : Int) (a2_0 : Int) (a2_1 : Int), (l0.length ≤ 9223372036854775807 ∧ ∀ x ∈ l0, (Opens.I64 x.f0 ∧ Opens.I64 x.f1)) → Opens.I64 a1_0 → Opens.I64 a1_1 → Opens.I64 a2_0 → Opens.I64 a2_1 → ∃ k, laws_FnExactIsHalving.f k l0 a1_0 a1_1 a2_0 a2_1 = some true := by
  intro l0 a1_0 a1_1 a2_0 a2_1 g0 _ _ _ _
  refine Ev.rounds (g := fun k => laws_FnExactIsHalving.f k l0 a1_0 a1_1 a2_0 a2_1) ?_
  unfold laws_FnExactIsHalving.f
  rcases szPointS_ev l0 1048576 (by omega) (by omega) g0.1 with h | ⟨h, hb⟩
  · exact evB h (evT (by omega) (evSome _))
  · have hl : l0.length ≤ 1048576 := by omega
    have hc : (conv l0).length ≤ 1048576 := by rw [conv_length]; exact hl
    have hT := toPointS_ev l0 hl
    have hS := spec_isHalv_ev (conv l0) ⟨a1_0, a1_1⟩ ⟨a2_0, a2_1⟩ (by omega)
    have hI := impl_isHalv_ev (conv l0) ⟨a1_0, a1_1⟩ ⟨a2_0, a2_1⟩ (by omega)
    refine evB h ?_
    refine evF (by omega) ?_
    refine Ev.bind hT ?_
    refine evB (a := (a1_0, a1_1)) rfl ?_
    refine evB (a := (a2_0, a2_1)) rfl ?_
    refine Ev.bind hS ?_
    refine Ev.bind hT ?_
    refine evB (a := (a1_0, a1_1)) rfl ?_
    refine evB (a := (a2_0, a2_1)) rfl ?_
    refine Ev.bind hI ?_
    refine evF (by simp) ?_
    refine Ev.bind hT ?_
    refine Ev.bind (eqPointS_ev _ hc) ?_
    exact evT rfl (evSome _)

end Go.Proofs.Ytcjliekgkilkoaa.Pure
