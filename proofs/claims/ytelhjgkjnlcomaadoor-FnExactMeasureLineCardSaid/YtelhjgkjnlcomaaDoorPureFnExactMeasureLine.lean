/- FnExactMeasureLine: for every list of points, MeasureLine of the program and of the reference answer alike and leave the list as it is. No condition. -/
import Derived.Test.YtelhjgkjnlcomaaDoorQFnExactMeasureLinex14
import Derived.Test.YtelhjgkjnlcomaaDoorVOpens
namespace Go.Proofs.YtelhjgkjnlcomaaDoor.Pure
open Go.RowKit Go.Proofs.YtelhjgkjnlcomaaDoor Go.Proofs.YtelhjgkjnlcomaaDoor.QFnExactMeasureLine Go.Proofs.YtelhjgkjnlcomaaDoorW.PrintWords Go.Proofs.YtelhjgkjnlcomaaDoorW.PrintLast
set_option linter.unusedVariables false
set_option linter.unusedSimpArgs false

/-! base -/
theorem w64 {x : Int} (h0 : -9223372036854775808 ≤ x) (h1 : x ≤ 9223372036854775807) : wrap64 x = x := by unfold wrap64; omega
theorem w64n (n : Nat) (h : n ≤ 9223372036854775807) : wrap64 (n : Int) = n := w64 (by omega) (by omega)
theorem w64s (n : Nat) (h : n < 9223372036854775807) : wrap64 ((n : Int) + 1) = ((n + 1 : Nat) : Int) := by rw [w64 (by omega) (by omega)]; omega
theorem evSome {α : Type} (r : α) : Ev (fun _ : Nat => some r) r := ⟨0, fun _ _ => rfl⟩
theorem evOf {α : Type} {f : Option α} {r : α} (h : f = some r) : Ev (fun _ : Nat => f) r := ⟨0, fun _ _ => h⟩
theorem evUniq {α : Type} {g : Nat → Option α} {r q : α} (h : Ev g r) (k : Ev g q) : r = q := by
  obtain ⟨a, ha⟩ := h
  obtain ⟨b, hb⟩ := k
  have h1 := ha (a + b) (by omega)
  rw [hb (a + b) (by omega)] at h1
  exact (Option.some.inj h1).symm
theorem evIf {α : Type} {c : Prop} [Decidable c] {f g : Nat → Option α} {r : α} (hp : c → Ev f r) (hn : ¬ c → Ev g r) : Ev (fun k => if c then f k else g k) r := by
  by_cases h : c
  · simp only [if_pos h]; exact hp h
  · simp only [if_neg h]; exact hn h
theorem evT {α : Type} {c : Prop} [Decidable c] {f g : Nat → Option α} {r : α} (h : c) (hp : Ev f r) : Ev (fun k => if c then f k else g k) r := by
  simp only [if_pos h]; exact hp
theorem evF {α : Type} {c : Prop} [Decidable c] {f g : Nat → Option α} {r : α} (h : ¬ c) (hp : Ev g r) : Ev (fun k => if c then f k else g k) r := by
  simp only [if_neg h]; exact hp
theorem evB {α β : Type} {f : Option α} {g : Nat → α → Option β} {a : α} {r : β} (h : f = some a) (k : Ev (fun n => g n a) r) : Ev (fun n => f.bind (g n)) r := by
  subst h
  exact k
theorem getD_eq {α : Type} (l : List α) (i : Nat) (z : α) (h : i < l.length) : l.getD i z = l[i] := by
  rw [List.getD_eq_getElem?_getD, List.getElem?_eq_getElem h]; rfl
theorem take_succ' {α : Type} (l : List α) (i : Nat) (h : i < l.length) : l.take (i + 1) = l.take i ++ [l[i]] := by
  rw [List.take_succ_eq_append_getElem h]
theorem set_fill {α : Type} (l : List α) (z x : α) (i d : Nat) (hi : l.length = i) : (l ++ List.replicate (d + 1) z).set i x = l ++ [x] ++ List.replicate d z := by
  subst hi
  rw [List.set_append_right _ _ (Nat.le_refl _), Nat.sub_self, List.replicate_succ, List.set_cons_zero, List.append_assoc]
  rfl
theorem drop_cons {α : Type} (l : List α) (i : Nat) (h : i < l.length) : l.drop i = l[i] :: l.drop (i + 1) := List.drop_eq_getElem_cons h
/-! l01In -/
theorem l01In_t {a lo hi : Int} (h0 : lo ≤ a) (h1 : a ≤ hi) : spec_l01In.f a lo hi = some true := by unfold spec_l01In.f; rw [if_pos h0]; simp [h1]
theorem l01In_f {a lo hi : Int} (h : ¬ (lo ≤ a ∧ a ≤ hi)) : spec_l01In.f a lo hi = some false := by
  unfold spec_l01In.f
  by_cases h0 : lo ≤ a
  · rw [if_pos h0]; simp; omega
  · rw [if_neg h0]
theorem l01In_eq (a lo hi : Int) : spec_l01In.f a lo hi = some (decide (lo ≤ a ∧ a ≤ hi)) := by
  by_cases h : lo ≤ a ∧ a ≤ hi
  · rw [l01In_t h.1 h.2]; simp [h]
  · rw [l01In_f h]; simp; omega
/-! within -/
theorem within_t {a lo hi : Int} (h0 : lo ≤ a) (h1 : a ≤ hi) : impl_within.f a lo hi = some true := by unfold impl_within.f; rw [if_pos h0]; simp [h1]
theorem within_f {a lo hi : Int} (h : ¬ (lo ≤ a ∧ a ≤ hi)) : impl_within.f a lo hi = some false := by
  unfold impl_within.f
  by_cases h0 : lo ≤ a
  · rw [if_pos h0]; simp; omega
  · rw [if_neg h0]
theorem within_eq (a lo hi : Int) : impl_within.f a lo hi = some (decide (lo ≤ a ∧ a ≤ hi)) := by
  by_cases h : lo ≤ a ∧ a ≤ hi
  · rw [within_t h.1 h.2]; simp [h]
  · rw [within_f h]; simp; omega
/-! down -/
theorem down {P : Nat → Prop} (n : Nat) (h0 : P n) (hs : ∀ i, i < n → P (i + 1) → P i) : ∀ i, i ≤ n → P i := by
  intro i hi
  obtain ⟨d, hd⟩ : ∃ d, i + d = n := ⟨n - i, by omega⟩
  induction d generalizing i with
  | zero => have : i = n := by omega
            subst this; exact h0
  | succ d ih => exact hs i (by omega) (ih (i + 1) (by omega) (by omega))
/-! rdP -/
theorem rdP (l : List S53) (i : Nat) (h : i < l.length) : rd_T53 l (i : Int) = l[i] := by
  unfold rd_T53; rw [show ((i : Int)).toNat = i from by omega]; exact getD_eq _ _ _ h
/-! rdLP -/
theorem rdLP (l : List S55) (i : Nat) (h : i < l.length) : rd_T55 l (i : Int) = l[i] := by
  unfold rd_T55; rw [show ((i : Int)).toNat = i from by omega]; exact getD_eq _ _ _ h
/-! conv -/
def conv (l : List S55) : List S53 := l.map (fun p => ⟨p.f0, p.f1⟩)
theorem conv_length (l : List S55) : (conv l).length = l.length := by simp [conv]
theorem conv_take_succ (l : List S55) (i : Nat) (h : i < l.length) : conv (l.take (i + 1)) = conv (l.take i) ++ [(⟨l[i].f0, l[i].f1⟩ : S53)] := by
  simp only [conv, take_succ' l i h, List.map_append, List.map_cons, List.map_nil]
/-! laws_toPointS -/
theorem toPointS_l0 (l : List S55) (hl : l.length ≤ 9223372036854775806) : ∀ i, i ≤ l.length → Ev (fun k => laws_toPointS.l0 k l (conv (l.take i) ++ List.replicate (l.length - i) z53) (i : Int)) (conv l) := by
  refine down l.length ?_ ?_
  · refine Ev.step (fun k => by rw [laws_toPointS.l0]) ?_
    refine evF (by omega) ?_
    have : conv (l.take l.length) ++ List.replicate (l.length - l.length) z53 = conv l := by rw [List.take_length, Nat.sub_self]; simp
    rw [this]
    exact evSome _
  · intro i hi ih
    refine Ev.step (fun k => by rw [laws_toPointS.l0]) ?_
    refine evT (by omega) (evT (by omega) (evB rfl (evT (by simp [conv]; omega) ?_)))
    rw [w64s i (by omega), rdLP l i hi, show l.length - i = (l.length - (i + 1)) + 1 by omega, show ((i : Int)).toNat = i from by omega, set_fill _ _ _ _ _ (by simp [conv]; omega), ← conv_take_succ l i hi]
    exact ih
theorem toPointS_ev (l : List S55) (hl : l.length ≤ 1048576) : Ev (fun k => laws_toPointS.f k l) (conv l) := by
  unfold laws_toPointS.f
  refine evT (by omega) (evT (by omega) ?_)
  have h := toPointS_l0 l (by omega) 0 (by omega)
  simpa [conv] using h
/-! laws_szPointS -/
theorem szPointS_ev (l : List S55) (a : Int) (ha : 0 ≤ a) (ha2 : a ≤ 1048576) (hl : l.length ≤ 9223372036854775807) : (laws_szPointS.f l a = some (-1)) ∨ (laws_szPointS.f l a = some (a - l.length) ∧ 0 ≤ a - (l.length : Int)) := by
  unfold laws_szPointS.f
  rw [w64 (x := a - (l.length : Int)) (by omega) (by omega)]
  by_cases h : a - (l.length : Int) < 0
  · exact .inl (if_pos h)
  · exact .inr ⟨if_neg h, by omega⟩
/-! laws_eqPointS -/
theorem eqPoint_same (x y : Int) : laws_eqPoint.f x y x y = some true := by unfold laws_eqPoint.f; rw [if_pos rfl, if_pos rfl]
theorem eqPointS_l0 (l : List S53) (hl : l.length ≤ 9223372036854775806) : ∀ i, i ≤ l.length → Ev (fun k => laws_eqPointS.l0 k l l (i : Int)) true := by
  refine down l.length ?_ ?_
  · refine Ev.step (fun k => by rw [laws_eqPointS.l0]) ?_
    exact evF (by omega) (evSome _)
  · intro i hi ih
    refine Ev.step (fun k => by rw [laws_eqPointS.l0]) ?_
    refine evT (by omega) (evT (by omega) (evT (by omega) (evB (eqPoint_same _ _) (evT rfl ?_))))
    rw [w64s i (by omega)]
    exact ih
theorem eqPointS_ev (l : List S53) (hl : l.length ≤ 1048576) : Ev (fun k => laws_eqPointS.f k l l) true := by
  unfold laws_eqPointS.f
  exact evT rfl (by simpa using eqPointS_l0 l (by omega) 0 (by omega))
/-! pts -/
def ptOk (p : S53) : Bool := decide ((0 ≤ p.f0 ∧ p.f0 ≤ 40) ∧ 0 ≤ p.f1 ∧ p.f1 ≤ 40)
theorem spec_PointOk_eq (x y : Int) : spec_PointOk.f x y = some (ptOk ⟨x, y⟩) := by
  unfold spec_PointOk.f ptOk
  rw [l01In_eq, l01In_eq]
  by_cases h : 0 ≤ x ∧ x ≤ 40 <;> simp [h]
theorem impl_PointOk_eq (x y : Int) : impl_PointOk.f x y = some (ptOk ⟨x, y⟩) := by
  unfold impl_PointOk.f ptOk
  rw [within_eq, within_eq]
  by_cases h : 0 ≤ x ∧ x ≤ 40 <;> simp [h]
theorem all_drop {α : Type} (p : α → Bool) (l : List α) (i : Nat) (h : i < l.length) : (l.drop i).all p = (p l[i] && (l.drop (i + 1)).all p) := by
  rw [drop_cons l i h]; rfl
/-! arePoints -/
theorem arePoints_l0 (l : List S53) (hl : l.length ≤ 9223372036854775806) : ∀ i, i ≤ l.length → Ev (fun k => impl_arePoints.l0 k l (l.length : Int) (i : Int)) ((l.drop i).all ptOk) := by
  refine down l.length ?_ ?_
  · refine Ev.step (fun k => by rw [impl_arePoints.l0]) ?_
    rw [List.drop_length]
    exact evF (by omega) (evSome _)
  · intro i hi ih
    refine Ev.step (fun k => by rw [impl_arePoints.l0]) ?_
    refine evT (by omega) (evT (by omega) (evT (by omega) (evB (impl_PointOk_eq _ _) ?_)))
    rw [rdP l i hi, all_drop ptOk l i hi, w64s i (by omega)]
    by_cases c : ptOk l[i] = true
    · rw [c, Bool.true_and]
      exact evT (by first | exact c | rfl) ih
    · rw [Bool.eq_false_iff.2 c, Bool.false_and]
      exact evF (by first | exact c | decide) (evSome _)
theorem arePoints_ev (l : List S53) (hl : l.length ≤ 9223372036854775806) : Ev (fun k => impl_arePoints.f k l) (l.all ptOk) := by
  unfold impl_arePoints.f
  simpa using arePoints_l0 l hl 0 (by omega)
/-! crossBase -/
def crossW (a b p : S53) : Int := wrap64 ((wrap64 ((wrap64 (b.f0 - a.f0)) * (wrap64 (p.f1 - a.f1)))) - (wrap64 ((wrap64 (b.f1 - a.f1)) * (wrap64 (p.f0 - a.f0)))))
def sgn (n : Int) : Int := if n > 0 then 1 else if n < 0 then -1 else 0
theorem sgn_range (n : Int) : -1 ≤ sgn n ∧ sgn n ≤ 1 := by unfold sgn; split <;> (try split) <;> omega
def ptEq (a b : S53) : Bool := a.f0 == b.f0 && (a.f1 == b.f1)
/-! specSign -/
theorem spec_sign_eq (n : Int) : spec_l02Sign.f n = some (sgn n) := by unfold spec_l02Sign.f sgn; split <;> (try split) <;> rfl
/-! implSign -/
theorem impl_sign_eq (n : Int) : impl_sign.f n = some (sgn n) := by unfold impl_sign.f sgn; split <;> (try split) <;> rfl
/-! onB -/
def onB (a b p : S53) : Bool := decide (crossW a b p = 0) && (decide (mn a.f0 b.f0 ≤ p.f0) && (decide (p.f0 ≤ mx a.f0 b.f0) && (decide (mn a.f1 b.f1 ≤ p.f1) && decide (p.f1 ≤ mx a.f1 b.f1))))
theorem spec_cross_eq (a b p : S53) : spec_l02Cross.f a.f0 a.f1 b.f0 b.f1 p.f0 p.f1 = some (crossW a b p) := rfl
theorem impl_cross_eq (a b p : S53) : impl_cross.f a.f0 a.f1 b.f0 b.f1 p.f0 p.f1 = some (crossW a b p) := rfl
theorem spec_on_eq (a b p : S53) : spec_l02On.f a.f0 a.f1 b.f0 b.f1 p.f0 p.f1 = some (onB a b p) := by
  unfold spec_l02On.f onB
  rw [spec_cross_eq, Option.bind_some]
  by_cases h : crossW a b p = 0 <;> by_cases h1 : mn a.f0 b.f0 ≤ p.f0 <;> by_cases h2 : p.f0 ≤ mx a.f0 b.f0 <;> by_cases h3 : mn a.f1 b.f1 ≤ p.f1 <;> simp [h, h1, h2, h3]
theorem impl_on_eq (a b p : S53) : impl_isOn.f a.f0 a.f1 b.f0 b.f1 p.f0 p.f1 = some (onB a b p) := by
  unfold impl_isOn.f onB
  rw [impl_cross_eq, Option.bind_some]
  simp only [within_eq, Option.bind_some]
  by_cases h : crossW a b p = 0 <;> by_cases h1 : mn a.f0 b.f0 ≤ p.f0 <;> by_cases h2 : p.f0 ≤ mx a.f0 b.f0 <;> by_cases h3 : mn a.f1 b.f1 ≤ p.f1 <;> simp [h, h1, h2, h3]
/-! meetV -/
def shared (a b c d : S53) : List S53 := spec_l02Meet.appif (onB a b d) (spec_l02Meet.appif (onB a b c) (spec_l02Meet.appif (onB c d b) (spec_l02Meet.appif (onB c d a) [] a.f0 a.f1) b.f0 b.f1) c.f0 c.f1) d.f0 d.f1
def meetEnds (a b c d : S53) : List S53 := impl_meet.addif (onB c d b) (impl_meet.addif (onB c d a) (impl_meet.addif (onB a b d) (impl_meet.addif (onB a b c) [] c.f0 c.f1) d.f0 d.f1) a.f0 a.f1) b.f0 b.f1
def crosses (a b c d : S53) : Bool := decide (wrap64 (sgn (crossW a b c) * sgn (crossW a b d)) < 0) && decide (wrap64 (sgn (crossW c d a) * sgn (crossW c d b)) < 0)
def meetV (a b c d : S53) : Int := if crosses a b c d = true then 2 else if (shared a b c d).length = 0 then 0 else if spec_l02Meet.far (shared a b c d) = true then 3 else 1
theorem spec_meet_eq (a b c d : S53) : spec_l02Meet.f a.f0 a.f1 b.f0 b.f1 c.f0 c.f1 d.f0 d.f1 = some (meetV a b c d) := by
  unfold spec_l02Meet.f meetV
  simp only [spec_cross_eq, spec_sign_eq, spec_on_eq, Option.bind_some]
  show (if crosses a b c d = true then some 2 else if (shared a b c d).length = 0 then some 0 else if spec_l02Meet.far (shared a b c d) = true then some 3 else some 1) = _
  split
  · rfl
  · split
    · rfl
    · split <;> rfl
theorem mem_appif (t : Bool) (xs : List S53) (p : S53) (x : S53) : x ∈ spec_l02Meet.appif t xs p.f0 p.f1 ↔ x ∈ xs ∨ (t = true ∧ x = p) := by
  unfold spec_l02Meet.appif
  cases t <;> simp
theorem has_mem (xs : List S53) (p : S53) : impl_meet.has xs p.f0 p.f1 = true ↔ p ∈ xs := by
  unfold impl_meet.has
  rw [List.any_eq_true]
  constructor
  · rintro ⟨q, hq, h⟩
    obtain ⟨h0, h1⟩ : p.f0 = q.f0 ∧ p.f1 = q.f1 := by simpa using h
    cases p; cases q
    simp only at h0 h1
    subst h0; subst h1
    exact hq
  · intro h
    exact ⟨p, h, by simp⟩
theorem mem_addif (t : Bool) (xs : List S53) (p : S53) (x : S53) : x ∈ impl_meet.addif t xs p.f0 p.f1 ↔ x ∈ xs ∨ (t = true ∧ x = p) := by
  unfold impl_meet.addif impl_meet.addp
  cases t with
  | false => simp
  | true =>
    rw [if_pos rfl]
    split
    · rename_i h
      rw [has_mem] at h
      constructor
      · exact fun h2 => .inl h2
      · rintro (h2 | ⟨_, rfl⟩)
        · exact h2
        · exact h
    · simp
theorem nodup_addif (t : Bool) (xs : List S53) (p : S53) (h : xs.Nodup) : (impl_meet.addif t xs p.f0 p.f1).Nodup := by
  unfold impl_meet.addif impl_meet.addp
  split
  · split
    · exact h
    · rename_i h2
      rw [has_mem] at h2
      rw [List.nodup_append]
      refine ⟨h, by simp, fun a ha b hb => ?_⟩
      rw [List.mem_singleton] at hb
      subst hb
      intro e
      exact h2 (by rw [e] at ha; exact ha)
  · exact h
theorem ends_mem (a b c d x : S53) : x ∈ meetEnds a b c d ↔ x ∈ shared a b c d := by
  unfold meetEnds shared
  simp only [mem_addif, mem_appif]
  constructor
  · rintro ((((h | h) | h) | h) | h)
    · cases h
    · exact .inl (.inr h)
    · exact .inr h
    · exact .inl (.inl (.inl (.inr h)))
    · exact .inl (.inl (.inr h))
  · rintro ((((h | h) | h) | h) | h)
    · cases h
    · exact .inl (.inr h)
    · exact .inr h
    · exact .inl (.inl (.inl (.inr h)))
    · exact .inl (.inl (.inr h))
theorem ends_nodup (a b c d : S53) : (meetEnds a b c d).Nodup := nodup_addif _ _ _ (nodup_addif _ _ _ (nodup_addif _ _ _ (nodup_addif _ _ _ List.nodup_nil)))
theorem w64_0 : wrap64 0 = 0 := w64 (by omega) (by omega)
theorem sgn0 {n : Int} (h : n = 0) : sgn n = 0 := by subst h; rfl
theorem crosses_f {a b c d : S53} (h : crossW a b c = 0 ∨ crossW a b d = 0 ∨ crossW c d a = 0 ∨ crossW c d b = 0) : crosses a b c d = false := by
  have w0 : ¬ wrap64 0 < 0 := by rw [w64_0]; decide
  unfold crosses
  rcases h with h | h | h | h <;> rw [sgn0 h] <;> simp [w0]
theorem onB_cross {a b p : S53} (h : onB a b p = true) : crossW a b p = 0 := by
  unfold onB at h
  simp only [Bool.and_eq_true, decide_eq_true_eq] at h
  exact h.1
theorem shared_crosses {a b c d x : S53} (h : x ∈ shared a b c d) : crosses a b c d = false := by
  unfold shared at h
  simp only [mem_appif] at h
  apply crosses_f
  rcases h with (((h | h) | h) | h) | h
  · cases h
  · exact .inr (.inr (.inl (onB_cross h.1)))
  · exact .inr (.inr (.inr (onB_cross h.1)))
  · exact .inl (onB_cross h.1)
  · exact .inr (.inl (onB_cross h.1))
theorem far_iff (xs : List S53) : spec_l02Meet.far xs = true ↔ ∃ q ∈ xs, q ≠ rd_T53 xs 0 := by
  unfold spec_l02Meet.far
  rw [List.any_eq_true]
  constructor
  · rintro ⟨q, hq, h⟩
    refine ⟨q, hq, fun e => ?_⟩
    rw [← e] at h
    simp at h
  · rintro ⟨q, hq, h⟩
    refine ⟨q, hq, ?_⟩
    rw [Bool.not_eq_true', Bool.and_eq_false_iff]
    by_cases h0 : q.f0 = (rd_T53 xs 0).f0
    · by_cases h1 : q.f1 = (rd_T53 xs 0).f1
      · exact absurd (by cases q; generalize rd_T53 xs 0 = y at *; cases y; simp_all) h
      · exact .inr (by simpa using h1)
    · exact .inl (by simpa using h0)
theorem impl_meet_eq (a b c d : S53) : impl_meet.f a.f0 a.f1 b.f0 b.f1 c.f0 c.f1 d.f0 d.f1 = some (meetV a b c d) := by
  unfold impl_meet.f meetV
  simp only [impl_cross_eq, impl_sign_eq, impl_on_eq, Option.bind_some]
  show (if (meetEnds a b c d).length > 1 then some 3 else if (meetEnds a b c d).length = 1 then some 1 else if wrap64 (sgn (crossW a b c) * sgn (crossW a b d)) < 0 then (if wrap64 (sgn (crossW c d a) * sgn (crossW c d b)) < 0 then some 2 else some 0) else some 0) = _
  have hm := ends_mem a b c d
  have hn := ends_nodup a b c d
  by_cases hS : shared a b c d = []
  · have hE : meetEnds a b c d = [] := by
      rw [List.eq_nil_iff_forall_not_mem]
      intro x hx
      rw [hm, hS] at hx
      cases hx
    rw [hE, hS]
    simp only [List.length_nil, if_true]
    rw [if_neg (by omega), if_neg (by omega)]
    unfold crosses
    by_cases h1 : wrap64 (sgn (crossW a b c) * sgn (crossW a b d)) < 0 <;> by_cases h2 : wrap64 (sgn (crossW c d a) * sgn (crossW c d b)) < 0 <;> simp [h1, h2]
  · obtain ⟨y, S, hy⟩ : ∃ y S, shared a b c d = y :: S := by
      cases h : shared a b c d with
      | nil => exact absurd h hS
      | cons y S => exact ⟨y, S, rfl⟩
    have hcr : crosses a b c d = false := shared_crosses (x := y) (by rw [hy]; exact List.mem_cons_self)
    have hR : ∀ z : Int, (if crosses a b c d = true then 2 else if (shared a b c d).length = 0 then 0 else z) = z := fun z => by rw [hcr, if_neg (by decide), if_neg (by rw [hy]; simp)]
    rw [hR]
    have h0 : rd_T53 (shared a b c d) 0 = y := by rw [hy]; rfl
    generalize meetEnds a b c d = E at hm hn
    match E, hm, hn with
    | [], hm, _ => exact absurd ((hm y).2 (by rw [hy]; exact List.mem_cons_self)) (by simp)
    | [x], hm, _ =>
      have hf : ¬ spec_l02Meet.far (shared a b c d) = true := by
        rw [far_iff, h0]
        rintro ⟨q, hq, hne⟩
        have h1 := (hm q).2 hq
        have h2 := (hm y).2 (by rw [hy]; exact List.mem_cons_self)
        rw [List.mem_singleton] at h1 h2
        exact hne (h1.trans h2.symm)
      rw [if_neg hf]
      rfl
    | x :: z :: E, hm, hn =>
      have hf : spec_l02Meet.far (shared a b c d) = true := by
        rw [far_iff, h0]
        have hxz : x ≠ z := by
          intro e
          rw [List.nodup_cons] at hn
          exact hn.1 (by rw [e]; exact List.mem_cons_self)
        by_cases e : x = y
        · exact ⟨z, (hm z).1 (by simp), fun e2 => hxz (e.trans e2.symm)⟩
        · exact ⟨x, (hm x).1 (by simp), e⟩
      rw [if_pos hf]
      exact if_pos (by simp)
theorem crossW_self0 (a b : S53) : crossW a b a = 0 := by
  unfold crossW
  rw [Int.sub_self, Int.sub_self, w64_0, Int.mul_zero, Int.mul_zero, w64_0, Int.sub_self, w64_0]
theorem crossW_self1 (a b : S53) : crossW a b b = 0 := by
  unfold crossW
  rw [Int.mul_comm (wrap64 (b.f1 - a.f1)), Int.sub_self, w64_0]
theorem mn_le (a b : Int) : mn a b ≤ a ∧ mn a b ≤ b := by unfold mn; split <;> omega
theorem le_mx (a b : Int) : a ≤ mx a b ∧ b ≤ mx a b := by unfold mx; split <;> omega
theorem onB_0 (a b : S53) : onB a b a = true := by
  unfold onB
  simp [crossW_self0, mn_le, le_mx]
theorem onB_1 (a b : S53) : onB a b b = true := by
  unfold onB
  simp [crossW_self1, mn_le, le_mx]
theorem meet_share {a b c d : S53} (h : c = a ∨ c = b ∨ d = a ∨ d = b) : meetV a b c d = 1 ∨ meetV a b c d = 3 := by
  have hx : ∃ x, x ∈ shared a b c d := by
    unfold shared
    simp only [mem_appif]
    rcases h with rfl | rfl | rfl | rfl
    · exact ⟨c, .inl (.inr ⟨onB_0 _ _, rfl⟩)⟩
    · exact ⟨c, .inl (.inr ⟨onB_1 _ _, rfl⟩)⟩
    · exact ⟨d, .inr ⟨onB_0 _ _, rfl⟩⟩
    · exact ⟨d, .inr ⟨onB_1 _ _, rfl⟩⟩
  obtain ⟨x, hx⟩ := hx
  unfold meetV
  rw [shared_crosses hx, if_neg (by decide), if_neg (fun h => by rw [List.length_eq_zero_iff] at h; rw [h] at hx; cases hx)]
  split
  · exact .inr rfl
  · exact .inl rfl
/-! polyBase -/
def allF (P : Nat → Bool) : Nat → Nat → Bool
  | _, 0 => true
  | i, d + 1 => P i && allF P (i + 1) d
theorem allF_iff (P : Nat → Bool) : ∀ d i, allF P i d = true ↔ ∀ j, i ≤ j → j < i + d → P j = true
  | 0, i => ⟨fun _ j h0 h1 => by omega, fun _ => rfl⟩
  | d + 1, i => by
    rw [allF, Bool.and_eq_true, allF_iff P d (i + 1)]
    constructor
    · rintro ⟨h0, h⟩ j h1 h2
      by_cases e : j = i
      · rw [e]; exact h0
      · exact h j (by omega) (by omega)
    · intro h
      exact ⟨h i (Nat.le_refl _) (by omega), fun j h1 h2 => h j (by omega) (by omega)⟩
theorem allF_t {P : Nat → Bool} {i d : Nat} (h : P i = true) : allF P i (d + 1) = allF P (i + 1) d := by simp [allF, h]
theorem allF_f {P : Nat → Bool} {i d : Nat} (h : P i = false) : allF P i (d + 1) = false := by simp [allF, h]
def pt (p : List S53) (j : Nat) : S53 := rd_T53 p (j : Int)
theorem tmod_nxt {i n : Nat} (hi : i < 1152921504606846976) : Int.tmod (wrap64 ((i : Int) + 1)) (n : Int) = (((i + 1) % n : Nat) : Int) := by
  rw [w64s i (by omega)]
  rfl
def nx (p : List S53) (j : Nat) : S53 := pt p ((j + 1) % p.length)
def edgeNe (p : List S53) (j : Nat) : Bool := !(ptEq (pt p j) (nx p j))
def pairB (p : List S53) (i k : Nat) : Bool := decide (meetV (pt p i) (nx p i) (pt p k) (nx p k) = impl_PolygonOk.want (p.length : Int) (i : Int) (k : Int))
def rowB (p : List S53) (i : Nat) : Bool := allF (pairB p i) (i + 1) (p.length - (i + 1))
def polyOk (p : List S53) : Bool := decide (3 ≤ p.length ∧ p.length ≤ 10) && (p.all ptOk && (allF (edgeNe p) 0 p.length && allF (rowB p) 0 p.length))
theorem polyOk_len {p : List S53} (h : polyOk p = true) : 3 ≤ p.length ∧ p.length ≤ 10 := by
  unfold polyOk at h
  rw [Bool.and_eq_true, decide_eq_true_eq] at h
  exact h.1
theorem polyOk_pt {p : List S53} (h : polyOk p = true) {j : Nat} (hj : j < p.length) : (0 ≤ (pt p j).f0 ∧ (pt p j).f0 ≤ 40) ∧ 0 ≤ (pt p j).f1 ∧ (pt p j).f1 ≤ 40 := by
  unfold polyOk at h
  simp only [Bool.and_eq_true, List.all_eq_true] at h
  have h2 := h.2.1 _ (List.getElem_mem hj)
  unfold pt
  rw [rdP _ _ hj]
  unfold ptOk at h2
  simpa using h2
/-! specPoly -/
theorem spec_poly_l3 (p : List S53) (hn : p.length ≤ 10) (i : Nat) (hi : i < p.length) (R : Bool) (c : Int) (hR : Ev (fun k => spec_PolygonOk.l2 k p (p.length : Int) c (wrap64 ((i : Int) + 1))) R) :
    ∀ d k : Nat, k + d = p.length → Ev (fun f => spec_PolygonOk.l3 f p (p.length : Int) (i : Int) (k : Int) c (i : Int)) (allF (pairB p i) k d && R) := by
  intro d
  induction d with
  | zero =>
    intro k hk
    refine Ev.step (fun f => by rw [spec_PolygonOk.l3]) ?_
    refine evF (by omega) ?_
    simpa [allF] using hR
  | succ d ih =>
    intro k hk
    have ti := tmod_nxt (i := i) (n := p.length) (by omega)
    have tk := tmod_nxt (i := k) (n := p.length) (by omega)
    have hmi : (i + 1) % p.length < p.length := Nat.mod_lt _ (by omega)
    have hmk : (k + 1) % p.length < p.length := Nat.mod_lt _ (by omega)
    refine Ev.step (fun f => by rw [spec_PolygonOk.l3]) ?_
    refine evT (by omega) (evT (by omega) (evT (by omega) (evF (by omega) ?_)))
    rw [ti, tk]
    refine evT (by omega) (evT (by omega) (evT (by omega) (evT (by omega) (evT (by omega) (evT (by omega) ?_)))))
    refine evB (spec_meet_eq (pt p i) (nx p i) (pt p k) (nx p k)) ?_
    have hj : ∀ b : Bool, ((if b = true then (1 : Int) else 0) = impl_PolygonOk.want (p.length : Int) (i : Int) (k : Int)) → Ev (fun f => spec_PolygonOk.j4 f p (p.length : Int) (i : Int) (k : Int) (meetV (pt p i) (nx p i) (pt p k) (nx p k)) c (i : Int) b) (allF (pairB p i) k (d + 1) && R) := by
      intro b hb
      refine Ev.step (fun f => by rw [spec_PolygonOk.j4]) ?_
      by_cases hm : meetV (pt p i) (nx p i) (pt p k) (nx p k) = impl_PolygonOk.want (p.length : Int) (i : Int) (k : Int)
      · have h1 : pairB p i k = true := decide_eq_true hm
        rw [allF_t h1]
        have := ih (k + 1) (by omega)
        rw [← w64s k (by omega)] at this
        cases b with
        | true => exact evT rfl (evT (by rw [hm, ← hb]; rfl) this)
        | false => exact evF (by decide) (evT (by rw [hm, ← hb]; rfl) this)
      · have h1 : pairB p i k = false := decide_eq_false hm
        rw [allF_f h1]
        cases b with
        | true => exact evT rfl (evF (by rw [if_pos rfl] at hb; omega) (evSome _))
        | false => exact evF (by decide) (evF (by rw [if_neg (by decide)] at hb; omega) (evSome _))
    have w1 : wrap64 ((i : Int) + 1) = (i : Int) + 1 := w64 (by omega) (by omega)
    have w2 : wrap64 ((p.length : Int) - 1) = (p.length : Int) - 1 := w64 (by omega) (by omega)
    by_cases e1 : (k : Int) = wrap64 ((i : Int) + 1)
    · refine evT e1 (hj true ?_)
      show (1 : Int) = impl_PolygonOk.want _ _ _
      unfold impl_PolygonOk.want
      rw [if_pos (by omega)]
    · refine evF e1 ?_
      by_cases e2 : (i : Int) = 0
      · refine evT e2 (hj _ ?_)
        have hw : impl_PolygonOk.want (p.length : Int) (i : Int) (k : Int) = if (k : Int) = (p.length : Int) - 1 then 1 else 0 := by
          unfold impl_PolygonOk.want
          rw [if_neg (by omega), if_pos e2]
        rw [hw, w2]
        by_cases e3 : (k : Int) = (p.length : Int) - 1
        · rw [if_pos e3, if_pos (by rw [e3]; simp)]
        · rw [if_neg e3, if_neg (by simpa using e3)]
      · refine evF e2 (hj false ?_)
        show (0 : Int) = impl_PolygonOk.want _ _ _
        unfold impl_PolygonOk.want
        rw [if_neg (by omega), if_neg e2]
theorem spec_poly_l2 (p : List S53) (hn : p.length ≤ 10) : ∀ d i : Nat, i + d = p.length → Ev (fun f => spec_PolygonOk.l2 f p (p.length : Int) (p.length : Int) (i : Int)) (allF (rowB p) i d) := by
  intro d
  induction d with
  | zero =>
    intro i hi
    refine Ev.step (fun f => by rw [spec_PolygonOk.l2]) ?_
    exact evF (by omega) (evSome _)
  | succ d ih =>
    intro i hi
    refine Ev.step (fun f => by rw [spec_PolygonOk.l2]) ?_
    refine evT (by omega) ?_
    have h2 := ih (i + 1) (by omega)
    rw [← w64s i (by omega)] at h2
    have h := spec_poly_l3 p hn i (by omega) _ _ h2 (p.length - (i + 1)) (i + 1) (by omega)
    rw [← w64s i (by omega)] at h
    exact h
theorem spec_poly_l1 (p : List S53) (hn : p.length ≤ 10) : ∀ d i : Nat, i + d = p.length → Ev (fun f => spec_PolygonOk.l1 f p (p.length : Int) (p.length : Int) (i : Int)) (allF (edgeNe p) i d && allF (rowB p) 0 p.length) := by
  intro d
  induction d with
  | zero =>
    intro i hi
    refine Ev.step (fun f => by rw [spec_PolygonOk.l1]) ?_
    refine evF (by omega) ?_
    simpa [allF] using spec_poly_l2 p hn p.length 0 (by omega)
  | succ d ih =>
    intro i hi
    have ti := tmod_nxt (i := i) (n := p.length) (by omega)
    have hmi : (i + 1) % p.length < p.length := Nat.mod_lt _ (by omega)
    refine Ev.step (fun f => by rw [spec_PolygonOk.l1]) ?_
    refine evT (by omega) (evT (by omega) (evT (by omega) (evF (by omega) ?_)))
    rw [ti]
    refine evT (by omega) (evT (by omega) ?_)
    by_cases e : ptEq (pt p i) (nx p i) = true
    · refine evT e ?_
      rw [allF_f (by unfold edgeNe; rw [e]; rfl)]
      exact evSome _
    · refine evF e ?_
      rw [allF_t (by unfold edgeNe; rw [Bool.not_eq_true] at e; rw [e]; rfl), w64s i (by omega)]
      exact ih (i + 1) (by omega)
theorem spec_poly_l0 (p : List S53) (hn : p.length ≤ 10) : ∀ i, i ≤ p.length → Ev (fun k => spec_PolygonOk.l0 k p p (p.length : Int) (i : Int)) ((p.drop i).all ptOk && (allF (edgeNe p) 0 p.length && allF (rowB p) 0 p.length)) := by
  refine down p.length ?_ ?_
  · refine Ev.step (fun f => by rw [spec_PolygonOk.l0]) ?_
    refine evF (by omega) ?_
    rw [List.drop_length]
    simpa using spec_poly_l1 p hn p.length 0 (by omega)
  · intro i hi ih
    refine Ev.step (fun f => by rw [spec_PolygonOk.l0]) ?_
    refine evT (by omega) (evT (by omega) (evT (by omega) ?_))
    refine evB (spec_PointOk_eq _ _) ?_
    rw [all_drop _ _ _ hi, rdP _ _ hi, w64s i (by omega)]
    cases h : ptOk p[i] with
    | true => exact evT rfl (by simpa using ih)
    | false => exact evF (by decide) (by simpa using evSome false)
theorem spec_poly_ev (p : List S53) : Ev (fun k => spec_PolygonOk.f k p) (polyOk p) := by
  unfold spec_PolygonOk.f polyOk
  by_cases h : 3 ≤ p.length ∧ p.length ≤ 10
  · refine evB (l01In_t (by omega) (by omega)) (evT rfl ?_)
    have := spec_poly_l0 p h.2 0 (by omega)
    simpa [h] using this
  · refine evB (l01In_f (by omega)) (evF (by decide) ?_)
    simpa [h] using evSome false
/-! implPoly -/
def cellB (p : List S53) (i k : Nat) : Bool := edgeNe p i && (edgeNe p k && pairB p i k)
theorem impl_poly_row (p : List S53) (hn : p.length ≤ 10) (i : Nat) (hi : i < p.length) (R : Bool) (hR : Ev (fun f => if (i : Int) + 1 < (p.length : Int) then impl_PolygonOk.li p f ((i : Int) + 1) ((i : Int) + 2) else some true) R) :
    ∀ d k : Nat, k + d = p.length → i < k → Ev (fun f => impl_PolygonOk.li p f (i : Int) (k : Int)) (allF (cellB p i) k d && R) := by
  intro d
  induction d with
  | zero =>
    intro k hk hik
    refine Ev.step (fun f => by rw [impl_PolygonOk.li]) ?_
    refine evF (by omega) ?_
    simpa [allF] using hR
  | succ d ih =>
    intro k hk hik
    have tk : ((k : Int) + 1) % (p.length : Int) = (((k + 1) % p.length : Nat) : Int) := rfl
    have ti : (i + 1) % p.length = i + 1 := Nat.mod_eq_of_lt (by omega)
    have hx : rd_T53 p ((i : Int) + 1) = nx p i := by unfold nx pt; rw [ti]; rfl
    have hy : rd_T53 p (((k : Int) + 1) % (p.length : Int)) = nx p k := by unfold nx pt; rw [tk]
    refine Ev.step (fun f => by rw [impl_PolygonOk.li]) ?_
    refine evT (by omega) ?_
    rw [hx, hy]
    by_cases e : ptEq (pt p i) (nx p i) = true
    · refine evT e ?_
      rw [allF_f (by unfold cellB edgeNe; rw [e]; rfl)]
      exact evSome _
    · refine evF e ?_
      have e' : edgeNe p i = true := by unfold edgeNe; rw [Bool.not_eq_true] at e; rw [e]; rfl
      by_cases g : ptEq (pt p k) (nx p k) = true
      · refine evT g ?_
        rw [allF_f (by unfold cellB; rw [e']; unfold edgeNe; rw [g]; rfl)]
        exact evSome _
      · refine evF g ?_
        have g' : edgeNe p k = true := by unfold edgeNe; rw [Bool.not_eq_true] at g; rw [g]; rfl
        refine evB (impl_meet_eq (pt p i) (nx p i) (pt p k) (nx p k)) ?_
        by_cases hm : meetV (pt p i) (nx p i) (pt p k) (nx p k) = impl_PolygonOk.want (p.length : Int) (i : Int) (k : Int)
        · refine evT hm ?_
          rw [allF_t (by unfold cellB pairB; rw [e', g', decide_eq_true hm]; rfl)]
          exact ih (k + 1) (by omega) (by omega)
        · refine evF hm ?_
          rw [allF_f (by unfold cellB pairB; rw [e', g', decide_eq_false hm]; rfl)]
          exact evSome _
def rowC (p : List S53) (i : Nat) : Bool := allF (cellB p i) (i + 1) (p.length - (i + 1))
theorem impl_poly_li (p : List S53) (hn : p.length ≤ 10) : ∀ d i : Nat, i + 1 + d = p.length → Ev (fun f => impl_PolygonOk.li p f (i : Int) ((i : Int) + 1)) (allF (rowC p) i (d + 1)) := by
  intro d
  induction d with
  | zero =>
    intro i hi
    have h := impl_poly_row p hn i (by omega) true (evF (by omega) (evSome _)) (p.length - (i + 1)) (i + 1) (by omega) (by omega)
    rw [allF, allF]
    exact h
  | succ d ih =>
    intro i hi
    have h1 := ih (i + 1) (by omega)
    have h := impl_poly_row p hn i (by omega) _ (evT (by omega) (by rw [show (((i + 1 : Nat) : Int) + 1) = (i : Int) + 2 by omega] at h1; exact h1)) (p.length - (i + 1)) (i + 1) (by omega) (by omega)
    rw [allF]
    exact h
theorem rows_same (p : List S53) (h3 : 3 ≤ p.length) : allF (rowC p) 0 p.length = (allF (edgeNe p) 0 p.length && allF (rowB p) 0 p.length) := by
  rw [Bool.eq_iff_iff, Bool.and_eq_true, allF_iff, allF_iff, allF_iff]
  have hB : ∀ j, rowB p j = true ↔ ∀ k, j + 1 ≤ k → k < j + 1 + (p.length - (j + 1)) → pairB p j k = true := fun j => allF_iff _ _ _
  have hC : ∀ j, rowC p j = true ↔ ∀ k, j + 1 ≤ k → k < j + 1 + (p.length - (j + 1)) → cellB p j k = true := fun j => allF_iff _ _ _
  have hc : ∀ i k, cellB p i k = true ↔ edgeNe p i = true ∧ edgeNe p k = true ∧ pairB p i k = true := fun i k => by unfold cellB; rw [Bool.and_eq_true, Bool.and_eq_true]
  constructor
  · intro h
    refine ⟨fun j _ hj => ?_, fun j _ hj => (hB j).2 fun k h1 h2 => ((hc j k).1 ((hC j).1 (h j (by omega) hj) k h1 h2)).2.2⟩
    by_cases e : j + 1 < p.length
    · exact ((hc j (j + 1)).1 ((hC j).1 (h j (by omega) hj) (j + 1) (by omega) (by omega))).1
    · exact ((hc 0 j).1 ((hC 0).1 (h 0 (by omega) (by omega)) j (by omega) (by omega))).2.1
  · rintro ⟨h1, h2⟩ j _ hj
    exact (hC j).2 fun k h3 h4 => (hc j k).2 ⟨h1 j (by omega) hj, h1 k (by omega) (by omega), (hB j).1 (h2 j (by omega) hj) k h3 h4⟩
theorem impl_poly_ev (p : List S53) (hl : p.length ≤ 1048576) : Ev (fun k => impl_PolygonOk.f k p) (polyOk p) := by
  unfold impl_PolygonOk.f polyOk
  by_cases h : 3 ≤ p.length ∧ p.length ≤ 10
  · refine evF (by omega) ?_
    refine Ev.bind (arePoints_ev p (by omega)) ?_
    rw [decide_eq_true h, Bool.true_and]
    cases ha : p.all ptOk with
    | false => exact evF (by decide) (evSome _)
    | true =>
      refine evT rfl ?_
      rw [Bool.true_and, ← rows_same p h.1]
      have := impl_poly_li p h.2 (p.length - 1) 0 (by omega)
      rw [show p.length - 1 + 1 = p.length by omega] at this
      exact this
  · refine evT (by omega) ?_
    rw [decide_eq_false h]
    exact evSome _
/-! twices -/
theorem tw_add (x P Q : Int) : wrap64 (wrap64 (x + P) - Q) = wrap64 (x + wrap64 (P - Q)) := by unfold wrap64; omega
theorem twice_l0 (q : List S53) (hq : 1 ≤ q.length ∧ q.length ≤ 1000) : ∀ (d i : Nat) (x : Int), i + d = q.length → ∃ t, Ev (fun f => spec_l03Twice.l0 f q x q (q.length : Int) (i : Int)) t ∧ Ev (fun f => impl_twice.l0 f q x q (q.length : Int) (i : Int)) t := by
  intro d
  induction d with
  | zero =>
    intro i x hi
    refine ⟨x, ?_, ?_⟩
    · refine Ev.step (fun f => by rw [spec_l03Twice.l0]) ?_
      exact evF (by omega) (evSome _)
    · refine Ev.step (fun f => by rw [impl_twice.l0]) ?_
      exact evF (by omega) (evSome _)
  | succ d ih =>
    intro i x hi
    have ti := tmod_nxt (i := i) (n := q.length) (by omega)
    have hmi : (i + 1) % q.length < q.length := Nat.mod_lt _ (by omega)
    obtain ⟨t, h1, h2⟩ := ih (i + 1) (wrap64 (x + wrap64 (wrap64 ((rd_T53 q (i : Int)).f0 * (rd_T53 q (((i + 1) % q.length : Nat) : Int)).f1) - wrap64 ((rd_T53 q (i : Int)).f1 * (rd_T53 q (((i + 1) % q.length : Nat) : Int)).f0)))) (by omega)
    refine ⟨t, ?_, ?_⟩
    · refine Ev.step (fun f => by rw [spec_l03Twice.l0]) ?_
      rw [ti, w64s i (by omega), tw_add]
      exact evT (by omega) (evT (by omega) (evT (by omega) (evF (by omega) (evT (by omega) (evT (by omega) h1)))))
    · refine Ev.step (fun f => by rw [impl_twice.l0]) ?_
      rw [ti, w64s i (by omega)]
      exact evT (by omega) (evT (by omega) (evT (by omega) (evF (by omega) (evT (by omega) (evT (by omega) h2)))))
theorem twice_ev (q : List S53) (hq : 1 ≤ q.length ∧ q.length ≤ 1000) : ∃ t, Ev (fun f => spec_l03Twice.f f q) t ∧ Ev (fun f => impl_twice.f f q) t := by
  obtain ⟨t, h1, h2⟩ := twice_l0 q hq q.length 0 0 (by omega)
  exact ⟨t, h1, h2⟩
/-! fmtBase -/
def I64' (x : Int) : Prop := -9223372036854775808 ≤ x ∧ x ≤ 9223372036854775807
def itob (n : Int) : ByteArray := ⟨(Lib.itoa n).toArray⟩
theorem ba_ext {a b : ByteArray} (h : a.data.toList = b.data.toList) : a = b := by
  obtain ⟨⟨a⟩⟩ := a
  obtain ⟨⟨b⟩⟩ := b
  exact congrArg (fun l => (⟨⟨l⟩⟩ : ByteArray)) h
theorem ba_size (l : List UInt8) : (⟨l.toArray⟩ : ByteArray).size = l.length := by show l.toArray.size = _; exact List.size_toArray
theorem ba_size' (b : ByteArray) : b.size = b.data.toList.length := by rw [Array.length_toList]; rfl
theorem ba_app (a b : List UInt8) : (⟨a.toArray⟩ : ByteArray) ++ (⟨b.toArray⟩ : ByteArray) = ⟨(a ++ b).toArray⟩ := by
  apply ba_ext
  rw [ByteArray.data_append, Array.toList_append]
theorem ba_app_l (a b : ByteArray) : (a ++ b).data.toList = a.data.toList ++ b.data.toList := by rw [ByteArray.data_append, Array.toList_append]
theorem itob_data (n : Int) : (itob n).data.toList = Lib.itoa n := rfl
theorem one_num (d : Nat) (h : d < 10) : strOfNums [((48 + d : Nat) : Int)] = ⟨([UInt8.ofNat (48 + d)] : List UInt8).toArray⟩ := by
  apply ba_ext
  rw [strOfNums_data, List.map_cons, List.map_nil, Int.toNat_natCast]
theorem dec_len : ∀ (k u : Nat), 1 ≤ k → u < 10 ^ k → (Lib.decDigits u).length ≤ k
  | 0, u, h, _ => by omega
  | k + 1, u, _, h => by
    rw [Lib.decDigits]
    split
    · simp
    · rename_i h9
      rw [List.length_append, List.length_singleton]
      have hk : 1 ≤ k := by
        cases k with
        | zero => simp at h; omega
        | succ k => omega
      have := dec_len k (u / 10) hk (by rw [Nat.pow_succ] at h; omega)
      omega
theorem itoa_len (n : Int) (h : I64' n) : (Lib.itoa n).length ≤ 20 := by
  unfold I64' at h
  unfold Lib.itoa
  split
  · have := dec_len 19 n.natAbs (by decide) (by omega)
    rw [List.length_cons]; omega
  · have := dec_len 19 n.toNat (by decide) (by omega)
    omega
/-! fmtInt -/
theorem one_ch (u : Nat) (h9 : u < 10) : (wrap64 (48 + (u : Int))) % 256 = ((48 + u : Nat) : Int) := by rw [w64 (by omega) (by omega)]; omega
theorem fmt_l0 : ∀ (m : Nat) (u : Nat) (acc : List UInt8), u < 10 ^ (m + 1) → acc.length + m ≤ 1000 → u < 9223372036854775808 → Ev (fun k => spec_FormatInt.l0 k (u : Int) ⟨acc.toArray⟩) ⟨(Lib.decDigits u ++ acc).toArray⟩ := by
  intro m
  induction m with
  | zero =>
    intro u acc hu h2 h1
    have h9 : u < 10 := by simpa using hu
    refine Ev.step (fun k => by rw [spec_FormatInt.l0]) ?_
    refine evF (by omega) ?_
    rw [one_ch u h9]
    refine evB rfl ?_
    rw [one_num u h9]
    refine evT (by rw [ba_size, ba_size]; simp; omega) ?_
    rw [ba_app, Lib.decDigits, dif_pos h9]
    exact evSome _
  | succ m ih =>
    intro u acc hu h2 h1
    refine Ev.step (fun k => by rw [spec_FormatInt.l0]) ?_
    by_cases h9 : u < 10
    · refine evF (by omega) ?_
      rw [one_ch u h9]
      refine evB rfl ?_
      rw [one_num u h9]
      refine evT (by rw [ba_size, ba_size]; simp; omega) ?_
      rw [ba_app, Lib.decDigits, dif_pos h9]
      exact evSome _
    · refine evT (by omega) ?_
      have e0 : Int.tmod (u : Int) 10 = ((u % 10 : Nat) : Int) := by rw [Int.tmod_eq_emod_of_nonneg (by omega)]; omega
      have e1 : Int.tdiv (u : Int) 10 = ((u / 10 : Nat) : Int) := by rw [Int.tdiv_eq_ediv_of_nonneg (by omega)]; omega
      rw [e0, e1, one_ch _ (by omega), w64 (x := ((u / 10 : Nat) : Int)) (by omega) (by omega)]
      refine evB rfl ?_
      rw [one_num (u % 10) (by omega)]
      refine evT (by rw [ba_size, ba_size]; simp; omega) ?_
      rw [ba_app]
      have := ih (u / 10) ([UInt8.ofNat (48 + u % 10)] ++ acc) (by rw [Nat.pow_succ] at hu; omega) (by simp; omega) (by omega)
      rw [Lib.decDigits, dif_neg h9, List.append_assoc]
      exact this
theorem fmt_neg : ∀ (m : Nat) (u : Nat), 1 ≤ u → u < 10 ^ (m + 1) → u ≤ 9223372036854775808 → m ≤ 30 → Ev (fun k => spec_FormatInt.f k (-(u : Int))) ⟨(45 :: Lib.decDigits u).toArray⟩ := by
  intro m
  induction m with
  | zero =>
    intro u h0 hu h1 hm
    have h9 : u < 10 := by simpa using hu
    refine Ev.step (fun k => by rw [spec_FormatInt.f]) ?_
    refine evT (by omega) ?_
    have e1 : Int.tdiv (-(u : Int)) 10 = 0 := by rw [Int.neg_tdiv, Int.tdiv_eq_ediv_of_nonneg (by omega)]; omega
    rw [e1]
    refine evT (w64 (by omega) (by omega)) ?_
    have e : (48 - (-(u : Int))) = 48 + (u : Int) := by omega
    rw [e, one_ch u h9]
    refine evB rfl ?_
    rw [one_num u h9]
    refine evT (by rw [ba_size]; simp) ?_
    rw [Lib.decDigits, dif_pos h9]
    exact evSome _
  | succ m ih =>
    intro u h0 hu h1 hm
    refine Ev.step (fun k => by rw [spec_FormatInt.f]) ?_
    refine evT (by omega) ?_
    have e1 : Int.tdiv (-(u : Int)) 10 = -((u / 10 : Nat) : Int) := by rw [Int.neg_tdiv, Int.tdiv_eq_ediv_of_nonneg (by omega)]; omega
    have e0 : Int.tmod (-(u : Int)) 10 = -((u % 10 : Nat) : Int) := by rw [Int.neg_tmod, Int.tmod_eq_emod_of_nonneg (by omega)]; omega
    rw [e1, e0, w64 (x := -((u / 10 : Nat) : Int)) (by omega) (by omega)]
    by_cases h9 : u < 10
    · refine evT (by omega) ?_
      have e : (48 - (-(u : Int))) = 48 + (u : Int) := by omega
      rw [e, one_ch u h9]
      refine evB rfl ?_
      rw [one_num u h9]
      refine evT (by rw [ba_size]; simp) ?_
      rw [Lib.decDigits, dif_pos h9]
      exact evSome _
    · refine evF (by omega) ?_
      refine Ev.bind (ih (u / 10) (by omega) (by rw [Nat.pow_succ] at hu; omega) (by omega) (by omega)) ?_
      have e : (48 - (-((u % 10 : Nat) : Int))) = 48 + ((u % 10 : Nat) : Int) := by omega
      rw [e, one_ch _ (by omega)]
      refine evB rfl ?_
      rw [one_num (u % 10) (by omega)]
      have hl := dec_len (m + 1) (u / 10) (by omega) (by rw [Nat.pow_succ] at hu; omega)
      refine evT (by rw [ba_size, ba_size]; simp; omega) ?_
      rw [ba_app]
      have e3 : Lib.decDigits u = Lib.decDigits (u / 10) ++ [UInt8.ofNat (48 + u % 10)] := by rw [Lib.decDigits, dif_neg h9]
      rw [e3, ← List.cons_append]
      exact evSome _
theorem spec_fmt_ev (n : Int) (h : I64' n) : Ev (fun k => spec_FormatInt.f k n) (itob n) := by
  unfold I64' at h
  unfold itob Lib.itoa
  by_cases h0 : n < 0
  · rw [if_pos h0]
    have := fmt_neg 18 n.natAbs (by omega) (by omega) (by omega) (by omega)
    rwa [show -((n.natAbs : Nat) : Int) = n by omega] at this
  · rw [if_neg h0]
    refine Ev.step (fun k => by rw [spec_FormatInt.f]) ?_
    refine evF h0 ?_
    have := fmt_l0 18 n.toNat [] (by omega) (by simp) (by omega)
    rwa [show ((n.toNat : Nat) : Int) = n by omega, List.append_nil] at this
/-! fmtImpl -/
theorem impl_fmt (n : Int) (h : I64' n) : impl_FormatInt.f n = some (itob n) := by
  unfold impl_FormatInt.f
  exact if_pos h
/-! joinBase -/
theorem join_len (xs : List (List UInt8)) (sep : List UInt8) (h : ∀ x ∈ xs, x.length ≤ 100000) (hs : sep.length ≤ 100000) : (Lib.join xs sep).length ≤ 200000 * xs.length := by
  cases xs with
  | nil => simp [Lib.join]
  | cons x r =>
    rw [Lib.join_cons, List.length_append, Lib.joinTail_length, List.length_cons]
    have h1 : Lib.lens r ≤ 100000 * r.length := by
      have hr : ∀ y ∈ r, y.length ≤ 100000 := fun y hy => h y (List.mem_cons_of_mem _ hy)
      clear h
      induction r with
      | nil => simp [Lib.lens]
      | cons y r ih =>
        have := ih (fun z hz => hr z (List.mem_cons_of_mem _ hz))
        have h2 := hr y List.mem_cons_self
        unfold Lib.lens at this ⊢
        simp only [List.map_cons, List.sum_cons, List.length_cons]
        omega
    have h2 := h x List.mem_cons_self
    have h3 : sep.length * r.length ≤ 100000 * r.length := Nat.mul_le_mul_right _ hs
    omega
theorem join_snoc (xs : List (List UInt8)) (sep y : List UInt8) (h : xs ≠ []) : Lib.join (xs ++ [y]) sep = Lib.join xs sep ++ sep ++ y := by
  cases xs with
  | nil => exact absurd rfl h
  | cons x r =>
    rw [List.cons_append, Lib.join_cons, Lib.join_cons]
    simp [Lib.joinTail]
/-! joinSpec -/
def joinB (l : List ByteArray) (sep : ByteArray) : ByteArray := ⟨(Lib.join (l.map (·.data.toList)) sep.data.toList).toArray⟩
theorem joinB_one (x sep : ByteArray) : joinB [x] sep = x := by
  apply ba_ext
  simp [joinB, Lib.join_one]
theorem joinB_snoc (l : List ByteArray) (sep x : ByteArray) (h : l ≠ []) : joinB (l ++ [x]) sep = joinB l sep ++ sep ++ x := by
  apply ba_ext
  unfold joinB
  rw [List.map_append, List.map_cons, List.map_nil, join_snoc _ _ _ (by simpa using h)]
  simp
theorem joinB_size (l : List ByteArray) (sep : ByteArray) (h : ∀ x ∈ l, x.size ≤ 100000) (hs : sep.size ≤ 100000) : (joinB l sep).size ≤ 200000 * l.length := by
  unfold joinB
  rw [ba_size]
  have := join_len (l.map (·.data.toList)) sep.data.toList (by
    intro x hx
    obtain ⟨y, hy, rfl⟩ := List.mem_map.1 hx
    have := h y hy
    rwa [ba_size'] at this) (by rwa [ba_size'] at hs)
  simpa using this
theorem join_l0 (l : List ByteArray) (sep : ByteArray) (h : ∀ x ∈ l, x.size ≤ 100000) (hs : sep.size ≤ 100000) (hl : l.length ≤ 1000000) : ∀ d i : Nat, i + d = l.length → Ev (fun k => spec_Join.l0 k sep (joinB (l.take i) sep) l (l.length : Int) (i : Int)) (joinB l sep) := by
  intro d
  induction d with
  | zero =>
    intro i hi
    refine Ev.step (fun k => by rw [spec_Join.l0]) ?_
    refine evF (by omega) ?_
    rw [List.take_of_length_le (by omega)]
    exact evSome _
  | succ d ih =>
    intro i hi
    have hr : rdOf ByteArray.empty l (i : Int) = l[i] := by unfold rdOf; rw [show ((i : Int)).toNat = i from by omega]; exact getD_eq _ _ _ (by omega)
    have hz := joinB_size (l.take i) sep (fun x hx => h x (List.mem_of_mem_take hx)) hs
    rw [List.length_take] at hz
    have hx := h l[i] (List.getElem_mem _)
    have hs1 : (joinB (l.take i) sep ++ sep).size = (joinB (l.take i) sep).size + sep.size := ByteArray.size_append
    have ih' := ih (i + 1) (by omega)
    refine Ev.step (fun k => by rw [spec_Join.l0]) ?_
    refine evT (by omega) (evT (by omega) (evT (by omega) ?_))
    rw [hr, w64s i (by omega)]
    rw [take_succ' l i (by omega)] at ih'
    by_cases h0 : i = 0
    · subst h0
      refine evF (by omega) ?_
      have e0 : joinB (List.take 0 l) sep = ByteArray.empty := rfl
      have e1 : List.take 0 l = [] := rfl
      rw [e1, List.nil_append, joinB_one] at ih'
      rw [e0] at hz ⊢
      refine evT (by rw [ByteArray.size_empty]; omega) ?_
      rw [ByteArray.empty_append]
      exact ih'
    · have hne : l.take i ≠ [] := by
        intro e
        have := congrArg List.length e
        rw [List.length_take, List.length_nil] at this
        omega
      rw [joinB_snoc _ _ _ hne] at ih'
      exact evT (by omega) (evT (by omega) (evT (by omega) ih'))
theorem spec_join_ev (l : List ByteArray) (sep : ByteArray) (h : ∀ x ∈ l, x.size ≤ 100000) (hs : sep.size ≤ 100000) (hl : l.length ≤ 1000000) : Ev (fun k => spec_Join.f k l sep) (joinB l sep) := by
  unfold spec_Join.f
  exact join_l0 l sep h hs hl l.length 0 (by omega)
/-! joinImpl -/
theorem impl_join (l : List ByteArray) (sep : ByteArray) (h : ∀ x ∈ l, x.size ≤ 100000) (hs : sep.size ≤ 100000) (hl : l.length ≤ 1000000) : impl_Join.f l sep = some (joinB l sep) := by
  have hz := joinB_size l sep h hs
  have h1 : strings_Join.f l sep = some (joinB l sep) := by
    unfold strings_Join.f
    unfold joinB at hz
    rw [ba_size] at hz
    exact if_pos ⟨by omega, by omega⟩
  unfold impl_Join.f
  rw [h1]
  rfl
/-! dashBase -/
def dashB (l : List ByteArray) (sep : ByteArray) : ByteArray := if l = [] then ⟨#[45]⟩ else joinB l sep
/-! fmtNumsSpec -/
def numsB (l : List Int) : ByteArray := if 40 < l.length then ⟨#[]⟩ else dashB (l.map itob) ⟨#[44]⟩
theorem words_small (l : List Int) (h : ∀ x ∈ l, I64' x) : ∀ x ∈ l.map itob, x.size ≤ 100000 := by
  intro x hx
  obtain ⟨y, hy, rfl⟩ := List.mem_map.1 hx
  have := itoa_len y (h y hy)
  unfold itob
  rw [ba_size]
  omega
theorem spec_nums_l0 (l : List Int) (h : ∀ x ∈ l, I64' x) (hl : l.length ≤ 40) : ∀ d i : Nat, i + d = l.length → Ev (fun k => spec_FormatNumbers.l0 k ((l.take i).map itob) l (l.length : Int) (i : Int)) (dashB (l.map itob) ⟨#[44]⟩) := by
  intro d
  induction d with
  | zero =>
    intro i hi
    refine Ev.step (fun k => by rw [spec_FormatNumbers.l0]) ?_
    refine evF (by omega) ?_
    rw [List.take_of_length_le (by omega)]
    unfold dashB
    by_cases h0 : l = []
    · subst h0
      exact evT (by simp) (by rw [if_pos (by simp)]; exact evSome _)
    · have : ¬ ((l.map itob).length : Int) = 0 := by
        have := List.length_pos_iff.2 h0
        rw [List.length_map]
        omega
      refine evF this ?_
      rw [if_neg (by simpa using h0)]
      exact Ev.bind (spec_join_ev _ _ (words_small l h) (by decide) (by rw [List.length_map]; omega)) (evSome _)
  | succ d ih =>
    intro i hi
    have hr : rd l (i : Int) = l[i] := by unfold rd; rw [show ((i : Int)).toNat = i from by omega]; exact getD_eq _ _ _ (by omega)
    have ih' := ih (i + 1) (by omega)
    rw [take_succ' l i (by omega), List.map_append, List.map_cons, List.map_nil] at ih'
    refine Ev.step (fun k => by rw [spec_FormatNumbers.l0]) ?_
    refine evT (by omega) (evT (by omega) (evT (by omega) ?_))
    rw [hr, w64s i (by omega)]
    refine Ev.bind (spec_fmt_ev _ (h _ (List.getElem_mem _))) ?_
    exact evT (by rw [List.length_map, List.length_take]; omega) ih'
theorem spec_nums_ev (l : List Int) (h : ∀ x ∈ l, I64' x) (hl : l.length ≤ 9223372036854775807) : Ev (fun k => spec_FormatNumbers.f k l) (numsB l) := by
  unfold spec_FormatNumbers.f numsB
  by_cases h40 : 40 < l.length
  · rw [if_pos h40]
    exact evT (by omega) (evSome _)
  · rw [if_neg h40]
    refine evF (by omega) ?_
    exact spec_nums_l0 l h (by omega) l.length 0 (by omega)
/-! sqBase -/
def fA (G : Nat → Nat → Int) (a b : Nat) : Nat → Int → Int
  | 0, x => x
  | k + 1, x => mn (fA G a b k x) (wrap64 (G (k + 1) b + G (a - (k + 1)) b))
def fB (G : Nat → Nat → Int) (a b : Nat) : Nat → Int → Int
  | 0, x => x
  | k + 1, x => mn (fB G a b k x) (wrap64 (G a (k + 1) + G a (b - (k + 1))))
def cellW (G : Nat → Nat → Int) (a b : Nat) : Int := fB G a b (b - 1) (fA G a b (a - 1) (if a = b then 1 else wrap64 ((a : Int) * (b : Int))))
theorem fA_congr {G H : Nat → Nat → Int} {a b : Nat} (h : ∀ k, 1 ≤ k → k < a → G k b = H k b) (x : Int) : ∀ j, j ≤ a - 1 → fA G a b j x = fA H a b j x
  | 0, _ => rfl
  | j + 1, hj => by rw [fA, fA, fA_congr h x j (by omega), h (j + 1) (by omega) (by omega), h (a - (j + 1)) (by omega) (by omega)]
theorem fB_congr {G H : Nat → Nat → Int} {a b : Nat} (h : ∀ k, 1 ≤ k → k < b → G a k = H a k) (x : Int) : ∀ j, j ≤ b - 1 → fB G a b j x = fB H a b j x
  | 0, _ => rfl
  | j + 1, hj => by rw [fB, fB, fB_congr h x j (by omega), h (j + 1) (by omega) (by omega), h (b - (j + 1)) (by omega) (by omega)]
theorem cellW_congr {G H : Nat → Nat → Int} {a b : Nat} (h1 : ∀ k, 1 ≤ k → k < a → G k b = H k b) (h2 : ∀ k, 1 ≤ k → k < b → G a k = H a k) : cellW G a b = cellW H a b := by
  unfold cellW
  rw [fA_congr h1 _ _ (Nat.le_refl _), fB_congr h2 _ _ (Nat.le_refl _)]
def IsF (G : Nat → Nat → Int) (w h : Nat) : Prop := ∀ a b, 1 ≤ a → a ≤ w → 1 ≤ b → b ≤ h → G a b = cellW G a b
theorem sq_uniq {G H : Nat → Nat → Int} {w h : Nat} (hG : IsF G w h) (hH : IsF H w h) : ∀ s a b, a + b ≤ s → 1 ≤ a → a ≤ w → 1 ≤ b → b ≤ h → G a b = H a b
  | 0, a, b, hs, h1, _, _, _ => by omega
  | s + 1, a, b, hs, h1, h2, h3, h4 => by
    rw [hG a b h1 h2 h3 h4, hH a b h1 h2 h3 h4]
    exact cellW_congr (fun k k1 k2 => sq_uniq hG hH s k b (by omega) k1 (by omega) h3 h4) (fun k k1 k2 => sq_uniq hG hH s a k (by omega) h1 h2 k1 (by omega))
theorem mn_I {a b : Int} (ha : I64' a) (hb : I64' b) : I64' (mn a b) := by unfold mn; split <;> assumption
theorem w_I (a : Int) : I64' (wrap64 a) := by unfold I64' wrap64; omega
theorem fA_I (G : Nat → Nat → Int) (a b : Nat) {x : Int} (hx : I64' x) : ∀ j, I64' (fA G a b j x)
  | 0 => hx
  | j + 1 => mn_I (fA_I G a b hx j) (w_I _)
theorem fB_I (G : Nat → Nat → Int) (a b : Nat) {x : Int} (hx : I64' x) : ∀ j, I64' (fB G a b j x)
  | 0 => hx
  | j + 1 => mn_I (fB_I G a b hx j) (w_I _)
theorem cellW_I (G : Nat → Nat → Int) (a b : Nat) : I64' (cellW G a b) := by
  unfold cellW
  refine fB_I _ _ _ (fA_I _ _ _ ?_ _) _
  split
  · unfold I64'; omega
  · exact w_I _
theorem gset_eq {xs : List Int} {i : Nat} (h : i < xs.length) (v : Int) : (xs.set i v).getD i 0 = v := by
  rw [List.getD_eq_getElem?_getD, List.getElem?_set_self h]; rfl
theorem gset_ne {xs : List Int} {i j : Nat} (h : i ≠ j) (v : Int) : (xs.set i v).getD j 0 = xs.getD j 0 := by
  rw [List.getD_eq_getElem?_getD, List.getElem?_set_ne h, List.getD_eq_getElem?_getD]
theorem ix_inj {N a b a' b' : Nat} (hb : b < N) (hb' : b' < N) (h : a * N + b = a' * N + b') : a = a' ∧ b = b' := by
  have h1 : (a * N + b) / N = a := by rw [Nat.mul_comm, Nat.mul_add_div (by omega), Nat.div_eq_of_lt hb, Nat.add_zero]
  have h2 : (a' * N + b') / N = a' := by rw [Nat.mul_comm, Nat.mul_add_div (by omega), Nat.div_eq_of_lt hb', Nat.add_zero]
  have e : a = a' := by rw [← h1, ← h2, h]
  subst e
  exact ⟨rfl, by omega⟩
theorem ix_lt {N a b : Nat} (ha : a < N) (hb : b < N) : a * N + b < N * N := by
  have : (a + 1) * N ≤ N * N := Nat.mul_le_mul_right N ha
  rw [Nat.add_mul, Nat.one_mul] at this
  omega
/-- The list as a table. -/
def tb (N : Nat) (xs : List Int) (a b : Nat) : Int := xs.getD (a * N + b) 0
theorem tb_set_eq {N : Nat} {xs : List Int} {a b : Nat} (hl : xs.length = N * N) (ha : a < N) (hb : b < N) (v : Int) : tb N (xs.set (a * N + b) v) a b = v :=
  gset_eq (by rw [hl]; exact ix_lt ha hb) v
theorem tb_set_ne {N : Nat} {xs : List Int} {a b a' b' : Nat} (hb : b < N) (hb' : b' < N) (h : ¬ (a' = a ∧ b' = b)) (v : Int) : tb N (xs.set (a * N + b) v) a' b' = tb N xs a' b' :=
  gset_ne (fun e => h (by have := ix_inj hb hb' e; exact ⟨this.1.symm, this.2.symm⟩)) v
/-! numbersBy -/
theorem nby_l0 (l : List Int) (sep : ByteArray) (hs : sep.size ≤ 100000) (h : ∀ x ∈ l, I64' x) (hl : l.length ≤ 1000) : ∀ d i : Nat, i + d = l.length → Ev (fun k => impl_numbersBy.l0 k sep ((l.take i).map itob) l (l.length : Int) (i : Int)) (joinB (l.map itob) sep) := by
  intro d
  induction d with
  | zero =>
    intro i hi
    refine Ev.step (fun k => by rw [impl_numbersBy.l0]) ?_
    refine evF (by omega) ?_
    rw [List.take_of_length_le (by omega)]
    exact evB (impl_join _ _ (fun x hx => by
      obtain ⟨n, hn, rfl⟩ := List.mem_map.1 hx
      have := itoa_len n (h n hn)
      rw [ba_size', itob_data]; omega) hs (by rw [List.length_map]; omega)) (evSome _)
  | succ d ih =>
    intro i hi
    have h2 : rd l (i : Int) = l[i] := by unfold rd; rw [show ((i : Int)).toNat = i from by omega]; exact getD_eq _ _ _ (by omega)
    refine Ev.step (fun k => by rw [impl_numbersBy.l0]) ?_
    refine evT (by omega) (evT (by omega) (evT (by omega) ?_))
    rw [h2]
    refine evB (impl_fmt _ (h _ (List.getElem_mem _))) ?_
    refine evT (by rw [List.length_map, List.length_take]; omega) ?_
    have e : (l.take i).map itob ++ [itob l[i]] = (l.take (i + 1)).map itob := by rw [take_succ' l i (by omega), List.map_append]; rfl
    rw [w64s i (by omega), e]
    exact ih (i + 1) (by omega)
theorem nby_ev (l : List Int) (sep : ByteArray) (hs : sep.size ≤ 100000) (h : ∀ x ∈ l, I64' x) (hl : l.length ≤ 1000) : Ev (fun k => impl_numbersBy.f k l sep) (joinB (l.map itob) sep) := by
  unfold impl_numbersBy.f
  exact nby_l0 l sep hs h hl l.length 0 (by omega)
/-! gcdSpec -/
theorem mxabs {a : Int} (h : -1000000 ≤ a ∧ a ≤ 1000000) : mx a (wrap64 (-a)) = ((a.natAbs : Nat) : Int) := by
  rw [w64 (by omega) (by omega)]
  unfold mx
  split <;> omega
theorem sgcd_l0 : ∀ (n A B : Nat), B ≤ n → Ev (fun k => spec_l02Gcd.l0 k (A : Int) (B : Int)) ((Nat.gcd A B : Nat) : Int) := by
  intro n
  induction n with
  | zero =>
    intro A B hB
    obtain rfl : B = 0 := by omega
    refine Ev.step (fun k => by rw [spec_l02Gcd.l0]) ?_
    rw [Nat.gcd_zero_right]
    exact evF (by omega) (evSome _)
  | succ n ih =>
    intro A B hB
    refine Ev.step (fun k => by rw [spec_l02Gcd.l0]) ?_
    by_cases h : B = 0
    · subst h
      rw [Nat.gcd_zero_right]
      exact evF (by omega) (evSome _)
    · refine evT (by omega) (evF (by omega) ?_)
      have e : Int.tmod (A : Int) (B : Int) = ((A % B : Nat) : Int) := by rw [Int.tmod_eq_emod_of_nonneg (by omega)]; first | rfl | exact (Int.natCast_emod A B).symm
      have g : Nat.gcd A B = Nat.gcd B (A % B) := by rw [Nat.gcd_comm A B, Nat.gcd_rec B A, Nat.gcd_comm]
      rw [e, g]
      exact ih B (A % B) (by have := Nat.mod_lt A (show B > 0 by omega); omega)
theorem sgcd_ev {a b : Int} (ha : -1000000 ≤ a ∧ a ≤ 1000000) (hb : -1000000 ≤ b ∧ b ≤ 1000000) : Ev (fun k => spec_l02Gcd.f k a b) ((Int.gcd a b : Nat) : Int) := by
  unfold spec_l02Gcd.f
  rw [mxabs ha, mxabs hb]
  exact sgcd_l0 _ _ _ (Nat.le_refl _)
/-! gcdImpl -/
theorem icom_l0 : ∀ (n : Nat) (a b : Int), b.natAbs ≤ n → (-1000000 ≤ a ∧ a ≤ 1000000) → (-1000000 ≤ b ∧ b ≤ 1000000) → Ev (fun k => impl_common.l0 k a b) ((Int.gcd a b : Nat) : Int) := by
  intro n
  induction n with
  | zero =>
    intro a b hn ha hb
    obtain rfl : b = 0 := by omega
    refine Ev.step (fun k => by rw [impl_common.l0]) ?_
    rw [Int.gcd_zero_right, mxabs ha]
    exact evT rfl (evSome _)
  | succ n ih =>
    intro a b hn ha hb
    refine Ev.step (fun k => by rw [impl_common.l0]) ?_
    by_cases h : b = 0
    · subst h
      rw [Int.gcd_zero_right, mxabs ha]
      exact evT rfl (evSome _)
    · refine evF h ?_
      have e := Int.natAbs_tmod a b
      have hm := Nat.mod_lt a.natAbs (show b.natAbs > 0 by omega)
      have g : Int.gcd a b = Int.gcd b (a.tmod b) := by
        rw [Int.gcd_eq_natAbs_gcd_natAbs, Int.gcd_eq_natAbs_gcd_natAbs, e, Nat.gcd_comm a.natAbs, Nat.gcd_rec b.natAbs, Nat.gcd_comm]
      rw [g]
      exact ih b (a.tmod b) (by omega) hb (by omega)
theorem icom_ev {a b : Int} (ha : -1000000 ≤ a ∧ a ≤ 1000000) (hb : -1000000 ≤ b ∧ b ≤ 1000000) : Ev (fun k => impl_common.f k a b) ((Int.gcd a b : Nat) : Int) := by
  unfold impl_common.f
  exact icom_l0 _ a b (Nat.le_refl _) ha hb
/-! dirBase -/
def dirG (dx dy : Int) : Int := ((Int.gcd dx dy : Nat) : Int)
def dirX (dx dy : Int) : Int := dx.tdiv (dirG dx dy)
def dirY (dx dy : Int) : Int := dy.tdiv (dirG dx dy)
def dirN (dx dy : Int) : Prop := dirY dx dy < 0 ∨ (dirY dx dy = 0 ∧ dirX dx dy < 0)
instance dirNdec (dx dy : Int) : Decidable (dirN dx dy) := by unfold dirN; exact inferInstance
def dirf (dx dy : Int) : Int × Int × Int := if dirN dx dy then (-dirX dx dy, -dirY dx dy, -dirG dx dy) else (dirX dx dy, dirY dx dy, dirG dx dy)
structure DirFacts (dx dy : Int) : Prop where
  ex : dx = dirG dx dy * dirX dx dy
  ey : dy = dirG dx dy * dirY dx dy
  g1 : 1 ≤ dirG dx dy
  g2 : dirG dx dy ≤ 1000
  x2 : -1000 ≤ dirX dx dy ∧ dirX dx dy ≤ 1000
  y2 : -1000 ≤ dirY dx dy ∧ dirY dx dy ≤ 1000
  cop : Int.gcd (dirX dx dy) (dirY dx dy) = 1
theorem dir_facts {dx dy : Int} (hx : -1000 ≤ dx ∧ dx ≤ 1000) (hy : -1000 ≤ dy ∧ dy ≤ 1000) (h : ¬ (dx = 0 ∧ dy = 0)) : DirFacts dx dy := by
  have hp : 0 < Int.gcd dx dy := Int.gcd_pos_iff.2 (by omega)
  obtain ⟨x, ex⟩ := Int.gcd_dvd_left dx dy
  obtain ⟨y, ey⟩ := Int.gcd_dvd_right dx dy
  have hG : dirG dx dy = ((Int.gcd dx dy : Nat) : Int) := rfl
  generalize hg : Int.gcd dx dy = G at *
  have hG0 : dirG dx dy ≠ 0 := by omega
  have fx : dirX dx dy = x := by
    unfold dirX
    rw [hG]
    conv => lhs; rw [ex]
    exact Int.mul_tdiv_cancel_left x (by omega)
  have fy : dirY dx dy = y := by
    unfold dirY
    rw [hG]
    conv => lhs; rw [ey]
    exact Int.mul_tdiv_cancel_left y (by omega)
  have ax : dx.natAbs = G * x.natAbs := by rw [ex, Int.natAbs_mul]; rfl
  have ay : dy.natAbs = G * y.natAbs := by rw [ey, Int.natAbs_mul]; rfl
  have bx : x.natAbs ≤ dx.natAbs := by rw [ax]; exact Nat.le_mul_of_pos_left _ hp
  have b_y : y.natAbs ≤ dy.natAbs := by rw [ay]; exact Nat.le_mul_of_pos_left _ hp
  have hc : Int.gcd x y = 1 := by
    have e := Int.gcd_mul_left (G : Int) x y
    rw [← ex, ← ey, hg] at e
    have e' : G * 1 = G * Int.gcd x y := by rw [Nat.mul_one]; exact e
    exact (Nat.eq_of_mul_eq_mul_left hp e').symm
  have gb : G ≤ 1000 := by
    by_cases c : x = 0
    · have hy0 : y ≠ 0 := fun e => h ⟨by rw [ex, c, Int.mul_zero], by rw [ey, e, Int.mul_zero]⟩
      have : G ≤ dy.natAbs := by rw [ay]; exact Nat.le_mul_of_pos_right _ (by omega)
      omega
    · have : G ≤ dx.natAbs := by rw [ax]; exact Nat.le_mul_of_pos_right _ (by omega)
      omega
  exact ⟨by rw [hG, fx]; exact ex, by rw [hG, fy]; exact ey, by omega, by omega, by rw [fx]; omega, by rw [fy]; omega, by rw [fx, fy]; exact hc⟩
theorem gcd_zero_one {x y : Int} (h : Int.gcd x y = 1) (hy : y = 0) : x = 1 ∨ x = -1 := by
  subst hy
  rw [Int.gcd_zero_right] at h
  omega
/-! dirImpl -/
theorem impl_dir_ev {a0 a1 b0 b1 : Int} (h0 : 0 ≤ a0 ∧ a0 ≤ 1000) (h1 : 0 ≤ a1 ∧ a1 ≤ 1000) (h2 : 0 ≤ b0 ∧ b0 ≤ 1000) (h3 : 0 ≤ b1 ∧ b1 ≤ 1000) (hne : ¬ (b0 - a0 = 0 ∧ b1 - a1 = 0)) :
    Ev (fun k => impl_directionOf.f k a0 a1 b0 b1) (dirf (b0 - a0) (b1 - a1)) := by
  unfold impl_directionOf.f
  rw [w64 (x := b0 - a0) (by omega) (by omega), w64 (x := b1 - a1) (by omega) (by omega)]
  have hf := dir_facts (dx := b0 - a0) (dy := b1 - a1) (by omega) (by omega) hne
  refine Ev.bind (icom_ev (by omega) (by omega)) ?_
  have hX : Int.tdiv (b0 - a0) ((Int.gcd (b0 - a0) (b1 - a1) : Nat) : Int) = dirX (b0 - a0) (b1 - a1) := rfl
  have hY : Int.tdiv (b1 - a1) ((Int.gcd (b0 - a0) (b1 - a1) : Nat) : Int) = dirY (b0 - a0) (b1 - a1) := rfl
  have hG : ((Int.gcd (b0 - a0) (b1 - a1) : Nat) : Int) = dirG (b0 - a0) (b1 - a1) := rfl
  rw [hX, hY, hG]
  generalize b0 - a0 = dx at *
  generalize b1 - a1 = dy at *
  obtain ⟨_, _, g1, g2, x2, y2, cop⟩ := hf
  rw [w64 (x := dirX dx dy) (by omega) (by omega), w64 (x := dirY dx dy) (by omega) (by omega)]
  refine evF (by omega) ?_
  have hd : Ev (fun k => impl_isDirection.f k (dirX dx dy) (dirY dx dy)) (!(decide (dirN dx dy))) := by
    unfold impl_isDirection.f
    refine Ev.bind (icom_ev (by omega) (by omega)) ?_
    rw [cop]
    refine evT rfl ?_
    by_cases c : dirY dx dy > 0
    · rw [decide_eq_false (show ¬ dirN dx dy by unfold dirN; omega)]
      exact evT c (evSome _)
    · refine evF c ?_
      by_cases c2 : dirY dx dy = 0
      · refine evT c2 ?_
        rcases gcd_zero_one cop c2 with e | e
        · rw [decide_eq_false (show ¬ dirN dx dy by unfold dirN; omega), e]
          exact evSome _
        · rw [decide_eq_true (show dirN dx dy by unfold dirN; omega), e]
          exact evSome _
      · rw [decide_eq_true (show dirN dx dy by unfold dirN; omega)]
        exact evF c2 (evSome _)
  refine Ev.bind hd ?_
  unfold dirf
  by_cases c : dirN dx dy
  · rw [if_pos c, decide_eq_true c, w64 (x := -dirX dx dy) (by omega) (by omega), w64 (x := -dirY dx dy) (by omega) (by omega), w64 (x := -dirG dx dy) (by omega) (by omega)]
    exact evF (by decide) (evSome _)
  · rw [if_neg c, decide_eq_false c]
    exact evT rfl (evSome _)
/-! dirSpec -/
theorem spec_dir_ev {dx dy : Int} (hx : -1000 ≤ dx ∧ dx ≤ 1000) (hy : -1000 ≤ dy ∧ dy ≤ 1000) (hne : ¬ (dx = 0 ∧ dy = 0)) : Ev (fun k => spec_l07Direction.f k dx dy) [(dirf dx dy).1, (dirf dx dy).2.1] := by
  unfold spec_l07Direction.f
  obtain ⟨_, _, g1, g2, x2, y2, cop⟩ := dir_facts hx hy hne
  refine Ev.bind (sgcd_ev (by omega) (by omega)) ?_
  have hX : Int.tdiv dx ((Int.gcd dx dy : Nat) : Int) = dirX dx dy := rfl
  have hY : Int.tdiv dy ((Int.gcd dx dy : Nat) : Int) = dirY dx dy := rfl
  have hG : ((Int.gcd dx dy : Nat) : Int) = dirG dx dy := rfl
  rw [hX, hY, hG, w64 (x := dirX dx dy) (by omega) (by omega), w64 (x := dirY dx dy) (by omega) (by omega), w64 (x := -dirX dx dy) (by omega) (by omega), w64 (x := -dirY dx dy) (by omega) (by omega)]
  refine evF (by omega) ?_
  unfold dirf
  by_cases c : dirY dx dy < 0
  · rw [if_pos (show dirN dx dy from .inl c)]
    exact evT c (evSome _)
  · refine evF c ?_
    by_cases c2 : dirY dx dy = 0
    · refine evT c2 ?_
      by_cases c3 : dirX dx dy < 0
      · rw [if_pos (show dirN dx dy from .inr ⟨c2, c3⟩)]
        exact evT c3 (evSome _)
      · rw [if_neg (show ¬ dirN dx dy by unfold dirN; omega)]
        exact evF c3 (evSome _)
    · rw [if_neg (show ¬ dirN dx dy by unfold dirN; omega)]
      exact evF c2 (evSome _)
/-! measBase -/
def befI (b : List Int) (x y : Int) : Prop := rd b 1 < y ∨ (rd b 1 = y ∧ rd b 0 < x)
instance befIdec (b : List Int) (x y : Int) : Decidable (befI b x y) := by unfold befI; exact inferInstance
def ltR (r s : List Int) : Prop := befI r (rd s 0) (rd s 1)
def oneR (x y n : Int) : List (List Int) := if n = 0 then [] else [[x, y, n]]
def sameD (b : List Int) (x y : Int) : Prop := rd b 0 = x ∧ rd b 1 = y
instance sameDdec (b : List Int) (x y : Int) : Decidable (sameD b x y) := by unfold sameD; exact inferInstance
def putR : List (List Int) → Int → Int → Int → List (List Int)
  | [], x, y, n => oneR x y n
  | b :: B, x, y, n => if befI b x y then b :: putR B x y n else if sameD b x y then oneR x y (wrap64 (n + rd b 2)) ++ B else oneR x y n ++ b :: B
def totR (l : List (List Int)) (x y n : Int) : Int := match l.find? (fun b => decide (sameD b x y)) with
  | some b => wrap64 (n + rd b 2)
  | none => n
theorem mem_oneR {r : List Int} {x y n : Int} : r ∈ oneR x y n ↔ (r = [x, y, n] ∧ n ≠ 0) := by
  unfold oneR
  by_cases h : n = 0
  · rw [if_pos h]; simp [h]
  · rw [if_neg h]; simp [h]
theorem find_none {l : List (List Int)} {x y : Int} (h : ∀ b ∈ l, ¬ sameD b x y) : l.find? (fun b => decide (sameD b x y)) = none := by
  rw [List.find?_eq_none]
  intro b hb
  simp [h b hb]
theorem mem_putR (x y n : Int) : ∀ (l : List (List Int)), l.Pairwise ltR → ∀ r, r ∈ putR l x y n ↔ ((r ∈ l ∧ ¬ sameD r x y) ∨ (r = [x, y, totR l x y n] ∧ totR l x y n ≠ 0))
  | [], _, r => by
    rw [putR, mem_oneR]
    simp [totR]
  | b :: B, hp, r => by
    rw [List.pairwise_cons] at hp
    obtain ⟨hb, hB⟩ := hp
    have ih := mem_putR x y n B hB r
    rw [putR]
    by_cases c : befI b x y
    · have nb : ¬ sameD b x y := fun h => by unfold befI at c; unfold sameD at h; omega
      have ht : totR (b :: B) x y n = totR B x y n := by unfold totR; rw [List.find?_cons_of_neg (by simp [nb])]
      rw [if_pos c, List.mem_cons, ih, ht, List.mem_cons]
      constructor
      · rintro (rfl | h | h)
        · exact .inl ⟨.inl rfl, nb⟩
        · exact .inl ⟨.inr h.1, h.2⟩
        · exact .inr h
      · rintro (⟨rfl | h, h2⟩ | h)
        · exact .inl rfl
        · exact .inr (.inl ⟨h, h2⟩)
        · exact .inr (.inr h)
    · rw [if_neg c]
      by_cases d : sameD b x y
      · have ht : totR (b :: B) x y n = wrap64 (n + rd b 2) := by unfold totR; rw [List.find?_cons_of_pos (by simp [d])]
        have hno : ∀ s ∈ B, ¬ sameD s x y := fun s hs h => by
          have := hb s hs
          unfold ltR befI at this; unfold sameD at h d; omega
        rw [if_pos d, List.mem_append, mem_oneR, ht, List.mem_cons]
        constructor
        · rintro (h | h)
          · exact .inr h
          · exact .inl ⟨.inr h, hno r h⟩
        · rintro (⟨rfl | h, h2⟩ | h)
          · exact absurd d h2
          · exact .inr h
          · exact .inl h
      · have hno : ∀ s ∈ b :: B, ¬ sameD s x y := fun s hs h => by
          rw [List.mem_cons] at hs
          rcases hs with rfl | hs
          · exact d h
          · have := hb s hs
            unfold ltR befI at this; unfold sameD at h d; unfold befI at c; omega
        have ht : totR (b :: B) x y n = n := by unfold totR; rw [find_none hno]
        rw [if_neg d, List.mem_append, mem_oneR, ht]
        constructor
        · rintro (h | h)
          · exact .inr h
          · exact .inl ⟨h, hno r h⟩
        · rintro (h | h)
          · exact .inr h.1
          · exact .inl h
theorem sorted_putR (x y n : Int) : ∀ (l : List (List Int)), l.Pairwise ltR → (putR l x y n).Pairwise ltR
  | [], _ => by
    rw [putR]; unfold oneR
    split <;> simp
  | b :: B, hp => by
    have hp0 := hp
    rw [List.pairwise_cons] at hp
    obtain ⟨hb, hB⟩ := hp
    rw [putR]
    by_cases c : befI b x y
    · rw [if_pos c, List.pairwise_cons]
      refine ⟨fun s hs => ?_, sorted_putR x y n B hB⟩
      rcases (mem_putR x y n B hB s).1 hs with h | h
      · exact hb s h.1
      · rw [h.1]; exact c
    · rw [if_neg c]
      by_cases d : sameD b x y
      · rw [if_pos d, List.pairwise_append]
        refine ⟨by unfold oneR; split <;> simp, hB, fun r hr s hs => ?_⟩
        rw [mem_oneR] at hr
        rw [hr.1]
        have := hb s hs
        unfold ltR befI at *; unfold sameD at d
        show y < rd s 1 ∨ (y = rd s 1 ∧ x < rd s 0)
        omega
      · rw [if_neg d, List.pairwise_append]
        refine ⟨by unfold oneR; split <;> simp, hp0, fun r hr s hs => ?_⟩
        rw [mem_oneR] at hr
        rw [hr.1]
        show y < rd s 1 ∨ (y = rd s 1 ∧ x < rd s 0)
        rw [List.mem_cons] at hs
        rcases hs with rfl | hs
        · unfold befI at c; unfold sameD at d; omega
        · have := hb s hs
          unfold ltR befI at this; unfold befI at c; unfold sameD at d; omega
theorem ltR_irr {r s : List Int} (h : ltR r s) : r ≠ s := fun e => by subst e; unfold ltR befI at h; omega
theorem ltR_nodup {l : List (List Int)} (h : l.Pairwise ltR) : l.Nodup := h.imp (fun h => ltR_irr h)
theorem ltR_uniq {l l' : List (List Int)} (h : l.Pairwise ltR) (h' : l'.Pairwise ltR) (hm : ∀ r, r ∈ l ↔ r ∈ l') : l = l' := by
  refine List.Perm.eq_of_pairwise (le := ltR) (fun a b _ _ h1 h2 => by unfold ltR befI at h1 h2; omega) h h' ((List.perm_ext_iff_of_nodup (ltR_nodup h) (ltR_nodup h')).2 hm)
def canon (s : List ((Int × Int) × Int)) : List (List Int) := impl_measuresOf.listOf (impl_measures.look s) (impl_measures.keys s)
theorem canon_mem {s : List ((Int × Int) × Int)} (r : List Int) : r ∈ canon s ↔ ∃ x y v, r = [x, y, v] ∧ impl_measures.look s x y = some v ∧ v ≠ 0 := by
  unfold canon impl_measuresOf.listOf impl_measuresOf.sorted
  rw [(List.mergeSort_perm _ _).mem_iff, List.mem_map]
  constructor
  · rintro ⟨⟨x, y⟩, hp, rfl⟩
    rw [List.mem_filter] at hp
    have hs := impl_measures.look_some.2 hp.1
    obtain ⟨v, hv⟩ := Option.isSome_iff_exists.1 hs
    refine ⟨x, y, v, ?_, hv, ?_⟩
    · unfold impl_measuresOf.row; rw [hv]; rfl
    · have h2 := of_decide_eq_true hp.2
      rw [hv] at h2; exact h2
  · rintro ⟨x, y, v, rfl, hv, hn⟩
    refine ⟨(x, y), List.mem_filter.2 ⟨impl_measures.look_some.1 (by rw [hv]; rfl), ?_⟩, ?_⟩
    · unfold impl_measuresOf.nz; rw [hv]; exact decide_eq_true hn
    · unfold impl_measuresOf.row; rw [hv]; rfl
theorem canon_sorted {s : List ((Int × Int) × Int)} (h : impl_measures.Ok s) : (canon s).Pairwise ltR := by
  have ha := impl_measuresOf.rows_apart (A := impl_measures.look s) (h.nd.filter (impl_measuresOf.nz (impl_measures.look s)))
  have hw : (canon s).Pairwise (fun a b => impl_measuresOf.le a b = true) := List.pairwise_mergeSort impl_measuresOf.le_trans impl_measuresOf.le_total _
  have ha' : impl_measuresOf.apart (canon s) := by
    unfold impl_measuresOf.apart at ha ⊢
    exact List.Pairwise.perm ha (List.mergeSort_perm _ _).symm (fun {a b} h hh => h ⟨hh.1.symm, hh.2.symm⟩)
  refine (List.Pairwise.and hw ha').imp ?_
  rintro a b ⟨h1, h2⟩
  rw [impl_measuresOf.le_iff] at h1
  unfold ltR befI
  omega
theorem canon_nil : canon [] = [] := by simp [canon, impl_measuresOf.listOf, impl_measures.keys, impl_measuresOf.sorted]
theorem canon_add {s : List ((Int × Int) × Int)} (h : impl_measures.Ok s) {x y n : Int} (hx : -1000 ≤ x ∧ x ≤ 1000) (hy : -1000 ≤ y ∧ y ≤ 1000) (hn : -1000 ≤ n ∧ n ≤ 1000) : canon (impl_measures.addm s x y n) = putR (canon s) x y n := by
  have hs := canon_sorted h
  refine ltR_uniq (canon_sorted (h.add n hx hy)) (sorted_putR x y n _ hs) (fun r => ?_)
  have ht : totR (canon s) x y n = wrap64 ((impl_measures.look s x y).getD 0 + n) := by
    unfold totR
    cases hf : (canon s).find? (fun b => decide (sameD b x y)) with
    | some b =>
      have hb := List.mem_of_find?_eq_some hf
      have hd : sameD b x y := by have := List.find?_some hf; simpa using this
      obtain ⟨i, j, v, rfl, hv, hv0⟩ := (canon_mem b).1 hb
      obtain ⟨e1, e2⟩ := hd
      have e1 : i = x := e1
      have e2 : j = y := e2
      subst e1; subst e2
      rw [hv]
      show wrap64 (n + v) = wrap64 (v + n)
      rw [Int.add_comm]
    | none =>
      rw [List.find?_eq_none] at hf
      have hz : (impl_measures.look s x y).getD 0 = 0 := by
        cases hl : impl_measures.look s x y with
        | none => rfl
        | some v =>
          by_cases c : v = 0
          · rw [c]; rfl
          · have := hf [x, y, v] ((canon_mem _).2 ⟨x, y, v, rfl, hl, c⟩)
            exact absurd (decide_eq_true (show sameD [x, y, v] x y from ⟨rfl, rfl⟩)) this
      rw [hz, w64 (by omega) (by omega)]
      show n = 0 + n
      omega
  rw [mem_putR x y n _ hs, canon_mem, ht]
  constructor
  · rintro ⟨i, j, v, rfl, hv, hv0⟩
    rw [impl_measures.look_add] at hv
    unfold impl_measuresOf.upd at hv
    by_cases c : i = x ∧ j = y
    · rw [if_pos c] at hv
      injection hv with hv
      rw [c.1, c.2, hv]
      exact .inr ⟨rfl, hv0⟩
    · rw [if_neg c] at hv
      exact .inl ⟨(canon_mem _).2 ⟨i, j, v, rfl, hv, hv0⟩, fun h => c h⟩
  · rintro (⟨h1, h2⟩ | ⟨rfl, h2⟩)
    · obtain ⟨i, j, v, rfl, hv, hv0⟩ := (canon_mem r).1 h1
      refine ⟨i, j, v, rfl, ?_, hv0⟩
      rw [impl_measures.look_add]
      unfold impl_measuresOf.upd
      have c' : ¬ (i = x ∧ j = y) := fun c => h2 c
      rw [if_neg c']
      exact hv
    · refine ⟨x, y, _, rfl, ?_, h2⟩
      rw [impl_measures.look_add]
      unfold impl_measuresOf.upd
      rw [if_pos ⟨rfl, rfl⟩]
/-! putEq -/
theorem put_eq (x y n : Int) : ∀ l : List (List Int), spec_l07All.put l [x, y, n] = putR l x y n
  | [] => by
    have hc : spec_l07All.cnt [] [x, y, n] = 0 := rfl
    have hh : spec_l07All.hit [] [x, y, n] = false := rfl
    have hn : spec_l07All.num [] [x, y, n] = n := by unfold spec_l07All.num; rw [hh]; rfl
    unfold spec_l07All.put putR oneR
    rw [hn]
    by_cases c : n = 0
    · rw [if_pos c, if_pos c]; simp
    · rw [if_neg c, if_neg c]; simp [rd]
  | b :: B => by
    have ih := put_eq x y n B
    rw [putR]
    by_cases c : befI b x y
    · rw [if_pos c, ← ih]
      have e1 : spec_l07All.ltR [x, y, n] b = true := by
        unfold spec_l07All.ltR; unfold befI at c
        rw [Bool.or_eq_true, Bool.and_eq_true, decide_eq_true_eq, decide_eq_true_eq, decide_eq_true_eq]
        exact c
      have ec : spec_l07All.cnt (b :: B) [x, y, n] = spec_l07All.cnt B [x, y, n] + 1 := by unfold spec_l07All.cnt; rw [List.takeWhile_cons_of_pos e1]; rfl
      have eg : (b :: B).getD (spec_l07All.cnt B [x, y, n] + 1) [] = B.getD (spec_l07All.cnt B [x, y, n]) [] := rfl
      have eh : spec_l07All.hit (b :: B) [x, y, n] = spec_l07All.hit B [x, y, n] := by
        unfold spec_l07All.hit; rw [ec, eg, List.length_cons]
        congr 1
        rw [decide_eq_decide]; omega
      have en : spec_l07All.num (b :: B) [x, y, n] = spec_l07All.num B [x, y, n] := by unfold spec_l07All.num; rw [eh, ec, eg]
      have es : spec_l07All.skip (b :: B) [x, y, n] = spec_l07All.skip B [x, y, n] + 1 := by unfold spec_l07All.skip; rw [eh, ec]; split <;> rfl
      unfold spec_l07All.put
      rw [en, ec, es, List.take_succ_cons, List.drop_succ_cons]
      split <;> rfl
    · rw [if_neg c]
      have e1 : ¬ spec_l07All.ltR [x, y, n] b = true := by
        unfold spec_l07All.ltR; unfold befI at c
        rw [Bool.or_eq_true, Bool.and_eq_true, decide_eq_true_eq, decide_eq_true_eq, decide_eq_true_eq]
        exact c
      have ec : spec_l07All.cnt (b :: B) [x, y, n] = 0 := by unfold spec_l07All.cnt; rw [List.takeWhile_cons_of_neg e1]; rfl
      have eh : spec_l07All.hit (b :: B) [x, y, n] = decide (sameD b x y) := by
        unfold spec_l07All.hit sameD; rw [ec]
        show (decide (0 < B.length + 1) && (decide (rd b 0 = x) && decide (rd b 1 = y))) = _
        rw [decide_eq_true (show 0 < B.length + 1 by omega), Bool.true_and]
        by_cases h1 : rd b 0 = x <;> by_cases h2 : rd b 1 = y <;> simp [h1, h2]
      by_cases d : sameD b x y
      · rw [if_pos d]
        rw [decide_eq_true d] at eh
        have en : spec_l07All.num (b :: B) [x, y, n] = wrap64 (n + rd b 2) := by unfold spec_l07All.num; rw [eh, if_pos rfl, ec]; rfl
        have es : spec_l07All.skip (b :: B) [x, y, n] = 1 := by unfold spec_l07All.skip; rw [eh, if_pos rfl, ec]
        unfold spec_l07All.put oneR
        rw [en, ec, es]
        split <;> rfl
      · rw [if_neg d]
        rw [decide_eq_false d] at eh
        have en : spec_l07All.num (b :: B) [x, y, n] = n := by unfold spec_l07All.num; rw [eh]; rfl
        have es : spec_l07All.skip (b :: B) [x, y, n] = 0 := by unfold spec_l07All.skip; rw [eh, ec]; rfl
        unfold spec_l07All.put oneR
        rw [en, ec, es]
        split <;> rfl
/-! measSides -/
def dxx (q : List S53) (j : Nat) : Int := (nx q j).f0 - (pt q j).f0
def dyy (q : List S53) (j : Nat) : Int := (nx q j).f1 - (pt q j).f1
structure Good (q : List S53) : Prop where
  len : 3 ≤ q.length ∧ q.length ≤ 10
  pts : ∀ j, j < q.length → (0 ≤ (pt q j).f0 ∧ (pt q j).f0 ≤ 40) ∧ (0 ≤ (pt q j).f1 ∧ (pt q j).f1 ≤ 40)
  ne : ∀ j, j < q.length → ¬ (dxx q j = 0 ∧ dyy q j = 0)
theorem Good.rng {q : List S53} (h : Good q) {j : Nat} (hj : j < q.length) : (-40 ≤ dxx q j ∧ dxx q j ≤ 40) ∧ (-40 ≤ dyy q j ∧ dyy q j ≤ 40) := by
  have h1 := h.pts j hj
  have h2 := h.pts ((j + 1) % q.length) (Nat.mod_lt _ (by have := h.len; omega))
  unfold dxx dyy nx
  omega
def sidesL (q : List S53) (n : Nat) : List (List Int) := (List.range n).map (fun j => [dxx q j, dyy q j])
theorem sidesL_len (q : List S53) (n : Nat) : (sidesL q n).length = n := by simp [sidesL]
theorem sidesL_succ (q : List S53) (n : Nat) : sidesL q (n + 1) = sidesL q n ++ [[dxx q n, dyy q n]] := by simp [sidesL, List.range_succ]
theorem sides_l0 (q : List S53) (h : Good q) : ∀ d i : Nat, i + d = q.length → Ev (fun k => spec_l04Sides.l0 k q (sidesL q i) q (q.length : Int) (i : Int)) (sidesL q q.length) := by
  have hlen := h.len
  intro d
  induction d with
  | zero =>
    intro i hi
    refine Ev.step (fun k => by rw [spec_l04Sides.l0]) ?_
    obtain rfl : i = q.length := by omega
    exact evF (by omega) (evSome _)
  | succ d ih =>
    intro i hi
    have ti := tmod_nxt (i := i) (n := q.length) (by omega)
    have hmi : (i + 1) % q.length < q.length := Nat.mod_lt _ (by omega)
    refine Ev.step (fun k => by rw [spec_l04Sides.l0]) ?_
    rw [ti]
    refine evT (by omega) (evT (by omega) (evT (by omega) (evF (by omega) (evT (by omega) (evT (by omega) (evT (by rw [sidesL_len]; omega) ?_))))))
    have hr := h.rng (show i < q.length by omega)
    rw [w64s i (by omega), w64 (x := (rd_T53 q (((i + 1) % q.length : Nat) : Int)).f0 - (rd_T53 q (i : Int)).f0) (by have := hr.1.1; unfold dxx nx pt at this; omega) (by have := hr.1.2; unfold dxx nx pt at this; omega), w64 (x := (rd_T53 q (((i + 1) % q.length : Nat) : Int)).f1 - (rd_T53 q (i : Int)).f1) (by have := hr.2.1; unfold dyy nx pt at this; omega) (by have := hr.2.2; unfold dyy nx pt at this; omega)]
    have e : sidesL q i ++ [[(rd_T53 q (((i + 1) % q.length : Nat) : Int)).f0 - (rd_T53 q (i : Int)).f0, (rd_T53 q (((i + 1) % q.length : Nat) : Int)).f1 - (rd_T53 q (i : Int)).f1]] = sidesL q (i + 1) := (sidesL_succ q i).symm
    rw [e]
    exact ih (i + 1) (by omega)
theorem sides_ev (q : List S53) (h : Good q) : Ev (fun k => spec_l04Sides.f k q) (sidesL q q.length) := sides_l0 q h q.length 0 (by omega)
/-! goodBase -/
theorem good_of {q : List S53} (h : polyOk q = true) : Good q := by
  have hl := polyOk_len h
  refine ⟨hl, fun j hj => polyOk_pt h hj, fun j hj => ?_⟩
  unfold polyOk at h
  simp only [Bool.and_eq_true] at h
  have h2 := (allF_iff _ _ _).1 h.2.2.1 j (by omega) (by omega)
  unfold edgeNe ptEq at h2
  unfold dxx dyy
  intro hh
  have e1 : (pt q j).f0 = (nx q j).f0 := by omega
  have e2 : (pt q j).f1 = (nx q j).f1 := by omega
  rw [e1, e2] at h2
  simp at h2
theorem pt_turn (a : S53) (t : List S53) {j : Nat} (h1 : 1 ≤ j) (h2 : j ≤ t.length) : pt (a :: t.reverse) j = pt (a :: t) (t.length + 1 - j) := by
  obtain ⟨i, rfl⟩ : ∃ i, j = i + 1 := ⟨j - 1, by omega⟩
  have e : t.length + 1 - (i + 1) = (t.length - 1 - i) + 1 := by omega
  rw [e]
  show (t.reverse).getD i _ = t.getD (t.length - 1 - i) _
  rw [List.getD_eq_getElem?_getD, List.getD_eq_getElem?_getD, List.getElem?_reverse (by omega)]
theorem good_turn {a : S53} {t : List S53} (h : Good (a :: t)) : Good (a :: t.reverse) := by
  have hl := h.len
  rw [List.length_cons] at hl
  have hlr : (a :: t.reverse).length = t.length + 1 := by rw [List.length_cons, List.length_reverse]
  have hlt : (a :: t).length = t.length + 1 := List.length_cons
  have h0 : pt (a :: t.reverse) 0 = pt (a :: t) 0 := rfl
  refine ⟨by rw [hlr]; exact hl, fun j hj => ?_, fun j hj => ?_⟩
  · rw [hlr] at hj
    by_cases c : j = 0
    · rw [c, h0]; exact h.pts 0 (by rw [hlt]; omega)
    · rw [pt_turn a t (by omega) (by omega)]; exact h.pts _ (by rw [hlt]; omega)
  · rw [hlr] at hj
    have key : ∀ i, i < t.length + 1 → pt (a :: t.reverse) j = nx (a :: t) i → nx (a :: t.reverse) j = pt (a :: t) i → ¬ (dxx (a :: t.reverse) j = 0 ∧ dyy (a :: t.reverse) j = 0) := by
      intro i hi e1 e2 hh
      refine h.ne i (by rw [hlt]; exact hi) ?_
      unfold dxx dyy at hh ⊢
      rw [e1, e2] at hh
      omega
    by_cases c : j = 0
    · subst c
      refine key t.length (by omega) ?_ ?_
      · unfold nx; rw [hlt, Nat.mod_self]; rfl
      · unfold nx; rw [hlr, Nat.mod_eq_of_lt (by omega), pt_turn a t (by omega) (by omega)]; rfl
    · by_cases d : j = t.length
      · refine key 0 (by omega) ?_ ?_
        · unfold nx; rw [hlt, Nat.mod_eq_of_lt (by omega), pt_turn a t (by omega) (by omega), d]; congr 1; omega
        · unfold nx; rw [hlr, d, Nat.mod_self]; exact h0
      · refine key (t.length - j) (by omega) ?_ ?_
        · unfold nx; rw [hlt, Nat.mod_eq_of_lt (by omega), pt_turn a t (by omega) (by omega)]; congr 1; omega
        · unfold nx; rw [hlr, Nat.mod_eq_of_lt (by omega), pt_turn a t (by omega) (by omega)]; congr 1; omega
/-! turnEv -/
theorem turn_l0 (q : List S53) (hq : 1 ≤ q.length ∧ q.length ≤ 1000) (a : S53) : ∀ i : Nat, i < q.length → Ev (fun k => spec_l03Turn.l0 k q (a :: (q.drop (i + 1)).reverse) (i : Int)) (a :: (q.drop 1).reverse) := by
  intro i
  induction i with
  | zero =>
    intro hi
    refine Ev.step (fun k => by rw [spec_l03Turn.l0]) ?_
    exact evF (by omega) (evSome _)
  | succ i ih =>
    intro hi
    refine Ev.step (fun k => by rw [spec_l03Turn.l0]) ?_
    refine evT (by omega) (evT (by omega) (evT (by omega) (evT (by rw [List.length_cons, List.length_reverse, List.length_drop]; omega) ?_)))
    have e : (a :: (q.drop (i + 1 + 1)).reverse) ++ [(⟨(rd_T53 q ((i + 1 : Nat) : Int)).f0, (rd_T53 q ((i + 1 : Nat) : Int)).f1⟩ : S53)] = a :: (q.drop (i + 1)).reverse := by
      rw [rdP q (i + 1) hi, List.drop_eq_getElem_cons hi, List.reverse_cons]
      rfl
    rw [e, w64 (x := ((i + 1 : Nat) : Int) - 1) (by omega) (by omega), show ((i + 1 : Nat) : Int) - 1 = (i : Int) by omega]
    exact ih (by omega)
theorem turn_ev (a : S53) (t : List S53) (ht : t.length ≤ 900) : Ev (fun k => spec_l03Turn.f k (a :: t)) (a :: t.reverse) := by
  unfold spec_l03Turn.f
  have hl : (a :: t).length = t.length + 1 := List.length_cons
  refine evT (by omega) ?_
  rw [w64 (x := ((a :: t).length : Int) - 1) (by omega) (by omega), show ((a :: t).length : Int) - 1 = (t.length : Int) by omega]
  have h := turn_l0 (a :: t) (by omega) a t.length (by omega)
  rw [show (a :: t).drop (t.length + 1) = [] from List.drop_eq_nil_of_le (by omega)] at h
  have e : (⟨(rd_T53 (a :: t) 0).f0, (rd_T53 (a :: t) 0).f1⟩ : S53) = a := rfl
  rw [e]
  exact h
/-! accEv -/
def vals (s : List ((Int × Int) × Int)) : Prop := ∀ e ∈ s, I64' e.2
theorem vals_add (x y n : Int) : ∀ s : List ((Int × Int) × Int), vals s → vals (impl_measures.addm s x y n)
  | [], _ => by
    intro e he
    rw [impl_measures.addm, List.mem_singleton] at he
    rw [he]; unfold I64' wrap64; omega
  | e0 :: s, h => by
    rw [impl_measures.addm]
    split
    · intro e he
      rw [List.mem_cons] at he
      rcases he with rfl | he
      · unfold I64' wrap64; simp only; omega
      · exact h e (List.mem_cons_of_mem _ he)
    · intro e he
      rw [List.mem_cons] at he
      rcases he with rfl | he
      · exact h e (List.mem_cons_self ..)
      · exact vals_add x y n s (fun e he => h e (List.mem_cons_of_mem _ he)) e he
theorem len_add (x y n : Int) : ∀ s : List ((Int × Int) × Int), (impl_measures.addm s x y n).length ≤ s.length + 1
  | [] => by rw [impl_measures.addm]; simp
  | e0 :: s => by
    rw [impl_measures.addm]
    have := len_add x y n s
    split <;> simp only [List.length_cons] <;> omega
theorem dirf_rng {dx dy : Int} (h : DirFacts dx dy) : (-1000 ≤ (dirf dx dy).1 ∧ (dirf dx dy).1 ≤ 1000) ∧ (-1000 ≤ (dirf dx dy).2.1 ∧ (dirf dx dy).2.1 ≤ 1000) ∧ (-1000 ≤ (dirf dx dy).2.2 ∧ (dirf dx dy).2.2 ≤ 1000) := by
  obtain ⟨_, _, g1, g2, x2, y2, _⟩ := h
  unfold dirf
  split <;> simp only <;> omega
theorem sgn_dirf {dx dy : Int} (h : DirFacts dx dy) (hx : -1000 ≤ dx ∧ dx ≤ 1000) (hy : -1000 ≤ dy ∧ dy ≤ 1000) (hne : ¬ (dx = 0 ∧ dy = 0)) : spec_l07All.sgn [dx, dy] [(dirf dx dy).1, (dirf dx dy).2.1] (dirG dx dy) = (dirf dx dy).2.2 := by
  obtain ⟨ex, ey, g1, g2, x2, y2, _⟩ := h
  unfold spec_l07All.sgn spec_l07All.off
  have r0 : ∀ a b : Int, rd [a, b] 0 = a := fun _ _ => rfl
  have r1 : ∀ a b : Int, rd [a, b] 1 = b := fun _ _ => rfl
  rw [r0, r1, r0, r1]
  unfold dirf
  by_cases c : dirN dx dy
  · rw [if_pos c]
    have e1 : -dirX dx dy * dirG dx dy = -dx := by rw [Int.neg_mul, Int.mul_comm, ← ex]
    have e2 : -dirY dx dy * dirG dx dy = -dy := by rw [Int.neg_mul, Int.mul_comm, ← ey]
    simp only
    rw [e1, e2, w64 (x := -dx) (by omega) (by omega), w64 (x := -dy) (by omega) (by omega), if_pos, w64 (by omega) (by omega)]
    rw [Bool.or_eq_true, decide_eq_true_eq, decide_eq_true_eq]
    omega
  · rw [if_neg c]
    have e1 : dirX dx dy * dirG dx dy = dx := by rw [Int.mul_comm, ← ex]
    have e2 : dirY dx dy * dirG dx dy = dy := by rw [Int.mul_comm, ← ey]
    simp only
    rw [e1, e2, w64 (x := dx) (by omega) (by omega), w64 (x := dy) (by omega) (by omega), if_neg]
    rw [Bool.or_eq_true, decide_eq_true_eq, decide_eq_true_eq]
    omega
theorem acc_ev (q : List S53) (h : Good q) : ∀ (d : Nat), d ≤ q.length → ∀ s, impl_measures.Ok s → vals s → s.length + d ≤ 10 → ∃ s', impl_measures.Ok s' ∧ vals s' ∧ s'.length ≤ 10 ∧ Ev (fun k => impl_measures.go k q d s) s' ∧ Ev (fun k => spec_l07All.go k (canon s) ((sidesL q q.length).drop (q.length - d))) (canon s') := by
  have hlen := h.len
  intro d
  induction d with
  | zero =>
    intro _ s hs hv hl
    refine ⟨s, hs, hv, by omega, evSome _, ?_⟩
    rw [List.drop_eq_nil_of_le (by rw [sidesL_len]; omega)]
    exact evSome _
  | succ d ih =>
    intro hd s hs hv hl
    obtain ⟨i, hi⟩ : ∃ i, i = q.length - (d + 1) := ⟨_, rfl⟩
    have hil : i < q.length := by omega
    have hr := h.rng hil
    have hne := h.ne i hil
    have hf := dir_facts (dx := dxx q i) (dy := dyy q i) (by omega) (by omega) hne
    have hg := dirf_rng hf
    have hsg := sgn_dirf hf (by omega) (by omega) hne
    obtain ⟨x, hx⟩ : ∃ x, x = (dirf (dxx q i) (dyy q i)).1 := ⟨_, rfl⟩
    obtain ⟨y, hy⟩ : ∃ y, y = (dirf (dxx q i) (dyy q i)).2.1 := ⟨_, rfl⟩
    obtain ⟨n, hn⟩ : ∃ n, n = (dirf (dxx q i) (dyy q i)).2.2 := ⟨_, rfl⟩
    rw [← hx, ← hy, ← hn] at hg hsg
    have hla := len_add x y n s
    obtain ⟨s', h1, h2, h3, h4, h5⟩ := ih (by omega) (impl_measures.addm s x y n) (hs.add n hg.1 hg.2.1) (vals_add x y n s hv) (by omega)
    refine ⟨s', h1, h2, h3, ?_, ?_⟩
    · simp only [impl_measures.go]
      rw [← hi]
      have hp := h.pts i hil
      have hp2 := h.pts ((i + 1) % q.length) (Nat.mod_lt _ (by omega))
      refine Ev.bind (a := (x, y, n)) ?_ (evT ⟨hg.1, hg.2.1⟩ h4)
      have he : dirf (dxx q i) (dyy q i) = (x, y, n) := by rw [hx, hy, hn]
      rw [← he]
      unfold impl_measures.dir
      exact impl_dir_ev (a0 := (pt q i).f0) (a1 := (pt q i).f1) (b0 := (nx q i).f0) (b1 := (nx q i).f1) (by omega) (by omega) (by unfold nx; omega) (by unfold nx; omega) hne
    · have e : (sidesL q q.length).drop i = [dxx q i, dyy q i] :: (sidesL q q.length).drop (q.length - d) := by
        rw [List.drop_eq_getElem_cons (by rw [sidesL_len]; omega), show i + 1 = q.length - d by omega]
        congr 1
        unfold sidesL
        rw [List.getElem_map, List.getElem_range]
      rw [← hi, e]
      simp only [spec_l07All.go]
      refine Ev.bind (a := canon (impl_measures.addm s x y n)) ?_ h5
      unfold spec_l07All.step
      refine evT rfl ?_
      have r0 : rd [dxx q i, dyy q i] 0 = dxx q i := rfl
      have r1 : rd [dxx q i, dyy q i] 1 = dyy q i := rfl
      rw [r0, r1]
      refine Ev.bind (spec_dir_ev (by omega) (by omega) hne) (Ev.bind (sgcd_ev (by omega) (by omega)) (evT rfl ?_))
      rw [← hx, ← hy]
      have e2 : spec_l07All.put (canon s) [rd [x, y] 0, rd [x, y] 1, spec_l07All.sgn [dxx q i, dyy q i] [x, y] ((Int.gcd (dxx q i) (dyy q i) : Nat) : Int)] = canon (impl_measures.addm s x y n) := by
        rw [show spec_l07All.sgn [dxx q i, dyy q i] [x, y] ((Int.gcd (dxx q i) (dyy q i) : Nat) : Int) = n from hsg]
        rw [show rd [x, y] 0 = x from rfl, show rd [x, y] 1 = y from rfl, put_eq, canon_add hs hg.1 hg.2.1 hg.2.2]
      rw [e2]
      exact evSome _
theorem canon_len (s : List ((Int × Int) × Int)) : (canon s).length ≤ s.length := by
  unfold canon impl_measuresOf.listOf impl_measuresOf.sorted impl_measures.keys
  rw [List.length_mergeSort, List.length_map]
  refine Nat.le_trans (List.length_filter_le _ _) ?_
  rw [List.length_map]
  exact Nat.le_refl _
structure RowsOk (l : List (List Int)) : Prop where
  len : l.length ≤ 10
  row : ∀ r ∈ l, r.length = 3 ∧ ∀ x ∈ r, I64' x
theorem canon_rows {s : List ((Int × Int) × Int)} (h : impl_measures.Ok s) (hv : vals s) (hl : s.length ≤ 10) : RowsOk (canon s) := by
  refine ⟨Nat.le_trans (canon_len s) hl, fun r hr => ?_⟩
  obtain ⟨x, y, v, rfl, hlk, _⟩ := (canon_mem r).1 hr
  have hk := h.bnd (x, y) (impl_measures.look_some.1 (by rw [hlk]; rfl))
  have hvv : I64' v := by
    unfold impl_measures.look at hlk
    rw [Option.map_eq_some_iff] at hlk
    obtain ⟨e, he, rfl⟩ := hlk
    exact hv e (List.mem_of_find?_eq_some he)
  refine ⟨rfl, fun z hz => ?_⟩
  simp only [List.mem_cons, List.not_mem_nil, or_false] at hz
  rcases hz with rfl | rfl | rfl
  · have := hk.1; unfold I64'; simp only at this; omega
  · have := hk.2; unfold I64'; simp only at this; omega
  · exact hvv
theorem mains_ev (q : List S53) (h : Good q) : ∃ r, RowsOk r ∧ Ev (fun k => impl_measures.main k q) r ∧ Ev (fun k => spec_l07All.main k q) r := by
  have hlen := h.len
  obtain ⟨s', h1, h2, h3, h4, h5⟩ := acc_ev q h q.length (Nat.le_refl _) [] impl_measures.Ok.nil (fun e he => by cases he) (by simp only [List.length_nil]; omega)
  refine ⟨canon s', canon_rows h1 h2 h3, ?_, ?_⟩
  · unfold impl_measures.main
    exact evT (by omega) (Ev.bind h4 (evSome _))
  · unfold spec_l07All.main
    refine Ev.bind (sides_ev q h) (evT (by rw [sidesL_len]; omega) ?_)
    rw [Nat.sub_self, List.drop_zero, canon_nil] at h5
    exact h5
theorem measures_ev (q : List S53) (h : Good q) : ∃ r, RowsOk r ∧ Ev (fun k => impl_measures.f k q) r ∧ Ev (fun k => spec_l07All.f k q) r := by
  have hlen := h.len
  obtain ⟨t, ht1, ht2⟩ := twice_ev q (by omega)
  by_cases c : t < 0
  · match q, hlen, h, ht1, ht2 with
    | [], hlen, _, _, _ => simp at hlen
    | a :: u, hlen, h, ht1, ht2 =>
      rw [List.length_cons] at hlen
      obtain ⟨r, hr, h1, h2⟩ := mains_ev (a :: u.reverse) (good_turn h)
      refine ⟨r, hr, ?_, ?_⟩
      · unfold impl_measures.f
        refine Ev.bind ht2 (evT c (evB (a := a :: u.reverse) ?_ h1))
        unfold impl_turned.f
        exact if_pos (by omega)
      · unfold spec_l07All.f
        exact Ev.bind ht1 (evT c (Ev.bind (turn_ev a u (by omega)) h2))
  · obtain ⟨r, hr, h1, h2⟩ := mains_ev q h
    refine ⟨r, hr, ?_, ?_⟩
    · unfold impl_measures.f
      exact Ev.bind ht2 (evF c h1)
    · unfold spec_l07All.f
      exact Ev.bind ht1 (evF c h2)
/-! measLine -/
def measB (r : List Int) : ByteArray := joinB (r.map itob) ⟨#[44]⟩
def measLB (l : List (List Int)) : ByteArray := if l.length = 0 then ⟨#[98, 97, 108, 97, 110, 99, 101, 100]⟩ else joinB (l.map measB) ⟨#[32]⟩
theorem meas_words (l : List (List Int)) (h : RowsOk l) : ∀ x ∈ l.map measB, x.size ≤ 100000 := by
  intro x hx
  obtain ⟨r, hr, rfl⟩ := List.mem_map.1 hx
  obtain ⟨h3, hi⟩ := h.row r hr
  match r, h3 with
  | [a, b, c], _ =>
    have s1 : ∀ z, I64' z → (itob z).size ≤ 20 := fun z hz => by rw [ba_size', itob_data]; exact itoa_len z hz
    have e : measB [a, b, c] = itob a ++ (⟨#[44]⟩ : ByteArray) ++ itob b ++ (⟨#[44]⟩ : ByteArray) ++ itob c := by
      show joinB (([itob a] ++ [itob b]) ++ [itob c]) _ = _
      rw [joinB_snoc _ _ _ (by simp), joinB_snoc _ _ _ (by simp), joinB_one]
    rw [e]
    have h1 := s1 a (hi a (by simp))
    have h2 := s1 b (hi b (by simp))
    have h4 := s1 c (hi c (by simp))
    have e44 : (⟨#[44]⟩ : ByteArray).size = 1 := rfl
    simp only [ByteArray.size_append, e44]
    omega
theorem meas_nums {r : List Int} (h : r.length = 3) : numsB r = measB r := by
  unfold numsB dashB measB
  rw [if_neg (by omega), if_neg (by intro e; have := congrArg List.length e; rw [List.length_map, List.length_nil] at this; omega)]
theorem spec_mline_l0 (l : List (List Int)) (h : RowsOk l) : ∀ d i : Nat, i + d = l.length → Ev (fun k => spec_MeasureLine.l0 k ((l.take i).map measB) l (l.length : Int) (i : Int)) (measLB l) := by
  have hl := h.len
  intro d
  induction d with
  | zero =>
    intro i hi
    refine Ev.step (fun k => by rw [spec_MeasureLine.l0]) ?_
    refine evF (by omega) ?_
    rw [List.take_of_length_le (by omega)]
    unfold measLB
    by_cases c : l.length = 0
    · rw [if_pos c]; exact evT (by rw [List.length_map]; omega) (evSome _)
    · rw [if_neg c]
      exact evF (by rw [List.length_map]; omega) (Ev.bind (spec_join_ev _ _ (meas_words l h) (by decide) (by rw [List.length_map]; omega)) (evSome _))
  | succ d ih =>
    intro i hi
    have h2 : rd_L5 l (i : Int) = l[i] := by unfold rd_L5; rw [show ((i : Int)).toNat = i from by omega]; exact getD_eq _ _ _ (by omega)
    obtain ⟨h3, hi64⟩ := h.row _ (List.getElem_mem (show i < l.length by omega))
    refine Ev.step (fun k => by rw [spec_MeasureLine.l0]) ?_
    refine evT (by omega) (evT (by omega) (evT (by omega) ?_))
    rw [h2]
    have hn := spec_nums_ev l[i] hi64 (by omega)
    rw [meas_nums h3] at hn
    refine Ev.bind hn ?_
    refine evT (by rw [List.length_map, List.length_take]; omega) ?_
    have e : (l.take i).map measB ++ [measB l[i]] = (l.take (i + 1)).map measB := by rw [take_succ' l i (by omega), List.map_append]; rfl
    rw [w64s i (by omega), e]
    exact ih (i + 1) (by omega)
theorem impl_mline_l0 (l : List (List Int)) (h : RowsOk l) : ∀ d i : Nat, i + d = l.length → Ev (fun k => impl_MeasureLine.l0 k ((l.take i).map measB) l (l.length : Int) (i : Int)) (measLB l) := by
  have hl := h.len
  intro d
  induction d with
  | zero =>
    intro i hi
    refine Ev.step (fun k => by rw [impl_MeasureLine.l0]) ?_
    refine evF (by omega) ?_
    rw [List.take_of_length_le (by omega)]
    unfold measLB
    by_cases c : l.length = 0
    · rw [if_pos c]; exact evT (by rw [List.length_map]; omega) (evSome _)
    · rw [if_neg c]
      exact evF (by rw [List.length_map]; omega) (evB (impl_join _ _ (meas_words l h) (by decide) (by rw [List.length_map]; omega)) (evSome _))
  | succ d ih =>
    intro i hi
    have h2 : rd_L5 l (i : Int) = l[i] := by unfold rd_L5; rw [show ((i : Int)).toNat = i from by omega]; exact getD_eq _ _ _ (by omega)
    obtain ⟨h3, hi64⟩ := h.row _ (List.getElem_mem (show i < l.length by omega))
    refine Ev.step (fun k => by rw [impl_MeasureLine.l0]) ?_
    refine evT (by omega) (evT (by omega) (evT (by omega) ?_))
    rw [h2]
    refine Ev.bind (nby_ev l[i] ⟨#[44]⟩ (by decide) hi64 (by omega)) ?_
    refine evT (by rw [List.length_map, List.length_take]; omega) ?_
    have e : (l.take i).map measB ++ [joinB (l[i].map itob) ⟨#[44]⟩] = (l.take (i + 1)).map measB := by rw [take_succ' l i (by omega), List.map_append]; rfl
    rw [w64s i (by omega), e]
    exact ih (i + 1) (by omega)
theorem mline_ev (q : List S53) (hq : q.length ≤ 1048576) : ∃ b, Ev (fun k => spec_MeasureLine.f k q) b ∧ Ev (fun k => impl_MeasureLine.f k q) b := by
  cases hp : polyOk q with
  | true =>
    obtain ⟨r, hr, h1, h2⟩ := measures_ev q (good_of hp)
    refine ⟨measLB r, ?_, ?_⟩
    · unfold spec_MeasureLine.f
      refine Ev.bind (spec_poly_ev q) ?_
      rw [hp]
      exact evT rfl (Ev.bind h2 (spec_mline_l0 r hr r.length 0 (by omega)))
    · unfold impl_MeasureLine.f
      refine Ev.bind (impl_poly_ev q hq) ?_
      rw [hp]
      exact evT rfl (Ev.bind h1 (impl_mline_l0 r hr r.length 0 (by omega)))
  | false =>
    refine ⟨⟨#[110, 111, 110, 101]⟩, ?_, ?_⟩
    · unfold spec_MeasureLine.f
      refine Ev.bind (spec_poly_ev q) ?_
      rw [hp]
      exact evF (by decide) (evSome _)
    · unfold impl_MeasureLine.f
      refine Ev.bind (impl_poly_ev q hq) ?_
      rw [hp]
      exact evF (by decide) (evSome _)

theorem FnExactMeasureLine : ∀ (l0 : List (S55)), (l0.length ≤ 9223372036854775807 ∧ ∀ x ∈ l0, (Opens.I64 x.f0 ∧ Opens.I64 x.f1)) → ∃ k, laws_FnExactMeasureLine.f k l0 = some true := by
  intro l0 g0
  refine Ev.rounds (g := fun k => laws_FnExactMeasureLine.f k l0) ?_
  unfold laws_FnExactMeasureLine.f
  rcases szPointS_ev l0 1048576 (by omega) (by omega) g0.1 with h | ⟨h, hb⟩
  · exact evB h (evT (by omega) (evSome _))
  · have hl : l0.length ≤ 1048576 := by omega
    have hc : (conv l0).length ≤ 1048576 := by rw [conv_length]; exact hl
    have hT := toPointS_ev l0 hl
    obtain ⟨b, h1, h2⟩ := mline_ev (conv l0) hc
    refine evB h (evF (by omega) (Ev.bind hT (Ev.bind h1 (Ev.bind hT (Ev.bind h2 (evT rfl (Ev.bind hT (Ev.bind (eqPointS_ev _ hc) (evT rfl (evSome _)))))))))) 

end Go.Proofs.YtelhjgkjnlcomaaDoor.Pure
