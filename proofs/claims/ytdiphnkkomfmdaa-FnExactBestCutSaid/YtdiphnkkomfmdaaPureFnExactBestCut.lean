/- FnExactBestCut: for every list of points, BestCut of the program and of the reference answer alike and leave the list as it is. No condition. -/
import Derived.Test.YtdiphnkkomfmdaaQFnExactBestCutx13
import Derived.Test.YtdiphnkkomfmdaaVOpens
namespace Go.Proofs.Ytdiphnkkomfmdaa.Pure
open Go.RowKit Go.Proofs.Ytdiphnkkomfmdaa Go.Proofs.Ytdiphnkkomfmdaa.QFnExactBestCut Go.Proofs.YtdiphnkkomfmdaaW.PrintWords Go.Proofs.YtdiphnkkomfmdaaW.PrintLast
set_option linter.unusedVariables false
set_option linter.unusedSimpArgs false

/-! base -/
theorem w64 {x : Int} (h0 : -9223372036854775808 ≤ x) (h1 : x ≤ 9223372036854775807) : wrap64 x = x := by unfold wrap64; omega
theorem w64n (n : Nat) (h : n ≤ 9223372036854775807) : wrap64 (n : Int) = n := w64 (by omega) (by omega)
theorem w64s (n : Nat) (h : n < 9223372036854775807) : wrap64 ((n : Int) + 1) = ((n + 1 : Nat) : Int) := by rw [w64 (by omega) (by omega)]; omega
theorem evSome {α : Type} (r : α) : Ev (fun _ : Nat => some r) r := ⟨0, fun _ _ => rfl⟩
theorem evOf {α : Type} {f : Option α} {r : α} (h : f = some r) : Ev (fun _ : Nat => f) r := ⟨0, fun _ _ => h⟩
theorem evUniq {α : Type} {g : Nat → Option α} {r q : α} (h : Ev g r) (k : Ev g q) : r = q := by
  obtain ⟨a, ha⟩ := h
  obtain ⟨b, hb⟩ := k
  have h1 := ha (a + b) (by omega)
  rw [hb (a + b) (by omega)] at h1
  exact (Option.some.inj h1).symm
theorem evIf {α : Type} {c : Prop} [Decidable c] {f g : Nat → Option α} {r : α} (hp : c → Ev f r) (hn : ¬ c → Ev g r) : Ev (fun k => if c then f k else g k) r := by
  by_cases h : c
  · simp only [if_pos h]; exact hp h
  · simp only [if_neg h]; exact hn h
theorem evT {α : Type} {c : Prop} [Decidable c] {f g : Nat → Option α} {r : α} (h : c) (hp : Ev f r) : Ev (fun k => if c then f k else g k) r := by
  simp only [if_pos h]; exact hp
theorem evF {α : Type} {c : Prop} [Decidable c] {f g : Nat → Option α} {r : α} (h : ¬ c) (hp : Ev g r) : Ev (fun k => if c then f k else g k) r := by
  simp only [if_neg h]; exact hp
theorem evB {α β : Type} {f : Option α} {g : Nat → α → Option β} {a : α} {r : β} (h : f = some a) (k : Ev (fun n => g n a) r) : Ev (fun n => f.bind (g n)) r := by
  subst h
  exact k
theorem getD_eq {α : Type} (l : List α) (i : Nat) (z : α) (h : i < l.length) : l.getD i z = l[i] := by
  rw [List.getD_eq_getElem?_getD, List.getElem?_eq_getElem h]; rfl
theorem take_succ' {α : Type} (l : List α) (i : Nat) (h : i < l.length) : l.take (i + 1) = l.take i ++ [l[i]] := by
  rw [List.take_succ_eq_append_getElem h]
theorem set_fill {α : Type} (l : List α) (z x : α) (i d : Nat) (hi : l.length = i) : (l ++ List.replicate (d + 1) z).set i x = l ++ [x] ++ List.replicate d z := by
  subst hi
  rw [List.set_append_right _ _ (Nat.le_refl _), Nat.sub_self, List.replicate_succ, List.set_cons_zero, List.append_assoc]
  rfl
theorem drop_cons {α : Type} (l : List α) (i : Nat) (h : i < l.length) : l.drop i = l[i] :: l.drop (i + 1) := List.drop_eq_getElem_cons h
/-! l01In -/
theorem l01In_t {a lo hi : Int} (h0 : lo ≤ a) (h1 : a ≤ hi) : spec_l01In.f a lo hi = some true := by unfold spec_l01In.f; rw [if_pos h0]; simp [h1]
theorem l01In_f {a lo hi : Int} (h : ¬ (lo ≤ a ∧ a ≤ hi)) : spec_l01In.f a lo hi = some false := by
  unfold spec_l01In.f
  by_cases h0 : lo ≤ a
  · rw [if_pos h0]; simp; omega
  · rw [if_neg h0]
theorem l01In_eq (a lo hi : Int) : spec_l01In.f a lo hi = some (decide (lo ≤ a ∧ a ≤ hi)) := by
  by_cases h : lo ≤ a ∧ a ≤ hi
  · rw [l01In_t h.1 h.2]; simp [h]
  · rw [l01In_f h]; simp; omega
/-! within -/
theorem within_t {a lo hi : Int} (h0 : lo ≤ a) (h1 : a ≤ hi) : impl_within.f a lo hi = some true := by unfold impl_within.f; rw [if_pos h0]; simp [h1]
theorem within_f {a lo hi : Int} (h : ¬ (lo ≤ a ∧ a ≤ hi)) : impl_within.f a lo hi = some false := by
  unfold impl_within.f
  by_cases h0 : lo ≤ a
  · rw [if_pos h0]; simp; omega
  · rw [if_neg h0]
theorem within_eq (a lo hi : Int) : impl_within.f a lo hi = some (decide (lo ≤ a ∧ a ≤ hi)) := by
  by_cases h : lo ≤ a ∧ a ≤ hi
  · rw [within_t h.1 h.2]; simp [h]
  · rw [within_f h]; simp; omega
/-! down -/
theorem down {P : Nat → Prop} (n : Nat) (h0 : P n) (hs : ∀ i, i < n → P (i + 1) → P i) : ∀ i, i ≤ n → P i := by
  intro i hi
  obtain ⟨d, hd⟩ : ∃ d, i + d = n := ⟨n - i, by omega⟩
  induction d generalizing i with
  | zero => have : i = n := by omega
            subst this; exact h0
  | succ d ih => exact hs i (by omega) (ih (i + 1) (by omega) (by omega))
/-! rdP -/
theorem rdP (l : List S61) (i : Nat) (h : i < l.length) : rd_T61 l (i : Int) = l[i] := by
  unfold rd_T61; rw [show ((i : Int)).toNat = i from by omega]; exact getD_eq _ _ _ h
/-! rdLP -/
theorem rdLP (l : List S77) (i : Nat) (h : i < l.length) : rd_T77 l (i : Int) = l[i] := by
  unfold rd_T77; rw [show ((i : Int)).toNat = i from by omega]; exact getD_eq _ _ _ h
/-! conv -/
def conv (l : List S77) : List S61 := l.map (fun p => ⟨p.f0, p.f1⟩)
theorem conv_length (l : List S77) : (conv l).length = l.length := by simp [conv]
theorem conv_take_succ (l : List S77) (i : Nat) (h : i < l.length) : conv (l.take (i + 1)) = conv (l.take i) ++ [(⟨l[i].f0, l[i].f1⟩ : S61)] := by
  simp only [conv, take_succ' l i h, List.map_append, List.map_cons, List.map_nil]
/-! laws_toPointS -/
theorem toPointS_l0 (l : List S77) (hl : l.length ≤ 9223372036854775806) : ∀ i, i ≤ l.length → Ev (fun k => laws_toPointS.l0 k l (conv (l.take i) ++ List.replicate (l.length - i) z61) (i : Int)) (conv l) := by
  refine down l.length ?_ ?_
  · refine Ev.step (fun k => by rw [laws_toPointS.l0]) ?_
    refine evF (by omega) ?_
    have : conv (l.take l.length) ++ List.replicate (l.length - l.length) z61 = conv l := by rw [List.take_length, Nat.sub_self]; simp
    rw [this]
    exact evSome _
  · intro i hi ih
    refine Ev.step (fun k => by rw [laws_toPointS.l0]) ?_
    refine evT (by omega) (evT (by omega) (evB rfl (evT (by simp [conv]; omega) ?_)))
    rw [w64s i (by omega), rdLP l i hi, show l.length - i = (l.length - (i + 1)) + 1 by omega, show ((i : Int)).toNat = i from by omega, set_fill _ _ _ _ _ (by simp [conv]; omega), ← conv_take_succ l i hi]
    exact ih
theorem toPointS_ev (l : List S77) (hl : l.length ≤ 1048576) : Ev (fun k => laws_toPointS.f k l) (conv l) := by
  unfold laws_toPointS.f
  refine evT (by omega) (evT (by omega) ?_)
  have h := toPointS_l0 l (by omega) 0 (by omega)
  simpa [conv] using h
/-! laws_szPointS -/
theorem szPointS_ev (l : List S77) (a : Int) (ha : 0 ≤ a) (ha2 : a ≤ 1048576) (hl : l.length ≤ 9223372036854775807) : (laws_szPointS.f l a = some (-1)) ∨ (laws_szPointS.f l a = some (a - l.length) ∧ 0 ≤ a - (l.length : Int)) := by
  unfold laws_szPointS.f
  rw [w64 (x := a - (l.length : Int)) (by omega) (by omega)]
  by_cases h : a - (l.length : Int) < 0
  · exact .inl (if_pos h)
  · exact .inr ⟨if_neg h, by omega⟩
/-! laws_eqPointS -/
theorem eqPoint_same (x y : Int) : laws_eqPoint.f x y x y = some true := by unfold laws_eqPoint.f; rw [if_pos rfl, if_pos rfl]
theorem eqPointS_l0 (l : List S61) (hl : l.length ≤ 9223372036854775806) : ∀ i, i ≤ l.length → Ev (fun k => laws_eqPointS.l0 k l l (i : Int)) true := by
  refine down l.length ?_ ?_
  · refine Ev.step (fun k => by rw [laws_eqPointS.l0]) ?_
    exact evF (by omega) (evSome _)
  · intro i hi ih
    refine Ev.step (fun k => by rw [laws_eqPointS.l0]) ?_
    refine evT (by omega) (evT (by omega) (evT (by omega) (evB (eqPoint_same _ _) (evT rfl ?_))))
    rw [w64s i (by omega)]
    exact ih
theorem eqPointS_ev (l : List S61) (hl : l.length ≤ 1048576) : Ev (fun k => laws_eqPointS.f k l l) true := by
  unfold laws_eqPointS.f
  exact evT rfl (by simpa using eqPointS_l0 l (by omega) 0 (by omega))
/-! pts -/
def ptOk (p : S61) : Bool := decide ((0 ≤ p.f0 ∧ p.f0 ≤ 40) ∧ 0 ≤ p.f1 ∧ p.f1 ≤ 40)
theorem spec_PointOk_eq (x y : Int) : spec_PointOk.f x y = some (ptOk ⟨x, y⟩) := by
  unfold spec_PointOk.f ptOk
  rw [l01In_eq, l01In_eq]
  by_cases h : 0 ≤ x ∧ x ≤ 40 <;> simp [h]
theorem impl_PointOk_eq (x y : Int) : impl_PointOk.f x y = some (ptOk ⟨x, y⟩) := by
  unfold impl_PointOk.f ptOk
  rw [within_eq, within_eq]
  by_cases h : 0 ≤ x ∧ x ≤ 40 <;> simp [h]
theorem all_drop {α : Type} (p : α → Bool) (l : List α) (i : Nat) (h : i < l.length) : (l.drop i).all p = (p l[i] && (l.drop (i + 1)).all p) := by
  rw [drop_cons l i h]; rfl
/-! arePoints -/
theorem arePoints_l0 (l : List S61) (hl : l.length ≤ 9223372036854775806) : ∀ i, i ≤ l.length → Ev (fun k => impl_arePoints.l0 k l (l.length : Int) (i : Int)) ((l.drop i).all ptOk) := by
  refine down l.length ?_ ?_
  · refine Ev.step (fun k => by rw [impl_arePoints.l0]) ?_
    rw [List.drop_length]
    exact evF (by omega) (evSome _)
  · intro i hi ih
    refine Ev.step (fun k => by rw [impl_arePoints.l0]) ?_
    refine evT (by omega) (evT (by omega) (evT (by omega) (evB (impl_PointOk_eq _ _) ?_)))
    rw [rdP l i hi, all_drop ptOk l i hi, w64s i (by omega)]
    by_cases c : ptOk l[i] = true
    · rw [c, Bool.true_and]
      exact evT (by first | exact c | rfl) ih
    · rw [Bool.eq_false_iff.2 c, Bool.false_and]
      exact evF (by first | exact c | decide) (evSome _)
theorem arePoints_ev (l : List S61) (hl : l.length ≤ 9223372036854775806) : Ev (fun k => impl_arePoints.f k l) (l.all ptOk) := by
  unfold impl_arePoints.f
  simpa using arePoints_l0 l hl 0 (by omega)
/-! crossBase -/
def crossW (a b p : S61) : Int := wrap64 ((wrap64 ((wrap64 (b.f0 - a.f0)) * (wrap64 (p.f1 - a.f1)))) - (wrap64 ((wrap64 (b.f1 - a.f1)) * (wrap64 (p.f0 - a.f0)))))
def sgn (n : Int) : Int := if n > 0 then 1 else if n < 0 then -1 else 0
theorem sgn_range (n : Int) : -1 ≤ sgn n ∧ sgn n ≤ 1 := by unfold sgn; split <;> (try split) <;> omega
def ptEq (a b : S61) : Bool := a.f0 == b.f0 && (a.f1 == b.f1)
/-! specSign -/
theorem spec_sign_eq (n : Int) : spec_l02Sign.f n = some (sgn n) := by unfold spec_l02Sign.f sgn; split <;> (try split) <;> rfl
/-! implSign -/
theorem impl_sign_eq (n : Int) : impl_sign.f n = some (sgn n) := by unfold impl_sign.f sgn; split <;> (try split) <;> rfl
/-! onB -/
def onB (a b p : S61) : Bool := decide (crossW a b p = 0) && (decide (mn a.f0 b.f0 ≤ p.f0) && (decide (p.f0 ≤ mx a.f0 b.f0) && (decide (mn a.f1 b.f1 ≤ p.f1) && decide (p.f1 ≤ mx a.f1 b.f1))))
theorem spec_cross_eq (a b p : S61) : spec_l02Cross.f a.f0 a.f1 b.f0 b.f1 p.f0 p.f1 = some (crossW a b p) := rfl
theorem impl_cross_eq (a b p : S61) : impl_cross.f a.f0 a.f1 b.f0 b.f1 p.f0 p.f1 = some (crossW a b p) := rfl
theorem spec_on_eq (a b p : S61) : spec_l02On.f a.f0 a.f1 b.f0 b.f1 p.f0 p.f1 = some (onB a b p) := by
  unfold spec_l02On.f onB
  rw [spec_cross_eq, Option.bind_some]
  by_cases h : crossW a b p = 0 <;> by_cases h1 : mn a.f0 b.f0 ≤ p.f0 <;> by_cases h2 : p.f0 ≤ mx a.f0 b.f0 <;> by_cases h3 : mn a.f1 b.f1 ≤ p.f1 <;> simp [h, h1, h2, h3]
theorem impl_on_eq (a b p : S61) : impl_isOn.f a.f0 a.f1 b.f0 b.f1 p.f0 p.f1 = some (onB a b p) := by
  unfold impl_isOn.f onB
  rw [impl_cross_eq, Option.bind_some]
  simp only [within_eq, Option.bind_some]
  by_cases h : crossW a b p = 0 <;> by_cases h1 : mn a.f0 b.f0 ≤ p.f0 <;> by_cases h2 : p.f0 ≤ mx a.f0 b.f0 <;> by_cases h3 : mn a.f1 b.f1 ≤ p.f1 <;> simp [h, h1, h2, h3]
/-! meetV -/
def shared (a b c d : S61) : List S61 := spec_l02Meet.appif (onB a b d) (spec_l02Meet.appif (onB a b c) (spec_l02Meet.appif (onB c d b) (spec_l02Meet.appif (onB c d a) [] a.f0 a.f1) b.f0 b.f1) c.f0 c.f1) d.f0 d.f1
def meetEnds (a b c d : S61) : List S61 := impl_meet.addif (onB c d b) (impl_meet.addif (onB c d a) (impl_meet.addif (onB a b d) (impl_meet.addif (onB a b c) [] c.f0 c.f1) d.f0 d.f1) a.f0 a.f1) b.f0 b.f1
def crosses (a b c d : S61) : Bool := decide (wrap64 (sgn (crossW a b c) * sgn (crossW a b d)) < 0) && decide (wrap64 (sgn (crossW c d a) * sgn (crossW c d b)) < 0)
def meetV (a b c d : S61) : Int := if crosses a b c d = true then 2 else if (shared a b c d).length = 0 then 0 else if spec_l02Meet.far (shared a b c d) = true then 3 else 1
theorem spec_meet_eq (a b c d : S61) : spec_l02Meet.f a.f0 a.f1 b.f0 b.f1 c.f0 c.f1 d.f0 d.f1 = some (meetV a b c d) := by
  unfold spec_l02Meet.f meetV
  simp only [spec_cross_eq, spec_sign_eq, spec_on_eq, Option.bind_some]
  show (if crosses a b c d = true then some 2 else if (shared a b c d).length = 0 then some 0 else if spec_l02Meet.far (shared a b c d) = true then some 3 else some 1) = _
  split
  · rfl
  · split
    · rfl
    · split <;> rfl
theorem mem_appif (t : Bool) (xs : List S61) (p : S61) (x : S61) : x ∈ spec_l02Meet.appif t xs p.f0 p.f1 ↔ x ∈ xs ∨ (t = true ∧ x = p) := by
  unfold spec_l02Meet.appif
  cases t <;> simp
theorem has_mem (xs : List S61) (p : S61) : impl_meet.has xs p.f0 p.f1 = true ↔ p ∈ xs := by
  unfold impl_meet.has
  rw [List.any_eq_true]
  constructor
  · rintro ⟨q, hq, h⟩
    obtain ⟨h0, h1⟩ : p.f0 = q.f0 ∧ p.f1 = q.f1 := by simpa using h
    cases p; cases q
    simp only at h0 h1
    subst h0; subst h1
    exact hq
  · intro h
    exact ⟨p, h, by simp⟩
theorem mem_addif (t : Bool) (xs : List S61) (p : S61) (x : S61) : x ∈ impl_meet.addif t xs p.f0 p.f1 ↔ x ∈ xs ∨ (t = true ∧ x = p) := by
  unfold impl_meet.addif impl_meet.addp
  cases t with
  | false => simp
  | true =>
    rw [if_pos rfl]
    split
    · rename_i h
      rw [has_mem] at h
      constructor
      · exact fun h2 => .inl h2
      · rintro (h2 | ⟨_, rfl⟩)
        · exact h2
        · exact h
    · simp
theorem nodup_addif (t : Bool) (xs : List S61) (p : S61) (h : xs.Nodup) : (impl_meet.addif t xs p.f0 p.f1).Nodup := by
  unfold impl_meet.addif impl_meet.addp
  split
  · split
    · exact h
    · rename_i h2
      rw [has_mem] at h2
      rw [List.nodup_append]
      refine ⟨h, by simp, fun a ha b hb => ?_⟩
      rw [List.mem_singleton] at hb
      subst hb
      intro e
      exact h2 (by rw [e] at ha; exact ha)
  · exact h
theorem ends_mem (a b c d x : S61) : x ∈ meetEnds a b c d ↔ x ∈ shared a b c d := by
  unfold meetEnds shared
  simp only [mem_addif, mem_appif]
  constructor
  · rintro ((((h | h) | h) | h) | h)
    · cases h
    · exact .inl (.inr h)
    · exact .inr h
    · exact .inl (.inl (.inl (.inr h)))
    · exact .inl (.inl (.inr h))
  · rintro ((((h | h) | h) | h) | h)
    · cases h
    · exact .inl (.inr h)
    · exact .inr h
    · exact .inl (.inl (.inl (.inr h)))
    · exact .inl (.inl (.inr h))
theorem ends_nodup (a b c d : S61) : (meetEnds a b c d).Nodup := nodup_addif _ _ _ (nodup_addif _ _ _ (nodup_addif _ _ _ (nodup_addif _ _ _ List.nodup_nil)))
theorem w64_0 : wrap64 0 = 0 := w64 (by omega) (by omega)
theorem sgn0 {n : Int} (h : n = 0) : sgn n = 0 := by subst h; rfl
theorem crosses_f {a b c d : S61} (h : crossW a b c = 0 ∨ crossW a b d = 0 ∨ crossW c d a = 0 ∨ crossW c d b = 0) : crosses a b c d = false := by
  have w0 : ¬ wrap64 0 < 0 := by rw [w64_0]; decide
  unfold crosses
  rcases h with h | h | h | h <;> rw [sgn0 h] <;> simp [w0]
theorem onB_cross {a b p : S61} (h : onB a b p = true) : crossW a b p = 0 := by
  unfold onB at h
  simp only [Bool.and_eq_true, decide_eq_true_eq] at h
  exact h.1
theorem shared_crosses {a b c d x : S61} (h : x ∈ shared a b c d) : crosses a b c d = false := by
  unfold shared at h
  simp only [mem_appif] at h
  apply crosses_f
  rcases h with (((h | h) | h) | h) | h
  · cases h
  · exact .inr (.inr (.inl (onB_cross h.1)))
  · exact .inr (.inr (.inr (onB_cross h.1)))
  · exact .inl (onB_cross h.1)
  · exact .inr (.inl (onB_cross h.1))
theorem far_iff (xs : List S61) : spec_l02Meet.far xs = true ↔ ∃ q ∈ xs, q ≠ rd_T61 xs 0 := by
  unfold spec_l02Meet.far
  rw [List.any_eq_true]
  constructor
  · rintro ⟨q, hq, h⟩
    refine ⟨q, hq, fun e => ?_⟩
    rw [← e] at h
    simp at h
  · rintro ⟨q, hq, h⟩
    refine ⟨q, hq, ?_⟩
    rw [Bool.not_eq_true', Bool.and_eq_false_iff]
    by_cases h0 : q.f0 = (rd_T61 xs 0).f0
    · by_cases h1 : q.f1 = (rd_T61 xs 0).f1
      · exact absurd (by cases q; generalize rd_T61 xs 0 = y at *; cases y; simp_all) h
      · exact .inr (by simpa using h1)
    · exact .inl (by simpa using h0)
theorem impl_meet_eq (a b c d : S61) : impl_meet.f a.f0 a.f1 b.f0 b.f1 c.f0 c.f1 d.f0 d.f1 = some (meetV a b c d) := by
  unfold impl_meet.f meetV
  simp only [impl_cross_eq, impl_sign_eq, impl_on_eq, Option.bind_some]
  show (if (meetEnds a b c d).length > 1 then some 3 else if (meetEnds a b c d).length = 1 then some 1 else if wrap64 (sgn (crossW a b c) * sgn (crossW a b d)) < 0 then (if wrap64 (sgn (crossW c d a) * sgn (crossW c d b)) < 0 then some 2 else some 0) else some 0) = _
  have hm := ends_mem a b c d
  have hn := ends_nodup a b c d
  by_cases hS : shared a b c d = []
  · have hE : meetEnds a b c d = [] := by
      rw [List.eq_nil_iff_forall_not_mem]
      intro x hx
      rw [hm, hS] at hx
      cases hx
    rw [hE, hS]
    simp only [List.length_nil, if_true]
    rw [if_neg (by omega), if_neg (by omega)]
    unfold crosses
    by_cases h1 : wrap64 (sgn (crossW a b c) * sgn (crossW a b d)) < 0 <;> by_cases h2 : wrap64 (sgn (crossW c d a) * sgn (crossW c d b)) < 0 <;> simp [h1, h2]
  · obtain ⟨y, S, hy⟩ : ∃ y S, shared a b c d = y :: S := by
      cases h : shared a b c d with
      | nil => exact absurd h hS
      | cons y S => exact ⟨y, S, rfl⟩
    have hcr : crosses a b c d = false := shared_crosses (x := y) (by rw [hy]; exact List.mem_cons_self)
    have hR : ∀ z : Int, (if crosses a b c d = true then 2 else if (shared a b c d).length = 0 then 0 else z) = z := fun z => by rw [hcr, if_neg (by decide), if_neg (by rw [hy]; simp)]
    rw [hR]
    have h0 : rd_T61 (shared a b c d) 0 = y := by rw [hy]; rfl
    generalize meetEnds a b c d = E at hm hn
    match E, hm, hn with
    | [], hm, _ => exact absurd ((hm y).2 (by rw [hy]; exact List.mem_cons_self)) (by simp)
    | [x], hm, _ =>
      have hf : ¬ spec_l02Meet.far (shared a b c d) = true := by
        rw [far_iff, h0]
        rintro ⟨q, hq, hne⟩
        have h1 := (hm q).2 hq
        have h2 := (hm y).2 (by rw [hy]; exact List.mem_cons_self)
        rw [List.mem_singleton] at h1 h2
        exact hne (h1.trans h2.symm)
      rw [if_neg hf]
      rfl
    | x :: z :: E, hm, hn =>
      have hf : spec_l02Meet.far (shared a b c d) = true := by
        rw [far_iff, h0]
        have hxz : x ≠ z := by
          intro e
          rw [List.nodup_cons] at hn
          exact hn.1 (by rw [e]; exact List.mem_cons_self)
        by_cases e : x = y
        · exact ⟨z, (hm z).1 (by simp), fun e2 => hxz (e.trans e2.symm)⟩
        · exact ⟨x, (hm x).1 (by simp), e⟩
      rw [if_pos hf]
      exact if_pos (by simp)
theorem crossW_self0 (a b : S61) : crossW a b a = 0 := by
  unfold crossW
  rw [Int.sub_self, Int.sub_self, w64_0, Int.mul_zero, Int.mul_zero, w64_0, Int.sub_self, w64_0]
theorem crossW_self1 (a b : S61) : crossW a b b = 0 := by
  unfold crossW
  rw [Int.mul_comm (wrap64 (b.f1 - a.f1)), Int.sub_self, w64_0]
theorem mn_le (a b : Int) : mn a b ≤ a ∧ mn a b ≤ b := by unfold mn; split <;> omega
theorem le_mx (a b : Int) : a ≤ mx a b ∧ b ≤ mx a b := by unfold mx; split <;> omega
theorem onB_0 (a b : S61) : onB a b a = true := by
  unfold onB
  simp [crossW_self0, mn_le, le_mx]
theorem onB_1 (a b : S61) : onB a b b = true := by
  unfold onB
  simp [crossW_self1, mn_le, le_mx]
theorem meet_share {a b c d : S61} (h : c = a ∨ c = b ∨ d = a ∨ d = b) : meetV a b c d = 1 ∨ meetV a b c d = 3 := by
  have hx : ∃ x, x ∈ shared a b c d := by
    unfold shared
    simp only [mem_appif]
    rcases h with rfl | rfl | rfl | rfl
    · exact ⟨c, .inl (.inr ⟨onB_0 _ _, rfl⟩)⟩
    · exact ⟨c, .inl (.inr ⟨onB_1 _ _, rfl⟩)⟩
    · exact ⟨d, .inr ⟨onB_0 _ _, rfl⟩⟩
    · exact ⟨d, .inr ⟨onB_1 _ _, rfl⟩⟩
  obtain ⟨x, hx⟩ := hx
  unfold meetV
  rw [shared_crosses hx, if_neg (by decide), if_neg (fun h => by rw [List.length_eq_zero_iff] at h; rw [h] at hx; cases hx)]
  split
  · exact .inr rfl
  · exact .inl rfl
/-! polyBase -/
def allF (P : Nat → Bool) : Nat → Nat → Bool
  | _, 0 => true
  | i, d + 1 => P i && allF P (i + 1) d
theorem allF_iff (P : Nat → Bool) : ∀ d i, allF P i d = true ↔ ∀ j, i ≤ j → j < i + d → P j = true
  | 0, i => ⟨fun _ j h0 h1 => by omega, fun _ => rfl⟩
  | d + 1, i => by
    rw [allF, Bool.and_eq_true, allF_iff P d (i + 1)]
    constructor
    · rintro ⟨h0, h⟩ j h1 h2
      by_cases e : j = i
      · rw [e]; exact h0
      · exact h j (by omega) (by omega)
    · intro h
      exact ⟨h i (Nat.le_refl _) (by omega), fun j h1 h2 => h j (by omega) (by omega)⟩
theorem allF_t {P : Nat → Bool} {i d : Nat} (h : P i = true) : allF P i (d + 1) = allF P (i + 1) d := by simp [allF, h]
theorem allF_f {P : Nat → Bool} {i d : Nat} (h : P i = false) : allF P i (d + 1) = false := by simp [allF, h]
def pt (p : List S61) (j : Nat) : S61 := rd_T61 p (j : Int)
theorem tmod_nxt {i n : Nat} (hi : i < 1152921504606846976) : Int.tmod (wrap64 ((i : Int) + 1)) (n : Int) = (((i + 1) % n : Nat) : Int) := by
  rw [w64s i (by omega)]
  rfl
def nx (p : List S61) (j : Nat) : S61 := pt p ((j + 1) % p.length)
def edgeNe (p : List S61) (j : Nat) : Bool := !(ptEq (pt p j) (nx p j))
def pairB (p : List S61) (i k : Nat) : Bool := decide (meetV (pt p i) (nx p i) (pt p k) (nx p k) = impl_PolygonOk.want (p.length : Int) (i : Int) (k : Int))
def rowB (p : List S61) (i : Nat) : Bool := allF (pairB p i) (i + 1) (p.length - (i + 1))
def polyOk (p : List S61) : Bool := decide (3 ≤ p.length ∧ p.length ≤ 10) && (p.all ptOk && (allF (edgeNe p) 0 p.length && allF (rowB p) 0 p.length))
theorem polyOk_len {p : List S61} (h : polyOk p = true) : 3 ≤ p.length ∧ p.length ≤ 10 := by
  unfold polyOk at h
  rw [Bool.and_eq_true, decide_eq_true_eq] at h
  exact h.1
theorem polyOk_pt {p : List S61} (h : polyOk p = true) {j : Nat} (hj : j < p.length) : (0 ≤ (pt p j).f0 ∧ (pt p j).f0 ≤ 40) ∧ 0 ≤ (pt p j).f1 ∧ (pt p j).f1 ≤ 40 := by
  unfold polyOk at h
  simp only [Bool.and_eq_true, List.all_eq_true] at h
  have h2 := h.2.1 _ (List.getElem_mem hj)
  unfold pt
  rw [rdP _ _ hj]
  unfold ptOk at h2
  simpa using h2
/-! specPoly -/
theorem spec_poly_l3 (p : List S61) (hn : p.length ≤ 10) (i : Nat) (hi : i < p.length) (R : Bool) (c : Int) (hR : Ev (fun k => spec_PolygonOk.l2 k p (p.length : Int) c (wrap64 ((i : Int) + 1))) R) :
    ∀ d k : Nat, k + d = p.length → Ev (fun f => spec_PolygonOk.l3 f p (p.length : Int) (i : Int) (k : Int) c (i : Int)) (allF (pairB p i) k d && R) := by
  intro d
  induction d with
  | zero =>
    intro k hk
    refine Ev.step (fun f => by rw [spec_PolygonOk.l3]) ?_
    refine evF (by omega) ?_
    simpa [allF] using hR
  | succ d ih =>
    intro k hk
    have ti := tmod_nxt (i := i) (n := p.length) (by omega)
    have tk := tmod_nxt (i := k) (n := p.length) (by omega)
    have hmi : (i + 1) % p.length < p.length := Nat.mod_lt _ (by omega)
    have hmk : (k + 1) % p.length < p.length := Nat.mod_lt _ (by omega)
    refine Ev.step (fun f => by rw [spec_PolygonOk.l3]) ?_
    refine evT (by omega) (evT (by omega) (evT (by omega) (evF (by omega) ?_)))
    rw [ti, tk]
    refine evT (by omega) (evT (by omega) (evT (by omega) (evT (by omega) (evT (by omega) (evT (by omega) ?_)))))
    refine evB (spec_meet_eq (pt p i) (nx p i) (pt p k) (nx p k)) ?_
    have hj : ∀ b : Bool, ((if b = true then (1 : Int) else 0) = impl_PolygonOk.want (p.length : Int) (i : Int) (k : Int)) → Ev (fun f => spec_PolygonOk.j4 f p (p.length : Int) (i : Int) (k : Int) (meetV (pt p i) (nx p i) (pt p k) (nx p k)) c (i : Int) b) (allF (pairB p i) k (d + 1) && R) := by
      intro b hb
      refine Ev.step (fun f => by rw [spec_PolygonOk.j4]) ?_
      by_cases hm : meetV (pt p i) (nx p i) (pt p k) (nx p k) = impl_PolygonOk.want (p.length : Int) (i : Int) (k : Int)
      · have h1 : pairB p i k = true := decide_eq_true hm
        rw [allF_t h1]
        have := ih (k + 1) (by omega)
        rw [← w64s k (by omega)] at this
        cases b with
        | true => exact evT rfl (evT (by rw [hm, ← hb]; rfl) this)
        | false => exact evF (by decide) (evT (by rw [hm, ← hb]; rfl) this)
      · have h1 : pairB p i k = false := decide_eq_false hm
        rw [allF_f h1]
        cases b with
        | true => exact evT rfl (evF (by rw [if_pos rfl] at hb; omega) (evSome _))
        | false => exact evF (by decide) (evF (by rw [if_neg (by decide)] at hb; omega) (evSome _))
    have w1 : wrap64 ((i : Int) + 1) = (i : Int) + 1 := w64 (by omega) (by omega)
    have w2 : wrap64 ((p.length : Int) - 1) = (p.length : Int) - 1 := w64 (by omega) (by omega)
    by_cases e1 : (k : Int) = wrap64 ((i : Int) + 1)
    · refine evT e1 (hj true ?_)
      show (1 : Int) = impl_PolygonOk.want _ _ _
      unfold impl_PolygonOk.want
      rw [if_pos (by omega)]
    · refine evF e1 ?_
      by_cases e2 : (i : Int) = 0
      · refine evT e2 (hj _ ?_)
        have hw : impl_PolygonOk.want (p.length : Int) (i : Int) (k : Int) = if (k : Int) = (p.length : Int) - 1 then 1 else 0 := by
          unfold impl_PolygonOk.want
          rw [if_neg (by omega), if_pos e2]
        rw [hw, w2]
        by_cases e3 : (k : Int) = (p.length : Int) - 1
        · rw [if_pos e3, if_pos (by rw [e3]; simp)]
        · rw [if_neg e3, if_neg (by simpa using e3)]
      · refine evF e2 (hj false ?_)
        show (0 : Int) = impl_PolygonOk.want _ _ _
        unfold impl_PolygonOk.want
        rw [if_neg (by omega), if_neg e2]
theorem spec_poly_l2 (p : List S61) (hn : p.length ≤ 10) : ∀ d i : Nat, i + d = p.length → Ev (fun f => spec_PolygonOk.l2 f p (p.length : Int) (p.length : Int) (i : Int)) (allF (rowB p) i d) := by
  intro d
  induction d with
  | zero =>
    intro i hi
    refine Ev.step (fun f => by rw [spec_PolygonOk.l2]) ?_
    exact evF (by omega) (evSome _)
  | succ d ih =>
    intro i hi
    refine Ev.step (fun f => by rw [spec_PolygonOk.l2]) ?_
    refine evT (by omega) ?_
    have h2 := ih (i + 1) (by omega)
    rw [← w64s i (by omega)] at h2
    have h := spec_poly_l3 p hn i (by omega) _ _ h2 (p.length - (i + 1)) (i + 1) (by omega)
    rw [← w64s i (by omega)] at h
    exact h
theorem spec_poly_l1 (p : List S61) (hn : p.length ≤ 10) : ∀ d i : Nat, i + d = p.length → Ev (fun f => spec_PolygonOk.l1 f p (p.length : Int) (p.length : Int) (i : Int)) (allF (edgeNe p) i d && allF (rowB p) 0 p.length) := by
  intro d
  induction d with
  | zero =>
    intro i hi
    refine Ev.step (fun f => by rw [spec_PolygonOk.l1]) ?_
    refine evF (by omega) ?_
    simpa [allF] using spec_poly_l2 p hn p.length 0 (by omega)
  | succ d ih =>
    intro i hi
    have ti := tmod_nxt (i := i) (n := p.length) (by omega)
    have hmi : (i + 1) % p.length < p.length := Nat.mod_lt _ (by omega)
    refine Ev.step (fun f => by rw [spec_PolygonOk.l1]) ?_
    refine evT (by omega) (evT (by omega) (evT (by omega) (evF (by omega) ?_)))
    rw [ti]
    refine evT (by omega) (evT (by omega) ?_)
    by_cases e : ptEq (pt p i) (nx p i) = true
    · refine evT e ?_
      rw [allF_f (by unfold edgeNe; rw [e]; rfl)]
      exact evSome _
    · refine evF e ?_
      rw [allF_t (by unfold edgeNe; rw [Bool.not_eq_true] at e; rw [e]; rfl), w64s i (by omega)]
      exact ih (i + 1) (by omega)
theorem spec_poly_l0 (p : List S61) (hn : p.length ≤ 10) : ∀ i, i ≤ p.length → Ev (fun k => spec_PolygonOk.l0 k p p (p.length : Int) (i : Int)) ((p.drop i).all ptOk && (allF (edgeNe p) 0 p.length && allF (rowB p) 0 p.length)) := by
  refine down p.length ?_ ?_
  · refine Ev.step (fun f => by rw [spec_PolygonOk.l0]) ?_
    refine evF (by omega) ?_
    rw [List.drop_length]
    simpa using spec_poly_l1 p hn p.length 0 (by omega)
  · intro i hi ih
    refine Ev.step (fun f => by rw [spec_PolygonOk.l0]) ?_
    refine evT (by omega) (evT (by omega) (evT (by omega) ?_))
    refine evB (spec_PointOk_eq _ _) ?_
    rw [all_drop _ _ _ hi, rdP _ _ hi, w64s i (by omega)]
    cases h : ptOk p[i] with
    | true => exact evT rfl (by simpa using ih)
    | false => exact evF (by decide) (by simpa using evSome false)
theorem spec_poly_ev (p : List S61) : Ev (fun k => spec_PolygonOk.f k p) (polyOk p) := by
  unfold spec_PolygonOk.f polyOk
  by_cases h : 3 ≤ p.length ∧ p.length ≤ 10
  · refine evB (l01In_t (by omega) (by omega)) (evT rfl ?_)
    have := spec_poly_l0 p h.2 0 (by omega)
    simpa [h] using this
  · refine evB (l01In_f (by omega)) (evF (by decide) ?_)
    simpa [h] using evSome false
/-! implPoly -/
def cellB (p : List S61) (i k : Nat) : Bool := edgeNe p i && (edgeNe p k && pairB p i k)
theorem impl_poly_row (p : List S61) (hn : p.length ≤ 10) (i : Nat) (hi : i < p.length) (R : Bool) (hR : Ev (fun f => if (i : Int) + 1 < (p.length : Int) then impl_PolygonOk.li p f ((i : Int) + 1) ((i : Int) + 2) else some true) R) :
    ∀ d k : Nat, k + d = p.length → i < k → Ev (fun f => impl_PolygonOk.li p f (i : Int) (k : Int)) (allF (cellB p i) k d && R) := by
  intro d
  induction d with
  | zero =>
    intro k hk hik
    refine Ev.step (fun f => by rw [impl_PolygonOk.li]) ?_
    refine evF (by omega) ?_
    simpa [allF] using hR
  | succ d ih =>
    intro k hk hik
    have tk : ((k : Int) + 1) % (p.length : Int) = (((k + 1) % p.length : Nat) : Int) := rfl
    have ti : (i + 1) % p.length = i + 1 := Nat.mod_eq_of_lt (by omega)
    have hx : rd_T61 p ((i : Int) + 1) = nx p i := by unfold nx pt; rw [ti]; rfl
    have hy : rd_T61 p (((k : Int) + 1) % (p.length : Int)) = nx p k := by unfold nx pt; rw [tk]
    refine Ev.step (fun f => by rw [impl_PolygonOk.li]) ?_
    refine evT (by omega) ?_
    rw [hx, hy]
    by_cases e : ptEq (pt p i) (nx p i) = true
    · refine evT e ?_
      rw [allF_f (by unfold cellB edgeNe; rw [e]; rfl)]
      exact evSome _
    · refine evF e ?_
      have e' : edgeNe p i = true := by unfold edgeNe; rw [Bool.not_eq_true] at e; rw [e]; rfl
      by_cases g : ptEq (pt p k) (nx p k) = true
      · refine evT g ?_
        rw [allF_f (by unfold cellB; rw [e']; unfold edgeNe; rw [g]; rfl)]
        exact evSome _
      · refine evF g ?_
        have g' : edgeNe p k = true := by unfold edgeNe; rw [Bool.not_eq_true] at g; rw [g]; rfl
        refine evB (impl_meet_eq (pt p i) (nx p i) (pt p k) (nx p k)) ?_
        by_cases hm : meetV (pt p i) (nx p i) (pt p k) (nx p k) = impl_PolygonOk.want (p.length : Int) (i : Int) (k : Int)
        · refine evT hm ?_
          rw [allF_t (by unfold cellB pairB; rw [e', g', decide_eq_true hm]; rfl)]
          exact ih (k + 1) (by omega) (by omega)
        · refine evF hm ?_
          rw [allF_f (by unfold cellB pairB; rw [e', g', decide_eq_false hm]; rfl)]
          exact evSome _
def rowC (p : List S61) (i : Nat) : Bool := allF (cellB p i) (i + 1) (p.length - (i + 1))
theorem impl_poly_li (p : List S61) (hn : p.length ≤ 10) : ∀ d i : Nat, i + 1 + d = p.length → Ev (fun f => impl_PolygonOk.li p f (i : Int) ((i : Int) + 1)) (allF (rowC p) i (d + 1)) := by
  intro d
  induction d with
  | zero =>
    intro i hi
    have h := impl_poly_row p hn i (by omega) true (evF (by omega) (evSome _)) (p.length - (i + 1)) (i + 1) (by omega) (by omega)
    rw [allF, allF]
    exact h
  | succ d ih =>
    intro i hi
    have h1 := ih (i + 1) (by omega)
    have h := impl_poly_row p hn i (by omega) _ (evT (by omega) (by rw [show (((i + 1 : Nat) : Int) + 1) = (i : Int) + 2 by omega] at h1; exact h1)) (p.length - (i + 1)) (i + 1) (by omega) (by omega)
    rw [allF]
    exact h
theorem rows_same (p : List S61) (h3 : 3 ≤ p.length) : allF (rowC p) 0 p.length = (allF (edgeNe p) 0 p.length && allF (rowB p) 0 p.length) := by
  rw [Bool.eq_iff_iff, Bool.and_eq_true, allF_iff, allF_iff, allF_iff]
  have hB : ∀ j, rowB p j = true ↔ ∀ k, j + 1 ≤ k → k < j + 1 + (p.length - (j + 1)) → pairB p j k = true := fun j => allF_iff _ _ _
  have hC : ∀ j, rowC p j = true ↔ ∀ k, j + 1 ≤ k → k < j + 1 + (p.length - (j + 1)) → cellB p j k = true := fun j => allF_iff _ _ _
  have hc : ∀ i k, cellB p i k = true ↔ edgeNe p i = true ∧ edgeNe p k = true ∧ pairB p i k = true := fun i k => by unfold cellB; rw [Bool.and_eq_true, Bool.and_eq_true]
  constructor
  · intro h
    refine ⟨fun j _ hj => ?_, fun j _ hj => (hB j).2 fun k h1 h2 => ((hc j k).1 ((hC j).1 (h j (by omega) hj) k h1 h2)).2.2⟩
    by_cases e : j + 1 < p.length
    · exact ((hc j (j + 1)).1 ((hC j).1 (h j (by omega) hj) (j + 1) (by omega) (by omega))).1
    · exact ((hc 0 j).1 ((hC 0).1 (h 0 (by omega) (by omega)) j (by omega) (by omega))).2.1
  · rintro ⟨h1, h2⟩ j _ hj
    exact (hC j).2 fun k h3 h4 => (hc j k).2 ⟨h1 j (by omega) hj, h1 k (by omega) (by omega), (hB j).1 (h2 j (by omega) hj) k h3 h4⟩
theorem impl_poly_ev (p : List S61) (hl : p.length ≤ 1048576) : Ev (fun k => impl_PolygonOk.f k p) (polyOk p) := by
  unfold impl_PolygonOk.f polyOk
  by_cases h : 3 ≤ p.length ∧ p.length ≤ 10
  · refine evF (by omega) ?_
    refine Ev.bind (arePoints_ev p (by omega)) ?_
    rw [decide_eq_true h, Bool.true_and]
    cases ha : p.all ptOk with
    | false => exact evF (by decide) (evSome _)
    | true =>
      refine evT rfl ?_
      rw [Bool.true_and, ← rows_same p h.1]
      have := impl_poly_li p h.2 (p.length - 1) 0 (by omega)
      rw [show p.length - 1 + 1 = p.length by omega] at this
      exact this
  · refine evT (by omega) ?_
    rw [decide_eq_false h]
    exact evSome _
/-! inside -/
def rimB (p : List S61) (x : S61) (j : Nat) : Bool := !(onB (pt p j) (nx p j) x)
def togS (p : List S61) (x : S61) (j : Nat) : Bool := (decide ((pt p j).f1 > x.f1) != decide ((nx p j).f1 > x.f1)) && ((decide ((nx p j).f1 > (pt p j).f1) && decide (crossW (pt p j) (nx p j) x > 0)) || (decide ((nx p j).f1 < (pt p j).f1) && decide (crossW (pt p j) (nx p j) x < 0)))
def togI (p : List S61) (x : S61) (j : Nat) : Bool := if (pt p j).f1 > (nx p j).f1 then (decide ((nx p j).f1 ≤ x.f1) && (decide (x.f1 < (pt p j).f1) && decide (crossW (nx p j) (pt p j) x > 0))) else (decide ((pt p j).f1 ≤ x.f1) && (decide (x.f1 < (nx p j).f1) && decide (crossW (pt p j) (nx p j) x > 0)))
def par (T : Nat → Bool) : Nat → Nat → Bool → Bool
  | _, 0, b => b
  | i, d + 1, b => par T (i + 1) d (if T i = true then !b else b)
theorem par_congr {T U : Nat → Bool} : ∀ (d i : Nat) (b : Bool), (∀ j, i ≤ j → j < i + d → T j = U j) → par T i d b = par U i d b
  | 0, _, _, _ => rfl
  | d + 1, i, b, h => by
    rw [par, par, h i (Nat.le_refl _) (by omega)]
    exact par_congr d (i + 1) _ (fun j h1 h2 => h j (by omega) (by omega))
def insV (p : List S61) (x : S61) : Bool := !(allF (rimB p x) 0 p.length) || par (togS p x) 0 p.length false
theorem cross_small {a b x : S61} (ha : (0 ≤ a.f0 ∧ a.f0 ≤ 80) ∧ 0 ≤ a.f1 ∧ a.f1 ≤ 80) (hb : (0 ≤ b.f0 ∧ b.f0 ≤ 80) ∧ 0 ≤ b.f1 ∧ b.f1 ≤ 80) (hx : (0 ≤ x.f0 ∧ x.f0 ≤ 80) ∧ 0 ≤ x.f1 ∧ x.f1 ≤ 80) :
    crossW a b x = (b.f0 - a.f0) * (x.f1 - a.f1) - (b.f1 - a.f1) * (x.f0 - a.f0) := by
  have small : ∀ u v : Int, -80 ≤ u → u ≤ 80 → -80 ≤ v → v ≤ 80 → -6400 ≤ u * v ∧ u * v ≤ 6400 := by
    intro u v h1 h2 h3 h4
    have a1 : 0 ≤ (80 - u) * (80 + v) := Int.mul_nonneg (by omega) (by omega)
    have a2 : 0 ≤ (80 + u) * (80 - v) := Int.mul_nonneg (by omega) (by omega)
    have a3 : 0 ≤ (80 - u) * (80 - v) := Int.mul_nonneg (by omega) (by omega)
    have a4 : 0 ≤ (80 + u) * (80 + v) := Int.mul_nonneg (by omega) (by omega)
    have e1 : (80 - u) * (80 + v) = 6400 + 80 * v - 80 * u - u * v := by rw [Int.sub_mul, Int.mul_add, Int.mul_add]; omega
    have e2 : (80 + u) * (80 - v) = 6400 - 80 * v + 80 * u - u * v := by rw [Int.add_mul, Int.mul_sub, Int.mul_sub]; omega
    have e3 : (80 - u) * (80 - v) = 6400 - 80 * v - 80 * u + u * v := by rw [Int.sub_mul, Int.mul_sub, Int.mul_sub]; omega
    have e4 : (80 + u) * (80 + v) = 6400 + 80 * v + 80 * u + u * v := by rw [Int.add_mul, Int.mul_add, Int.mul_add]; omega
    omega
  have h1 := small (b.f0 - a.f0) (x.f1 - a.f1) (by omega) (by omega) (by omega) (by omega)
  have h2 := small (b.f1 - a.f1) (x.f0 - a.f0) (by omega) (by omega) (by omega) (by omega)
  unfold crossW
  rw [w64 (x := b.f0 - a.f0) (by omega) (by omega), w64 (x := x.f1 - a.f1) (by omega) (by omega), w64 (x := b.f1 - a.f1) (by omega) (by omega), w64 (x := x.f0 - a.f0) (by omega) (by omega)]
  generalize (b.f0 - a.f0) * (x.f1 - a.f1) = s at h1
  generalize (b.f1 - a.f1) * (x.f0 - a.f0) = t at h2
  rw [w64 (x := s) (by omega) (by omega), w64 (x := t) (by omega) (by omega), w64 (by omega) (by omega)]
theorem cross_swap {a b x : S61} (ha : (0 ≤ a.f0 ∧ a.f0 ≤ 80) ∧ 0 ≤ a.f1 ∧ a.f1 ≤ 80) (hb : (0 ≤ b.f0 ∧ b.f0 ≤ 80) ∧ 0 ≤ b.f1 ∧ b.f1 ≤ 80) (hx : (0 ≤ x.f0 ∧ x.f0 ≤ 80) ∧ 0 ≤ x.f1 ∧ x.f1 ≤ 80) :
    crossW b a x = - crossW a b x := by
  rw [cross_small ha hb hx, cross_small hb ha hx]
  have e1 : (a.f0 - b.f0) * (x.f1 - b.f1) = a.f0 * x.f1 - a.f0 * b.f1 - b.f0 * x.f1 + b.f0 * b.f1 := by rw [Int.sub_mul, Int.mul_sub, Int.mul_sub]; omega
  have e2 : (a.f1 - b.f1) * (x.f0 - b.f0) = a.f1 * x.f0 - a.f1 * b.f0 - b.f1 * x.f0 + b.f1 * b.f0 := by rw [Int.sub_mul, Int.mul_sub, Int.mul_sub]; omega
  have e3 : (b.f0 - a.f0) * (x.f1 - a.f1) = b.f0 * x.f1 - b.f0 * a.f1 - a.f0 * x.f1 + a.f0 * a.f1 := by rw [Int.sub_mul, Int.mul_sub, Int.mul_sub]; omega
  have e4 : (b.f1 - a.f1) * (x.f0 - a.f0) = b.f1 * x.f0 - b.f1 * a.f0 - a.f1 * x.f0 + a.f1 * a.f0 := by rw [Int.sub_mul, Int.mul_sub, Int.mul_sub]; omega
  rw [e1, e2, e3, e4, Int.mul_comm b.f1 b.f0, Int.mul_comm a.f1 b.f0, Int.mul_comm b.f1 a.f0, Int.mul_comm a.f1 a.f0]
  omega
theorem tog_same {p : List S61} {x : S61} {j : Nat} (ha : (0 ≤ (pt p j).f0 ∧ (pt p j).f0 ≤ 80) ∧ 0 ≤ (pt p j).f1 ∧ (pt p j).f1 ≤ 80) (hb : (0 ≤ (nx p j).f0 ∧ (nx p j).f0 ≤ 80) ∧ 0 ≤ (nx p j).f1 ∧ (nx p j).f1 ≤ 80) (hx : (0 ≤ x.f0 ∧ x.f0 ≤ 80) ∧ 0 ≤ x.f1 ∧ x.f1 ≤ 80) :
    togI p x j = togS p x j := by
  have hs := cross_swap ha hb hx
  unfold togI togS
  generalize crossW (nx p j) (pt p j) x = c2 at hs
  generalize crossW (pt p j) (nx p j) x = c1 at hs
  subst hs
  generalize (pt p j).f1 = a
  generalize (nx p j).f1 = b
  generalize x.f1 = y
  have hc : (decide (-c1 > 0)) = decide (c1 < 0) := by rw [decide_eq_decide]; omega
  rw [hc]
  by_cases h1 : a > b
  · rw [if_pos h1]
    have z1 : decide (b > a) = false := decide_eq_false (by omega)
    have z2 : decide (b < a) = true := decide_eq_true h1
    rw [z1, z2]
    by_cases h2 : b ≤ y <;> by_cases h3 : y < a
    · have z3 : decide (a > y) = true := decide_eq_true h3
      have z4 : decide (b > y) = false := decide_eq_false (by omega)
      simp [h2, h3, z3, z4]
    · have z3 : decide (a > y) = false := decide_eq_false (by omega)
      have z4 : decide (b > y) = false := decide_eq_false (by omega)
      simp [h2, h3, z3, z4]
    · have z3 : decide (a > y) = true := decide_eq_true h3
      have z4 : decide (b > y) = true := decide_eq_true (by omega)
      simp [h2, h3, z3, z4]
    · omega
  · rw [if_neg h1]
    have z2 : decide (b < a) = false := decide_eq_false (by omega)
    rw [z2]
    by_cases h2 : a ≤ y <;> by_cases h3 : y < b
    · have z3 : decide (a > y) = false := decide_eq_false (by omega)
      have z4 : decide (b > y) = true := decide_eq_true h3
      have z1 : decide (b > a) = true := decide_eq_true (by omega)
      simp [h2, h3, z1, z3, z4]
    · have z3 : decide (a > y) = false := decide_eq_false (by omega)
      have z4 : decide (b > y) = false := decide_eq_false (by omega)
      simp [h2, h3, z3, z4]
    · have z3 : decide (a > y) = true := decide_eq_true (by omega)
      have z4 : decide (b > y) = true := decide_eq_true (by omega)
      simp [h2, h3, z3, z4]
    · by_cases h4 : a = b
      · subst h4
        simp [h2]
      · omega
theorem onRim_l0 (p : List S61) (x : S61) (hn : p.length ≤ 1048576) : ∀ d i : Nat, i + d = p.length → Ev (fun k => spec_l03OnRim.l0 k p p (p.length : Int) (i : Int) x.f0 x.f1) (!(allF (rimB p x) i d)) := by
  intro d
  induction d with
  | zero =>
    intro i hi
    refine Ev.step (fun k => by rw [spec_l03OnRim.l0]) ?_
    exact evF (by omega) (evSome _)
  | succ d ih =>
    intro i hi
    have ti := tmod_nxt (i := i) (n := p.length) (by omega)
    have hmi : (i + 1) % p.length < p.length := Nat.mod_lt _ (by omega)
    refine Ev.step (fun k => by rw [spec_l03OnRim.l0]) ?_
    refine evT (by omega) (evT (by omega) (evT (by omega) (evF (by omega) ?_)))
    rw [ti]
    refine evT (by omega) (evT (by omega) ?_)
    refine evB (spec_on_eq (pt p i) (nx p i) x) ?_
    cases h : onB (pt p i) (nx p i) x with
    | true =>
      rw [allF_f (by unfold rimB; rw [h]; rfl)]
      exact evT rfl (evSome _)
    | false =>
      rw [allF_t (by unfold rimB; rw [h]; rfl), w64s i (by omega)]
      exact evF (by decide) (ih (i + 1) (by omega))
theorem spec_ins_l0 (p : List S61) (x : S61) (hn : p.length ≤ 1048576) : ∀ (d i : Nat) (b : Bool), i + d = p.length → Ev (fun k => spec_l03Inside.l0 k p b p (p.length : Int) (i : Int) x.f0 x.f1) (par (togS p x) i d b) := by
  intro d
  induction d with
  | zero =>
    intro i b hi
    refine Ev.step (fun k => by rw [spec_l03Inside.l0]) ?_
    exact evF (by omega) (evSome _)
  | succ d ih =>
    intro i b hi
    have ti := tmod_nxt (i := i) (n := p.length) (by omega)
    have hmi : (i + 1) % p.length < p.length := Nat.mod_lt _ (by omega)
    have iht : togS p x i = true → Ev (fun k => spec_l03Inside.l0 k p (!b) p (p.length : Int) (wrap64 ((i : Int) + 1)) x.f0 x.f1) (par (togS p x) i (d + 1) b) := by
      intro h
      have := ih (i + 1) (!b) (by omega)
      rw [par, if_pos h, w64s i (by omega)]
      exact this
    have ihf : togS p x i = false → Ev (fun k => spec_l03Inside.l0 k p b p (p.length : Int) (wrap64 ((i : Int) + 1)) x.f0 x.f1) (par (togS p x) i (d + 1) b) := by
      intro h
      have := ih (i + 1) b (by omega)
      rw [par, if_neg (by rw [h]; decide), w64s i (by omega)]
      exact this
    refine Ev.step (fun k => by rw [spec_l03Inside.l0]) ?_
    refine evT (by omega) (evT (by omega) (evT (by omega) (evF (by omega) ?_)))
    rw [ti]
    refine evT (by omega) (evT (by omega) ?_)
    by_cases h1 : (decide ((pt p i).f1 > x.f1) != decide ((nx p i).f1 > x.f1)) = true
    · refine evT h1 ?_
      refine evB (spec_cross_eq (pt p i) (nx p i) x) ?_
      by_cases h2 : (nx p i).f1 > (pt p i).f1
      · have n2 : ¬ (nx p i).f1 < (pt p i).f1 := by omega
        refine evT h2 ?_
        by_cases h3 : crossW (pt p i) (nx p i) x > 0
        · exact evT h3 (iht (by unfold togS; simp only [h1, h2, h3]; simp))
        · exact evF h3 (evF n2 (ihf (by unfold togS; simp only [h2, h3, n2]; simp)))
      · refine evF h2 ?_
        by_cases h4 : (nx p i).f1 < (pt p i).f1
        · refine evT h4 ?_
          by_cases h3 : crossW (pt p i) (nx p i) x < 0
          · exact evT h3 (iht (by unfold togS; simp only [h1, h2, h3, h4]; simp))
          · exact evF h3 (ihf (by unfold togS; simp only [h2, h3, h4]; simp))
        · exact evF h4 (ihf (by unfold togS; simp only [h2, h4]; simp))
    · refine evF h1 (ihf ?_)
      unfold togS
      rw [Bool.not_eq_true] at h1
      rw [h1]
      rfl
theorem spec_ins_ev (p : List S61) (x : S61) (hn : p.length ≤ 1048576) : Ev (fun k => spec_l03Inside.f k p x.f0 x.f1) (insV p x) := by
  unfold spec_l03Inside.f insV
  have h1 : Ev (fun k => spec_l03OnRim.f k p x.f0 x.f1) (!(allF (rimB p x) 0 p.length)) := by
    unfold spec_l03OnRim.f
    exact onRim_l0 p x hn p.length 0 (by omega)
  refine Ev.bind h1 ?_
  cases allF (rimB p x) 0 p.length with
  | false => exact evT rfl (evSome _)
  | true =>
    refine evF (by decide) ?_
    have := spec_ins_l0 p x hn p.length 0 false (by omega)
    simpa using this
theorem impl_ins_l0 (p : List S61) (x : S61) (hn : p.length ≤ 1048576) : ∀ (d i : Nat) (b : Bool), i + d = p.length → Ev (fun k => impl_isIn.l0 k p b p (p.length : Int) (i : Int) x.f0 x.f1) (!(allF (rimB p x) i d) || par (togI p x) i d b) := by
  intro d
  induction d with
  | zero =>
    intro i b hi
    refine Ev.step (fun k => by rw [impl_isIn.l0]) ?_
    exact evF (by omega) (evSome _)
  | succ d ih =>
    intro i b hi
    have ti := tmod_nxt (i := i) (n := p.length) (by omega)
    have hmi : (i + 1) % p.length < p.length := Nat.mod_lt _ (by omega)
    refine Ev.step (fun k => by rw [impl_isIn.l0]) ?_
    refine evT (by omega) (evT (by omega) (evT (by omega) (evF (by omega) ?_)))
    rw [ti]
    refine evT (by omega) (evT (by omega) ?_)
    refine evB (impl_on_eq (pt p i) (nx p i) x) ?_
    cases hr : onB (pt p i) (nx p i) x with
    | true =>
      rw [allF_f (by unfold rimB; rw [hr]; rfl)]
      exact evT rfl (evSome _)
    | false =>
      rw [allF_t (by unfold rimB; rw [hr]; rfl)]
      have iht : togI p x i = true → Ev (fun k => impl_isIn.l0 k p (!b) p (p.length : Int) (wrap64 ((i : Int) + 1)) x.f0 x.f1) (!(allF (rimB p x) (i + 1) d) || par (togI p x) i (d + 1) b) := by
        intro h
        have := ih (i + 1) (!b) (by omega)
        rw [par, if_pos h, w64s i (by omega)]
        exact this
      have ihf : togI p x i = false → Ev (fun k => impl_isIn.l0 k p b p (p.length : Int) (wrap64 ((i : Int) + 1)) x.f0 x.f1) (!(allF (rimB p x) (i + 1) d) || par (togI p x) i (d + 1) b) := by
        intro h
        have := ih (i + 1) b (by omega)
        rw [par, if_neg (by rw [h]; decide), w64s i (by omega)]
        exact this
      refine evF (by decide) ?_
      by_cases h1 : (pt p i).f1 > (nx p i).f1
      · refine evT h1 ?_
        by_cases h2 : (nx p i).f1 ≤ x.f1
        · refine evT h2 ?_
          by_cases h3 : x.f1 < (pt p i).f1
          · refine evT h3 (evB (impl_cross_eq (nx p i) (pt p i) x) ?_)
            by_cases h4 : crossW (nx p i) (pt p i) x > 0
            · exact evT h4 (iht (by unfold togI; rw [if_pos h1]; simp [h2, h3, h4]))
            · exact evF h4 (ihf (by unfold togI; rw [if_pos h1]; simp [h2, h3, h4]))
          · exact evF h3 (ihf (by unfold togI; rw [if_pos h1]; simp [h3]))
        · exact evF h2 (ihf (by unfold togI; rw [if_pos h1]; simp [h2]))
      · refine evF h1 ?_
        by_cases h2 : (pt p i).f1 ≤ x.f1
        · refine evT h2 ?_
          by_cases h3 : x.f1 < (nx p i).f1
          · refine evT h3 (evB (impl_cross_eq (pt p i) (nx p i) x) ?_)
            by_cases h4 : crossW (pt p i) (nx p i) x > 0
            · exact evT h4 (iht (by unfold togI; rw [if_neg h1]; simp [h2, h3, h4]))
            · exact evF h4 (ihf (by unfold togI; rw [if_neg h1]; simp [h2, h3, h4]))
          · exact evF h3 (ihf (by unfold togI; rw [if_neg h1]; simp [h3]))
        · exact evF h2 (ihf (by unfold togI; rw [if_neg h1]; simp [h2]))
def small80 (x : S61) : Prop := (0 ≤ x.f0 ∧ x.f0 ≤ 80) ∧ 0 ≤ x.f1 ∧ x.f1 ≤ 80
theorem impl_ins_ev (p : List S61) (x : S61) (hn : p.length ≤ 1048576) (hp : ∀ j, j < p.length → small80 (pt p j)) (hx : small80 x) : Ev (fun k => impl_isIn.f k p x.f0 x.f1) (insV p x) := by
  have h := impl_ins_l0 p x hn p.length 0 false (by omega)
  unfold impl_isIn.f insV
  rw [par_congr (U := togS p x) p.length 0 false (fun j _ hj => tog_same (hp j (by omega)) (hp ((j + 1) % p.length) (Nat.mod_lt _ (by omega))) hx)] at h
  exact h
/-! dbl -/
def dbl (p : List S61) : List S61 := p.map (fun q => ⟨wrap64 (2 * q.f0), wrap64 (2 * q.f1)⟩)
theorem dbl_length (p : List S61) : (dbl p).length = p.length := by simp [dbl]
theorem dbl_take (p : List S61) (i : Nat) (h : i < p.length) : dbl (p.take (i + 1)) = dbl (p.take i) ++ [(⟨wrap64 (2 * (pt p i).f0), wrap64 (2 * (pt p i).f1)⟩ : S61)] := by
  unfold pt
  rw [rdP _ _ h, take_succ' _ _ h]
  unfold dbl
  rw [List.map_append]
  rfl
theorem dbl_small {p : List S61} (h : polyOk p = true) {j : Nat} (hj : j < (dbl p).length) : small80 (pt (dbl p) j) := by
  have hj2 : j < p.length := by rw [dbl_length] at hj; exact hj
  have h0 := polyOk_pt h hj2
  unfold pt at h0
  rw [rdP _ _ hj2] at h0
  have he : pt (dbl p) j = ⟨wrap64 (2 * p[j].f0), wrap64 (2 * p[j].f1)⟩ := by
    unfold pt
    rw [rdP _ _ hj]
    simp [dbl]
  rw [he]
  unfold small80
  simp only
  rw [w64 (x := 2 * p[j].f0) (by omega) (by omega), w64 (x := 2 * p[j].f1) (by omega) (by omega)]
  omega
theorem spec_dbl_l0 (p : List S61) (hn : p.length ≤ 1000) : ∀ d i : Nat, i + d = p.length → Ev (fun k => spec_l05Double.l0 k (dbl (p.take i)) p (p.length : Int) (i : Int)) (dbl p) := by
  intro d
  induction d with
  | zero =>
    intro i hi
    refine Ev.step (fun k => by rw [spec_l05Double.l0]) ?_
    rw [List.take_of_length_le (by omega)]
    exact evF (by omega) (evSome _)
  | succ d ih =>
    intro i hi
    refine Ev.step (fun k => by rw [spec_l05Double.l0]) ?_
    refine evT (by omega) (evT (by omega) (evT (by omega) (evT (by rw [dbl_length, List.length_take]; omega) ?_)))
    rw [w64s i (by omega)]
    have h := ih (i + 1) (by omega)
    rw [dbl_take p i (by omega)] at h
    exact h
theorem spec_dbl_ev (p : List S61) (hn : p.length ≤ 1000) : Ev (fun k => spec_l05Double.f k p) (dbl p) := by
  unfold spec_l05Double.f
  simpa [dbl] using spec_dbl_l0 p hn p.length 0 (by omega)
/-! diag -/
def shareB (n i k j : Nat) : Bool := j == i || (j == k || ((j + 1) % n == i || (j + 1) % n == k))
def sideB (p : List S61) (i k j : Nat) : Bool := decide (meetV (pt p i) (pt p k) (pt p j) (nx p j) = if shareB p.length i k j = true then 1 else 0)
def midB (p : List S61) (i k : Nat) : S61 := ⟨wrap64 ((pt p i).f0 + (pt p k).f0), wrap64 ((pt p i).f1 + (pt p k).f1)⟩
def diagB (p : List S61) (i k : Nat) : Bool := allF (sideB p i k) 0 p.length && insV (dbl p) (midB p i k)
def adjB (n i k : Nat) : Bool := (i + 1) % n == k || ((k + 1) % n == i || i == k)
theorem mid_small {p : List S61} (h : polyOk p = true) {i k : Nat} (hi : i < p.length) (hk : k < p.length) : small80 (midB p i k) := by
  have h0 := polyOk_pt h hi
  have h1 := polyOk_pt h hk
  unfold small80 midB
  simp only
  rw [w64 (x := (pt p i).f0 + (pt p k).f0) (by omega) (by omega), w64 (x := (pt p i).f1 + (pt p k).f1) (by omega) (by omega)]
  omega
theorem share_meet {p : List S61} {i k j : Nat} (h : shareB p.length i k j = true) : meetV (pt p i) (pt p k) (pt p j) (nx p j) = 1 ∨ meetV (pt p i) (pt p k) (pt p j) (nx p j) = 3 := by
  apply meet_share
  unfold shareB at h
  simp only [Bool.or_eq_true, beq_iff_eq] at h
  unfold nx
  rcases h with rfl | rfl | h | h
  · exact .inl rfl
  · exact .inr (.inl rfl)
  · rw [h]; exact .inr (.inr (.inl rfl))
  · rw [h]; exact .inr (.inr (.inr rfl))
theorem spec_diag_l0 (p : List S61) (hn : 3 ≤ p.length ∧ p.length ≤ 10) (i k : Nat) (hi : i < p.length) (hk : k < p.length) : ∀ d j : Nat, j + d = p.length →
    Ev (fun f => spec_l05Diagonal.l0 f p (i : Int) (k : Int) (p.length : Int) p (p.length : Int) (j : Int) (pt p i).f0 (pt p i).f1 (pt p k).f0 (pt p k).f1) (allF (sideB p i k) j d && insV (dbl p) (midB p i k)) := by
  intro d
  induction d with
  | zero =>
    intro j hj
    refine Ev.step (fun f => by rw [spec_l05Diagonal.l0]) ?_
    refine evF (by omega) ?_
    refine Ev.bind (spec_dbl_ev p (by omega)) ?_
    rw [allF, Bool.true_and]
    exact Ev.bind (spec_ins_ev (dbl p) (midB p i k) (by rw [dbl_length]; omega)) (evSome _)
  | succ d ih =>
    intro j hj
    have tj := tmod_nxt (i := j) (n := p.length) (by omega)
    have hmj : (j + 1) % p.length < p.length := Nat.mod_lt _ (by omega)
    have hnext := ih (j + 1) (by omega)
    rw [← w64s j (by omega)] at hnext
    refine Ev.step (fun f => by rw [spec_l05Diagonal.l0]) ?_
    refine evT (by omega) (evT (by omega) (evT (by omega) (evF (by omega) ?_)))
    rw [tj]
    refine evT (by omega) (evT (by omega) ?_)
    refine evB (spec_meet_eq (pt p i) (pt p k) (pt p j) (nx p j)) ?_
    have hs : ∀ b : Bool, shareB p.length i k j = b → Ev (fun f => spec_l05Diagonal.j2 f p (i : Int) (k : Int) (p.length : Int) (meetV (pt p i) (pt p k) (pt p j) (nx p j)) p (p.length : Int) (j : Int) b (pt p i).f0 (pt p i).f1 (pt p k).f0 (pt p k).f1) (allF (sideB p i k) j (d + 1) && insV (dbl p) (midB p i k)) := by
      intro b hb
      refine Ev.step (fun f => by rw [spec_l05Diagonal.j2]) ?_
      cases b with
      | true =>
        refine evT rfl ?_
        rcases share_meet hb with hm | hm
        · refine evF (by omega) ?_
          refine Ev.step (fun f => by rw [spec_l05Diagonal.j3]) ?_
          rw [allF_t (by unfold sideB; rw [hb, hm]; rfl)]
          exact evF (by rw [hm]; decide) hnext
        · refine evT hm ?_
          refine Ev.step (fun f => by rw [spec_l05Diagonal.j3]) ?_
          rw [allF_f (by unfold sideB; rw [hb, hm]; rfl)]
          exact evT rfl (evSome _)
      | false =>
        refine evF (by decide) ?_
        by_cases hm : meetV (pt p i) (pt p k) (pt p j) (nx p j) = 0
        · rw [allF_t (by unfold sideB; rw [hb, hm]; rfl)]
          exact evT hm hnext
        · rw [allF_f (by unfold sideB; rw [hb]; exact decide_eq_false hm)]
          exact evF hm (evSome _)
    have hd : shareB p.length i k j = (j == i || (j == k || ((j + 1) % p.length == i || (j + 1) % p.length == k))) := rfl
    by_cases e1 : (j : Int) = (i : Int)
    · refine evT e1 (hs true ?_)
      rw [hd, show j = i by omega]; simp
    · refine evF e1 ?_
      have f1 : (j == i) = false := beq_eq_false_iff_ne.mpr (by omega)
      by_cases e2 : (j : Int) = (k : Int)
      · refine evT e2 (hs true ?_)
        rw [hd, show j = k by omega]; simp
      · refine evF e2 ?_
        have f2 : (j == k) = false := beq_eq_false_iff_ne.mpr (by omega)
        by_cases e3 : (((j + 1) % p.length : Nat) : Int) = (i : Int)
        · refine evT e3 (hs true ?_)
          rw [hd, show (j + 1) % p.length = i by omega]; simp
        · refine evF e3 (hs _ ?_)
          have f3 : ((j + 1) % p.length == i) = false := beq_eq_false_iff_ne.mpr (by omega)
          rw [hd, f1, f2, f3]
          simp only [Bool.false_or]
          rw [Bool.eq_iff_iff, beq_iff_eq, beq_iff_eq]
          omega
theorem spec_diag_ev (p : List S61) (hn : 3 ≤ p.length ∧ p.length ≤ 10) (i k : Nat) (hi : i < p.length) (hk : k < p.length) : Ev (fun f => spec_l05Diagonal.f f p (i : Int) (k : Int)) (!(adjB p.length i k) && diagB p i k) := by
  have ti := tmod_nxt (i := i) (n := p.length) (by omega)
  have tk := tmod_nxt (i := k) (n := p.length) (by omega)
  unfold spec_l05Diagonal.f
  refine evF (by omega) ?_
  rw [ti, tk]
  have hj : ∀ b : Bool, adjB p.length i k = b → Ev (fun f => spec_l05Diagonal.j0 f p (i : Int) (k : Int) (p.length : Int) b) (!(adjB p.length i k) && diagB p i k) := by
    intro b hb
    refine Ev.step (fun f => by rw [spec_l05Diagonal.j0]) ?_
    rw [hb]
    cases b with
    | true => exact evT rfl (evSome _)
    | false =>
      refine evF (by decide) (evT (by omega) (evT (by omega) (evT (by omega) (evT (by omega) ?_))))
      exact spec_diag_l0 p hn i k hi hk p.length 0 (by omega)
  have hd : adjB p.length i k = ((i + 1) % p.length == k || ((k + 1) % p.length == i || i == k)) := rfl
  by_cases e1 : (((i + 1) % p.length : Nat) : Int) = (k : Int)
  · refine evT e1 (hj true ?_)
    rw [hd, show (i + 1) % p.length = k by omega]; simp
  · refine evF e1 ?_
    have f1 : ((i + 1) % p.length == k) = false := beq_eq_false_iff_ne.mpr (by omega)
    by_cases e2 : (((k + 1) % p.length : Nat) : Int) = (i : Int)
    · refine evT e2 (hj true ?_)
      rw [hd, show (k + 1) % p.length = i by omega]; simp
    · refine evF e2 (hj _ ?_)
      have f2 : ((k + 1) % p.length == i) = false := beq_eq_false_iff_ne.mpr (by omega)
      rw [hd, f1, f2]
      simp only [Bool.false_or]
      rw [Bool.eq_iff_iff, beq_iff_eq, beq_iff_eq]
      omega
theorem impl_diag_l1 (p : List S61) (hp : polyOk p = true) (i k : Nat) (hi : i < p.length) (hk : k < p.length) : ∀ d j : Nat, j + d = p.length →
    Ev (fun f => impl_isDiagonal.l1 f p (i : Int) (k : Int) (dbl (p.take j)) p (p.length : Int) (j : Int)) (insV (dbl p) (midB p i k)) := by
  have hn := polyOk_len hp
  intro d
  induction d with
  | zero =>
    intro j hj
    refine Ev.step (fun f => by rw [impl_isDiagonal.l1]) ?_
    rw [List.take_of_length_le (by omega)]
    refine evF (by omega) (evT (by omega) (evT (by omega) (evT (by omega) (evT (by omega) ?_))))
    exact Ev.bind (impl_ins_ev (dbl p) (midB p i k) (by rw [dbl_length]; omega) (fun j hj => dbl_small hp hj) (mid_small hp hi hk)) (evSome _)
  | succ d ih =>
    intro j hj
    refine Ev.step (fun f => by rw [impl_isDiagonal.l1]) ?_
    refine evT (by omega) (evT (by omega) (evT (by omega) (evT (by rw [dbl_length, List.length_take]; omega) ?_)))
    rw [w64s j (by omega)]
    have h := ih (j + 1) (by omega)
    rw [dbl_take p j (by omega)] at h
    exact h
theorem impl_diag_l0 (p : List S61) (hp : polyOk p = true) (i k : Nat) (hi : i < p.length) (hk : k < p.length) : ∀ d j : Nat, j + d = p.length →
    Ev (fun f => impl_isDiagonal.l0 f p (i : Int) (k : Int) (p.length : Int) (p.length : Int) (j : Int)) (allF (sideB p i k) j d && insV (dbl p) (midB p i k)) := by
  have hn := polyOk_len hp
  intro d
  induction d with
  | zero =>
    intro j hj
    refine Ev.step (fun f => by rw [impl_isDiagonal.l0]) ?_
    refine evF (by omega) ?_
    rw [allF, Bool.true_and]
    have h := impl_diag_l1 p hp i k hi hk p.length 0 (by omega)
    exact h
  | succ d ih =>
    intro j hj
    have tj := tmod_nxt (i := j) (n := p.length) (by omega)
    have hmj : (j + 1) % p.length < p.length := Nat.mod_lt _ (by omega)
    have hnext := ih (j + 1) (by omega)
    rw [← w64s j (by omega)] at hnext
    refine Ev.step (fun f => by rw [impl_isDiagonal.l0]) ?_
    refine evT (by omega) ?_
    rw [tj]
    have hs : ∀ b : Bool, shareB p.length i k j = b → Ev (fun f => impl_isDiagonal.j2 f p (i : Int) (k : Int) (p.length : Int) (j : Int) 0 (p.length : Int) (j : Int) b) (allF (sideB p i k) j (d + 1) && insV (dbl p) (midB p i k)) := by
      intro b hb
      refine Ev.step (fun f => by rw [impl_isDiagonal.j2]) ?_
      rw [tj]
      cases b with
      | true =>
        refine evT rfl (evT (by omega) (evT (by omega) (evT (by omega) (evT (by omega) (evT (by omega) (evT (by omega) (evF (by omega) (evT (by omega) (evT (by omega) ?_)))))))))
        refine evB (impl_meet_eq (pt p i) (pt p k) (pt p j) (nx p j)) ?_
        by_cases hm : meetV (pt p i) (pt p k) (pt p j) (nx p j) = 1
        · rw [allF_t (by unfold sideB; rw [hb, hm]; rfl)]
          exact evT hm hnext
        · rw [allF_f (by unfold sideB; rw [hb]; exact decide_eq_false hm)]
          exact evF hm (evSome _)
      | false =>
        refine evF (by decide) (evT (by omega) (evT (by omega) (evT (by omega) (evT (by omega) (evT (by omega) (evT (by omega) (evF (by omega) (evT (by omega) (evT (by omega) ?_)))))))))
        refine evB (impl_meet_eq (pt p i) (pt p k) (pt p j) (nx p j)) ?_
        by_cases hm : meetV (pt p i) (pt p k) (pt p j) (nx p j) = 0
        · rw [allF_t (by unfold sideB; rw [hb, hm]; rfl)]
          exact evT hm hnext
        · rw [allF_f (by unfold sideB; rw [hb]; exact decide_eq_false hm)]
          exact evF hm (evSome _)
    have hd : shareB p.length i k j = (j == i || (j == k || ((j + 1) % p.length == i || (j + 1) % p.length == k))) := rfl
    by_cases e1 : (j : Int) = (i : Int)
    · refine evT e1 (hs true ?_)
      rw [hd, show j = i by omega]; simp
    · refine evF e1 ?_
      have f1 : (j == i) = false := beq_eq_false_iff_ne.mpr (by omega)
      by_cases e2 : (j : Int) = (k : Int)
      · refine evT e2 (hs true ?_)
        rw [hd, show j = k by omega]; simp
      · refine evF e2 (evF (by omega) ?_)
        have f2 : (j == k) = false := beq_eq_false_iff_ne.mpr (by omega)
        by_cases e3 : (((j + 1) % p.length : Nat) : Int) = (i : Int)
        · refine evT e3 (hs true ?_)
          rw [hd, show (j + 1) % p.length = i by omega]; simp
        · refine evF e3 (hs _ ?_)
          have f3 : ((j + 1) % p.length == i) = false := beq_eq_false_iff_ne.mpr (by omega)
          rw [hd, f1, f2, f3]
          simp only [Bool.false_or]
          rw [Bool.eq_iff_iff, beq_iff_eq, beq_iff_eq]
          omega
theorem impl_diag_ev (p : List S61) (hp : polyOk p = true) (i k : Nat) (hi : i < p.length) (hk : k < p.length) : Ev (fun f => impl_isDiagonal.f f p (i : Int) (k : Int)) (!(adjB p.length i k) && diagB p i k) := by
  have hn := polyOk_len hp
  have ti := tmod_nxt (i := i) (n := p.length) (by omega)
  have tk := tmod_nxt (i := k) (n := p.length) (by omega)
  have wn : wrap64 ((p.length : Int) - 1) = (p.length : Int) - 1 := w64 (by omega) (by omega)
  unfold impl_isDiagonal.f
  rw [wn]
  refine evB (within_t (by omega) (by omega)) (evT rfl (evB (within_t (by omega) (by omega)) (evT rfl ?_)))
  rw [ti, tk]
  have hj : ∀ b : Bool, adjB p.length i k = b → Ev (fun f => impl_isDiagonal.j0 f p (i : Int) (k : Int) (p.length : Int) b) (!(adjB p.length i k) && diagB p i k) := by
    intro b hb
    refine Ev.step (fun f => by rw [impl_isDiagonal.j0]) ?_
    rw [hb]
    cases b with
    | true => exact evT rfl (evSome _)
    | false => exact evF (by decide) (impl_diag_l0 p hp i k hi hk p.length 0 (by omega))
  have hd : adjB p.length i k = ((i + 1) % p.length == k || ((k + 1) % p.length == i || i == k)) := rfl
  by_cases e0 : (i : Int) = (k : Int)
  · refine evT e0 (hj true ?_)
    rw [hd, show i = k by omega]; simp
  · refine evF e0 (evF (by omega) ?_)
    have f0 : (i == k) = false := beq_eq_false_iff_ne.mpr (by omega)
    by_cases e1 : (((i + 1) % p.length : Nat) : Int) = (k : Int)
    · refine evT e1 (hj true ?_)
      rw [hd, show (i + 1) % p.length = k by omega]; simp
    · refine evF e1 (hj _ ?_)
      have f1 : ((i + 1) % p.length == k) = false := beq_eq_false_iff_ne.mpr (by omega)
      rw [hd, f0, f1]
      simp only [Bool.false_or, Bool.or_false]
      rw [Bool.eq_iff_iff, beq_iff_eq, beq_iff_eq]
      omega
/-! way -/
theorem way_l0 (p : List S61) (hn : 3 ≤ p.length ∧ p.length ≤ 10) (k : Nat) : ∀ (d i : Nat) (acc : List S61), i < p.length → (i + d) % p.length = k → acc.length + d ≤ 1000 →
    ∃ r, Ev (fun f => spec_l27Part.l0 f p (i : Int) (k : Int) acc) r ∧ Ev (fun f => impl_way.l0 f p (i : Int) (k : Int) acc) r ∧ r.length ≤ acc.length + d := by
  intro d
  induction d with
  | zero =>
    intro i acc hi hk ha
    have e : (i : Int) = (k : Int) := by rw [Nat.add_zero, Nat.mod_eq_of_lt hi] at hk; omega
    refine ⟨acc, ?_, ?_, by omega⟩
    · refine Ev.step (fun f => by rw [spec_l27Part.l0]) ?_
      exact evT e (evSome _)
    · refine Ev.step (fun f => by rw [impl_way.l0]) ?_
      exact evT e (evSome _)
  | succ d ih =>
    intro i acc hi hk ha
    by_cases e : (i : Int) = (k : Int)
    · refine ⟨acc, ?_, ?_, by omega⟩
      · refine Ev.step (fun f => by rw [spec_l27Part.l0]) ?_
        exact evT e (evSome _)
      · refine Ev.step (fun f => by rw [impl_way.l0]) ?_
        exact evT e (evSome _)
    · have ti := tmod_nxt (i := i) (n := p.length) (by omega)
      have hmi : (i + 1) % p.length < p.length := Nat.mod_lt _ (by omega)
      obtain ⟨r, h1, h2, h3⟩ := ih ((i + 1) % p.length) (acc ++ [(⟨(nx p i).f0, (nx p i).f1⟩ : S61)]) hmi (by rw [Nat.mod_add_mod]; rw [← hk]; congr 1; omega) (by simp only [List.length_append, List.length_cons, List.length_nil]; omega)
      refine ⟨r, ?_, ?_, by simp only [List.length_append, List.length_cons, List.length_nil] at h3; omega⟩
      · refine Ev.step (fun f => by rw [spec_l27Part.l0]) ?_
        rw [ti]
        exact evF e (evF (by omega) (evT (by omega) (evT (by omega) (evT (by omega) h1))))
      · refine Ev.step (fun f => by rw [impl_way.l0]) ?_
        rw [ti]
        exact evF e (evF (by omega) (evT (by omega) (evT (by omega) (evT (by omega) h2))))
theorem way_ev (p : List S61) (hn : 3 ≤ p.length ∧ p.length ≤ 10) (a b : Int) (ha : 0 ≤ a ∧ a ≤ (p.length : Int) - 1) (hb : 0 ≤ b ∧ b ≤ (p.length : Int) - 1) :
    ∃ r, Ev (fun f => spec_l27Part.f f p a b) r ∧ Ev (fun f => impl_way.f f p a b) r ∧ r.length ≤ 1000 := by
  unfold spec_l27Part.f impl_way.f
  obtain ⟨r, h1, h2, h3⟩ := way_l0 p hn b.toNat (p.length - a.toNat + b.toNat) a.toNat [(⟨(rd_T61 p a).f0, (rd_T61 p a).f1⟩ : S61)] (by omega) (by
    rw [show a.toNat + (p.length - a.toNat + b.toNat) = p.length + b.toNat by omega, Nat.add_mod_left, Nat.mod_eq_of_lt (by omega)]) (by simp only [List.length_cons, List.length_nil]; omega)
  rw [show ((a.toNat : Nat) : Int) = a by omega, show ((b.toNat : Nat) : Int) = b by omega] at h1 h2
  exact ⟨r, evT (by omega) (evT (by omega) h1), evT (by omega) (evT (by omega) h2), by simp only [List.length_cons, List.length_nil] at h3; omega⟩
/-! diags -/
def Pairs (p : List S61) (ds : List (List Int)) : Prop := ∀ d ∈ ds, polyOk p = true ∧ ∃ i k : Nat, i < p.length ∧ k < p.length ∧ d = [(i : Int), (k : Int)]
theorem diags_l1 (p : List S61) (hp : polyOk p = true) (i : Nat) (hi : i < p.length) (hO : ∀ acc : List (List Int), Pairs p acc → acc.length ≤ 10 * (i + 1) → ∃ r, Ev (fun f => spec_DiagonalsOf.l0 f p acc (p.length : Int) ((i + 1 : Nat) : Int)) r ∧ Ev (fun f => impl_diagonals.l0 f p acc (p.length : Int) ((i + 1 : Nat) : Int)) r ∧ Pairs p r) :
    ∀ (e k : Nat) (acc : List (List Int)), k + e = p.length → Pairs p acc → acc.length ≤ 10 * i + k → ∃ r, Ev (fun f => spec_DiagonalsOf.l1 f p acc (i : Int) (k : Int) (p.length : Int) (i : Int)) r ∧ Ev (fun f => impl_diagonals.l1 f p acc (i : Int) (k : Int) (p.length : Int) (i : Int)) r ∧ Pairs p r := by
  have hn := polyOk_len hp
  intro e
  induction e with
  | zero =>
    intro k acc hk ha hl
    obtain ⟨r, h1, h2, h3⟩ := hO acc ha (by omega)
    refine ⟨r, ?_, ?_, h3⟩
    · refine Ev.step (fun f => by rw [spec_DiagonalsOf.l1]) ?_
      refine evF (by omega) ?_
      rw [w64s i (by omega)]
      exact h1
    · refine Ev.step (fun f => by rw [impl_diagonals.l1]) ?_
      refine evF (by omega) ?_
      rw [w64s i (by omega)]
      exact h2
  | succ e ih =>
    intro k acc hk ha hl
    have s := spec_diag_ev p hn i k hi (by omega)
    have t := impl_diag_ev p hp i k hi (by omega)
    cases hb : (!(adjB p.length i k) && diagB p i k) with
    | false =>
      rw [hb] at s t
      obtain ⟨r, h1, h2, h3⟩ := ih (k + 1) acc (by omega) ha (by omega)
      refine ⟨r, ?_, ?_, h3⟩
      · refine Ev.step (fun f => by rw [spec_DiagonalsOf.l1]) ?_
        refine evT (by omega) (Ev.bind s (evF (by decide) ?_))
        rw [w64s k (by omega)]
        exact h1
      · refine Ev.step (fun f => by rw [impl_diagonals.l1]) ?_
        refine evT (by omega) (Ev.bind t (evF (by decide) ?_))
        rw [w64s k (by omega)]
        exact h2
    | true =>
      rw [hb] at s t
      have ha2 : Pairs p (acc ++ [[(i : Int), (k : Int)]]) := by
        intro d hd
        rw [List.mem_append, List.mem_singleton] at hd
        rcases hd with hd | rfl
        · exact ha d hd
        · exact ⟨hp, i, k, hi, by omega, rfl⟩
      obtain ⟨r, h1, h2, h3⟩ := ih (k + 1) (acc ++ [[(i : Int), (k : Int)]]) (by omega) ha2 (by simp only [List.length_append, List.length_cons, List.length_nil]; omega)
      refine ⟨r, ?_, ?_, h3⟩
      · refine Ev.step (fun f => by rw [spec_DiagonalsOf.l1]) ?_
        refine evT (by omega) (Ev.bind s (evT rfl (evT (by omega) ?_)))
        rw [w64s k (by omega)]
        exact h1
      · refine Ev.step (fun f => by rw [impl_diagonals.l1]) ?_
        refine evT (by omega) (Ev.bind t (evT rfl (evT (by omega) ?_)))
        rw [w64s k (by omega)]
        exact h2
theorem diags_l0 (p : List S61) (hp : polyOk p = true) : ∀ (e i : Nat) (acc : List (List Int)), i + e = p.length → Pairs p acc → acc.length ≤ 10 * i →
    ∃ r, Ev (fun f => spec_DiagonalsOf.l0 f p acc (p.length : Int) (i : Int)) r ∧ Ev (fun f => impl_diagonals.l0 f p acc (p.length : Int) (i : Int)) r ∧ Pairs p r := by
  have hn := polyOk_len hp
  intro e
  induction e with
  | zero =>
    intro i acc hi ha hl
    refine ⟨acc, ?_, ?_, ha⟩
    · refine Ev.step (fun f => by rw [spec_DiagonalsOf.l0]) ?_
      exact evF (by omega) (evSome _)
    · refine Ev.step (fun f => by rw [impl_diagonals.l0]) ?_
      exact evF (by omega) (evSome _)
  | succ e ih =>
    intro i acc hi ha hl
    obtain ⟨r, h1, h2, h3⟩ := diags_l1 p hp i (by omega) (fun acc' ha' hl' => ih (i + 1) acc' (by omega) ha' hl') (p.length - (i + 1)) (i + 1) acc (by omega) ha (by omega)
    refine ⟨r, ?_, ?_, h3⟩
    · refine Ev.step (fun f => by rw [spec_DiagonalsOf.l0]) ?_
      refine evT (by omega) ?_
      rw [w64s i (by omega)]
      exact h1
    · refine Ev.step (fun f => by rw [impl_diagonals.l0]) ?_
      refine evT (by omega) ?_
      rw [w64s i (by omega)]
      exact h2
theorem diags_ev (p : List S61) (hl : p.length ≤ 1048576) : ∃ ds, Ev (fun f => spec_DiagonalsOf.f f p) ds ∧ Ev (fun f => impl_DiagonalsOf.f f p) ds ∧ Pairs p ds := by
  have h1 := spec_poly_ev p
  have h2 := impl_poly_ev p hl
  unfold spec_DiagonalsOf.f impl_DiagonalsOf.f impl_diagonals.f
  cases hp : polyOk p with
  | false =>
    rw [hp] at h1 h2
    exact ⟨[], Ev.bind h1 (evF (by decide) (evSome _)), Ev.bind h2 (evF (by decide) (evSome _)), fun d hd => by cases hd⟩
  | true =>
    rw [hp] at h1 h2
    obtain ⟨r, s, t, g⟩ := diags_l0 p hp p.length 0 [] (by omega) (fun d hd => by cases hd) (by simp)
    exact ⟨r, Ev.bind h1 (evT rfl s), Ev.bind h2 (evT rfl (Ev.bind t (evSome _))), g⟩
/-! twices -/
theorem tw_add (x P Q : Int) : wrap64 (wrap64 (x + P) - Q) = wrap64 (x + wrap64 (P - Q)) := by unfold wrap64; omega
theorem twice_l0 (q : List S61) (hq : 1 ≤ q.length ∧ q.length ≤ 1000) : ∀ (d i : Nat) (x : Int), i + d = q.length → ∃ t, Ev (fun f => spec_l03Twice.l0 f q x q (q.length : Int) (i : Int)) t ∧ Ev (fun f => impl_twice.l0 f q x q (q.length : Int) (i : Int)) t := by
  intro d
  induction d with
  | zero =>
    intro i x hi
    refine ⟨x, ?_, ?_⟩
    · refine Ev.step (fun f => by rw [spec_l03Twice.l0]) ?_
      exact evF (by omega) (evSome _)
    · refine Ev.step (fun f => by rw [impl_twice.l0]) ?_
      exact evF (by omega) (evSome _)
  | succ d ih =>
    intro i x hi
    have ti := tmod_nxt (i := i) (n := q.length) (by omega)
    have hmi : (i + 1) % q.length < q.length := Nat.mod_lt _ (by omega)
    obtain ⟨t, h1, h2⟩ := ih (i + 1) (wrap64 (x + wrap64 (wrap64 ((rd_T61 q (i : Int)).f0 * (rd_T61 q (((i + 1) % q.length : Nat) : Int)).f1) - wrap64 ((rd_T61 q (i : Int)).f1 * (rd_T61 q (((i + 1) % q.length : Nat) : Int)).f0)))) (by omega)
    refine ⟨t, ?_, ?_⟩
    · refine Ev.step (fun f => by rw [spec_l03Twice.l0]) ?_
      rw [ti, w64s i (by omega), tw_add]
      exact evT (by omega) (evT (by omega) (evT (by omega) (evF (by omega) (evT (by omega) (evT (by omega) h1)))))
    · refine Ev.step (fun f => by rw [impl_twice.l0]) ?_
      rw [ti, w64s i (by omega)]
      exact evT (by omega) (evT (by omega) (evT (by omega) (evF (by omega) (evT (by omega) (evT (by omega) h2)))))
theorem twice_ev (q : List S61) (hq : 1 ≤ q.length ∧ q.length ≤ 1000) : ∃ t, Ev (fun f => spec_l03Twice.f f q) t ∧ Ev (fun f => impl_twice.f f q) t := by
  obtain ⟨t, h1, h2⟩ := twice_l0 q hq q.length 0 0 (by omega)
  exact ⟨t, h1, h2⟩
/-! wayLen -/
theorem part_l0_len (p : List S61) : ∀ (k : Nat) (a b : Int) (acc r : List S61), spec_l27Part.l0 k p a b acc = some r → acc.length ≤ r.length
  | 0, _, _, _, _, h => by simp [spec_l27Part.l0] at h
  | k + 1, a, b, acc, r, h => by
    rw [spec_l27Part.l0] at h
    split at h
    · cases h; exact Nat.le_refl _
    · split at h
      · cases h
      · split at h
        · split at h
          · split at h
            · have := part_l0_len p k _ _ _ _ h
              simp only [List.length_append, List.length_cons, List.length_nil] at this
              omega
            · cases h
          · cases h
        · cases h
theorem part_len (p : List S61) (k : Nat) (a b : Int) (r : List S61) (h : spec_l27Part.f k p a b = some r) : 1 ≤ r.length := by
  unfold spec_l27Part.f at h
  split at h
  · split at h
    · have := part_l0_len p k _ _ _ _ h
      simpa using this
    · cases h
  · cases h
/-! bestCut -/
theorem bc_by (p : List S61) (hp : polyOk p = true) (i k : Nat) (hi : i < p.length) (hk : k < p.length) : ∃ x z n0, (∀ K, n0 ≤ K → spec_BestCut.by K p (i : Int) (k : Int) = some x ∧ impl_BestCut.by K p (i : Int) (k : Int) = some z) ∧ spec_l04Mag.f x = some z := by
  have hn := polyOk_len hp
  obtain ⟨y1, ⟨n1, a1⟩, ⟨n2, b1⟩, l1⟩ := way_ev p hn (i : Int) (k : Int) (by omega) (by omega)
  obtain ⟨y2, ⟨n3, a2⟩, ⟨n4, b2⟩, l2⟩ := way_ev p hn (k : Int) (i : Int) (by omega) (by omega)
  have g1 := part_len p n1 _ _ _ (a1 n1 (Nat.le_refl _))
  have g2 := part_len p n3 _ _ _ (a2 n3 (Nat.le_refl _))
  obtain ⟨t1, ⟨n5, c1⟩, ⟨n6, d1⟩⟩ := twice_ev y1 ⟨g1, l1⟩
  obtain ⟨t2, ⟨n7, c2⟩, ⟨n8, d2⟩⟩ := twice_ev y2 ⟨g2, l2⟩
  refine ⟨wrap64 (mx t1 (wrap64 (-t1)) - mx t2 (wrap64 (-t2))), mx (wrap64 (mx t1 (wrap64 (-t1)) - mx t2 (wrap64 (-t2)))) (wrap64 (-(wrap64 (mx t1 (wrap64 (-t1)) - mx t2 (wrap64 (-t2)))))), n1 + n2 + n3 + n4 + n5 + n6 + n7 + n8, fun K hK => ⟨?_, ?_⟩, rfl⟩
  · have e1 := a1 K (by omega)
    have e2 := c1 K (by omega)
    have e3 := a2 K (by omega)
    have e4 := c2 K (by omega)
    simp only at e1 e2 e3 e4
    unfold spec_BestCut.by spec_l04Mag.f
    rw [e1, Option.bind_some, e2, Option.bind_some, Option.bind_some, e3, Option.bind_some, e4]
    rfl
  · have e1 := b1 K (by omega)
    have e2 := d1 K (by omega)
    have e3 := b2 K (by omega)
    have e4 := d2 K (by omega)
    simp only at e1 e2 e3 e4
    unfold impl_BestCut.by impl_size.f
    rw [e1, Option.bind_some, e2, Option.bind_some, Option.bind_some, e3, Option.bind_some, e4]
    rfl
theorem bc_l0 (p : List S61) (ds : List (List Int)) (hds : Pairs p ds) : ∀ (d i : Nat) (a b m : Int), i + d = ds.length → ∃ r n0, ∀ K, n0 ≤ K → ∀ f, d < f → spec_BestCut.l0 K p ds f (i : Int) a b m = some r ∧ impl_BestCut.l0 K p ds f (i : Int) a b m = some r := by
  intro d
  induction d with
  | zero =>
    intro i a b m hi
    refine ⟨(a, b, decide (0 ≤ a)), 0, fun K _ f hf => ?_⟩
    obtain ⟨f, rfl⟩ : ∃ g, f = g + 1 := ⟨f - 1, by omega⟩
    rw [spec_BestCut.l0, impl_BestCut.l0, if_neg (by omega), if_pos (by omega), if_neg (by omega)]
    exact ⟨rfl, rfl⟩
  | succ d ih =>
    intro i a b m hi
    have hil : i < ds.length := by omega
    obtain ⟨hp, u, v, hu, hv, hd⟩ := hds ds[i] (List.getElem_mem hil)
    have hr : ds.getD i ([] : List Int) = [(u : Int), (v : Int)] := by rw [getD_eq ds i [] hil, hd]
    have r1 : spec_BestCut.row ds (i : Int) = [(u : Int), (v : Int)] := by unfold spec_BestCut.row; rw [show ((i : Int)).toNat = i by omega]; exact hr
    have r2 : impl_BestCut.row ds (i : Int) = [(u : Int), (v : Int)] := by unfold impl_BestCut.row; rw [show ((i : Int)).toNat = i by omega]; exact hr
    obtain ⟨x, z, n0, hb, hz⟩ := bc_by p hp u v hu hv
    have q0 : rd [(u : Int), (v : Int)] 0 = u := rfl
    have q1 : rd [(u : Int), (v : Int)] 1 = v := rfl
    by_cases c : a < 0 ∨ z < m
    · obtain ⟨r, n1, h⟩ := ih (i + 1) u v z (by omega)
      refine ⟨r, n0 + n1, fun K hK f hf => ?_⟩
      obtain ⟨f, rfl⟩ : ∃ g, f = g + 1 := ⟨f - 1, by omega⟩
      obtain ⟨h1, h2⟩ := h K (by omega) f (by omega)
      obtain ⟨b1, b2⟩ := hb K (by omega)
      rw [spec_BestCut.l0, impl_BestCut.l0, r1, r2, q0, q1, if_pos (by omega), if_pos (show ([(u : Int), (v : Int)] : List Int).length = 2 from rfl), if_pos (by omega), if_pos (show ([(u : Int), (v : Int)] : List Int).length = 2 from rfl), b1, b2, Option.bind_some, Option.bind_some, hz, Option.bind_some, if_pos c, if_pos c]
      exact ⟨h1, h2⟩
    · obtain ⟨r, n1, h⟩ := ih (i + 1) a b m (by omega)
      refine ⟨r, n0 + n1, fun K hK f hf => ?_⟩
      obtain ⟨f, rfl⟩ : ∃ g, f = g + 1 := ⟨f - 1, by omega⟩
      obtain ⟨h1, h2⟩ := h K (by omega) f (by omega)
      obtain ⟨b1, b2⟩ := hb K (by omega)
      rw [spec_BestCut.l0, impl_BestCut.l0, r1, r2, q0, q1, if_pos (by omega), if_pos (show ([(u : Int), (v : Int)] : List Int).length = 2 from rfl), if_pos (by omega), if_pos (show ([(u : Int), (v : Int)] : List Int).length = 2 from rfl), b1, b2, Option.bind_some, Option.bind_some, hz, Option.bind_some, if_neg c, if_neg c]
      exact ⟨h1, h2⟩
theorem best_ev (p : List S61) (hl : p.length ≤ 1048576) : ∃ r, Ev (fun f => spec_BestCut.f f p) r ∧ Ev (fun f => impl_BestCut.f f p) r := by
  obtain ⟨ds, ⟨n1, h1⟩, ⟨n2, h2⟩, hp⟩ := diags_ev p hl
  obtain ⟨r, n0, h⟩ := bc_l0 p ds hp ds.length 0 (-1) (-1) 0 (by omega)
  refine ⟨r, ⟨n0 + n1 + n2 + ds.length + 1, fun k hk => ?_⟩, ⟨n0 + n1 + n2 + ds.length + 1, fun k hk => ?_⟩⟩
  · have e := h1 k (by omega)
    simp only at e
    show (spec_DiagonalsOf.f k p).bind _ = _
    rw [e]
    exact (h k (by omega) k (by omega)).1
  · have e := h2 k (by omega)
    simp only at e
    show (impl_DiagonalsOf.f k p).bind _ = _
    rw [e]
    exact (h k (by omega) k (by omega)).2

theorem FnExactBestCut : ∀ (l0 : List (S77)), (l0.length ≤ 9223372036854775807 ∧ ∀ x ∈ l0, (Opens.I64 x.f0 ∧ Opens.I64 x.f1)) → ∃ k, laws_FnExactBestCut.f k l0 = some true := by
  intro l0 g0
  refine Ev.rounds (g := fun k => laws_FnExactBestCut.f k l0) ?_
  unfold laws_FnExactBestCut.f
  rcases szPointS_ev l0 1048576 (by omega) (by omega) g0.1 with h | ⟨h, hb⟩
  · exact evB h (evT (by omega) (evSome _))
  · have hl : l0.length ≤ 1048576 := by omega
    have hc : (conv l0).length ≤ 1048576 := by rw [conv_length]; exact hl
    have hT := toPointS_ev l0 hl
    obtain ⟨r, h1, h2⟩ := best_ev (conv l0) hc
    refine evB h (evF (by omega) ?_)
    refine Ev.bind hT (Ev.bind h1 (Ev.bind hT (Ev.bind h2 (evT rfl (evT rfl ?_)))))
    refine Ev.step (fun k => by rw [laws_FnExactBestCut.j0]) ?_
    exact evF (by simp) (Ev.bind hT (Ev.bind (eqPointS_ev _ hc) (evT rfl (evSome _))))

end Go.Proofs.Ytdiphnkkomfmdaa.Pure
