/- FnExactCheapestAt: for every amount and every list of lists of steps, CheapestAt of the program and of the reference answer alike and leave the argument as it is. No condition. -/
import Derived.Test.YtcjliekgkilkoaaQFnExactCheapestAtx6
import Derived.Test.YtcjliekgkilkoaaOpens
namespace Go.Proofs.Ytcjliekgkilkoaa.Pure
open Go.RowKit Go.Proofs.Ytcjliekgkilkoaa Go.Proofs.Ytcjliekgkilkoaa.QFnExactCheapestAt Go.Proofs.YtcjliekgkilkoaaW.PrintWords Go.Proofs.YtcjliekgkilkoaaW.PrintLast
set_option linter.unusedVariables false
set_option linter.unusedSimpArgs false

/-! base -/
theorem w64 {x : Int} (h0 : -9223372036854775808 ≤ x) (h1 : x ≤ 9223372036854775807) : wrap64 x = x := by unfold wrap64; omega
theorem w64n (n : Nat) (h : n ≤ 9223372036854775807) : wrap64 (n : Int) = n := w64 (by omega) (by omega)
theorem w64s (n : Nat) (h : n < 9223372036854775807) : wrap64 ((n : Int) + 1) = ((n + 1 : Nat) : Int) := by rw [w64 (by omega) (by omega)]; omega
theorem evSome {α : Type} (r : α) : Ev (fun _ : Nat => some r) r := ⟨0, fun _ _ => rfl⟩
theorem evOf {α : Type} {f : Option α} {r : α} (h : f = some r) : Ev (fun _ : Nat => f) r := ⟨0, fun _ _ => h⟩
theorem evUniq {α : Type} {g : Nat → Option α} {r q : α} (h : Ev g r) (k : Ev g q) : r = q := by
  obtain ⟨a, ha⟩ := h
  obtain ⟨b, hb⟩ := k
  have h1 := ha (a + b) (by omega)
  rw [hb (a + b) (by omega)] at h1
  exact (Option.some.inj h1).symm
theorem evIf {α : Type} {c : Prop} [Decidable c] {f g : Nat → Option α} {r : α} (hp : c → Ev f r) (hn : ¬ c → Ev g r) : Ev (fun k => if c then f k else g k) r := by
  by_cases h : c
  · simp only [if_pos h]; exact hp h
  · simp only [if_neg h]; exact hn h
theorem evT {α : Type} {c : Prop} [Decidable c] {f g : Nat → Option α} {r : α} (h : c) (hp : Ev f r) : Ev (fun k => if c then f k else g k) r := by
  simp only [if_pos h]; exact hp
theorem evF {α : Type} {c : Prop} [Decidable c] {f g : Nat → Option α} {r : α} (h : ¬ c) (hp : Ev g r) : Ev (fun k => if c then f k else g k) r := by
  simp only [if_neg h]; exact hp
theorem evB {α β : Type} {f : Option α} {g : Nat → α → Option β} {a : α} {r : β} (h : f = some a) (k : Ev (fun n => g n a) r) : Ev (fun n => f.bind (g n)) r := by
  subst h
  exact k
theorem getD_eq {α : Type} (l : List α) (i : Nat) (z : α) (h : i < l.length) : l.getD i z = l[i] := by
  rw [List.getD_eq_getElem?_getD, List.getElem?_eq_getElem h]; rfl
theorem take_succ' {α : Type} (l : List α) (i : Nat) (h : i < l.length) : l.take (i + 1) = l.take i ++ [l[i]] := by
  rw [List.take_succ_eq_append_getElem h]
theorem set_fill {α : Type} (l : List α) (z x : α) (i d : Nat) (hi : l.length = i) : (l ++ List.replicate (d + 1) z).set i x = l ++ [x] ++ List.replicate d z := by
  subst hi
  rw [List.set_append_right _ _ (Nat.le_refl _), Nat.sub_self, List.replicate_succ, List.set_cons_zero, List.append_assoc]
  rfl
theorem drop_cons {α : Type} (l : List α) (i : Nat) (h : i < l.length) : l.drop i = l[i] :: l.drop (i + 1) := List.drop_eq_getElem_cons h
/-! laws_toIntS -/
theorem toIntS_l0 (l : List Int) (hl : l.length ≤ 9223372036854775806) : ∀ d i : Nat, i + d = l.length → Ev (fun k => laws_toIntS.l0 k l (l.take i ++ List.replicate d 0) (i : Int)) l := by
  intro d
  induction d with
  | zero =>
    intro i hi
    refine Ev.step (fun k => by rw [laws_toIntS.l0]) ?_
    refine evF (by omega) ?_
    have : l.take i ++ List.replicate 0 0 = l := by rw [List.take_of_length_le (by omega)]; simp
    rw [this]
    exact evSome _
  | succ d ih =>
    intro i hi
    refine Ev.step (fun k => by rw [laws_toIntS.l0]) ?_
    refine evT (by omega) (evT (by omega) (evT (by simp; omega) ?_))
    rw [w64s i (by omega), show ((i : Int)).toNat = i from by omega, set_fill _ _ _ _ _ (by rw [List.length_take]; omega)]
    have h2 : rd l (i : Int) = l[i] := by unfold rd; rw [show ((i : Int)).toNat = i from by omega]; exact getD_eq _ _ _ (by omega)
    rw [h2, ← take_succ' l i (by omega)]
    exact ih (i + 1) (by omega)
theorem toIntS_ev (l : List Int) (hl : l.length ≤ 1048576) : Ev (fun k => laws_toIntS.f k l) l := by
  unfold laws_toIntS.f
  refine evT (by omega) (evT (by omega) ?_)
  have h := toIntS_l0 l (by omega) l.length 0 (by omega)
  simpa using h
/-! laws_toIntSS -/
theorem toIntSS_l0 (l : List (List Int)) (hl : l.length ≤ 1048576) (hx : ∀ x ∈ l, x.length ≤ 1048576) : ∀ d i : Nat, i + d = l.length → Ev (fun k => laws_toIntSS.l0 k l (l.take i ++ List.replicate d []) (i : Int)) l := by
  intro d
  induction d with
  | zero =>
    intro i hi
    refine Ev.step (fun k => by rw [laws_toIntSS.l0]) ?_
    refine evF (by omega) ?_
    have : l.take i ++ List.replicate 0 [] = l := by rw [List.take_of_length_le (by omega)]; simp
    rw [this]
    exact evSome _
  | succ d ih =>
    intro i hi
    have h2 : rd_L1 l (i : Int) = l[i] := by unfold rd_L1; rw [show ((i : Int)).toNat = i from by omega]; exact getD_eq _ _ _ (by omega)
    refine Ev.step (fun k => by rw [laws_toIntSS.l0]) ?_
    refine evT (by omega) (evT (by omega) ?_)
    rw [h2]
    refine Ev.bind (toIntS_ev _ (hx _ (List.getElem_mem _))) ?_
    refine evT (by simp; omega) ?_
    rw [w64s i (by omega), show ((i : Int)).toNat = i from by omega, set_fill _ _ _ _ _ (by rw [List.length_take]; omega)]
    rw [← take_succ' l i (by omega)]
    exact ih (i + 1) (by omega)
theorem toIntSS_ev (l : List (List Int)) (hl : l.length ≤ 1048576) (hx : ∀ x ∈ l, x.length ≤ 1048576) : Ev (fun k => laws_toIntSS.f k l) l := by
  unfold laws_toIntSS.f
  refine evT (by omega) (evT (by omega) ?_)
  have h := toIntSS_l0 l hl hx l.length 0 (by omega)
  simpa using h
/-! laws_toIntSSS -/
theorem toIntSSS_l0 (l : List (List (List Int))) (hl : l.length ≤ 1048576) (hx : ∀ x ∈ l, x.length ≤ 1048576 ∧ ∀ y ∈ x, y.length ≤ 1048576) : ∀ d i : Nat, i + d = l.length → Ev (fun k => laws_toIntSSS.l0 k l (l.take i ++ List.replicate d []) (i : Int)) l := by
  intro d
  induction d with
  | zero =>
    intro i hi
    refine Ev.step (fun k => by rw [laws_toIntSSS.l0]) ?_
    refine evF (by omega) ?_
    have : l.take i ++ List.replicate 0 [] = l := by rw [List.take_of_length_le (by omega)]; simp
    rw [this]
    exact evSome _
  | succ d ih =>
    intro i hi
    have h2 : rd_L2 l (i : Int) = l[i] := by unfold rd_L2; rw [show ((i : Int)).toNat = i from by omega]; exact getD_eq _ _ _ (by omega)
    refine Ev.step (fun k => by rw [laws_toIntSSS.l0]) ?_
    refine evT (by omega) (evT (by omega) ?_)
    rw [h2]
    refine Ev.bind (toIntSS_ev _ (hx _ (List.getElem_mem _)).1 (hx _ (List.getElem_mem _)).2) ?_
    refine evT (by simp; omega) ?_
    rw [w64s i (by omega), show ((i : Int)).toNat = i from by omega, set_fill _ _ _ _ _ (by rw [List.length_take]; omega)]
    rw [← take_succ' l i (by omega)]
    exact ih (i + 1) (by omega)
theorem toIntSSS_ev (l : List (List (List Int))) (hl : l.length ≤ 1048576) (hx : ∀ x ∈ l, x.length ≤ 1048576 ∧ ∀ y ∈ x, y.length ≤ 1048576) : Ev (fun k => laws_toIntSSS.f k l) l := by
  unfold laws_toIntSSS.f
  refine evT (by omega) (evT (by omega) ?_)
  have h := toIntSSS_l0 l hl hx l.length 0 (by omega)
  simpa using h
/-! laws_szIntS -/
theorem szIntS_ev (l : List Int) (a : Int) (ha : 0 ≤ a) (ha2 : a ≤ 1048576) (hl : l.length ≤ 9223372036854775807) : (laws_szIntS.f l a = some (-1)) ∨ (laws_szIntS.f l a = some (a - l.length) ∧ 0 ≤ a - (l.length : Int)) := by
  unfold laws_szIntS.f
  rw [w64 (x := a - (l.length : Int)) (by omega) (by omega)]
  by_cases h : a - (l.length : Int) < 0
  · exact .inl (if_pos h)
  · exact .inr ⟨if_neg h, by omega⟩
/-! laws_szIntSS -/
theorem szIntSS_l0 (l : List (List Int)) (hl : l.length ≤ 1048576) (hx : ∀ x ∈ l, x.length ≤ 9223372036854775807) : ∀ d i : Nat, i + d = l.length → ∀ a : Int, 0 ≤ a → a ≤ 1048576 →
    Ev (fun k => laws_szIntSS.l0 k l a (i : Int)) (-1) ∨ ∃ b : Int, Ev (fun k => laws_szIntSS.l0 k l a (i : Int)) b ∧ 0 ≤ b ∧ b ≤ a ∧ ∀ x ∈ l.drop i, x.length ≤ 1048576 := by
  intro d
  induction d with
  | zero =>
    intro i hi a ha ha2
    refine .inr ⟨a, ?_, ha, by omega, by rw [List.drop_of_length_le (by omega)]; simp⟩
    refine Ev.step (fun k => by rw [laws_szIntSS.l0]) ?_
    exact evF (by omega) (evSome _)
  | succ d ih =>
    intro i hi a ha ha2
    have h2 : rd_L1 l (i : Int) = l[i] := by unfold rd_L1; rw [show ((i : Int)).toNat = i from by omega]; exact getD_eq _ _ _ (by omega)
    rcases szIntS_ev l[i] a ha ha2 (hx _ (List.getElem_mem _)) with h | ⟨h, h0⟩
    · left
      refine Ev.step (fun k => by rw [laws_szIntSS.l0]) ?_
      refine evT (by omega) (evT (by omega) ?_)
      rw [h2]
      exact evB h (evT (by omega) (evSome _))
    · rcases ih (i + 1) (by omega) (a - (l[i].length : Int)) h0 (by omega) with h3 | ⟨b, h3, hb0, hba, hd⟩
      · left
        refine Ev.step (fun k => by rw [laws_szIntSS.l0]) ?_
        refine evT (by omega) (evT (by omega) ?_)
        rw [h2]
        refine evB h (evF (by omega) ?_)
        rw [w64s i (by omega)]
        exact h3
      · right
        refine ⟨b, ?_, hb0, by omega, ?_⟩
        · refine Ev.step (fun k => by rw [laws_szIntSS.l0]) ?_
          refine evT (by omega) (evT (by omega) ?_)
          rw [h2]
          refine evB h (evF (by omega) ?_)
          rw [w64s i (by omega)]
          exact h3
        · rw [drop_cons l i (by omega)]
          intro x hxm
          rcases List.mem_cons.1 hxm with rfl | hxm
          · omega
          · exact hd x hxm
theorem szIntSS_ev (l : List (List Int)) (a : Int) (ha : 0 ≤ a) (ha2 : a ≤ 1048576) (hl : l.length ≤ 9223372036854775807) (hx : ∀ x ∈ l, x.length ≤ 9223372036854775807) :
    Ev (fun k => laws_szIntSS.f k l a) (-1) ∨ ∃ b : Int, Ev (fun k => laws_szIntSS.f k l a) b ∧ 0 ≤ b ∧ b ≤ a ∧ l.length ≤ 1048576 ∧ ∀ x ∈ l, x.length ≤ 1048576 := by
  unfold laws_szIntSS.f
  rw [w64 (x := a - (l.length : Int)) (by omega) (by omega)]
  by_cases h : a - (l.length : Int) < 0
  · exact .inl (evT h (evSome _))
  · rcases szIntSS_l0 l (by omega) hx l.length 0 (by omega) (a - (l.length : Int)) (by omega) (by omega) with h3 | ⟨b, h3, hb0, hba, hd⟩
    · exact .inl (evF h h3)
    · exact .inr ⟨b, evF h h3, hb0, by omega, by omega, by simpa using hd⟩
/-! laws_szIntSSS -/
theorem szIntSSS_l0 (l : List (List (List Int))) (hl : l.length ≤ 1048576) (hx : ∀ x ∈ l, x.length ≤ 9223372036854775807 ∧ ∀ y ∈ x, y.length ≤ 9223372036854775807) : ∀ d i : Nat, i + d = l.length → ∀ a : Int, 0 ≤ a → a ≤ 1048576 →
    Ev (fun k => laws_szIntSSS.l0 k l a (i : Int)) (-1) ∨ ∃ b : Int, Ev (fun k => laws_szIntSSS.l0 k l a (i : Int)) b ∧ 0 ≤ b ∧ b ≤ a ∧ ∀ x ∈ l.drop i, x.length ≤ 1048576 ∧ ∀ y ∈ x, y.length ≤ 1048576 := by
  intro d
  induction d with
  | zero =>
    intro i hi a ha ha2
    refine .inr ⟨a, ?_, ha, by omega, by rw [List.drop_of_length_le (by omega)]; simp⟩
    refine Ev.step (fun k => by rw [laws_szIntSSS.l0]) ?_
    exact evF (by omega) (evSome _)
  | succ d ih =>
    intro i hi a ha ha2
    have h2 : rd_L2 l (i : Int) = l[i] := by unfold rd_L2; rw [show ((i : Int)).toNat = i from by omega]; exact getD_eq _ _ _ (by omega)
    rcases szIntSS_ev l[i] a ha ha2 (hx _ (List.getElem_mem _)).1 (hx _ (List.getElem_mem _)).2 with h | ⟨c, h, h0, h1, hl1, hx1⟩
    · left
      refine Ev.step (fun k => by rw [laws_szIntSSS.l0]) ?_
      refine evT (by omega) (evT (by omega) ?_)
      rw [h2]
      exact Ev.bind h (evT (by omega) (evSome _))
    · rcases ih (i + 1) (by omega) c h0 (by omega) with h3 | ⟨b, h3, hb0, hba, hd⟩
      · left
        refine Ev.step (fun k => by rw [laws_szIntSSS.l0]) ?_
        refine evT (by omega) (evT (by omega) ?_)
        rw [h2]
        refine Ev.bind h (evF (by omega) ?_)
        rw [w64s i (by omega)]
        exact h3
      · right
        refine ⟨b, ?_, hb0, by omega, ?_⟩
        · refine Ev.step (fun k => by rw [laws_szIntSSS.l0]) ?_
          refine evT (by omega) (evT (by omega) ?_)
          rw [h2]
          refine Ev.bind h (evF (by omega) ?_)
          rw [w64s i (by omega)]
          exact h3
        · rw [drop_cons l i (by omega)]
          intro x hxm
          rcases List.mem_cons.1 hxm with rfl | hxm
          · exact ⟨hl1, hx1⟩
          · exact hd x hxm
theorem szIntSSS_ev (l : List (List (List Int))) (a : Int) (ha : 0 ≤ a) (ha2 : a ≤ 1048576) (hl : l.length ≤ 9223372036854775807) (hx : ∀ x ∈ l, x.length ≤ 9223372036854775807 ∧ ∀ y ∈ x, y.length ≤ 9223372036854775807) :
    Ev (fun k => laws_szIntSSS.f k l a) (-1) ∨ ∃ b : Int, Ev (fun k => laws_szIntSSS.f k l a) b ∧ 0 ≤ b ∧ b ≤ a ∧ l.length ≤ 1048576 ∧ ∀ x ∈ l, x.length ≤ 1048576 ∧ ∀ y ∈ x, y.length ≤ 1048576 := by
  unfold laws_szIntSSS.f
  rw [w64 (x := a - (l.length : Int)) (by omega) (by omega)]
  by_cases h : a - (l.length : Int) < 0
  · exact .inl (evT h (evSome _))
  · rcases szIntSSS_l0 l (by omega) hx l.length 0 (by omega) (a - (l.length : Int)) (by omega) (by omega) with h3 | ⟨b, h3, hb0, hba, hd⟩
    · exact .inl (evF h h3)
    · exact .inr ⟨b, evF h h3, hb0, by omega, by omega, by simpa using hd⟩
/-! laws_eqIntS -/
theorem eqIntS_l0 (l : List Int) (hl : l.length ≤ 9223372036854775806) : ∀ d i : Nat, i + d = l.length → Ev (fun k => laws_eqIntS.l0 k l l (i : Int)) true := by
  intro d
  induction d with
  | zero =>
    intro i hi
    refine Ev.step (fun k => by rw [laws_eqIntS.l0]) ?_
    exact evF (by omega) (evSome _)
  | succ d ih =>
    intro i hi
    refine Ev.step (fun k => by rw [laws_eqIntS.l0]) ?_
    refine evT (by omega) (evT (by omega) (evT (by omega) (evT rfl ?_)))
    rw [w64s i (by omega)]
    exact ih (i + 1) (by omega)
theorem eqIntS_ev (l : List Int) (hl : l.length ≤ 1048576) : Ev (fun k => laws_eqIntS.f k l l) true := by
  unfold laws_eqIntS.f
  exact evT rfl (by simpa using eqIntS_l0 l (by omega) l.length 0 (by omega))
/-! laws_eqIntSS -/
theorem eqIntSS_l0 (l : List (List Int)) (hl : l.length ≤ 9223372036854775806) (hx : ∀ x ∈ l, x.length ≤ 1048576) : ∀ d i : Nat, i + d = l.length → Ev (fun k => laws_eqIntSS.l0 k l l (i : Int)) true := by
  intro d
  induction d with
  | zero =>
    intro i hi
    refine Ev.step (fun k => by rw [laws_eqIntSS.l0]) ?_
    exact evF (by omega) (evSome _)
  | succ d ih =>
    intro i hi
    have h2 : rd_L1 l (i : Int) = l[i] := by unfold rd_L1; rw [show ((i : Int)).toNat = i from by omega]; exact getD_eq _ _ _ (by omega)
    refine Ev.step (fun k => by rw [laws_eqIntSS.l0]) ?_
    refine evT (by omega) (evT (by omega) (evT (by omega) ?_))
    rw [h2]
    refine Ev.bind (eqIntS_ev _ (hx _ (List.getElem_mem _))) (evT rfl ?_)
    rw [w64s i (by omega)]
    exact ih (i + 1) (by omega)
theorem eqIntSS_ev (l : List (List Int)) (hl : l.length ≤ 1048576) (hx : ∀ x ∈ l, x.length ≤ 1048576) : Ev (fun k => laws_eqIntSS.f k l l) true := by
  unfold laws_eqIntSS.f
  exact evT rfl (by simpa using eqIntSS_l0 l (by omega) hx l.length 0 (by omega))
/-! laws_eqIntSSS -/
theorem eqIntSSS_l0 (l : List (List (List Int))) (hl : l.length ≤ 9223372036854775806) (hx : ∀ x ∈ l, x.length ≤ 1048576 ∧ ∀ y ∈ x, y.length ≤ 1048576) : ∀ d i : Nat, i + d = l.length → Ev (fun k => laws_eqIntSSS.l0 k l l (i : Int)) true := by
  intro d
  induction d with
  | zero =>
    intro i hi
    refine Ev.step (fun k => by rw [laws_eqIntSSS.l0]) ?_
    exact evF (by omega) (evSome _)
  | succ d ih =>
    intro i hi
    have h2 : rd_L2 l (i : Int) = l[i] := by unfold rd_L2; rw [show ((i : Int)).toNat = i from by omega]; exact getD_eq _ _ _ (by omega)
    refine Ev.step (fun k => by rw [laws_eqIntSSS.l0]) ?_
    refine evT (by omega) (evT (by omega) (evT (by omega) ?_))
    rw [h2]
    refine Ev.bind (eqIntSS_ev _ (hx _ (List.getElem_mem _)).1 (hx _ (List.getElem_mem _)).2) (evT rfl ?_)
    rw [w64s i (by omega)]
    exact ih (i + 1) (by omega)
theorem eqIntSSS_ev (l : List (List (List Int))) (hl : l.length ≤ 1048576) (hx : ∀ x ∈ l, x.length ≤ 1048576 ∧ ∀ y ∈ x, y.length ≤ 1048576) : Ev (fun k => laws_eqIntSSS.f k l l) true := by
  unfold laws_eqIntSSS.f
  exact evT rfl (by simpa using eqIntSSS_l0 l (by omega) hx l.length 0 (by omega))
/-! l01In -/
theorem l01In_t {a lo hi : Int} (h0 : lo ≤ a) (h1 : a ≤ hi) : spec_l01In.f a lo hi = some true := by unfold spec_l01In.f; rw [if_pos h0]; simp [h1]
theorem l01In_f {a lo hi : Int} (h : ¬ (lo ≤ a ∧ a ≤ hi)) : spec_l01In.f a lo hi = some false := by
  unfold spec_l01In.f
  by_cases h0 : lo ≤ a
  · rw [if_pos h0]; simp; omega
  · rw [if_neg h0]
theorem l01In_eq (a lo hi : Int) : spec_l01In.f a lo hi = some (decide (lo ≤ a ∧ a ≤ hi)) := by
  by_cases h : lo ≤ a ∧ a ≤ hi
  · rw [l01In_t h.1 h.2]; simp [h]
  · rw [l01In_f h]; simp; omega
/-! within -/
theorem within_t {a lo hi : Int} (h0 : lo ≤ a) (h1 : a ≤ hi) : impl_within.f a lo hi = some true := by unfold impl_within.f; rw [if_pos h0]; simp [h1]
theorem within_f {a lo hi : Int} (h : ¬ (lo ≤ a ∧ a ≤ hi)) : impl_within.f a lo hi = some false := by
  unfold impl_within.f
  by_cases h0 : lo ≤ a
  · rw [if_pos h0]; simp; omega
  · rw [if_neg h0]
theorem within_eq (a lo hi : Int) : impl_within.f a lo hi = some (decide (lo ≤ a ∧ a ≤ hi)) := by
  by_cases h : lo ≤ a ∧ a ≤ hi
  · rw [within_t h.1 h.2]; simp [h]
  · rw [within_f h]; simp; omega
/-! steps -/
def okI (l : List (List Int)) (i : Nat) : Bool :=
  decide (((rd_L1 l (i : Int)).length = 2 ∧ (0 ≤ rd (rd_L1 l (i : Int)) 0 ∧ rd (rd_L1 l (i : Int)) 0 ≤ 100000) ∧ 0 ≤ rd (rd_L1 l (i : Int)) 1 ∧ rd (rd_L1 l (i : Int)) 1 ≤ 1000) ∧
    (i = 0 → rd (rd_L1 l (i : Int)) 0 = 0) ∧ (0 < i → rd (rd_L1 l ((i : Int) - 1)) 0 < rd (rd_L1 l (i : Int)) 0 ∧ rd (rd_L1 l (i : Int)) 1 ≤ rd (rd_L1 l ((i : Int) - 1)) 1))
def allFrom (l : List (List Int)) : Nat → Nat → Bool
  | _, 0 => true
  | i, d + 1 => okI l i && allFrom l (i + 1) d
def stepsOk (l : List (List Int)) : Bool := decide (1 ≤ l.length ∧ l.length ≤ 6) && allFrom l 0 l.length
theorem allFrom_t {l : List (List Int)} {i d : Nat} (h : okI l i = true) : allFrom l i (d + 1) = allFrom l (i + 1) d := by simp [allFrom, h]
theorem allFrom_f {l : List (List Int)} {i d : Nat} (h : okI l i = false) : allFrom l i (d + 1) = false := by simp [allFrom, h]
theorem allFrom_get {l : List (List Int)} : ∀ (d i : Nat), allFrom l i d = true → ∀ j, i ≤ j → j < i + d → okI l j = true
  | 0, i, _, j, h0, h1 => by omega
  | d + 1, i, h, j, h0, h1 => by
    simp only [allFrom, Bool.and_eq_true] at h
    rcases Nat.eq_or_lt_of_le h0 with rfl | hlt
    · exact h.1
    · exact allFrom_get d (i + 1) h.2 j (by omega) (by omega)
theorem stepsOk_get {l : List (List Int)} (h : stepsOk l = true) : (1 ≤ l.length ∧ l.length ≤ 6) ∧ ∀ j, j < l.length → okI l j = true := by
  simp only [stepsOk, Bool.and_eq_true, decide_eq_true_eq] at h
  exact ⟨h.1, fun j hj => allFrom_get _ 0 h.2 j (by omega) (by omega)⟩
theorem okI_row {l : List (List Int)} {i : Nat} (h : okI l i = true) : (rd_L1 l (i : Int)).length = 2 ∧ (0 ≤ rd (rd_L1 l (i : Int)) 0 ∧ rd (rd_L1 l (i : Int)) 0 ≤ 100000) ∧ 0 ≤ rd (rd_L1 l (i : Int)) 1 ∧ rd (rd_L1 l (i : Int)) 1 ≤ 1000 := by
  simp only [okI, decide_eq_true_eq] at h
  exact h.1
theorem okI_t {l : List (List Int)} {i : Nat} {s : List Int} (hs : rd_L1 l (i : Int) = s) (c1 : (s.length : Int) = 2) (c2 : 0 ≤ rd s 0 ∧ rd s 0 ≤ 100000) (c3 : 0 ≤ rd s 1 ∧ rd s 1 ≤ 1000) (c4 : i = 0 → rd s 0 = 0) (c5 : 0 < i → rd (rd_L1 l ((i : Int) - 1)) 0 < rd s 0 ∧ rd s 1 ≤ rd (rd_L1 l ((i : Int) - 1)) 1) : okI l i = true := by
  unfold okI; rw [decide_eq_true_eq, hs]; exact ⟨⟨by omega, c2, c3⟩, c4, c5⟩
theorem okI_f {l : List (List Int)} {i : Nat} {s : List Int} (hs : rd_L1 l (i : Int) = s) (h : ¬ ((s.length : Int) = 2 ∧ (0 ≤ rd s 0 ∧ rd s 0 ≤ 100000) ∧ (0 ≤ rd s 1 ∧ rd s 1 ≤ 1000) ∧ (i = 0 → rd s 0 = 0) ∧ (0 < i → rd (rd_L1 l ((i : Int) - 1)) 0 < rd s 0 ∧ rd s 1 ≤ rd (rd_L1 l ((i : Int) - 1)) 1))) : okI l i = false := by
  unfold okI; rw [decide_eq_false_iff_not, hs]; exact fun h2 => h ⟨by omega, h2.1.2.1, h2.1.2.2, h2.2.1, h2.2.2⟩
theorem spec_steps_l0 (l : List (List Int)) (hl : l.length ≤ 1048576) : ∀ d i : Nat, i + d = l.length → (0 < i → (rd_L1 l ((i : Int) - 1)).length = 2) → Ev (fun k => spec_StepListOk.l0 k l l (l.length : Int) (i : Int)) (allFrom l i d) := by
  intro d
  induction d with
  | zero =>
    intro i hi _
    refine Ev.step (fun k => by rw [spec_StepListOk.l0]) ?_
    exact evF (by omega) (evSome _)
  | succ d ih =>
    intro i hi hp
    have hi1 := w64s i (by omega)
    have hm1 : wrap64 ((i : Int) - 1) = (i : Int) - 1 := w64 (by omega) (by omega)
    have ih' := ih (i + 1) (by omega)
    refine Ev.step (fun k => by rw [spec_StepListOk.l0]) ?_
    refine evT (by omega) (evT (by omega) (evT (by omega) ?_))
    generalize hs : rd_L1 l (i : Int) = s
    have hnx : (s.length : Int) = 2 → (0 < i + 1 → (rd_L1 l (((i + 1 : Nat) : Int) - 1)).length = 2) := by
      intro h _
      rw [show ((i + 1 : Nat) : Int) - 1 = (i : Int) by omega, hs]
      omega
    by_cases c1 : (s.length : Int) = 2
    · refine evT c1 (evT (by omega) ?_)
      by_cases c2 : 0 ≤ rd s 0 ∧ rd s 0 ≤ 100000
      · refine evB (l01In_t c2.1 c2.2) (evT rfl (evT (by omega) ?_))
        by_cases c3 : 0 ≤ rd s 1 ∧ rd s 1 ≤ 1000
        · refine evB (l01In_t c3.1 c3.2) (evT rfl ?_)
          by_cases c4 : (i : Int) = 0
          · refine evT c4 ?_
            refine Ev.step (fun k => by rw [spec_StepListOk.j1]) ?_
            by_cases c5 : rd s 0 = 0
            · refine evF (by simp [c5]) (evF (by omega) ?_)
              rw [hi1, allFrom_t (okI_t hs c1 c2 c3 (fun _ => c5) (by omega))]
              exact ih' (hnx c1)
            · rw [allFrom_f (okI_f hs (by omega))]
              exact evT (by simpa using c5) (evSome _)
          · refine evF c4 ?_
            refine Ev.step (fun k => by rw [spec_StepListOk.j1]) ?_
            refine evF (by decide) ?_
            have hpl := hp (by omega)
            refine evT (by omega) (evT (by omega) ?_)
            rw [hm1]
            refine evT (by omega) (evT (by omega) (evT (by omega) ?_))
            by_cases c5 : rd s 0 ≤ rd (rd_L1 l ((i : Int) - 1)) 0
            · rw [allFrom_f (okI_f hs (by omega))]
              exact evT c5 (evSome _)
            · refine evF c5 (evT (by omega) (evT (by omega) ?_))
              by_cases c6 : rd s 1 > rd (rd_L1 l ((i : Int) - 1)) 1
              · rw [allFrom_f (okI_f hs (by omega))]
                exact evT c6 (evSome _)
              · refine evF c6 ?_
                rw [hi1, allFrom_t (okI_t hs c1 c2 c3 (by omega) (by omega))]
                exact ih' (hnx c1)
        · refine evB (l01In_f c3) (evF (by decide) ?_)
          refine Ev.step (fun k => by rw [spec_StepListOk.j1]) ?_
          rw [allFrom_f (okI_f hs (by omega))]
          exact evT rfl (evSome _)
      · refine evB (l01In_f c2) (evF (by decide) ?_)
        refine Ev.step (fun k => by rw [spec_StepListOk.j1]) ?_
        rw [allFrom_f (okI_f hs (by omega))]
        exact evT rfl (evSome _)
    · refine evF c1 ?_
      refine Ev.step (fun k => by rw [spec_StepListOk.j1]) ?_
      rw [allFrom_f (okI_f hs (by omega))]
      exact evT rfl (evSome _)
theorem impl_steps_l0 (l : List (List Int)) (hl : l.length ≤ 1048576) : ∀ d i : Nat, i + d = l.length → (0 < i → (rd_L1 l ((i : Int) - 1)).length = 2) → Ev (fun k => impl_StepListOk.l0 k l l (l.length : Int) (i : Int)) (allFrom l i d) := by
  intro d
  induction d with
  | zero =>
    intro i hi _
    refine Ev.step (fun k => by rw [impl_StepListOk.l0]) ?_
    exact evF (by omega) (evSome _)
  | succ d ih =>
    intro i hi hp
    have hi1 := w64s i (by omega)
    have hm1 : wrap64 ((i : Int) - 1) = (i : Int) - 1 := w64 (by omega) (by omega)
    have ih' := ih (i + 1) (by omega)
    refine Ev.step (fun k => by rw [impl_StepListOk.l0]) ?_
    refine evT (by omega) (evT (by omega) (evT (by omega) ?_))
    generalize hs : rd_L1 l (i : Int) = s
    have hnx : (s.length : Int) = 2 → (0 < i + 1 → (rd_L1 l (((i + 1 : Nat) : Int) - 1)).length = 2) := by
      intro h _
      rw [show ((i + 1 : Nat) : Int) - 1 = (i : Int) by omega, hs]
      omega
    by_cases c1 : (s.length : Int) = 2
    · refine evT c1 (evT (by omega) ?_)
      by_cases c2 : 0 ≤ rd s 0 ∧ rd s 0 ≤ 100000
      · refine evB (within_t c2.1 c2.2) (evT rfl (evT (by omega) ?_))
        by_cases c3 : 0 ≤ rd s 1 ∧ rd s 1 ≤ 1000
        · refine evB (within_t c3.1 c3.2) ?_
          refine Ev.step (fun k => by rw [impl_StepListOk.j2]) ?_
          refine evF (by decide) ?_
          by_cases c4 : (i : Int) = 0
          · refine evT c4 (evT (by omega) ?_)
            by_cases c5 : rd s 0 = 0
            · refine evT c5 (evF (by omega) ?_)
              rw [hi1, allFrom_t (okI_t hs c1 c2 c3 (fun _ => c5) (by omega))]
              exact ih' (hnx c1)
            · rw [allFrom_f (okI_f hs (by omega))]
              exact evF c5 (evSome _)
          · refine evF c4 ?_
            have hpl := hp (by omega)
            refine evT (by omega) (evT (by omega) ?_)
            rw [hm1]
            refine evT (by omega) (evT (by omega) (evT (by omega) ?_))
            by_cases c5 : rd s 0 ≤ rd (rd_L1 l ((i : Int) - 1)) 0
            · rw [allFrom_f (okI_f hs (by omega))]
              exact evT c5 (evSome _)
            · refine evF c5 (evT (by omega) (evT (by omega) ?_))
              by_cases c6 : rd s 1 > rd (rd_L1 l ((i : Int) - 1)) 1
              · rw [allFrom_f (okI_f hs (by omega))]
                exact evT c6 (evSome _)
              · refine evF c6 ?_
                rw [hi1, allFrom_t (okI_t hs c1 c2 c3 (by omega) (by omega))]
                exact ih' (hnx c1)
        · refine evB (within_f c3) ?_
          refine Ev.step (fun k => by rw [impl_StepListOk.j2]) ?_
          rw [allFrom_f (okI_f hs (by omega))]
          exact evT rfl (evSome _)
      · refine evB (within_f c2) (evF (by decide) ?_)
        refine Ev.step (fun k => by rw [impl_StepListOk.j2]) ?_
        rw [allFrom_f (okI_f hs (by omega))]
        exact evT rfl (evSome _)
    · refine evF c1 ?_
      refine Ev.step (fun k => by rw [impl_StepListOk.j2]) ?_
      rw [allFrom_f (okI_f hs (by omega))]
      exact evT rfl (evSome _)
theorem spec_steps_ev (l : List (List Int)) (hl : l.length ≤ 1048576) : Ev (fun k => spec_StepListOk.f k l) (stepsOk l) := by
  unfold spec_StepListOk.f
  by_cases h : 1 ≤ l.length ∧ l.length ≤ 6
  · refine evB (l01In_t (by omega) (by omega)) (evT rfl ?_)
    have e : stepsOk l = allFrom l 0 l.length := by unfold stepsOk; rw [decide_eq_true h, Bool.true_and]
    rw [e]
    exact spec_steps_l0 l hl l.length 0 (by omega) (by omega)
  · refine evB (l01In_f (by omega)) (evF (by decide) ?_)
    have e : stepsOk l = false := by unfold stepsOk; rw [decide_eq_false h, Bool.false_and]
    rw [e]
    exact evSome _
theorem impl_steps_ev (l : List (List Int)) (hl : l.length ≤ 1048576) : Ev (fun k => impl_StepListOk.f k l) (stepsOk l) := by
  unfold impl_StepListOk.f
  by_cases h : 1 ≤ l.length ∧ l.length ≤ 6
  · refine evF (by omega) ?_
    refine Ev.step (fun k => by rw [impl_StepListOk.j0]) ?_
    refine evF (by simp; omega) ?_
    have e : stepsOk l = allFrom l 0 l.length := by unfold stepsOk; rw [decide_eq_true h, Bool.true_and]
    rw [e]
    exact impl_steps_l0 l hl l.length 0 (by omega) (by omega)
  · have e : stepsOk l = false := by unfold stepsOk; rw [decide_eq_false h, Bool.false_and]
    rw [e]
    by_cases h1 : (l.length : Int) < 1
    · refine evT h1 ?_
      refine Ev.step (fun k => by rw [impl_StepListOk.j0]) ?_
      exact evT rfl (evSome _)
    · refine evF h1 ?_
      refine Ev.step (fun k => by rw [impl_StepListOk.j0]) ?_
      exact evT (by simp; omega) (evSome _)
/-! price -/
def priceFrom (a : Int) (l : List (List Int)) : Nat → Nat → Int → Int
  | _, 0, p => p
  | i, d + 1, p => priceFrom a l (i + 1) d (if rd (rd_L1 l (i : Int)) 0 ≤ a then rd (rd_L1 l (i : Int)) 1 else p)
def price (a : Int) (l : List (List Int)) : Int := priceFrom a l 0 l.length 0 * a
def priceOf (a : Int) (l : List (List Int)) : Int := if stepsOk l = true ∧ 0 ≤ a ∧ a ≤ 100000 then price a l else -1
theorem priceFrom_bound (a : Int) (l : List (List Int)) (ho : ∀ j, j < l.length → okI l j = true) : ∀ (d i : Nat) (p : Int), i + d = l.length → 0 ≤ p → p ≤ 1000 → 0 ≤ priceFrom a l i d p ∧ priceFrom a l i d p ≤ 1000
  | 0, i, p, _, h0, h1 => ⟨h0, h1⟩
  | d + 1, i, p, hi, h0, h1 => by
    have h2 := okI_row (ho i (by omega))
    unfold priceFrom
    refine priceFrom_bound a l ho d (i + 1) _ (by omega) ?_ ?_
    · split <;> omega
    · split <;> omega
theorem price_bound {a : Int} {l : List (List Int)} (h : stepsOk l = true) (h0 : 0 ≤ a) (h1 : a ≤ 100000) : 0 ≤ price a l ∧ price a l ≤ 100000000 := by
  have hb := priceFrom_bound a l (stepsOk_get h).2 l.length 0 0 (by omega) (by omega) (by omega)
  unfold price
  refine ⟨Int.mul_nonneg hb.1 h0, ?_⟩
  have := Int.mul_le_mul hb.2 h1 h0 (by omega)
  omega
theorem priceFrom_wrap {a : Int} {l : List (List Int)} (h : stepsOk l = true) (h0 : 0 ≤ a) (h1 : a ≤ 100000) : wrap64 (priceFrom a l 0 l.length 0 * a) = price a l := by
  have hb := price_bound h h0 h1
  unfold price at hb ⊢
  exact w64 (by omega) (by omega)
theorem priceOf_neg {a : Int} {l : List (List Int)} : priceOf a l < 0 ↔ ¬ (stepsOk l = true ∧ 0 ≤ a ∧ a ≤ 100000) := by
  unfold priceOf
  by_cases h : stepsOk l = true ∧ 0 ≤ a ∧ a ≤ 100000
  · rw [if_pos h]
    have := price_bound h.1 h.2.1 h.2.2
    exact ⟨fun h2 => by omega, fun h2 => absurd h h2⟩
  · rw [if_neg h]
    exact ⟨fun _ => h, fun _ => by omega⟩
/-! l25 -/
theorem spec_price_l0 (a : Int) (l : List (List Int)) (hl : l.length ≤ 1048576) (ho : ∀ j, j < l.length → okI l j = true) : ∀ (d i : Nat) (p : Int), i + d = l.length → Ev (fun k => spec_l25Price.l0 k a p l (l.length : Int) (i : Int)) (wrap64 (priceFrom a l i d p * a)) := by
  intro d
  induction d with
  | zero =>
    intro i p hi
    refine Ev.step (fun k => by rw [spec_l25Price.l0]) ?_
    exact evF (by omega) (evSome _)
  | succ d ih =>
    intro i p hi
    have h2 := okI_row (ho i (by omega))
    have hi1 := w64s i (by omega)
    refine Ev.step (fun k => by rw [spec_l25Price.l0]) ?_
    refine evT (by omega) (evT (by omega) (evT (by omega) (evT (by omega) ?_)))
    rw [hi1]
    unfold priceFrom
    by_cases c : rd (rd_L1 l (i : Int)) 0 ≤ a
    · rw [if_pos c]
      exact evT c (evT (by omega) (ih (i + 1) _ (by omega)))
    · rw [if_neg c]
      exact evF c (ih (i + 1) _ (by omega))
theorem l25Price_ev (a : Int) (l : List (List Int)) (hl : l.length ≤ 1048576) (h : stepsOk l = true) (h0 : 0 ≤ a) (h1 : a ≤ 100000) : Ev (fun k => spec_l25Price.f k a l) (price a l) := by
  unfold spec_l25Price.f
  rw [← priceFrom_wrap h h0 h1]
  exact spec_price_l0 a l hl (stepsOk_get h).2 l.length 0 0 (by omega)
/-! specPrice -/
theorem spec_price_ev (a : Int) (l : List (List Int)) (hl : l.length ≤ 1048576) : Ev (fun k => spec_PriceOf.f k a l) (priceOf a l) := by
  unfold spec_PriceOf.f
  refine Ev.bind (spec_steps_ev l hl) ?_
  by_cases h : stepsOk l = true
  · refine evT h ?_
    by_cases c : 0 ≤ a ∧ a ≤ 100000
    · refine evB (l01In_t c.1 c.2) (evT rfl ?_)
      have e : priceOf a l = price a l := if_pos ⟨h, c⟩
      rw [e]
      exact Ev.bind (l25Price_ev a l hl h c.1 c.2) (evSome _)
    · have e : priceOf a l = -1 := if_neg (fun h2 => c h2.2)
      rw [e]
      exact evB (l01In_f c) (evF (by decide) (evSome _))
  · have e : priceOf a l = -1 := if_neg (fun h2 => h h2.1)
    rw [e]
    exact evF h (evSome _)
/-! implPrice -/
theorem impl_price_l0 (a : Int) (l : List (List Int)) (hl : l.length ≤ 1048576) (ho : ∀ j, j < l.length → okI l j = true) : ∀ (d i : Nat) (p : Int), i + d = l.length → Ev (fun k => impl_PriceOf.l0 k a p l (l.length : Int) (i : Int)) (wrap64 (priceFrom a l i d p * a)) := by
  intro d
  induction d with
  | zero =>
    intro i p hi
    refine Ev.step (fun k => by rw [impl_PriceOf.l0]) ?_
    exact evF (by omega) (evSome _)
  | succ d ih =>
    intro i p hi
    have h2 := okI_row (ho i (by omega))
    have hi1 := w64s i (by omega)
    refine Ev.step (fun k => by rw [impl_PriceOf.l0]) ?_
    refine evT (by omega) (evT (by omega) (evT (by omega) (evT (by omega) ?_)))
    rw [hi1]
    unfold priceFrom
    by_cases c : rd (rd_L1 l (i : Int)) 0 ≤ a
    · rw [if_pos c]
      exact evT c (evT (by omega) (ih (i + 1) _ (by omega)))
    · rw [if_neg c]
      exact evF c (ih (i + 1) _ (by omega))
theorem impl_price_ev (a : Int) (l : List (List Int)) (hl : l.length ≤ 1048576) : Ev (fun k => impl_PriceOf.f k a l) (priceOf a l) := by
  unfold impl_PriceOf.f
  refine Ev.bind (impl_steps_ev l hl) ?_
  by_cases h : stepsOk l = true
  · refine evT h ?_
    by_cases c : 0 ≤ a ∧ a ≤ 100000
    · refine evB (within_t c.1 c.2) ?_
      refine Ev.step (fun k => by rw [impl_PriceOf.j0]) ?_
      refine evF (by decide) ?_
      have e : priceOf a l = price a l := if_pos ⟨h, c⟩
      rw [e, ← priceFrom_wrap h c.1 c.2]
      exact impl_price_l0 a l hl (stepsOk_get h).2 l.length 0 0 (by omega)
    · have e : priceOf a l = -1 := if_neg (fun h2 => c h2.2)
      rw [e]
      refine evB (within_f c) ?_
      refine Ev.step (fun k => by rw [impl_PriceOf.j0]) ?_
      exact evT (by decide) (evSome _)
  · have e : priceOf a l = -1 := if_neg (fun h2 => h h2.1)
    rw [e]
    refine evF h ?_
    refine Ev.step (fun k => by rw [impl_PriceOf.j0]) ?_
    exact evT rfl (evSome _)
/-! cheapest -/
def cheapFrom (a : Int) (l : List (List (List Int))) : Nat → Nat → Int → Int
  | _, 0, b => b
  | i, d + 1, b => if priceOf a (rd_L2 l (i : Int)) < 0 then -1 else cheapFrom a l (i + 1) d (if priceOf a (rd_L2 l (i : Int)) < priceOf a (rd_L2 l b) then (i : Int) else b)
def cheapOf (a : Int) (l : List (List (List Int))) : Int := if 1 ≤ l.length ∧ l.length ≤ 6 then cheapFrom a l 0 l.length 0 else -1
theorem rd_L2_len {l : List (List (List Int))} (hx : ∀ x ∈ l, x.length ≤ 1048576) (i : Int) : (rd_L2 l i).length ≤ 1048576 := by
  unfold rd_L2
  rw [List.getD_eq_getElem?_getD]
  rcases h : l[i.toNat]? with _ | x
  · simp
  · exact hx x (List.mem_of_getElem? h)
theorem spec_cheap_l0 (a : Int) (l : List (List (List Int))) (hl : l.length ≤ 1048576) (hx : ∀ x ∈ l, x.length ≤ 1048576) : ∀ (d i : Nat) (b : Int), i + d = l.length → 0 ≤ b → b < l.length → Ev (fun k => spec_CheapestAt.l0 k a l b l (l.length : Int) (i : Int)) (cheapFrom a l i d b) := by
  intro d
  induction d with
  | zero =>
    intro i b hi _ _
    refine Ev.step (fun k => by rw [spec_CheapestAt.l0]) ?_
    exact evF (by omega) (evSome _)
  | succ d ih =>
    intro i b hi hb0 hb1
    have hi1 := w64s i (by omega)
    refine Ev.step (fun k => by rw [spec_CheapestAt.l0]) ?_
    refine evT (by omega) (evT (by omega) (evT (by omega) (Ev.bind (spec_price_ev a _ (rd_L2_len hx _)) ?_)))
    rw [hi1]
    unfold cheapFrom
    by_cases c : priceOf a (rd_L2 l (i : Int)) < 0
    · rw [if_pos c]
      exact evT c (evSome _)
    · rw [if_neg c]
      refine evF c (evT hb0 (evT hb1 (Ev.bind (spec_price_ev a _ (rd_L2_len hx _)) ?_)))
      by_cases c2 : priceOf a (rd_L2 l (i : Int)) < priceOf a (rd_L2 l b)
      · rw [if_pos c2]
        exact evT c2 (ih (i + 1) _ (by omega) (by omega) (by omega))
      · rw [if_neg c2]
        exact evF c2 (ih (i + 1) _ (by omega) hb0 hb1)
theorem impl_cheap_l0 (a : Int) (l : List (List (List Int))) (hl : l.length ≤ 1048576) (hx : ∀ x ∈ l, x.length ≤ 1048576) : ∀ (d i : Nat) (b : Int), i + d = l.length → 0 ≤ b → b < l.length → Ev (fun k => impl_CheapestAt.l0 k a l b l (l.length : Int) (i : Int)) (cheapFrom a l i d b) := by
  intro d
  induction d with
  | zero =>
    intro i b hi _ _
    refine Ev.step (fun k => by rw [impl_CheapestAt.l0]) ?_
    exact evF (by omega) (evSome _)
  | succ d ih =>
    intro i b hi hb0 hb1
    have hi1 := w64s i (by omega)
    refine Ev.step (fun k => by rw [impl_CheapestAt.l0]) ?_
    refine evT (by omega) (evT (by omega) (evT (by omega) (Ev.bind (impl_price_ev a _ (rd_L2_len hx _)) ?_)))
    rw [hi1]
    unfold cheapFrom
    by_cases c : priceOf a (rd_L2 l (i : Int)) < 0
    · rw [if_pos c]
      exact evT c (evSome _)
    · rw [if_neg c]
      refine evF c (evT hb0 (evT hb1 (Ev.bind (impl_price_ev a _ (rd_L2_len hx _)) ?_)))
      by_cases c2 : priceOf a (rd_L2 l (i : Int)) < priceOf a (rd_L2 l b)
      · rw [if_pos c2]
        exact evT c2 (ih (i + 1) _ (by omega) (by omega) (by omega))
      · rw [if_neg c2]
        exact evF c2 (ih (i + 1) _ (by omega) hb0 hb1)
theorem spec_cheap_ev (a : Int) (l : List (List (List Int))) (hl : l.length ≤ 1048576) (hx : ∀ x ∈ l, x.length ≤ 1048576) : Ev (fun k => spec_CheapestAt.f k a l) (cheapOf a l) := by
  unfold spec_CheapestAt.f
  by_cases h : 1 ≤ l.length ∧ l.length ≤ 6
  · have e : cheapOf a l = cheapFrom a l 0 l.length 0 := if_pos h
    rw [e]
    exact evB (l01In_t (by omega) (by omega)) (evT rfl (spec_cheap_l0 a l hl hx l.length 0 0 (by omega) (by omega) (by omega)))
  · have e : cheapOf a l = -1 := if_neg h
    rw [e]
    exact evB (l01In_f (by omega)) (evF (by decide) (evSome _))
theorem impl_cheap_ev (a : Int) (l : List (List (List Int))) (hl : l.length ≤ 1048576) (hx : ∀ x ∈ l, x.length ≤ 1048576) : Ev (fun k => impl_CheapestAt.f k a l) (cheapOf a l) := by
  unfold impl_CheapestAt.f
  by_cases h : 1 ≤ l.length ∧ l.length ≤ 6
  · have e : cheapOf a l = cheapFrom a l 0 l.length 0 := if_pos h
    rw [e]
    refine evF (by omega) ?_
    exact (by refine Ev.step (fun k => by rw [impl_CheapestAt.j0]) ?_; exact evF (by simp; omega) (impl_cheap_l0 a l hl hx l.length 0 0 (by omega) (by omega) (by omega)))
  · have e : cheapOf a l = -1 := if_neg h
    rw [e]
    by_cases h1 : (l.length : Int) < 1
    · refine evT h1 ?_
      exact (by refine Ev.step (fun k => by rw [impl_CheapestAt.j0]) ?_; exact evT rfl (evSome _))
    · refine evF h1 ?_
      exact (by refine Ev.step (fun k => by rw [impl_CheapestAt.j0]) ?_; exact evT (by simp; omega) (evSome _))

theorem FnExactCheapestAt : ∀ (a0 : Int) (l1 : List (List (List (Int)))), Opens.I64 a0 → (l1.length ≤ 9223372036854775807 ∧ ∀ x ∈ l1, (x.length ≤ 9223372036854775807 ∧ ∀ y ∈ x, (y.length ≤ 9223372036854775807 ∧ ∀ z ∈ y, Opens.I64 z))) → ∃ k, laws_FnExactCheapestAt.f k a0 l1 = some true := by
  intro a0 l1 _ g1
  refine Ev.rounds (g := fun k => laws_FnExactCheapestAt.f k a0 l1) ?_
  unfold laws_FnExactCheapestAt.f
  rcases szIntSSS_ev l1 1048576 (by omega) (by omega) g1.1 (fun x hx => ⟨(g1.2 x hx).1, fun y hy => ((g1.2 x hx).2 y hy).1⟩) with h | ⟨b, h, hb, _, hl, hx⟩
  · exact Ev.bind h (evT (by omega) (evSome _))
  · refine Ev.bind h (evF (by omega) ?_)
    refine Ev.bind (toIntSSS_ev l1 hl hx) (Ev.bind (spec_cheap_ev a0 l1 hl (fun x hx2 => (hx x hx2).1)) (Ev.bind (toIntSSS_ev l1 hl hx) (Ev.bind (impl_cheap_ev a0 l1 hl (fun x hx2 => (hx x hx2).1)) ?_)))
    exact evT rfl (Ev.bind (toIntSSS_ev l1 hl hx) (Ev.bind (eqIntSSS_ev l1 hl hx) (evT rfl (evSome _))))

end Go.Proofs.Ytcjliekgkilkoaa.Pure
