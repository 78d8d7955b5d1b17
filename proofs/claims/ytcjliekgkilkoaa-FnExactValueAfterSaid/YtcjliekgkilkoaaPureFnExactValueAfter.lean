/- FnExactValueAfter: for every three ints ValueAfter of the program and of the reference answer alike. No condition. -/
import Derived.Test.YtcjliekgkilkoaaQFnExactValueAfterx1
import Derived.Test.YtcjliekgkilkoaaOpens
namespace Go.Proofs.Ytcjliekgkilkoaa.Pure
open Go.RowKit Go.Proofs.Ytcjliekgkilkoaa Go.Proofs.Ytcjliekgkilkoaa.QFnExactValueAfter Go.Proofs.YtcjliekgkilkoaaW.PrintWords Go.Proofs.YtcjliekgkilkoaaW.PrintLast
set_option linter.unusedVariables false
set_option linter.unusedSimpArgs false

/-! base -/
theorem w64 {x : Int} (h0 : -9223372036854775808 ≤ x) (h1 : x ≤ 9223372036854775807) : wrap64 x = x := by unfold wrap64; omega
theorem w64n (n : Nat) (h : n ≤ 9223372036854775807) : wrap64 (n : Int) = n := w64 (by omega) (by omega)
theorem w64s (n : Nat) (h : n < 9223372036854775807) : wrap64 ((n : Int) + 1) = ((n + 1 : Nat) : Int) := by rw [w64 (by omega) (by omega)]; omega
theorem evSome {α : Type} (r : α) : Ev (fun _ : Nat => some r) r := ⟨0, fun _ _ => rfl⟩
theorem evOf {α : Type} {f : Option α} {r : α} (h : f = some r) : Ev (fun _ : Nat => f) r := ⟨0, fun _ _ => h⟩
theorem evUniq {α : Type} {g : Nat → Option α} {r q : α} (h : Ev g r) (k : Ev g q) : r = q := by
  obtain ⟨a, ha⟩ := h
  obtain ⟨b, hb⟩ := k
  have h1 := ha (a + b) (by omega)
  rw [hb (a + b) (by omega)] at h1
  exact (Option.some.inj h1).symm
theorem evIf {α : Type} {c : Prop} [Decidable c] {f g : Nat → Option α} {r : α} (hp : c → Ev f r) (hn : ¬ c → Ev g r) : Ev (fun k => if c then f k else g k) r := by
  by_cases h : c
  · simp only [if_pos h]; exact hp h
  · simp only [if_neg h]; exact hn h
theorem evT {α : Type} {c : Prop} [Decidable c] {f g : Nat → Option α} {r : α} (h : c) (hp : Ev f r) : Ev (fun k => if c then f k else g k) r := by
  simp only [if_pos h]; exact hp
theorem evF {α : Type} {c : Prop} [Decidable c] {f g : Nat → Option α} {r : α} (h : ¬ c) (hp : Ev g r) : Ev (fun k => if c then f k else g k) r := by
  simp only [if_neg h]; exact hp
theorem evB {α β : Type} {f : Option α} {g : Nat → α → Option β} {a : α} {r : β} (h : f = some a) (k : Ev (fun n => g n a) r) : Ev (fun n => f.bind (g n)) r := by
  subst h
  exact k
theorem getD_eq {α : Type} (l : List α) (i : Nat) (z : α) (h : i < l.length) : l.getD i z = l[i] := by
  rw [List.getD_eq_getElem?_getD, List.getElem?_eq_getElem h]; rfl
theorem take_succ' {α : Type} (l : List α) (i : Nat) (h : i < l.length) : l.take (i + 1) = l.take i ++ [l[i]] := by
  rw [List.take_succ_eq_append_getElem h]
theorem set_fill {α : Type} (l : List α) (z x : α) (i d : Nat) (hi : l.length = i) : (l ++ List.replicate (d + 1) z).set i x = l ++ [x] ++ List.replicate d z := by
  subst hi
  rw [List.set_append_right _ _ (Nat.le_refl _), Nat.sub_self, List.replicate_succ, List.set_cons_zero, List.append_assoc]
  rfl
theorem drop_cons {α : Type} (l : List α) (i : Nat) (h : i < l.length) : l.drop i = l[i] :: l.drop (i + 1) := List.drop_eq_getElem_cons h
/-! l01In -/
theorem l01In_t {a lo hi : Int} (h0 : lo ≤ a) (h1 : a ≤ hi) : spec_l01In.f a lo hi = some true := by unfold spec_l01In.f; rw [if_pos h0]; simp [h1]
theorem l01In_f {a lo hi : Int} (h : ¬ (lo ≤ a ∧ a ≤ hi)) : spec_l01In.f a lo hi = some false := by
  unfold spec_l01In.f
  by_cases h0 : lo ≤ a
  · rw [if_pos h0]; simp; omega
  · rw [if_neg h0]
theorem l01In_eq (a lo hi : Int) : spec_l01In.f a lo hi = some (decide (lo ≤ a ∧ a ≤ hi)) := by
  by_cases h : lo ≤ a ∧ a ≤ hi
  · rw [l01In_t h.1 h.2]; simp [h]
  · rw [l01In_f h]; simp; omega
/-! within -/
theorem within_t {a lo hi : Int} (h0 : lo ≤ a) (h1 : a ≤ hi) : impl_within.f a lo hi = some true := by unfold impl_within.f; rw [if_pos h0]; simp [h1]
theorem within_f {a lo hi : Int} (h : ¬ (lo ≤ a ∧ a ≤ hi)) : impl_within.f a lo hi = some false := by
  unfold impl_within.f
  by_cases h0 : lo ≤ a
  · rw [if_pos h0]; simp; omega
  · rw [if_neg h0]
theorem within_eq (a lo hi : Int) : impl_within.f a lo hi = some (decide (lo ≤ a ∧ a ≤ hi)) := by
  by_cases h : lo ≤ a ∧ a ≤ hi
  · rw [within_t h.1 h.2]; simp [h]
  · rw [within_f h]; simp; omega

theorem both_l0 (a p n : Int) (hn : n ≤ 50) : ∀ (d i : Nat) (v : Int), (i : Int) + d = n → ∃ r, Ev (fun k => spec_ValueAfter.l0 k v p n (i : Int)) r ∧ Ev (fun k => impl_ValueAfter.l0 k v p n (i : Int)) r := by
  intro d
  induction d with
  | zero =>
    intro i v hi
    refine ⟨v, Ev.step (fun k => by rw [spec_ValueAfter.l0]) ?_, Ev.step (fun k => by rw [impl_ValueAfter.l0]) ?_⟩
    · exact evF (by omega) (evSome _)
    · exact evF (by omega) (evSome _)
  | succ d ih =>
    intro i v hi
    obtain ⟨r, h1, h2⟩ := ih (i + 1) (wrap64 (v - (wrap64 (Int.tdiv (wrap64 (v * p)) 100)))) (by omega)
    have hi1 := w64s i (by omega)
    refine ⟨r, Ev.step (fun k => by rw [spec_ValueAfter.l0]) ?_, Ev.step (fun k => by rw [impl_ValueAfter.l0]) ?_⟩
    · refine evT (by omega) ?_
      rw [hi1]
      exact h1
    · refine evT (by omega) ?_
      rw [hi1]
      exact h2
theorem both (a p n : Int) : ∃ r, Ev (fun k => spec_ValueAfter.f k a p n) r ∧ Ev (fun k => impl_ValueAfter.f k a p n) r := by
  unfold spec_ValueAfter.f impl_ValueAfter.f
  have bad : ∀ k : Nat, Ev (fun k => spec_ValueAfter.j0 k a p n true) (-1) ∧ Ev (fun k => impl_ValueAfter.j0 k a p n true) (-1) := fun _ =>
    ⟨(by refine Ev.step (fun k => by rw [spec_ValueAfter.j0]) ?_; exact evT rfl (evSome _)), (by refine Ev.step (fun k => by rw [impl_ValueAfter.j0]) ?_; exact evT rfl (evSome _))⟩
  by_cases c0 : 0 ≤ a ∧ a ≤ 1000000
  · by_cases c1 : 0 ≤ p ∧ p ≤ 100
    · by_cases c2 : 0 ≤ n ∧ n ≤ 50
      · obtain ⟨r, h1, h2⟩ := both_l0 a p n c2.2 n.toNat 0 a (by omega)
        refine ⟨r, ?_, ?_⟩
        · refine evB (l01In_t c0.1 c0.2) (evT rfl (evB (l01In_t c1.1 c1.2) (evT rfl (evB (l01In_t c2.1 c2.2) ?_))))
          exact (by refine Ev.step (fun k => by rw [spec_ValueAfter.j0]) ?_; exact evF (by decide) h1)
        · refine evB (within_t c0.1 c0.2) (evT rfl (evB (within_t c1.1 c1.2) (evT rfl (evB (within_t c2.1 c2.2) ?_))))
          exact (by refine Ev.step (fun k => by rw [impl_ValueAfter.j0]) ?_; exact evF (by decide) h2)
      · exact ⟨-1, evB (l01In_t c0.1 c0.2) (evT rfl (evB (l01In_t c1.1 c1.2) (evT rfl (evB (l01In_f c2) (bad 0).1)))), evB (within_t c0.1 c0.2) (evT rfl (evB (within_t c1.1 c1.2) (evT rfl (evB (within_f c2) (bad 0).2))))⟩
    · exact ⟨-1, evB (l01In_t c0.1 c0.2) (evT rfl (evB (l01In_f c1) (evF (by decide) (bad 0).1))), evB (within_t c0.1 c0.2) (evT rfl (evB (within_f c1) (evF (by decide) (bad 0).2)))⟩
  · exact ⟨-1, evB (l01In_f c0) (evF (by decide) (bad 0).1), evB (within_f c0) (evF (by decide) (bad 0).2)⟩
theorem FnExactValueAfter : ∀ (a0 : Int) (a1 : Int) (a2 : Int), Opens.I64 a0 → Opens.I64 a1 → Opens.I64 a2 → ∃ k, laws_FnExactValueAfter.f k a0 a1 a2 = some true := by
  intro a0 a1 a2 _ _ _
  refine Ev.rounds (g := fun k => laws_FnExactValueAfter.f k a0 a1 a2) ?_
  unfold laws_FnExactValueAfter.f
  obtain ⟨r, h1, h2⟩ := both a0 a1 a2
  exact Ev.bind h1 (Ev.bind h2 (evT rfl (evSome _)))

end Go.Proofs.Ytcjliekgkilkoaa.Pure
