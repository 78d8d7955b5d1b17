/- FnLedger (P4): for every code: the drawn ledger is allowed, its totals balance, its sheets come in order and answer to AreaOfSheet, the next number is unused, every prefix is allowed, the last entry of a sheet is not before any of its entries, and buying, splitting, joining and selling do what they say. No condition. -/
import Derived.Test.YtpmpcaahbhdiiaaQFnLedgerx7
import Derived.Test.YtpmpcaahbhdiiaaVOpens
namespace Go.Proofs.Ytpmpcaahbhdiiaa.Pure
open Go.RowKit Go.Proofs.Ytpmpcaahbhdiiaa Go.Proofs.Ytpmpcaahbhdiiaa.QFnLedger Go.Proofs.YtpmpcaahbhdiiaaW.PrintWords Go.Proofs.YtpmpcaahbhdiiaaW.PrintLast
set_option linter.unusedVariables false
set_option linter.unusedSimpArgs false

/-! base -/
theorem w64 {x : Int} (h0 : -9223372036854775808 ≤ x) (h1 : x ≤ 9223372036854775807) : wrap64 x = x := by unfold wrap64; omega
theorem w64n (n : Nat) (h : n ≤ 9223372036854775807) : wrap64 (n : Int) = n := w64 (by omega) (by omega)
theorem w64s (n : Nat) (h : n < 9223372036854775807) : wrap64 ((n : Int) + 1) = ((n + 1 : Nat) : Int) := by rw [w64 (by omega) (by omega)]; omega
theorem evSome {α : Type} (r : α) : Ev (fun _ : Nat => some r) r := ⟨0, fun _ _ => rfl⟩
theorem evOf {α : Type} {f : Option α} {r : α} (h : f = some r) : Ev (fun _ : Nat => f) r := ⟨0, fun _ _ => h⟩
theorem evUniq {α : Type} {g : Nat → Option α} {r q : α} (h : Ev g r) (k : Ev g q) : r = q := by
  obtain ⟨a, ha⟩ := h
  obtain ⟨b, hb⟩ := k
  have h1 := ha (a + b) (by omega)
  rw [hb (a + b) (by omega)] at h1
  exact (Option.some.inj h1).symm
theorem evIf {α : Type} {c : Prop} [Decidable c] {f g : Nat → Option α} {r : α} (hp : c → Ev f r) (hn : ¬ c → Ev g r) : Ev (fun k => if c then f k else g k) r := by
  by_cases h : c
  · simp only [if_pos h]; exact hp h
  · simp only [if_neg h]; exact hn h
theorem evT {α : Type} {c : Prop} [Decidable c] {f g : Nat → Option α} {r : α} (h : c) (hp : Ev f r) : Ev (fun k => if c then f k else g k) r := by
  simp only [if_pos h]; exact hp
theorem evF {α : Type} {c : Prop} [Decidable c] {f g : Nat → Option α} {r : α} (h : ¬ c) (hp : Ev g r) : Ev (fun k => if c then f k else g k) r := by
  simp only [if_neg h]; exact hp
theorem evB {α β : Type} {f : Option α} {g : Nat → α → Option β} {a : α} {r : β} (h : f = some a) (k : Ev (fun n => g n a) r) : Ev (fun n => f.bind (g n)) r := by
  subst h
  exact k
theorem getD_eq {α : Type} (l : List α) (i : Nat) (z : α) (h : i < l.length) : l.getD i z = l[i] := by
  rw [List.getD_eq_getElem?_getD, List.getElem?_eq_getElem h]; rfl
theorem take_succ' {α : Type} (l : List α) (i : Nat) (h : i < l.length) : l.take (i + 1) = l.take i ++ [l[i]] := by
  rw [List.take_succ_eq_append_getElem h]
theorem set_fill {α : Type} (l : List α) (z x : α) (i d : Nat) (hi : l.length = i) : (l ++ List.replicate (d + 1) z).set i x = l ++ [x] ++ List.replicate d z := by
  subst hi
  rw [List.set_append_right _ _ (Nat.le_refl _), Nat.sub_self, List.replicate_succ, List.set_cons_zero, List.append_assoc]
  rfl
theorem drop_cons {α : Type} (l : List α) (i : Nat) (h : i < l.length) : l.drop i = l[i] :: l.drop (i + 1) := List.drop_eq_getElem_cons h
/-! l01In -/
theorem l01In_t {a lo hi : Int} (h0 : lo ≤ a) (h1 : a ≤ hi) : spec_l01In.f a lo hi = some true := by unfold spec_l01In.f; rw [if_pos h0]; simp [h1]
theorem l01In_f {a lo hi : Int} (h : ¬ (lo ≤ a ∧ a ≤ hi)) : spec_l01In.f a lo hi = some false := by
  unfold spec_l01In.f
  by_cases h0 : lo ≤ a
  · rw [if_pos h0]; simp; omega
  · rw [if_neg h0]
theorem l01In_eq (a lo hi : Int) : spec_l01In.f a lo hi = some (decide (lo ≤ a ∧ a ≤ hi)) := by
  by_cases h : lo ≤ a ∧ a ≤ hi
  · rw [l01In_t h.1 h.2]; simp [h]
  · rw [l01In_f h]; simp; omega
/-! relBase -/
theorem rd_set' (l : List Int) {m : Int} (x : Int) (h0 : 0 ≤ m) (h1 : m < l.length) (j : Int) (hj : 0 ≤ j) : rd (l.set m.toNat x) j = if j = m then x else rd l j := by
  unfold rd
  rw [List.getD_eq_getElem?_getD, List.getD_eq_getElem?_getD, List.getElem?_set]
  by_cases e : j = m
  · subst e
    rw [if_pos rfl, if_pos (by omega), if_pos rfl]
    rfl
  · rw [if_neg (by omega), if_neg e]
theorem countP_set_le (p : Int → Bool) : ∀ (l : List Int) (i : Nat) (x : Int), (l.set i x).countP p ≤ l.countP p + 1
  | [], _, _ => by simp
  | y :: t, 0, x => by
    simp only [List.set_cons_zero, List.countP_cons]
    split <;> split <;> omega
  | y :: t, i + 1, x => by
    have := countP_set_le p t i x
    simp only [List.set_cons_succ, List.countP_cons]
    split <;> omega
theorem countP_set_same (p : Int → Bool) : ∀ (l : List Int) (i : Nat) (x : Int), p (l.getD i 0) = true → (l.set i x).countP p ≤ l.countP p
  | [], _, _, _ => by simp
  | y :: t, 0, x, h => by
    have h : p y = true := by simpa using h
    simp only [List.set_cons_zero, List.countP_cons, h]
    split <;> simp
  | y :: t, i + 1, x, h => by
    have := countP_set_same p t i x (by simpa using h)
    simp only [List.set_cons_succ, List.countP_cons]
    omega
structure Rel (B : Int) (c : Nat) (st : List Int) (A : Int → Option Int) (U : Int → Bool) : Prop where
  len : st.length = 100
  z : rd st 0 = 0
  a : ∀ j, A j = if 1 ≤ j ∧ j ≤ 99 ∧ 0 < rd st j then some (rd st j) else none
  u : ∀ j, U j = decide (1 ≤ j ∧ j ≤ 99 ∧ rd st j ≠ 0)
  lo : ∀ j, 1 ≤ j → j ≤ 99 → -1 ≤ rd st j
  hi : ∀ j, 1 ≤ j → j ≤ 99 → rd st j ≤ B
  cnt : st.countP (fun x => x != 0) ≤ c
theorem Rel.mono {B B' : Int} {c c' : Nat} {st A U} (h : Rel B c st A U) (hB : B ≤ B') (hc : c ≤ c') : Rel B' c' st A U :=
  ⟨h.len, h.z, h.a, h.u, h.lo, fun j h0 h1 => Int.le_trans (h.hi j h0 h1) hB, Nat.le_trans h.cnt hc⟩
theorem Rel.start : Rel 1000 0 (List.replicate 100 0) (fun _ => none) (fun _ => false) := by
  have hz : ∀ j, rd (List.replicate 100 0) j = 0 := fun j => by
    unfold rd
    rw [List.getD_eq_getElem?_getD, List.getElem?_replicate]
    split <;> rfl
  exact ⟨by simp, hz 0, fun j => by rw [hz]; simp, fun j => by rw [hz]; simp, fun j _ _ => by rw [hz]; omega, fun j _ _ => by rw [hz]; omega, by decide⟩
theorem Rel.new {B B' : Int} {c : Nat} {st A U} (h : Rel B c st A U) {m x : Int} (h0 : 1 ≤ m) (h1 : m ≤ 99) (hx : 0 < x) (hB : x ≤ B') (hBB : B ≤ B') :
    Rel B' (c + 1) (st.set m.toNat x) (Ledger.upd A m (some x)) (Ledger.upd U m true) := by
  have hl := h.len
  have hs := fun j (hj : 0 ≤ j) => rd_set' st x (by omega : 0 ≤ m) (by omega) j hj
  refine ⟨by rw [List.length_set]; exact hl, by rw [hs 0 (by omega), if_neg (by omega)]; exact h.z, fun j => ?_, fun j => ?_, fun j g0 g1 => ?_, fun j g0 g1 => ?_, Nat.le_trans (countP_set_le _ _ _ _) (by have := h.cnt; omega)⟩
  · by_cases e : j = m
    · subst e
      rw [Ledger.upd_same, hs j (by omega), if_pos rfl, if_pos ⟨h0, h1, hx⟩]
    · rw [Ledger.upd_other _ _ e, h.a j]
      by_cases g : 1 ≤ j
      · rw [hs j (by omega), if_neg e]
      · rw [if_neg (by omega), if_neg (by omega)]
  · by_cases e : j = m
    · subst e
      rw [Ledger.upd_same, hs j (by omega), if_pos rfl]
      simp
      omega
    · rw [Ledger.upd_other _ _ e, h.u j]
      by_cases g : 1 ≤ j
      · rw [hs j (by omega), if_neg e]
      · simp [g]
  · rw [hs j (by omega)]
    split
    · omega
    · exact h.lo j g0 g1
  · rw [hs j (by omega)]
    split
    · exact hB
    · exact Int.le_trans (h.hi j g0 g1) hBB
theorem Rel.turn {B B' : Int} {c : Nat} {st A U} (h : Rel B c st A U) {m x : Int} {v : Option Int} (h0 : 1 ≤ m) (h1 : m ≤ 99) (hm : rd st m ≠ 0) (hx : -1 ≤ x) (hx0 : x ≠ 0) (hB : x ≤ B') (hBB : B ≤ B') (hv : v = if 0 < x then some x else none) :
    Rel B' c (st.set m.toNat x) (Ledger.upd A m v) U := by
  have hl := h.len
  have hs := fun j (hj : 0 ≤ j) => rd_set' st x (by omega : 0 ≤ m) (by omega) j hj
  refine ⟨by rw [List.length_set]; exact hl, by rw [hs 0 (by omega), if_neg (by omega)]; exact h.z, fun j => ?_, fun j => ?_, fun j g0 g1 => ?_, fun j g0 g1 => ?_, Nat.le_trans (countP_set_same _ _ _ _ (show (rd st m != 0) = true from bne_iff_ne.mpr hm)) h.cnt⟩
  · by_cases e : j = m
    · subst e
      rw [Ledger.upd_same, hs j (by omega), if_pos rfl, hv]
      by_cases g : 0 < x
      · rw [if_pos g, if_pos ⟨h0, h1, g⟩]
      · rw [if_neg g, if_neg (by omega)]
    · rw [Ledger.upd_other _ _ e, h.a j]
      by_cases g : 1 ≤ j
      · rw [hs j (by omega), if_neg e]
      · rw [if_neg (by omega), if_neg (by omega)]
  · rw [h.u j]
    by_cases e : j = m
    · subst e
      rw [hs j (by omega), if_pos rfl]
      simp [hm, hx0]
    · by_cases g : 1 ≤ j
      · rw [hs j (by omega), if_neg e]
      · simp [g]
  · rw [hs j (by omega)]
    split
    · exact hx
    · exact h.lo j g0 g1
  · rw [hs j (by omega)]
    split
    · exact hB
    · exact Int.le_trans (h.hi j g0 g1) hBB
theorem first_zero (st : List Int) : ∀ (d : Nat) (i : Int), (∃ j, i ≤ j ∧ j < i + d ∧ rd st j = 0) → ∃ f, i ≤ f ∧ f < i + d ∧ rd st f = 0 ∧ ∀ m, i ≤ m → m < f → rd st m ≠ 0 := by
  intro d
  induction d with
  | zero => rintro i ⟨j, h0, h1, _⟩; omega
  | succ d ih =>
    rintro i ⟨j, h0, h1, h2⟩
    by_cases e : rd st i = 0
    · exact ⟨i, by omega, by omega, e, fun m g0 g1 => by omega⟩
    · have hj : j ≠ i := fun e' => e (by rw [← e']; exact h2)
      obtain ⟨f, f0, f1, f2, f3⟩ := ih (i + 1) ⟨j, by omega, by omega, h2⟩
      refine ⟨f, by omega, by omega, f2, fun m g0 g1 => ?_⟩
      by_cases e' : m = i
      · rw [e']; exact e
      · exact f3 m (by omega) g1
theorem Rel.free {B : Int} {c : Nat} {st A U} (h : Rel B c st A U) (hc : c ≤ 98) : ∃ f, 1 ≤ f ∧ f ≤ 99 ∧ rd st f = 0 ∧ ∀ m, 1 ≤ m → m < f → rd st m ≠ 0 := by
  by_cases hh : ∃ j : Int, 1 ≤ j ∧ j < 1 + (99 : Nat) ∧ rd st j = 0
  · obtain ⟨f, f0, f1, f2, f3⟩ := first_zero st 99 1 hh
    exact ⟨f, f0, by omega, f2, f3⟩
  · exfalso
    have hl := h.len
    have hcn := h.cnt
    cases st with
    | nil => simp at hl
    | cons x t =>
      have ht : t.length = 99 := by simpa using hl
      have hall : t.countP (fun x => x != 0) = t.length := by
        rw [List.countP_eq_length]
        intro y hy
        obtain ⟨i, hi, rfl⟩ := List.getElem_of_mem hy
        simp only [bne_iff_ne]
        intro e
        refine hh ⟨(i : Int) + 1, by omega, by omega, ?_⟩
        unfold rd
        rw [show ((i : Int) + 1).toNat = i + 1 by omega, List.getD_cons_succ, List.getD_eq_getElem?_getD, List.getElem?_eq_getElem hi]
        exact e
      have : t.countP (fun x => x != 0) ≤ (x :: t).countP (fun x => x != 0) := by
        rw [List.countP_cons]; omega
      omega
theorem nxtf_eq (U : Int → Bool) : ∀ (fuel : Nat) (i f : Int), i ≤ f → f < i + fuel → U f = false → (∀ m, i ≤ m → m < f → U m = true) → Ledger.nxtf U fuel i = some f
  | 0, i, f, h0, h1, _, _ => by omega
  | fuel + 1, i, f, h0, h1, h2, h3 => by
    rw [Ledger.nxtf]
    by_cases e : i = f
    · subst e
      rw [h2]
      rfl
    · rw [h3 i (by omega) (by omega), if_pos rfl]
      exact nxtf_eq U fuel (i + 1) f (by omega) (by omega) h2 (fun m g0 g1 => h3 m (by omega) g1)
theorem Rel.next {B : Int} {c : Nat} {st A U} (h : Rel B c st A U) {f : Int} (h0 : 1 ≤ f) (h1 : f ≤ 99) (h2 : rd st f = 0) (h3 : ∀ m, 1 ≤ m → m < f → rd st m ≠ 0) : Ledger.nxtf U 200 1 = some f :=
  nxtf_eq U 200 1 f h0 (by omega) (by rw [h.u]; simp [h2]) (fun m g0 g1 => by rw [h.u]; simp [h3 m g0 g1]; omega)
/-! l26Free -/
theorem l26Free_l0 (st : List Int) (hl : st.length = 100) (f : Int) (h1 : f ≤ 99) (h2 : rd st f = 0) (h3 : ∀ m, 1 ≤ m → m < f → rd st m ≠ 0) :
    ∀ (d : Nat) (i : Int), 1 ≤ i → i + d = f → Ev (fun k => spec_l26Free.l0 k st i) f := by
  intro d
  induction d with
  | zero =>
    intro i hi hd
    obtain rfl : i = f := by omega
    refine Ev.step (fun k => by rw [spec_l26Free.l0]) ?_
    exact evT (by omega) (evT (by omega) (evT h2 (evSome _)))
  | succ d ih =>
    intro i hi hd
    refine Ev.step (fun k => by rw [spec_l26Free.l0]) ?_
    refine evT (by omega) (evT (by omega) (evF (h3 i hi (by omega)) ?_))
    rw [w64 (by omega) (by omega)]
    exact ih (i + 1) (by omega) (by omega)
theorem l26Free_ev (st : List Int) (hl : st.length = 100) {f : Int} (h0 : 1 ≤ f) (h1 : f ≤ 99) (h2 : rd st f = 0) (h3 : ∀ m, 1 ≤ m → m < f → rd st m ≠ 0) : Ev (fun k => spec_l26Free.f k st) f := by
  unfold spec_l26Free.f
  exact l26Free_l0 st hl f h1 h2 h3 (f - 1).toNat 1 (by omega) (by omega)
/-! l26Step -/
theorem j0_true (st e : List Int) : Ev (fun k => spec_l26Step.j0 k st e true) (false, st) := by
  refine Ev.step (fun k => by rw [spec_l26Step.j0]) ?_
  exact evT rfl (evSome _)
theorem step_ev {B : Int} {c : Nat} {st : List Int} {s : Ledger.Bk} (R : Rel B c st s.A s.U) (hc : c ≤ 40) (hB : 1000 ≤ B) (hB2 : B ≤ 4000000000000000000) (e : List Int) :
    ∃ o st', Ledger.addf s e = some o ∧ Ev (fun k => spec_l26Step.f k st e) (o.isSome, st') ∧ ∀ s', o = some s' → e.length = 3 ∧ Rel (2 * B) (c + 1) st' s'.A s'.U := by
  have hl := R.len
  unfold spec_l26Step.f Ledger.addf
  by_cases c1 : e.length = 3
  · rw [if_pos c1]
    have e0 : (0 : Int) < (e.length : Int) := by omega
    have e1 : (1 : Int) < (e.length : Int) := by omega
    have e2 : (2 : Int) < (e.length : Int) := by omega
    have e3 : (e.length : Int) = 3 := by omega
    have hj : ∀ b, Ev (fun k => spec_l26Step.j0 k st e b) (if b = true then (false, st) else (false, st)) → True := fun _ _ => trivial
    by_cases k5 : 1 ≤ rd e 0 ∧ rd e 0 ≤ 5
    · by_cases m9 : 1 ≤ rd e 1 ∧ rd e 1 ≤ 99
      · rw [if_pos m9]
        have hA := R.a (rd e 1)
        have hU := R.u (rd e 1)
        have hlo := R.lo (rd e 1) m9.1 m9.2
        have hhi := R.hi (rd e 1) m9.1 m9.2
        by_cases ar : rd e 0 ≠ 5 ∧ ¬ (1 ≤ rd e 2 ∧ rd e 2 ≤ 1000)
        · rw [if_pos ar]
          exact ⟨none, st, rfl, evT e3 (evT e0 (evB (l01In_t k5.1 k5.2) (evT rfl (evT e1 (evB (l01In_t m9.1 m9.2) (evT rfl (evT e2 (evB (l01In_f ar.2) (evF (by simp) (evF ar.1 (j0_true st e))))))))))), fun s' h => by cases h⟩
        · rw [if_neg ar]
          by_cases a1 : rd e 2 < 1
          · rw [if_pos a1]
            have k55 : rd e 0 = 5 := Classical.byContradiction fun h => ar ⟨h, by omega⟩
            refine ⟨none, st, rfl, evT e3 (evT e0 (evB (l01In_t k5.1 k5.2) (evT rfl (evT e1 (evB (l01In_t m9.1 m9.2) (evT rfl (evT e2 (evB (l01In_f (by omega)) (evF (by simp) (evT k55 ?_)))))))))), fun s' h => by cases h⟩
            rw [decide_eq_true a1]
            exact j0_true st e
          · rw [if_neg a1]
            have ca : rd e 0 ≠ 5 → rd e 2 ≤ 1000 := fun h => Classical.byContradiction fun h' => ar ⟨h, by omega⟩
            -- both go on to j0 with false
            suffices hs : ∃ o st', (if (s.A (rd e 1)).isSome = (rd e 0 == 1) then some none
      else if rd e 0 = 1 then
        (if s.U (rd e 1) = true then some none else some (some { s with A := Ledger.upd s.A (rd e 1) (some (rd e 2)), U := Ledger.upd s.U (rd e 1) true, b1 := wrap64 (s.b1 + rd e 2) }))
      else if rd e 0 = 2 then
        (if rd e 2 ≥ (s.A (rd e 1)).getD 0 then some none else some (some { s with A := Ledger.upd s.A (rd e 1) (some (wrap64 ((s.A (rd e 1)).getD 0 - rd e 2))), b2 := wrap64 (s.b2 + rd e 2) }))
      else if rd e 0 = 3 then
        (if rd e 2 ≥ (s.A (rd e 1)).getD 0 then some none else (Ledger.nxtf s.U 200 1).bind fun n => if s.A n = none then some (some { s with A := Ledger.upd (Ledger.upd s.A (rd e 1) (some (wrap64 ((s.A (rd e 1)).getD 0 - rd e 2)))) n (some (rd e 2)), U := Ledger.upd s.U n true }) else none)
      else if rd e 0 = 4 then
        (if (s.A (rd e 2)).isSome = false then some none else if rd e 2 = rd e 1 then some none else some (some { s with A := Ledger.upd (Ledger.upd s.A (rd e 2) (some (wrap64 ((s.A (rd e 2)).getD 0 + (s.A (rd e 1)).getD 0)))) (rd e 1) none }))
      else if rd e 0 = 5 then
        (if rd e 2 ≠ (s.A (rd e 1)).getD 0 then some none else some (some { s with A := Ledger.upd s.A (rd e 1) none, b3 := wrap64 (s.b3 + rd e 2) }))
      else some none : Option (Option Ledger.Bk)) = some o ∧ Ev (fun k => spec_l26Step.j0 k st e false) (o.isSome, st') ∧ ∀ s', o = some s' → Rel (2 * B) (c + 1) st' s'.A s'.U by
              obtain ⟨o, st', h1, h2, h3⟩ := hs
              refine ⟨o, st', h1, evT e3 (evT e0 (evB (l01In_t k5.1 k5.2) (evT rfl (evT e1 (evB (l01In_t m9.1 m9.2) (evT rfl (evT e2 ?_))))))), fun s' h => ⟨c1, h3 s' h⟩⟩
              by_cases a2 : rd e 2 ≤ 1000
              · refine evB (l01In_t (by omega) a2) (evT rfl ?_)
                rw [decide_eq_false a1]
                exact h2
              · have k55 : rd e 0 = 5 := Classical.byContradiction fun h => a2 (ca h)
                refine evB (l01In_f (by omega)) (evF (by simp) (evT k55 ?_))
                rw [decide_eq_false a1]
                exact h2
            by_cases k1 : rd e 0 = 1
            · rw [if_pos k1]
              by_cases v0 : rd st (rd e 1) = 0
              · have n1 : s.A (rd e 1) = none := by rw [hA, if_neg (by omega)]
                have n2 : s.U (rd e 1) = false := by rw [hU]; simp [v0]
                rw [n1, n2, k1, if_neg (by simp), if_neg (by simp)]
                refine ⟨_, st.set (rd e 1).toNat (rd e 2), rfl, Ev.step (fun k => by rw [spec_l26Step.j0]) ?_, fun s' h => ?_⟩
                · exact evF (by simp) (evT e1 (evT e0 (evT k1 (evT (by omega) (evT (by omega) (evT v0 (evT e2 (evSome _))))))))
                · cases h
                  exact R.new m9.1 m9.2 (by omega) (by have := ca (by omega); omega) (by omega)
              · refine ⟨none, st, ?_, Ev.step (fun k => by rw [spec_l26Step.j0]) ?_, fun s' h => by cases h⟩
                · by_cases v1 : 0 < rd st (rd e 1)
                  · have n1 : (s.A (rd e 1)).isSome = true := by rw [hA, if_pos ⟨m9.1, m9.2, v1⟩]; rfl
                    rw [n1, k1, if_pos (by simp)]
                  · have n1 : s.A (rd e 1) = none := by rw [hA, if_neg (by omega)]
                    have n2 : s.U (rd e 1) = true := by rw [hU]; simp [v0, m9.1, m9.2]
                    rw [n1, n2, k1, if_neg (by simp), if_pos rfl]
                · exact evF (by simp) (evT e1 (evT e0 (evT k1 (evT (by omega) (evT (by omega) (evF v0 (evSome _)))))))
            · rw [if_neg k1]
              have kb : (rd e 0 == 1) = false := beq_eq_false_iff_ne.mpr k1
              rw [kb]
              by_cases v1 : rd st (rd e 1) ≤ 0
              · have n1 : s.A (rd e 1) = none := by rw [hA, if_neg (by omega)]
                rw [n1, if_pos (show (none : Option Int).isSome = false from rfl)]
                refine ⟨none, st, rfl, ?_, fun s' h => by cases h⟩
                refine Ev.step (fun k => by rw [spec_l26Step.j0]) ?_
                exact evF (by simp) (evT e1 (evT e0 (evF k1 (evT (by omega) (evT (by omega) (evT v1 (evSome _)))))))
              · have n1 : s.A (rd e 1) = some (rd st (rd e 1)) := by rw [hA, if_pos ⟨m9.1, m9.2, by omega⟩]
                rw [n1, if_neg (by simp)]
                simp only [Option.getD_some]
                suffices hs : ∃ o st', (if rd e 0 = 2 then
        (if rd e 2 ≥ rd st (rd e 1) then some none else some (some { s with A := Ledger.upd s.A (rd e 1) (some (wrap64 (rd st (rd e 1) - rd e 2))), b2 := wrap64 (s.b2 + rd e 2) }))
      else if rd e 0 = 3 then
        (if rd e 2 ≥ rd st (rd e 1) then some none else (Ledger.nxtf s.U 200 1).bind fun n => if s.A n = none then some (some { s with A := Ledger.upd (Ledger.upd s.A (rd e 1) (some (wrap64 (rd st (rd e 1) - rd e 2)))) n (some (rd e 2)), U := Ledger.upd s.U n true }) else none)
      else if rd e 0 = 4 then
        (if (s.A (rd e 2)).isSome = false then some none else if rd e 2 = rd e 1 then some none else some (some { s with A := Ledger.upd (Ledger.upd s.A (rd e 2) (some (wrap64 ((s.A (rd e 2)).getD 0 + rd st (rd e 1))))) (rd e 1) none }))
      else if rd e 0 = 5 then
        (if rd e 2 ≠ rd st (rd e 1) then some none else some (some { s with A := Ledger.upd s.A (rd e 1) none, b3 := wrap64 (s.b3 + rd e 2) }))
      else some none : Option (Option Ledger.Bk)) = some o ∧ Ev (fun k => (if (rd e 0) = 2 then (if 2 < (e.length : Int) then (if (rd e 2) ≥ (rd st (rd e 1)) then (some (false, st)) else (some (true, (st.set ((rd e 1) : Int).toNat (wrap64 ((rd st (rd e 1)) - (rd e 2))))))) else (none)) else (if (rd e 0) = 3 then ((spec_l26Free.f k st).bind fun t143 => (if 2 < (e.length : Int) then (if (rd e 2) ≥ (rd st (rd e 1)) then (some (false, st)) else (if t143 = 0 then (some (false, st)) else (if 0 ≤ t143 then (if t143 < (st.length : Int) then (some (true, ((st.set ((rd e 1) : Int).toNat (wrap64 ((rd st (rd e 1)) - (rd e 2)))).set (t143 : Int).toNat (rd e 2)))) else (none)) else (none)))) else (none))) else (if (rd e 0) = 4 then (if 2 < (e.length : Int) then (if (rd e 2) > 99 then (some (false, st)) else (if (rd e 2) = (rd e 1) then (some (false, st)) else (if 0 ≤ (rd e 2) then (if (rd e 2) < (st.length : Int) then (if (rd st (rd e 2)) ≤ 0 then (some (false, st)) else (some (true, ((st.set ((rd e 2) : Int).toNat (wrap64 ((rd st (rd e 2)) + (rd st (rd e 1))))).set ((rd e 1) : Int).toNat (-1))))) else (none)) else (none)))) else (none)) else (if (rd e 0) = 5 then (if 2 < (e.length : Int) then (if (rd e 2) = (rd st (rd e 1)) then (some (true, (st.set ((rd e 1) : Int).toNat (-1)))) else (some (false, st))) else (none)) else (some (true, st))))))) (o.isSome, st') ∧ ∀ s', o = some s' → Rel (2 * B) (c + 1) st' s'.A s'.U by
                  obtain ⟨o, st', h1, h2, h3⟩ := hs
                  refine ⟨o, st', h1, ?_, h3⟩
                  refine Ev.step (fun k => by rw [spec_l26Step.j0]) ?_
                  exact evF (by simp) (evT e1 (evT e0 (evF k1 (evT (by omega) (evT (by omega) (evF v1 h2))))))
                have vne : rd st (rd e 1) ≠ 0 := by omega
                by_cases k2 : rd e 0 = 2
                · rw [if_pos k2]
                  by_cases g : rd e 2 ≥ rd st (rd e 1)
                  · rw [if_pos g]
                    exact ⟨none, st, rfl, evT k2 (evT e2 (evT g (evSome _))), fun s' h => by cases h⟩
                  · rw [if_neg g]
                    refine ⟨_, _, rfl, evT k2 (evT e2 (evF g (evSome _))), fun s' h => ?_⟩
                    cases h
                    rw [w64 (by omega) (by omega)]
                    exact (R.turn m9.1 m9.2 vne (by omega) (by omega) (by omega) (by omega) (by rw [if_pos (by omega)])).mono (Int.le_refl _) (by omega)
                · rw [if_neg k2]
                  by_cases k3 : rd e 0 = 3
                  · rw [if_pos k3]
                    obtain ⟨f, f0, f1, f2, f3⟩ := R.free (by omega)
                    rw [R.next f0 f1 f2 f3]
                    by_cases g : rd e 2 ≥ rd st (rd e 1)
                    · rw [if_pos g]
                      exact ⟨none, st, rfl, evF k2 (evT k3 (Ev.bind (l26Free_ev st hl f0 f1 f2 f3) (evT e2 (evT g (evSome _))))), fun s' h => by cases h⟩
                    · rw [if_neg g]
                      have na : s.A f = none := by rw [R.a, if_neg (by omega)]
                      rw [Option.bind_some, if_pos na]
                      refine ⟨_, _, rfl, evF k2 (evT k3 (Ev.bind (l26Free_ev st hl f0 f1 f2 f3) (evT e2 (evF g (evF (by omega) (evT (by omega) (evT (by omega) (evSome _)))))))), fun s' h => ?_⟩
                      cases h
                      rw [w64 (by omega) (by omega)]
                      exact (R.turn (B' := B) (v := some (rd st (rd e 1) - rd e 2)) m9.1 m9.2 vne (by omega) (by omega) (by omega) (by omega) (by rw [if_pos (by omega)])).new f0 f1 (by omega) (by have := ca (by omega); omega) (by omega)
                  · rw [if_neg k3]
                    by_cases k4 : rd e 0 = 4
                    · rw [if_pos k4]
                      have hA2 := R.a (rd e 2)
                      by_cases g1 : rd e 2 > 99
                      · have n2 : s.A (rd e 2) = none := by rw [hA2, if_neg (by omega)]
                        rw [n2, if_pos (show (none : Option Int).isSome = false from rfl)]
                        exact ⟨none, st, rfl, evF k2 (evF k3 (evT k4 (evT e2 (evT g1 (evSome _))))), fun s' h => by cases h⟩
                      · by_cases g2 : rd e 2 = rd e 1
                        · have n2 : (s.A (rd e 2)).isSome = true := by rw [g2, n1]; rfl
                          rw [n2, if_neg (by simp), if_pos g2]
                          exact ⟨none, st, rfl, evF k2 (evF k3 (evT k4 (evT e2 (evF g1 (evT g2 (evSome _)))))), fun s' h => by cases h⟩
                        · by_cases g3 : rd st (rd e 2) ≤ 0
                          · have n2 : s.A (rd e 2) = none := by rw [hA2, if_neg (by omega)]
                            rw [n2, if_pos (show (none : Option Int).isSome = false from rfl)]
                            exact ⟨none, st, rfl, evF k2 (evF k3 (evT k4 (evT e2 (evF g1 (evF g2 (evT (by omega) (evT (by omega) (evT g3 (evSome _))))))))), fun s' h => by cases h⟩
                          · have n2 : s.A (rd e 2) = some (rd st (rd e 2)) := by rw [hA2, if_pos ⟨by omega, by omega, by omega⟩]
                            rw [n2, if_neg (by simp), if_neg g2]
                            simp only [Option.getD_some]
                            refine ⟨_, _, rfl, evF k2 (evF k3 (evT k4 (evT e2 (evF g1 (evF g2 (evT (by omega) (evT (by omega) (evF g3 (evSome _))))))))), fun s' h => ?_⟩
                            cases h
                            have hh2 := R.hi (rd e 2) (by omega) (by omega)
                            rw [w64 (by omega) (by omega)]
                            have R1 := R.turn (B' := 2 * B) (m := rd e 2) (x := rd st (rd e 2) + rd st (rd e 1)) (v := some (rd st (rd e 2) + rd st (rd e 1))) (by omega) (by omega) (by omega) (by omega) (by omega) (by omega) (by omega) (by rw [if_pos (by omega)])
                            exact (R1.turn (B' := 2 * B) (m := rd e 1) (x := -1) m9.1 m9.2 (by rw [rd_set' st _ (by omega) (by omega) _ (by omega), if_neg (by omega)]; exact vne) (by omega) (by omega) (by omega) (by omega) (by rw [if_neg (by omega)])).mono (Int.le_refl _) (by omega)
                    · rw [if_neg k4]
                      have k55 : rd e 0 = 5 := by omega
                      rw [if_pos k55]
                      by_cases g : rd e 2 = rd st (rd e 1)
                      · rw [if_neg (by simpa using g)]
                        refine ⟨_, _, rfl, evF k2 (evF k3 (evF k4 (evT k55 (evT e2 (evT g (evSome _)))))), fun s' h => ?_⟩
                        cases h
                        exact (R.turn (B' := 2 * B) (m := rd e 1) (x := -1) m9.1 m9.2 vne (by omega) (by omega) (by omega) (by omega) (by rw [if_neg (by omega)])).mono (Int.le_refl _) (by omega)
                      · rw [if_pos g]
                        exact ⟨none, st, rfl, evF k2 (evF k3 (evF k4 (evT k55 (evT e2 (evF g (evSome _)))))), fun s' h => by cases h⟩
      · rw [if_neg m9]
        exact ⟨none, st, rfl, evT e3 (evT e0 (evB (l01In_t k5.1 k5.2) (evT rfl (evT e1 (evB (l01In_f m9) (evF (by simp) (j0_true st e))))))), fun s' h => by cases h⟩
    · refine ⟨none, st, ?_, evT e3 (evT e0 (evB (l01In_f k5) (evF (by simp) (j0_true st e)))), fun s' h => by cases h⟩
      rw [if_neg (show ¬ rd e 0 = 1 by omega), if_neg (show ¬ rd e 0 = 2 by omega), if_neg (show ¬ rd e 0 = 3 by omega), if_neg (show ¬ rd e 0 = 4 by omega), if_neg (show ¬ rd e 0 = 5 by omega)]
      repeat' split
      all_goals rfl
  · rw [if_neg c1]
    exact ⟨none, st, rfl, evF (by omega) (j0_true st e), fun s' h => by cases h⟩
/-! l26Run -/
def RunOk (l : List (List Int)) (i : Nat) (st' : List Int) (n : Int) (r : Option Ledger.Bk × Int) : Prop :=
  (n = l.length ∧ (∃ s', r = (some s', -1) ∧ Rel 1099511627776000 40 st' s'.A s'.U) ∧ ∀ j : Nat, i ≤ j → j < l.length → (rd_L2 l (j : Int)).length = 3) ∨ (n < l.length ∧ 0 ≤ n ∧ r = (none, n))
theorem run_l0 (l : List (List Int)) (hl : l.length ≤ 9000000) : ∀ (d i : Nat) (st : List Int) (s : Ledger.Bk), i + d = l.length → i ≤ 40 → Rel (1000 * 2 ^ i) i st s.A s.U →
    ∃ st' n r, Ev (fun k => spec_l26Run.l0 k l st l (l.length : Int) (i : Int)) (st', n) ∧ Ev (fun k => Ledger.perfl l k (i : Int) s) r ∧ RunOk l i st' n r := by
  intro d
  induction d with
  | zero =>
    intro i st s hi h40 R
    refine ⟨st, l.length, (some s, -1), ?_, ?_, .inl ⟨rfl, ⟨s, rfl, R.mono ?_ h40⟩, fun j h0 h1 => by omega⟩⟩
    · refine Ev.step (fun k => by rw [spec_l26Run.l0]) ?_
      exact evF (by omega) (evSome _)
    · refine Ev.step (fun k => by rw [Ledger.perfl]) ?_
      exact evF (by omega) (evSome _)
    have : (2 : Int) ^ i ≤ 2 ^ 40 := by
      have := Nat.pow_le_pow_right (n := 2) (by omega) h40
      exact_mod_cast this
    omega
  | succ d ih =>
    intro i st s hi h40 R
    by_cases c40 : i = 40
    · refine ⟨st, i, (none, i), ?_, ?_, .inr ⟨by omega, by omega, rfl⟩⟩
      · refine Ev.step (fun k => by rw [spec_l26Run.l0]) ?_
        exact evT (by omega) (evT (by omega) (evT (by omega) (evT (by omega) (evSome _))))
      · refine Ev.step (fun k => by rw [Ledger.perfl]) ?_
        exact evT (by omega) (evT (by omega) (evSome _))
    · have p1 : (2 : Int) ^ i ≤ 2 ^ 40 := by
        have := Nat.pow_le_pow_right (n := 2) (by omega) h40
        exact_mod_cast this
      have p0 : (1 : Int) ≤ 2 ^ i := by
        have := Nat.one_le_two_pow (n := i)
        exact_mod_cast this
      obtain ⟨o, st1, ha, hs, hr⟩ := step_ev R h40 (by omega) (by omega) (rd_L2 l (i : Int))
      cases o with
      | none =>
        refine ⟨st1, i, (none, i), ?_, ?_, .inr ⟨by omega, by omega, rfl⟩⟩
        · refine Ev.step (fun k => by rw [spec_l26Run.l0]) ?_
          exact evT (by omega) (evT (by omega) (evT (by omega) (evF (by omega) (Ev.bind hs (evF (show ¬ (false = true) by decide) (evSome _))))))
        · refine Ev.step (fun k => by rw [Ledger.perfl]) ?_
          refine evT (by omega) (evF (by omega) (evB ha ?_))
          exact evSome _
      | some s1 =>
        obtain ⟨h3, R1⟩ := hr s1 rfl
        obtain ⟨st', n, r, h4, h5, h6⟩ := ih (i + 1) st1 s1 (by omega) (by omega) (by rw [Int.pow_succ]; rw [show (1000 : Int) * (2 ^ i * 2) = 2 * (1000 * 2 ^ i) by omega]; exact R1)
        refine ⟨st', n, r, ?_, ?_, ?_⟩
        · refine Ev.step (fun k => by rw [spec_l26Run.l0]) ?_
          refine evT (by omega) (evT (by omega) (evT (by omega) (evF (by omega) (Ev.bind hs (evT rfl ?_)))))
          rw [w64s i (by omega)]
          exact h4
        · refine Ev.step (fun k => by rw [Ledger.perfl]) ?_
          refine evT (by omega) (evF (by omega) (evB ha ?_))
          rw [show ((i : Int) + 1) = ((i + 1 : Nat) : Int) by omega]
          exact h5
        · rcases h6 with ⟨h6, h7, h8⟩ | h6
          · refine .inl ⟨h6, h7, fun j h0 h1 => ?_⟩
            by_cases e : j = i
            · rw [e]; exact h3
            · exact h8 j (by omega) h1
          · exact .inr h6
theorem run_ev (l : List (List Int)) (hl : l.length ≤ 9000000) : ∃ st' n r, Ev (fun k => spec_l26Run.f k l) (st', n) ∧ Ev (fun k => Ledger.perfl l k 0 Ledger.bk0) r ∧ RunOk l 0 st' n r := by
  obtain ⟨st', n, r, h1, h2, h3⟩ := run_l0 l hl l.length 0 (List.replicate 100 0) Ledger.bk0 (by omega) (by omega) Rel.start
  refine ⟨st', n, r, ?_, h2, h3⟩
  unfold spec_l26Run.f
  exact evT (by decide) h1
/-! ledgerOk -/
theorem ledgerOk_ev (l : List (List Int)) (hl : l.length ≤ 9000000) : ∃ b, Ev (fun k => spec_LedgerOk.f k l) b ∧ Ev (fun k => impl_LedgerOk.f k l) b ∧ (b = true → ∀ j : Nat, j < l.length → (rd_L2 l (j : Int)).length = 3) := by
  obtain ⟨st', n, r, h1, h2, h3⟩ := run_ev l (by omega)
  unfold spec_LedgerOk.f impl_LedgerOk.f
  rcases h3 with ⟨h3, ⟨s', h4, _⟩, h5⟩ | ⟨h3, h4, h5⟩
  · subst h4
    refine ⟨true, Ev.bind h1 ?_, Ev.bind h2 (evSome _), fun _ j hj => h5 j (by omega) hj⟩
    rw [h3]
    simpa using evSome true
  · subst h5
    refine ⟨false, Ev.bind h1 ?_, Ev.bind h2 ?_, fun h => by cases h⟩
    · rw [show (n == (l.length : Int)) = false from beq_eq_false_iff_ne.mpr (by omega)]
      exact evSome _
    · rw [show decide ((none, n).2 < (0 : Int)) = false from decide_eq_false (by simpa using h4)]
      exact evSome _
/-! area -/
theorem area_ev (l : List (List Int)) (hl : l.length ≤ 1048576) (a : Int) (ha : Opens.I64 a) : ∃ b, Ev (fun k => spec_AreaOfSheet.f k l a) b ∧ Ev (fun k => impl_AreaOfSheet.f k l a) b := by
  obtain ⟨st', n, r, h1, h2, h3⟩ := run_ev l (by omega)
  unfold spec_AreaOfSheet.f impl_AreaOfSheet.f
  have ha' : -9223372036854775808 ≤ a ∧ a ≤ 9223372036854775807 := by unfold Opens.I64 at ha; omega
  rcases h3 with ⟨h3, ⟨s', h4, R⟩, h5⟩ | ⟨h3, h4, h5⟩
  · subst h4
    have hn : ¬ n < (l.length : Int) := by omega
    have hA := R.a a
    have hl := R.len
    refine ⟨(s'.A a).getD 0, Ev.bind h1 (evF hn ?_), Ev.bind h2 (evF (by show ¬ (-1 : Int) ≥ 0; omega) ?_)⟩
    · by_cases g : 1 ≤ a ∧ a ≤ 99
      · refine evB (l01In_t g.1 g.2) (evT rfl (evT (by omega) (evT (by show a < (st'.length : Int); omega) ?_)))
        have e : mx 0 (rd st' a) = (s'.A a).getD 0 := by
          rw [hA]
          by_cases h0 : 0 < rd st' a
          · rw [if_pos ⟨g.1, g.2, h0⟩]
            simp [mx]
            omega
          · rw [if_neg (by omega)]
            simp [mx]
            omega
        rw [show mx 0 (rd (st', n).1 a) = (s'.A a).getD 0 from e]
        exact evSome _
      · refine evB (l01In_f g) (evF (by simp) ?_)
        rw [hA, if_neg (by omega)]
        exact evSome _
    · exact evT ha' (evSome _)
  · subst h5
    exact ⟨0, Ev.bind h1 (evT h3 (evSome _)), Ev.bind h2 (evT (by show n ≥ 0; omega) (evSome _))⟩
/-! nextNumber -/
theorem nextNumber_ev (l : List (List Int)) (hl : l.length ≤ 1048576) : ∃ b, Ev (fun k => spec_NextNumber.f k l) b ∧ Ev (fun k => impl_NextNumber.f k l) b := by
  obtain ⟨st', n, r, h1, h2, h3⟩ := run_ev l (by omega)
  unfold spec_NextNumber.f impl_NextNumber.f
  rcases h3 with ⟨h3, ⟨s', h4, R⟩, h5⟩ | ⟨h3, h4, h5⟩
  · subst h4
    have hn : ¬ n < (l.length : Int) := by omega
    obtain ⟨f, f0, f1, f2, f3⟩ := R.free (by omega)
    refine ⟨f, Ev.bind h1 (evF hn (Ev.bind (l26Free_ev st' R.len f0 f1 f2 f3) (evSome _))), Ev.bind h2 (evF (by show ¬ (-1 : Int) ≥ 0; omega) ?_)⟩
    exact evOf (R.next f0 f1 f2 f3)
  · subst h5
    exact ⟨0, Ev.bind h1 (evT h3 (evSome _)), Ev.bind h2 (evT (by show n ≥ 0; omega) (evSome _))⟩
/-! copyBase -/
theorem copy_rd (l : List (List Int)) (i : Nat) (h : i < l.length) : rd_L2 l (i : Int) = l[i] := by unfold rd_L2; rw [show ((i : Int)).toNat = i from by omega]; exact getD_eq _ _ _ h
/-! copyLists -/
theorem copyLists_l0 (l : List (List Int)) (hl : l.length ≤ 1048576) (hx : ∀ x ∈ l, x.length ≤ 1048576) : ∀ d i : Nat, i + d = l.length → Ev (fun k => impl_copyLists.l0 k (l.take i) l (l.length : Int) (i : Int)) l := by
  intro d
  induction d with
  | zero =>
    intro i hi
    refine Ev.step (fun k => by rw [impl_copyLists.l0]) ?_
    rw [List.take_of_length_le (by omega)]
    exact evF (by omega) (evSome _)
  | succ d ih =>
    intro i hi
    have hil : i < l.length := by omega
    have h2 := hx _ (List.getElem_mem hil)
    refine Ev.step (fun k => by rw [impl_copyLists.l0]) ?_
    refine evT (by omega) (evT (by omega) (evT (by omega) ?_))
    rw [copy_rd l i hil, w64s i (by omega)]
    refine evB rfl (evT (by simp only [List.length_nil]; omega) (evT (by simp only [List.length_take]; omega) ?_))
    rw [List.nil_append, ← take_succ' l i hil]
    exact ih (i + 1) (by omega)
theorem copyLists_ev (l : List (List Int)) (hl : l.length ≤ 1048576) (hx : ∀ x ∈ l, x.length ≤ 1048576) : Ev (fun k => impl_copyLists.f k l) l := by
  unfold impl_copyLists.f
  simpa using copyLists_l0 l hl hx l.length 0 (by omega)
/-! addEntry -/
theorem spec_add_l0 (l : List (List Int)) (e : List Int) (hl : l.length ≤ 1048576) (hx : ∀ x ∈ l, x.length ≤ 1048576) (he : e.length ≤ 1048576) (b : Bool) (hb : Ev (fun k => spec_LedgerOk.f k (l ++ [e])) b) :
    ∀ d i : Nat, i + d = l.length → Ev (fun k => spec_AddEntry.l0 k e (l.take i) l (l.length : Int) (i : Int)) (if b = true then l ++ [e] else [], b) := by
  intro d
  induction d with
  | zero =>
    intro i hi
    refine Ev.step (fun k => by rw [spec_AddEntry.l0]) ?_
    rw [List.take_of_length_le (by omega)]
    refine evF (by omega) (evB rfl (evT (by simp only [List.length_nil]; omega) (evT (by omega) (evB rfl ?_))))
    rw [List.nil_append]
    refine Ev.bind hb ?_
    cases b with
    | true => exact evT rfl (evSome _)
    | false => exact evF (by decide) (evSome _)
  | succ d ih =>
    intro i hi
    have hil : i < l.length := by omega
    have h2 := hx _ (List.getElem_mem hil)
    refine Ev.step (fun k => by rw [spec_AddEntry.l0]) ?_
    refine evT (by omega) (evT (by omega) (evT (by omega) ?_))
    rw [copy_rd l i hil, w64s i (by omega)]
    refine evB rfl (evT (by simp only [List.length_nil]; omega) (evT (by simp only [List.length_take]; omega) ?_))
    rw [List.nil_append, ← take_succ' l i hil]
    exact ih (i + 1) (by omega)
theorem add_ev (l : List (List Int)) (e : List Int) (hl : l.length ≤ 1048576) (hx : ∀ x ∈ l, x.length ≤ 1048576) (he : e.length ≤ 1048576) :
    ∃ b, Ev (fun k => spec_AddEntry.f k l e) (if b = true then l ++ [e] else [], b) ∧ Ev (fun k => impl_AddEntry.f k l e) (if b = true then l ++ [e] else [], b) := by
  obtain ⟨b, h1, h2, _⟩ := ledgerOk_ev (l ++ [e]) (by simp only [List.length_append, List.length_cons, List.length_nil]; omega)
  refine ⟨b, ?_, ?_⟩
  · unfold spec_AddEntry.f
    simpa using spec_add_l0 l e hl hx he b h1 l.length 0 (by omega)
  · unfold impl_AddEntry.f
    refine Ev.bind (copyLists_ev l hl hx) (evB rfl (evT (by simp only [List.length_nil]; omega) (evT (by omega) (evB rfl ?_))))
    rw [List.nil_append]
    refine Ev.bind h2 ?_
    cases b with
    | true => exact evT rfl (evSome _)
    | false => exact evF (by decide) (evSome _)
/-! drawByte -/
theorem and255 (x : Int) : 0 ≤ Go.bits .and .i64 x 255 ∧ Go.bits .and .i64 x 255 ≤ 255 := by
  simp only [Go.bits, BitVec.toNat_and]
  have h : (BitVec.ofInt IntKind.i64.bits 255).toNat = 255 := by decide
  rw [h, IntKind.wrap_i64]
  have := @Nat.and_le_right (BitVec.ofInt IntKind.i64.bits x).toNat 255
  omega
/-- a byte drawn -/
theorem dr_byte {b : List Int} {i h : Int} (hb : b.length ≤ 1048576) (hi : 0 ≤ i ∧ i ≤ b.length) : ∃ v i' h', spec_l01Byte.f b i h = some (v, i', h') ∧ (0 ≤ v ∧ v ≤ 255) ∧ (0 ≤ i' ∧ i' ≤ b.length) := by
  unfold spec_l01Byte.f
  by_cases c : i < (b.length : Int)
  · rw [if_pos c, if_pos hi.1]
    exact ⟨_, _, _, rfl, and255 _, by rw [w64 (by omega) (by omega)]; omega⟩
  · rw [if_neg c]
    exact ⟨_, _, _, rfl, and255 _, hi⟩
/-! drawBelow -/
theorem dr_below {b : List Int} {i h n : Int} (hb : b.length ≤ 1048576) (hi : 0 ≤ i ∧ i ≤ b.length) (hn : 1 ≤ n ∧ n ≤ 256) : ∃ v i' h', spec_l01Below.f b i h n = some (v, i', h') ∧ (0 ≤ v ∧ v < n) ∧ (0 ≤ i' ∧ i' ≤ b.length) := by
  obtain ⟨v, i', h', e, hv, hi'⟩ := dr_byte (h := h) hb hi
  unfold spec_l01Below.f
  rw [if_neg (by omega), if_pos hn.2, e, Option.bind_some, if_neg (by omega)]
  refine ⟨_, _, _, rfl, ?_, hi'⟩
  show 0 ≤ Int.tmod v n ∧ Int.tmod v n < n
  rw [Int.tmod_eq_emod_of_nonneg hv.1]
  exact ⟨Int.emod_nonneg _ (by omega), Int.emod_lt_of_pos _ (by omega)⟩
/-! drawNew -/
theorem dr_new_l0 (l : List Int) (hl : l.length ≤ 1048576) : ∀ (d i : Nat) (x : Int), i + d = l.length → ∃ h, Ev (fun k => spec_l01New.l0 k l x (i : Int)) (l, (0 : Int), h) := by
  intro d
  induction d with
  | zero =>
    intro i x hi
    refine ⟨x, Ev.step (fun k => by rw [spec_l01New.l0]) ?_⟩
    exact evF (by omega) (evSome _)
  | succ d ih =>
    intro i x hi
    by_cases c : (i : Int) < 4000
    · obtain ⟨h, e⟩ := ih (i + 1) (Go.bits .and .i64 (wrap64 ((wrap64 ((wrap64 (x * 179)) + (wrap64 (rd l (i : Int))))) + 7)) 1073741823) (by omega)
      refine ⟨h, Ev.step (fun k => by rw [spec_l01New.l0]) ?_⟩
      refine evT (by omega) (evT c (evT (by omega) ?_))
      rw [w64s i (by omega)]
      exact e
    · refine ⟨x, Ev.step (fun k => by rw [spec_l01New.l0]) ?_⟩
      exact evT (by omega) (evF c (evSome _))
theorem dr_skip (b : List Int) (hb : b.length ≤ 1048576) (n : Nat) (hn : n ≤ 1000) : ∀ (d j : Nat) (i h : Int), j + d = n → (0 ≤ i ∧ i ≤ b.length) → ∃ i' h', Ev (fun k => spec_l31New.l0 k b i h (n : Int) (j : Int)) (b, i', h') ∧ (0 ≤ i' ∧ i' ≤ b.length) := by
  intro d
  induction d with
  | zero =>
    intro j i h hj hi
    refine ⟨i, h, Ev.step (fun k => by rw [spec_l31New.l0]) ?_, hi⟩
    exact evF (by omega) (evSome _)
  | succ d ih =>
    intro j i h hj hi
    obtain ⟨v, i1, h1, e, _, hi1⟩ := dr_byte (h := h) hb hi
    obtain ⟨i2, h2, e2, hi2⟩ := ih (j + 1) i1 h1 (by omega) hi1
    refine ⟨i2, h2, Ev.step (fun k => by rw [spec_l31New.l0]) ?_, hi2⟩
    refine evT (by omega) (evB e ?_)
    rw [w64s j (by omega)]
    exact e2
/-- a new cursor, some bytes on -/
theorem dr_new (l : List Int) (hl : l.length ≤ 1048576) (n : Nat) (hn : n ≤ 1000) : ∃ i h, Ev (fun k => spec_l31New.f k l (n : Int)) (l, i, h) ∧ (0 ≤ i ∧ i ≤ l.length) := by
  obtain ⟨h, e⟩ := dr_new_l0 l hl l.length 0 (wrap64 (2173 + (l.length : Int))) (by omega)
  obtain ⟨i2, h2, e2, hi2⟩ := dr_skip l hl n hn n 0 0 h (by omega) (by omega)
  refine ⟨i2, h2, ?_, hi2⟩
  unfold spec_l31New.f
  exact Ev.bind (by unfold spec_l01New.f; exact e) e2
/-! llBase -/
def lT (A : Int → Option Int) (n : Nat) : Int := impl_TotalsOf.ts A (fun _ => false) n
theorem lT_succ (A : Int → Option Int) (n : Nat) : lT A (n + 1) = lT A n + (A (n : Int)).getD 0 := by
  unfold lT
  rw [impl_TotalsOf.ts, impl_TotalsOf.tv, if_neg (by decide)]
theorem lT_zero (A : Int → Option Int) : lT A 0 = 0 := rfl
theorem lT_def (A : Int → Option Int) (n : Nat) : impl_TotalsOf.ts A (fun _ => false) n = lT A n := rfl
attribute [irreducible] lT
theorem lT_lo (A : Int → Option Int) (m : Int) (v : Option Int) : ∀ n : Nat, (n : Int) ≤ m → lT (Ledger.upd A m v) n = lT A n
  | 0, _ => by rw [lT_zero, lT_zero]
  | n + 1, h => by
    rw [lT_succ, lT_succ, lT_lo A m v n (by omega), Ledger.upd_other A v (by omega)]
theorem lT_upd (A : Int → Option Int) (m : Int) (v : Option Int) : ∀ n : Nat, 0 ≤ m → m < n → lT (Ledger.upd A m v) n = lT A n - (A m).getD 0 + v.getD 0
  | 0, h0, h => by omega
  | n + 1, h0, h => by
    rw [lT_succ, lT_succ]
    by_cases e : m = n
    · subst e
      rw [lT_lo A _ v n (by omega), Ledger.upd_same]
      omega
    · rw [lT_upd A m v n h0 (by omega), Ledger.upd_other A v (by omega)]
      omega
theorem lT_ge (A : Int → Option Int) (hA : ∀ j a, A j = some a → 1 ≤ a) : ∀ n : Nat, 0 ≤ lT A n ∧ ∀ m : Int, 0 ≤ m → m < n → (A m).getD 0 ≤ lT A n
  | 0 => ⟨by rw [lT_zero]; exact Int.le_refl 0, fun m h0 h => by omega⟩
  | n + 1 => by
    obtain ⟨h1, h2⟩ := lT_ge A hA n
    have h3 : 0 ≤ (A (n : Int)).getD 0 := by
      cases h : A (n : Int) with
      | none => simp
      | some a => have := hA _ _ h; simp; omega
    rw [lT_succ]
    refine ⟨by omega, fun m h0 h => ?_⟩
    by_cases e : m = n
    · subst e; omega
    · have := h2 m h0 (by omega); omega
def cu (U : Int → Bool) : Nat → Nat
  | 0 => 0
  | n + 1 => cu U n + (if U ((n : Int) + 1) = true then 1 else 0)
theorem cu_upd (U : Int → Bool) (m : Int) : ∀ n : Nat, cu (Ledger.upd U m true) n ≤ cu U n + (if 1 ≤ m ∧ m ≤ n then 1 else 0)
  | 0 => by simp [cu]
  | n + 1 => by
    have ih := cu_upd U m n
    unfold cu
    by_cases e : (n : Int) + 1 = m
    · subst e
      rw [Ledger.upd_same]
      rw [if_neg (by omega)] at ih
      rw [if_pos (rfl : true = true), if_pos (c := 1 ≤ (n : Int) + 1 ∧ (n : Int) + 1 ≤ ((n + 1 : Nat) : Int)) (by omega)]
      omega
    · rw [Ledger.upd_other U true e]
      by_cases h : 1 ≤ m ∧ m ≤ n
      · rw [if_pos h] at ih
        rw [if_pos (c := 1 ≤ m ∧ m ≤ ((n + 1 : Nat) : Int)) (by omega)]
        omega
      · rw [if_neg h] at ih
        rw [if_neg (c := 1 ≤ m ∧ m ≤ ((n + 1 : Nat) : Int)) (by omega)]
        omega
theorem cu_full (U : Int → Bool) : ∀ n : Nat, (∀ j : Int, 1 ≤ j → j ≤ n → U j = true) → cu U n = n
  | 0, _ => rfl
  | n + 1, h => by
    unfold cu
    rw [cu_full U n (fun j h0 h1 => h j h0 (by omega)), h ((n : Int) + 1) (by omega) (by omega), if_pos rfl]
theorem cu_mono (U : Int → Bool) (n : Nat) : ∀ d : Nat, cu U n ≤ cu U (n + d)
  | 0 => Nat.le_refl _
  | d + 1 => Nat.le_trans (cu_mono U n d) (by rw [Nat.add_succ]; show cu U (n + d) ≤ cu U (n + d) + _; omega)
theorem nxt_ex (U : Int → Bool) : ∀ (fuel : Nat) (i f : Int), i ≤ f → f < i + fuel → U f = false → ∃ n, Ledger.nxtf U fuel i = some n
  | 0, i, f, h0, h1, _ => by omega
  | k + 1, i, f, h0, h1, h2 => by
    unfold Ledger.nxtf
    by_cases c : U i = true
    · rw [if_pos c]
      have : i ≠ f := fun e => by rw [e, h2] at c; cases c
      exact nxt_ex U k (i + 1) f (by omega) (by omega) h2
    · rw [if_neg c]
      exact ⟨i, rfl⟩
structure LInv (N : Nat) (s : Ledger.Bk) : Prop where
  dom : ∀ j a, s.A j = some a → 1 ≤ j ∧ j ≤ 99 ∧ 1 ≤ a ∧ s.U j = true
  ud : ∀ j, s.U j = true → 1 ≤ j ∧ j ≤ 99
  sum : s.b1 = s.b2 + s.b3 + lT s.A 201
  hi : s.b1 ≤ 1000 * (N : Int)
  nn : 0 ≤ s.b2 ∧ 0 ≤ s.b3
  cnt : cu s.U 99 ≤ N
theorem LInv.start : LInv 0 Ledger.bk0 :=
{ dom := fun j a h => nomatch h
  ud := fun j h => nomatch h
  sum := by
    have h : ∀ n, lT (fun _ => none) n = 0 := by
      intro n
      induction n with
      | zero => exact lT_zero _
      | succ n ih => rw [lT_succ, ih]; rfl
    show (0 : Int) = 0 + 0 + lT (fun _ => none) 201
    rw [h]
    rfl
  hi := by show (0 : Int) ≤ 1000 * 0; omega
  nn := ⟨Int.le_refl 0, Int.le_refl 0⟩
  cnt := by
    have h : ∀ n, cu (fun _ => false) n = 0 := by
      intro n
      induction n with
      | zero => rfl
      | succ n ih => unfold cu; rw [ih]; rfl
    show cu (fun _ => false) 99 ≤ 0
    rw [h]
    exact Nat.le_refl 0 }
theorem LInv.low {N : Nat} {s : Ledger.Bk} (h : LInv N s) {j a : Int} (ha : s.A j = some a) : 1 ≤ a ∧ a ≤ lT s.A 201 ∧ lT s.A 201 ≤ 1000 * (N : Int) := by
  obtain ⟨h1, h2, h3, _⟩ := h.dom j a ha
  have h4 := (lT_ge s.A (fun j a ha => (h.dom j a ha).2.2.1) 201).2 j (by omega) (by omega)
  rw [ha] at h4
  have := h.sum
  have := h.hi
  have := h.nn
  exact ⟨h3, h4, by omega⟩
theorem LInv.next {N : Nat} {s : Ledger.Bk} (h : LInv N s) (hN : N ≤ 97) : ∃ n, Ledger.nxtf s.U 200 1 = some n ∧ 1 ≤ n ∧ n ≤ (N : Int) + 1 ∧ s.U n = false ∧ s.A n = none := by
  have h100 : s.U 100 = false := by
    cases hc : s.U 100 with
    | false => rfl
    | true => have := h.ud 100 hc; omega
  obtain ⟨n, hn⟩ := nxt_ex s.U 200 1 100 (by omega) (by omega) h100
  obtain ⟨h1, h2, h3, h4⟩ := Ledger.nxtf_ok s.U 200 1 n hn
  refine ⟨n, hn, h1, ?_, h3, ?_⟩
  · have hle : n ≤ 100 := by
      apply Int.not_lt.1
      intro hc
      have := h4 100 (by omega) hc
      rw [h100] at this
      cases this
    have hf := cu_full s.U (n.toNat - 1) (fun j h0 h1 => h4 j h0 (by omega))
    have hm := cu_mono s.U (n.toNat - 1) (99 - (n.toNat - 1))
    rw [show n.toNat - 1 + (99 - (n.toNat - 1)) = 99 by omega] at hm
    have := h.cnt
    omega
  · cases ha : s.A n with
    | none => rfl
    | some a => have := (h.dom n a ha).2.2.2; rw [h3] at this; cases this
theorem getD_of {α : Type} {o : Option α} {z : α} (h : o.isSome = true) : o = some (o.getD z) := by
  cases o with
  | none => cases h
  | some a => rfl
theorem LInv.ok {N : Nat} {s : Ledger.Bk} (h : LInv N s) (hN : N ≤ 97) (e : List Int) : ∃ o, Ledger.addf s e = some o := by
  obtain ⟨n, hn, _, _, _, hA⟩ := h.next hN
  unfold Ledger.addf
  by_cases c1 : e.length = 3
  case neg => exact ⟨_, if_neg c1⟩
  rw [if_pos c1]
  by_cases c2 : 1 ≤ rd e 1 ∧ rd e 1 ≤ 99
  case neg => exact ⟨_, if_neg c2⟩
  rw [if_pos c2]
  by_cases c3 : rd e 0 ≠ 5 ∧ ¬ (1 ≤ rd e 2 ∧ rd e 2 ≤ 1000)
  case pos => exact ⟨_, if_pos c3⟩
  rw [if_neg c3]
  by_cases c4 : rd e 2 < 1
  case pos => exact ⟨_, if_pos c4⟩
  rw [if_neg c4]
  by_cases c5 : (s.A (rd e 1)).isSome = (rd e 0 == 1)
  case pos => exact ⟨_, if_pos c5⟩
  rw [if_neg c5]
  by_cases e1 : rd e 0 = 1
  · rw [if_pos e1]
    by_cases c8 : s.U (rd e 1) = true
    · exact ⟨_, if_pos c8⟩
    · exact ⟨_, if_neg c8⟩
  rw [if_neg e1]
  by_cases e2 : rd e 0 = 2
  · rw [if_pos e2]
    by_cases c8 : rd e 2 ≥ (s.A (rd e 1)).getD 0
    · exact ⟨_, if_pos c8⟩
    · exact ⟨_, if_neg c8⟩
  rw [if_neg e2]
  by_cases e3 : rd e 0 = 3
  · rw [if_pos e3]
    by_cases c8 : rd e 2 ≥ (s.A (rd e 1)).getD 0
    · exact ⟨_, if_pos c8⟩
    · rw [if_neg c8, hn, Option.bind_some, if_pos hA]
      exact ⟨_, rfl⟩
  rw [if_neg e3]
  by_cases e4 : rd e 0 = 4
  · rw [if_pos e4]
    by_cases c8 : (s.A (rd e 2)).isSome = false
    · exact ⟨_, if_pos c8⟩
    rw [if_neg c8]
    by_cases c9 : rd e 2 = rd e 1
    · exact ⟨_, if_pos c9⟩
    · exact ⟨_, if_neg c9⟩
  rw [if_neg e4]
  by_cases e5 : rd e 0 = 5
  · rw [if_pos e5]
    by_cases c8 : rd e 2 ≠ (s.A (rd e 1)).getD 0
    · exact ⟨_, if_pos c8⟩
    · exact ⟨_, if_neg c8⟩
  exact ⟨_, if_neg e5⟩
theorem LInv.step {N : Nat} {s s' : Ledger.Bk} {e : List Int} (h : LInv N s) (hN : N ≤ 97) (ha : Ledger.addf s e = some (some s')) : LInv (N + 1) s' := by
  obtain ⟨n, hn, n0, n1, nU, nA⟩ := h.next hN
  have hsum := h.sum
  have hhi := h.hi
  have hnn := h.nn
  have hcnt := h.cnt
  have hT := (lT_ge s.A (fun j a ha => (h.dom j a ha).2.2.1) 201).1
  unfold Ledger.addf at ha
  by_cases h3 : e.length = 3
  case neg => rw [if_neg h3] at ha; cases ha
  rw [if_pos h3] at ha
  by_cases hm : 1 ≤ rd e 1 ∧ rd e 1 ≤ 99
  case neg => rw [if_neg hm] at ha; cases ha
  rw [if_pos hm] at ha
  by_cases hx : rd e 0 ≠ 5 ∧ ¬ (1 ≤ rd e 2 ∧ rd e 2 ≤ 1000)
  case pos => rw [if_pos hx] at ha; cases ha
  rw [if_neg hx] at ha
  by_cases hx1 : rd e 2 < 1
  case pos => rw [if_pos hx1] at ha; cases ha
  rw [if_neg hx1] at ha
  by_cases hs : (s.A (rd e 1)).isSome = (rd e 0 == 1)
  case pos => rw [if_pos hs] at ha; cases ha
  rw [if_neg hs] at ha
  by_cases h0 : rd e 0 = 1
  · -- buy
    rw [if_pos h0] at ha
    by_cases hU : s.U (rd e 1) = true
    case pos => rw [if_pos hU] at ha; cases ha
    rw [if_neg hU] at ha
    have hs' := Option.some.inj (Option.some.inj ha)
    subst hs'
    have hA : s.A (rd e 1) = none := by
      cases hc : s.A (rd e 1) with
      | none => rfl
      | some a => exact absurd (h.dom _ _ hc).2.2.2 hU
    have hx2 : 1 ≤ rd e 2 ∧ rd e 2 ≤ 1000 := by
      apply Classical.byContradiction
      intro hc
      exact hx ⟨by omega, hc⟩
    have hb : wrap64 (s.b1 + rd e 2) = s.b1 + rd e 2 := w64 (by omega) (by omega)
    have hc := cu_upd s.U (rd e 1) 99
    exact
    { dom := fun j a hj => by
        by_cases ej : j = rd e 1
        · subst ej
          have hj' : Ledger.upd s.A (rd e 1) (some (rd e 2)) (rd e 1) = some a := hj
          rw [Ledger.upd_same] at hj'
          injection hj' with hj'
          exact ⟨hm.1, hm.2, by omega, Ledger.upd_same _ _ _⟩
        · have hj' : Ledger.upd s.A (rd e 1) (some (rd e 2)) j = some a := hj
          rw [Ledger.upd_other _ _ ej] at hj'
          obtain ⟨d1, d2, d3, d4⟩ := h.dom j a hj'
          exact ⟨d1, d2, d3, (Ledger.upd_other s.U true ej).trans d4⟩
      ud := fun j hj => by
        by_cases ej : j = rd e 1
        · subst ej; exact hm
        · exact h.ud j ((Ledger.upd_other s.U true ej).symm.trans hj)
      sum := by
        show wrap64 (s.b1 + rd e 2) = s.b2 + s.b3 + lT (Ledger.upd s.A (rd e 1) (some (rd e 2))) 201
        rw [hb, lT_upd s.A _ _ 201 (by omega) (by omega), hA]
        simp
        omega
      hi := by show wrap64 (s.b1 + rd e 2) ≤ _; rw [hb]; omega
      nn := hnn
      cnt := by
        show cu (Ledger.upd s.U (rd e 1) true) 99 ≤ N + 1
        split at hc <;> omega }
  rw [if_neg h0] at ha
  have hsA : (s.A (rd e 1)).isSome = true := by
    cases hc : (s.A (rd e 1)).isSome with
    | true => rfl
    | false =>
      exfalso
      apply hs
      rw [hc]
      exact (beq_eq_false_iff_ne.2 h0).symm
  have hA := getD_of (z := (0 : Int)) hsA
  obtain ⟨a, ea⟩ : ∃ a, (s.A (rd e 1)).getD 0 = a := ⟨_, rfl⟩
  rw [ea] at hA ha
  obtain ⟨d1, d2, d3, d4⟩ := h.dom _ _ hA
  obtain ⟨l1, l2, l3⟩ := h.low hA
  by_cases h2 : rd e 0 = 2
  · -- cut
    rw [if_pos h2] at ha
    by_cases hlt : rd e 2 ≥ a
    case pos => rw [if_pos hlt] at ha; cases ha
    rw [if_neg hlt] at ha
    have hs' := Option.some.inj (Option.some.inj ha)
    subst hs'
    have hb : wrap64 (s.b2 + rd e 2) = s.b2 + rd e 2 := w64 (by omega) (by omega)
    have hw : wrap64 (a - rd e 2) = a - rd e 2 := w64 (by omega) (by omega)
    exact
    { dom := fun j x hj => by
        by_cases ej : j = rd e 1
        · subst ej
          have hj' : Ledger.upd s.A (rd e 1) (some (wrap64 (a - rd e 2))) (rd e 1) = some x := hj
          rw [Ledger.upd_same, hw] at hj'
          injection hj' with hj'
          exact ⟨d1, d2, by omega, d4⟩
        · have hj' : Ledger.upd s.A (rd e 1) (some (wrap64 (a - rd e 2))) j = some x := hj
          rw [Ledger.upd_other _ _ ej] at hj'
          exact h.dom j x hj'
      ud := h.ud
      sum := by
        show s.b1 = wrap64 (s.b2 + rd e 2) + s.b3 + lT (Ledger.upd s.A (rd e 1) (some (wrap64 (a - rd e 2)))) 201
        rw [hb, hw, lT_upd s.A _ _ 201 (by omega) (by omega), hA]
        simp
        omega
      hi := by show s.b1 ≤ _; omega
      nn := ⟨by show 0 ≤ wrap64 (s.b2 + rd e 2); rw [hb]; omega, hnn.2⟩
      cnt := by show cu s.U 99 ≤ N + 1; omega }
  rw [if_neg h2] at ha
  by_cases h2 : rd e 0 = 3
  · -- split
    rw [if_pos h2] at ha
    by_cases hlt : rd e 2 ≥ a
    case pos => rw [if_pos hlt] at ha; cases ha
    rw [if_neg hlt] at ha
    rw [hn, Option.bind_some, if_pos nA] at ha
    have hs' := Option.some.inj (Option.some.inj ha)
    subst hs'
    have hw : wrap64 (a - rd e 2) = a - rd e 2 := w64 (by omega) (by omega)
    have hne : n ≠ rd e 1 := fun hc => by rw [hc, hA] at nA; cases nA
    have hc := cu_upd s.U n 99
    exact
    { dom := fun j x hj => by
        by_cases ej : j = n
        · subst ej
          have hj' : Ledger.upd (Ledger.upd s.A (rd e 1) (some (wrap64 (a - rd e 2)))) j (some (rd e 2)) j = some x := hj
          rw [Ledger.upd_same] at hj'
          injection hj' with hj'
          exact ⟨n0, by omega, by omega, Ledger.upd_same _ _ _⟩
        · have hj' : Ledger.upd (Ledger.upd s.A (rd e 1) (some (wrap64 (a - rd e 2)))) n (some (rd e 2)) j = some x := hj
          rw [Ledger.upd_other _ _ ej] at hj'
          by_cases ej2 : j = rd e 1
          · subst ej2
            rw [Ledger.upd_same, hw] at hj'
            injection hj' with hj'
            exact ⟨d1, d2, by omega, (Ledger.upd_other s.U true ej).trans d4⟩
          · rw [Ledger.upd_other _ _ ej2] at hj'
            obtain ⟨q1, q2, q3, q4⟩ := h.dom j x hj'
            exact ⟨q1, q2, q3, (Ledger.upd_other s.U true ej).trans q4⟩
      ud := fun j hj => by
        by_cases ej : j = n
        · subst ej; omega
        · exact h.ud j ((Ledger.upd_other s.U true ej).symm.trans hj)
      sum := by
        show s.b1 = s.b2 + s.b3 + lT (Ledger.upd (Ledger.upd s.A (rd e 1) (some (wrap64 (a - rd e 2)))) n (some (rd e 2))) 201
        rw [lT_upd _ _ _ 201 (by omega) (by omega), lT_upd s.A _ _ 201 (by omega) (by omega), Ledger.upd_other _ _ hne, nA, hA, hw]
        simp
        omega
      hi := by show s.b1 ≤ _; omega
      nn := hnn
      cnt := by
        show cu (Ledger.upd s.U n true) 99 ≤ N + 1
        split at hc <;> omega }
  rw [if_neg h2] at ha
  by_cases h2 : rd e 0 = 4
  · -- join
    rw [if_pos h2] at ha
    by_cases hsB : (s.A (rd e 2)).isSome = false
    case pos => rw [if_pos hsB] at ha; cases ha
    rw [if_neg hsB] at ha
    by_cases hne : rd e 2 = rd e 1
    case pos => rw [if_pos hne] at ha; cases ha
    rw [if_neg hne] at ha
    have hs' := Option.some.inj (Option.some.inj ha)
    subst hs'
    have hB := getD_of (z := (0 : Int)) (show (s.A (rd e 2)).isSome = true by cases hq : (s.A (rd e 2)).isSome with | true => rfl | false => exact absurd hq hsB)
    obtain ⟨b, eb⟩ : ∃ b, (s.A (rd e 2)).getD 0 = b := ⟨_, rfl⟩
    rw [eb] at hB
    obtain ⟨b1, b2, b3, b4⟩ := h.dom _ _ hB
    obtain ⟨m1, m2, m3⟩ := h.low hB
    have hw : wrap64 ((s.A (rd e 2)).getD 0 + a) = b + a := by rw [eb]; exact w64 (by omega) (by omega)
    have hne' : rd e 1 ≠ rd e 2 := fun hc => hne hc.symm
    exact
    { dom := fun j x hj => by
        by_cases ej : j = rd e 1
        · subst ej
          have hj' : Ledger.upd (Ledger.upd s.A (rd e 2) (some (wrap64 ((s.A (rd e 2)).getD 0 + a)))) (rd e 1) none (rd e 1) = some x := hj
          rw [Ledger.upd_same] at hj'
          cases hj'
        · have hj' : Ledger.upd (Ledger.upd s.A (rd e 2) (some (wrap64 ((s.A (rd e 2)).getD 0 + a)))) (rd e 1) none j = some x := hj
          rw [Ledger.upd_other _ _ ej] at hj'
          by_cases ej2 : j = rd e 2
          · subst ej2
            rw [Ledger.upd_same, hw] at hj'
            injection hj' with hj'
            exact ⟨b1, b2, by omega, b4⟩
          · rw [Ledger.upd_other _ _ ej2] at hj'
            exact h.dom j x hj'
      ud := h.ud
      sum := by
        show s.b1 = s.b2 + s.b3 + lT (Ledger.upd (Ledger.upd s.A (rd e 2) (some (wrap64 ((s.A (rd e 2)).getD 0 + a)))) (rd e 1) none) 201
        rw [lT_upd _ _ _ 201 (by omega) (by omega), lT_upd s.A _ _ 201 (by omega) (by omega), Ledger.upd_other _ _ hne', hw, hA, hB]
        simp
        omega
      hi := by show s.b1 ≤ _; omega
      nn := hnn
      cnt := by show cu s.U 99 ≤ N + 1; omega }
  rw [if_neg h2] at ha
  by_cases h2 : rd e 0 = 5
  · -- sell
    rw [if_pos h2] at ha
    by_cases heq : rd e 2 ≠ a
    case pos => rw [if_pos heq] at ha; cases ha
    rw [if_neg heq] at ha
    have hs' := Option.some.inj (Option.some.inj ha)
    subst hs'
    have hb : wrap64 (s.b3 + rd e 2) = s.b3 + rd e 2 := w64 (by omega) (by omega)
    exact
    { dom := fun j x hj => by
        by_cases ej : j = rd e 1
        · subst ej
          have hj' : Ledger.upd s.A (rd e 1) none (rd e 1) = some x := hj
          rw [Ledger.upd_same] at hj'
          cases hj'
        · have hj' : Ledger.upd s.A (rd e 1) none j = some x := hj
          rw [Ledger.upd_other _ _ ej] at hj'
          exact h.dom j x hj'
      ud := h.ud
      sum := by
        show s.b1 = s.b2 + wrap64 (s.b3 + rd e 2) + lT (Ledger.upd s.A (rd e 1) none) 201
        rw [hb, lT_upd s.A _ _ 201 (by omega) (by omega), hA]
        simp
        omega
      hi := by show s.b1 ≤ _; omega
      nn := ⟨hnn.1, by show 0 ≤ wrap64 (s.b3 + rd e 2); rw [hb]; omega⟩
      cnt := by show cu s.U 99 ≤ N + 1; omega }
  rw [if_neg h2] at ha
  cases ha
theorem addf_U {s s' : Ledger.Bk} {e : List Int} (hU : ∀ j, (s.A j).isSome = true → s.U j = true) (ha : Ledger.addf s e = some (some s')) : e.length = 3 ∧ (1 ≤ rd e 1 ∧ rd e 1 ≤ 99) ∧ s'.U (rd e 1) = true ∧ ∀ j, s.U j = true → s'.U j = true := by
  have up : ∀ (U : Int → Bool) (m j : Int), U j = true → Ledger.upd U m true j = true := fun U m j h => by
    by_cases e : j = m
    · subst e; exact Ledger.upd_same _ _ _
    · rw [Ledger.upd_other U true e]; exact h
  unfold Ledger.addf at ha
  by_cases c1 : e.length = 3
  case neg => rw [if_neg c1] at ha; cases ha
  rw [if_pos c1] at ha
  by_cases c2 : 1 ≤ rd e 1 ∧ rd e 1 ≤ 99
  case neg => rw [if_neg c2] at ha; cases ha
  rw [if_pos c2] at ha
  refine ⟨c1, c2, ?_⟩
  by_cases c3 : rd e 0 ≠ 5 ∧ ¬ (1 ≤ rd e 2 ∧ rd e 2 ≤ 1000)
  case pos => rw [if_pos c3] at ha; cases ha
  rw [if_neg c3] at ha
  by_cases c4 : rd e 2 < 1
  case pos => rw [if_pos c4] at ha; cases ha
  rw [if_neg c4] at ha
  by_cases c5 : (s.A (rd e 1)).isSome = (rd e 0 == 1)
  case pos => rw [if_pos c5] at ha; cases ha
  rw [if_neg c5] at ha
  by_cases e1 : rd e 0 = 1
  · rw [if_pos e1] at ha
    by_cases c8 : s.U (rd e 1) = true
    · rw [if_pos c8] at ha; cases ha
    · rw [if_neg c8] at ha; cases ha
      exact ⟨Ledger.upd_same _ _ _, fun j h => up _ _ j h⟩
  rw [if_neg e1] at ha
  have hs : s.U (rd e 1) = true := hU _ (by
    cases hc : (s.A (rd e 1)).isSome with
    | true => rfl
    | false => exact absurd (hc.trans (beq_eq_false_iff_ne.2 e1).symm) c5)
  by_cases e2 : rd e 0 = 2
  · rw [if_pos e2] at ha
    by_cases c8 : rd e 2 ≥ (s.A (rd e 1)).getD 0
    · rw [if_pos c8] at ha; cases ha
    · rw [if_neg c8] at ha; cases ha
      exact ⟨hs, fun j h => h⟩
  rw [if_neg e2] at ha
  by_cases e3 : rd e 0 = 3
  · rw [if_pos e3] at ha
    by_cases c8 : rd e 2 ≥ (s.A (rd e 1)).getD 0
    · rw [if_pos c8] at ha; cases ha
    · rw [if_neg c8, Option.bind_eq_some_iff] at ha
      obtain ⟨n, hn, ha⟩ := ha
      by_cases c9 : s.A n = none
      · rw [if_pos c9] at ha; cases ha
        exact ⟨up _ _ _ hs, fun j h => up _ _ j h⟩
      · rw [if_neg c9] at ha; cases ha
  rw [if_neg e3] at ha
  by_cases e4 : rd e 0 = 4
  · rw [if_pos e4] at ha
    by_cases c8 : (s.A (rd e 2)).isSome = false
    · rw [if_pos c8] at ha; cases ha
    · rw [if_neg c8] at ha
      by_cases c9 : rd e 2 = rd e 1
      · rw [if_pos c9] at ha; cases ha
      · rw [if_neg c9] at ha; cases ha
        exact ⟨hs, fun j h => h⟩
  rw [if_neg e4] at ha
  by_cases e5 : rd e 0 = 5
  · rw [if_pos e5] at ha
    by_cases c8 : rd e 2 ≠ (s.A (rd e 1)).getD 0
    · rw [if_pos c8] at ha; cases ha
    · rw [if_neg c8] at ha; cases ha
      exact ⟨hs, fun j h => h⟩
  rw [if_neg e5] at ha
  cases ha
/-- the state after the first entries -/
def llSt (l : List (List Int)) : Nat → Option Ledger.Bk
  | 0 => some Ledger.bk0
  | i + 1 => (llSt l i).bind fun s => (Ledger.addf s (Ledger.rowAt l (i : Int))).getD none
theorem llSt_cong {l l' : List (List Int)} : ∀ n : Nat, (∀ j : Nat, j < n → Ledger.rowAt l (j : Int) = Ledger.rowAt l' (j : Int)) → llSt l n = llSt l' n
  | 0, _ => rfl
  | n + 1, h => by rw [llSt, llSt, llSt_cong n (fun j hj => h j (by omega)), h n (by omega)]
theorem llSt_take (l : List (List Int)) (n : Nat) : llSt (l.take n) n = llSt l n := by
  refine llSt_cong n (fun j hj => ?_)
  unfold Ledger.rowAt
  rw [List.getD_eq_getElem?_getD, List.getD_eq_getElem?_getD, List.getElem?_take, if_pos (by omega)]
theorem llSt_app (l : List (List Int)) (e : List Int) : llSt (l ++ [e]) (l.length + 1) = (llSt l l.length).bind fun s => (Ledger.addf s e).getD none := by
  rw [llSt, llSt_cong (l' := l) l.length (fun j hj => ?_)]
  · have : Ledger.rowAt (l ++ [e]) (l.length : Int) = e := by
      unfold Ledger.rowAt
      rw [List.getD_eq_getElem?_getD, show ((l.length : Int)).toNat = l.length by omega, List.getElem?_append_right (Nat.le_refl _), Nat.sub_self]
      rfl
    rw [this]
  · unfold Ledger.rowAt
    rw [List.getD_eq_getElem?_getD, List.getD_eq_getElem?_getD, show ((j : Int)).toNat = j by omega, List.getElem?_append_left hj]
theorem llSt_down {l : List (List Int)} {n : Nat} {s : Ledger.Bk} (h : llSt l (n + 1) = some s) : ∃ s0, llSt l n = some s0 ∧ Ledger.addf s0 (Ledger.rowAt l (n : Int)) = some (some s) := by
  rw [llSt, Option.bind_eq_some_iff] at h
  obtain ⟨s0, h0, h1⟩ := h
  refine ⟨s0, h0, ?_⟩
  cases hq : Ledger.addf s0 (Ledger.rowAt l (n : Int)) with
  | none => rw [hq] at h1; cases h1
  | some o => rw [hq] at h1; exact congrArg some h1
theorem llSt_lt {l : List (List Int)} : ∀ (d n : Nat) {s : Ledger.Bk}, llSt l (n + d) = some s → ∃ s0, llSt l n = some s0
  | 0, n, s, h => ⟨s, h⟩
  | d + 1, n, s, h => by
    obtain ⟨s0, h0, _⟩ := llSt_down (n := n + d) h
    exact llSt_lt d n h0
theorem llSt_inv {l : List (List Int)} : ∀ (n : Nat) {s : Ledger.Bk}, n ≤ 97 → llSt l n = some s → LInv n s ∧ ∀ j : Nat, j < n → (Ledger.rowAt l (j : Int)).length = 3 ∧ (1 ≤ rd (Ledger.rowAt l (j : Int)) 1 ∧ rd (Ledger.rowAt l (j : Int)) 1 ≤ 99) ∧ s.U (rd (Ledger.rowAt l (j : Int)) 1) = true
  | 0, s, _, h => by
    cases h
    exact ⟨LInv.start, fun j hj => by omega⟩
  | n + 1, s, hn, h => by
    obtain ⟨s0, h0, ha⟩ := llSt_down h
    obtain ⟨hI, hr⟩ := llSt_inv n (by omega) h0
    have hU : ∀ j, (s0.A j).isSome = true → s0.U j = true := fun j hj => by
      cases hc : s0.A j with
      | none => rw [hc] at hj; cases hj
      | some a => exact (hI.dom j a hc).2.2.2
    obtain ⟨u1, u2, u3, u4⟩ := addf_U hU ha
    refine ⟨hI.step (by omega) ha, fun j hj => ?_⟩
    by_cases e : j = n
    · subst e; exact ⟨u1, u2, u3⟩
    · obtain ⟨r1, r2, r3⟩ := hr j (by omega)
      exact ⟨r1, r2, u4 _ r3⟩
/-- the walk through the ledger answers as the states do -/
theorem perf_ev (l : List (List Int)) : ∀ (d i : Nat) (s : Ledger.Bk), i + d = l.length → i ≤ 40 → llSt l i = some s →
    ∃ r : Option Ledger.Bk × Int, Ev (fun k => Ledger.perfl l k (i : Int) s) r ∧ ((∃ s', llSt l l.length = some s' ∧ l.length ≤ 40 ∧ r = (some s', -1)) ∨ (0 ≤ r.2 ∧ ¬ (l.length ≤ 40 ∧ ∃ s', llSt l l.length = some s') ∧ r = (none, r.2))) := by
  intro d
  induction d with
  | zero =>
    intro i s hi h40 hs
    obtain rfl : i = l.length := by omega
    refine ⟨(some s, -1), ?_, .inl ⟨s, hs, h40, rfl⟩⟩
    refine Ev.step (fun k => by rw [Ledger.perfl]) ?_
    exact evF (by omega) (evSome _)
  | succ d ih =>
    intro i s hi h40 hs
    by_cases c40 : (i : Int) = 40
    · refine ⟨(none, (i : Int)), ?_, .inr ⟨by show (0 : Int) ≤ (i : Int); omega, fun h => by omega, rfl⟩⟩
      refine Ev.step (fun k => by rw [Ledger.perfl]) ?_
      exact evT (by omega) (evT c40 (evSome _))
    · obtain ⟨o, ho⟩ := (llSt_inv i (by omega) hs).1.ok (by omega) (Ledger.rowAt l (i : Int))
      cases o with
      | none =>
        refine ⟨(none, (i : Int)), ?_, .inr ⟨by show (0 : Int) ≤ (i : Int); omega, fun h => ?_, rfl⟩⟩
        · refine Ev.step (fun k => by rw [Ledger.perfl]) ?_
          exact evT (by omega) (evF c40 (evB ho (evSome _)))
        · obtain ⟨_, s', h'⟩ := h
          obtain ⟨s1, h1⟩ := llSt_lt (l := l) d (i + 1) (s := s') (by rw [show i + 1 + d = l.length by omega]; exact h')
          obtain ⟨s2, h2, h3⟩ := llSt_down h1
          rw [hs] at h2
          cases h2
          rw [ho] at h3
          cases h3
      | some s1 =>
        have h1 : llSt l (i + 1) = some s1 := by
          rw [llSt, hs]
          show (Ledger.addf s (Ledger.rowAt l (i : Int))).getD none = some s1
          rw [ho]
          rfl
        obtain ⟨r, e, h⟩ := ih (i + 1) s1 (by omega) (by omega) h1
        refine ⟨r, ?_, h⟩
        refine Ev.step (fun k => by rw [Ledger.perfl]) ?_
        refine evT (by omega) (evF c40 (evB ho ?_))
        rw [show ((i + 1 : Nat) : Int) = (i : Int) + 1 by omega] at e
        exact e
theorem perf_ok {l : List (List Int)} {s : Ledger.Bk} (h40 : l.length ≤ 40) (h : llSt l l.length = some s) : Ev (fun k => Ledger.perfl l k 0 Ledger.bk0) (some s, -1) := by
  obtain ⟨r, e, h1⟩ := perf_ev l l.length 0 Ledger.bk0 (by omega) (by omega) rfl
  rcases h1 with ⟨s', h1, _, rfl⟩ | ⟨_, h1, _⟩
  · rw [h] at h1
    cases h1
    exact e
  · exact absurd ⟨h40, s, h⟩ h1
theorem perf_bad {l : List (List Int)} (h : ¬ (l.length ≤ 40 ∧ ∃ s', llSt l l.length = some s')) : ∃ n : Int, 0 ≤ n ∧ Ev (fun k => Ledger.perfl l k 0 Ledger.bk0) (none, n) := by
  obtain ⟨r, e, h1⟩ := perf_ev l l.length 0 Ledger.bk0 (by omega) (by omega) rfl
  rcases h1 with ⟨s', h1, h2, _⟩ | ⟨h0, _, h1⟩
  · exact absurd ⟨h2, s', h1⟩ h
  · rw [h1] at e
    exact ⟨r.2, h0, e⟩
theorem ll_ok {l : List (List Int)} {s : Ledger.Bk} (h40 : l.length ≤ 40) (h : llSt l l.length = some s) : Ev (fun k => impl_LedgerOk.f k l) true := by
  unfold impl_LedgerOk.f
  exact Ev.bind (perf_ok h40 h) (evSome _)
theorem ll_bad {l : List (List Int)} (h : ¬ (l.length ≤ 40 ∧ ∃ s', llSt l l.length = some s')) : Ev (fun k => impl_LedgerOk.f k l) false := by
  obtain ⟨n, hn, e⟩ := perf_bad h
  unfold impl_LedgerOk.f
  refine Ev.bind e ?_
  rw [show decide (((none : Option Ledger.Bk), n).2 < (0 : Int)) = false from decide_eq_false (by show ¬ n < 0; omega)]
  exact evSome _
theorem ll_first {l : List (List Int)} {s : Ledger.Bk} (h40 : l.length ≤ 40) (h : llSt l l.length = some s) : Ev (fun k => impl_FirstWrong.f k l) (-1) := by
  unfold impl_FirstWrong.f
  exact Ev.bind (perf_ok h40 h) (evSome _)
theorem ll_area {l : List (List Int)} {s : Ledger.Bk} (h40 : l.length ≤ 40) (h : llSt l l.length = some s) {a : Int} (ha : -9223372036854775808 ≤ a ∧ a ≤ 9223372036854775807) {v : Int} (hv : (s.A a).getD 0 = v) : Ev (fun k => impl_AreaOfSheet.f k l a) v := by
  unfold impl_AreaOfSheet.f
  subst hv
  exact Ev.bind (perf_ok h40 h) (evF (by show ¬ (-1 : Int) ≥ 0; omega) (evT ha (evSome _)))
theorem ll_next {l : List (List Int)} {s : Ledger.Bk} (h40 : l.length ≤ 40) (h : llSt l l.length = some s) {n : Int} (hn : Ledger.nxtf s.U 200 1 = some n) : Ev (fun k => impl_NextNumber.f k l) n := by
  unfold impl_NextNumber.f
  exact Ev.bind (perf_ok h40 h) (evF (by show ¬ (-1 : Int) ≥ 0; omega) (evOf hn))
theorem ll_totals {l : List (List Int)} {s : Ledger.Bk} (h40 : l.length ≤ 40) (h : llSt l l.length = some s) : Ev (fun k => impl_TotalsOf.f k l) [s.b1, s.b2, s.b3, lT s.A 201] := by
  have hI := (llSt_inv l.length (by omega) h).1
  have h1 := hI.hi
  have h2 := (lT_ge s.A (fun j a ha => (hI.dom j a ha).2.2.1) 201).1
  have h3 := hI.sum
  have h4 := hI.nn
  unfold impl_TotalsOf.f
  refine Ev.bind (perf_ok h40 h) (evF (by show ¬ (-1 : Int) ≥ 0; omega) ?_)
  have e : wrap64 (impl_TotalsOf.ts s.A (fun _ => false) 201) = lT s.A 201 := by rw [lT_def]; exact w64 (by omega) (by omega)
  show Ev (fun _ => some [s.b1, s.b2, s.b3, wrap64 (impl_TotalsOf.ts s.A (fun _ => false) 201)]) _
  rw [e]
  exact evSome _
theorem ll_sheets {l : List (List Int)} {s : Ledger.Bk} (h40 : l.length ≤ 40) (h : llSt l l.length = some s) : Ev (fun k => impl_SheetsAfter.f k l) (impl_SheetsAfter.sheetsOf s.A, true) := by
  unfold impl_SheetsAfter.f
  exact Ev.bind (perf_ok h40 h) (evF (by show ¬ (-1 : Int) ≥ 0; omega) (evSome _))
theorem ll_app {l : List (List Int)} {s s' : Ledger.Bk} {e : List Int} (h : llSt l l.length = some s) (ha : Ledger.addf s e = some (some s')) : llSt (l ++ [e]) (l ++ [e]).length = some s' := by
  rw [List.length_append, List.length_singleton, llSt_app, h]
  show (Ledger.addf s e).getD none = some s'
  rw [ha]
  rfl
/-- the code's AddEntry -/
theorem ll_add_ok {l : List (List Int)} {s s' : Ledger.Bk} {e : List Int} (hc : Ev (fun k => impl_copyLists.f k l) l) (he : e.length = 3) (h40 : l.length < 40) (h : llSt l l.length = some s) (ha : Ledger.addf s e = some (some s')) : Ev (fun k => impl_AddEntry.f k l e) (l ++ [e], true) := by
  unfold impl_AddEntry.f
  refine Ev.bind hc (evB rfl (evT (by simp only [List.length_nil]; omega) (evT (by omega) (evB rfl ?_))))
  rw [List.nil_append]
  exact Ev.bind (ll_ok (by simp only [List.length_append, List.length_singleton]; omega) (ll_app h ha)) (evT rfl (evSome _))
theorem ll_add_bad {l : List (List Int)} {s : Ledger.Bk} {e : List Int} (hc : Ev (fun k => impl_copyLists.f k l) l) (he : e.length = 3) (h40 : l.length < 40) (h : llSt l l.length = some s) (ha : Ledger.addf s e = some none) : Ev (fun k => impl_AddEntry.f k l e) ([], false) := by
  unfold impl_AddEntry.f
  refine Ev.bind hc (evB rfl (evT (by simp only [List.length_nil]; omega) (evT (by omega) (evB rfl ?_))))
  rw [List.nil_append]
  refine Ev.bind (ll_bad (fun hx => ?_)) (evF (by decide) (evSome _))
  obtain ⟨_, s', hs⟩ := hx
  rw [List.length_append, List.length_singleton, llSt_app, h] at hs
  have hs' : (Ledger.addf s e).getD none = some s' := hs
  rw [ha] at hs'
  cases hs'
theorem ll_last_l0 (a : Int) (l : List (List Int)) (hl : l.length ≤ 40) (h3 : ∀ j : Nat, j < l.length → (rd_L2 l (j : Int)).length = 3) : ∀ (d i : Nat) (x : Int), i + d = l.length → x ≤ i →
    ∃ b, Ev (fun k => impl_LastEntryOf.l0 k a x l (l.length : Int) (i : Int)) b ∧ x ≤ b ∧ ((∀ j : Nat, i ≤ j → j < l.length → rd (rd_L2 l (j : Int)) 1 ≠ a) → b = x) ∧ ∀ p : Nat, i ≤ p → p < l.length → rd (rd_L2 l (p : Int)) 1 = a → (p : Int) ≤ b := by
  intro d
  induction d with
  | zero =>
    intro i x hi hx
    refine ⟨x, ?_, Int.le_refl _, fun _ => rfl, fun p h0 h1 => by omega⟩
    refine Ev.step (fun k => by rw [impl_LastEntryOf.l0]) ?_
    exact evF (by omega) (evSome _)
  | succ d ih =>
    intro i x hi hx
    have h := h3 i (by omega)
    by_cases c : rd (rd_L2 l (i : Int)) 1 = a
    · obtain ⟨b, h5, h6, h7, h8⟩ := ih (i + 1) (i : Int) (by omega) (by omega)
      refine ⟨b, ?_, by omega, fun h => absurd c (h i (Nat.le_refl _) (by omega)), fun p h0 h1 h2 => ?_⟩
      · refine Ev.step (fun k => by rw [impl_LastEntryOf.l0]) ?_
        refine evT (by omega) (evT (by omega) (evT (by omega) (evT (by omega) (evT c ?_))))
        rw [w64s i (by omega)]
        exact h5
      · by_cases e : p = i
        · omega
        · exact h8 p (by omega) h1 h2
    · obtain ⟨b, h5, h6, h7, h8⟩ := ih (i + 1) x (by omega) (by omega)
      refine ⟨b, ?_, h6, fun h => h7 (fun j h0 h1 => h j (by omega) h1), fun p h0 h1 h2 => ?_⟩
      · refine Ev.step (fun k => by rw [impl_LastEntryOf.l0]) ?_
        refine evT (by omega) (evT (by omega) (evT (by omega) (evT (by omega) (evF c ?_))))
        rw [w64s i (by omega)]
        exact h5
      · by_cases e : p = i
        · subst e; exact absurd h2 c
        · exact h8 p (by omega) h1 h2
theorem ll_last {l : List (List Int)} {s : Ledger.Bk} (h40 : l.length ≤ 40) (h : llSt l l.length = some s) (a : Int) : ∃ b, Ev (fun k => impl_LastEntryOf.f k l a) b ∧ (s.U a = false → b = -1) ∧ ∀ p : Nat, p < l.length → rd (rd_L2 l (p : Int)) 1 = a → (p : Int) ≤ b := by
  obtain ⟨hI, hr⟩ := llSt_inv l.length (by omega) h
  obtain ⟨b, h1, _, h2, h3⟩ := ll_last_l0 a l h40 (fun j hj => (hr j hj).1) l.length 0 (-1) (by omega) (by omega)
  refine ⟨b, ?_, fun hU => h2 (fun j _ hj hc => ?_), fun p hp => h3 p (by omega) hp⟩
  · unfold impl_LastEntryOf.f
    exact Ev.bind (ll_ok h40 h) (evT rfl h1)
  · have := (hr j hj).2.2
    rw [show rd (Ledger.rowAt l (j : Int)) 1 = a from hc, hU] at this
    cases this
def lk (A : Int → Option Int) (n : Nat) : List Int := ((List.range n).map (fun k : Nat => (k : Int))).filter (fun k => (A k).isSome)
theorem lk_succ (A : Int → Option Int) (n : Nat) : lk A (n + 1) = lk A n ++ (if (A (n : Int)).isSome = true then [(n : Int)] else []) := by
  unfold lk
  rw [List.range_succ, List.map_append, List.filter_append, List.map_singleton]
  congr 1
  by_cases h : (A (n : Int)).isSome = true
  · rw [if_pos h]; simp [h]
  · rw [if_neg h]; simp [h]
theorem lk_mem (A : Int → Option Int) : ∀ n, ∀ x ∈ lk A n, (0 ≤ x ∧ x < n) ∧ (A x).isSome = true
  | 0 => fun x hx => by cases hx
  | n + 1 => fun x hx => by
    rw [lk_succ, List.mem_append] at hx
    rcases hx with hx | hx
    · obtain ⟨h1, h2⟩ := lk_mem A n x hx
      exact ⟨by omega, h2⟩
    · by_cases c : (A (n : Int)).isSome = true
      · rw [if_pos c, List.mem_singleton] at hx
        subst hx
        exact ⟨by omega, c⟩
      · rw [if_neg c] at hx
        cases hx
theorem lk_pair (A : Int → Option Int) : ∀ n, (lk A n).Pairwise (· < ·)
  | 0 => List.Pairwise.nil
  | n + 1 => by
    rw [lk_succ, List.pairwise_append]
    refine ⟨lk_pair A n, ?_, fun a ha b hb => ?_⟩
    · by_cases c : (A (n : Int)).isSome = true
      · rw [if_pos c]; exact List.pairwise_singleton _ _
      · rw [if_neg c]; exact List.Pairwise.nil
    · have h1 := (lk_mem A n a ha).1
      by_cases c : (A (n : Int)).isSome = true
      · rw [if_pos c, List.mem_singleton] at hb
        omega
      · rw [if_neg c] at hb
        cases hb
def llSum : List Int → Int
  | [] => 0
  | x :: l => x + llSum l
theorem llSum_app : ∀ a b : List Int, llSum (a ++ b) = llSum a + llSum b
  | [], b => by simp [llSum]
  | x :: a, b => by simp only [List.cons_append, llSum, llSum_app a b]; omega
theorem lk_sum (A : Int → Option Int) : ∀ n, llSum ((lk A n).map fun k => (A k).getD 0) = lT A n
  | 0 => (lT_zero A).symm
  | n + 1 => by
    rw [lk_succ, List.map_append, llSum_app, lk_sum A n, lT_succ]
    by_cases c : (A (n : Int)).isSome = true
    · rw [if_pos c]; simp [llSum]
    · rw [if_neg c]
      have : A (n : Int) = none := by
        cases hc : A (n : Int) with
        | none => rfl
        | some a => rw [hc] at c; exact absurd rfl c
      rw [this]
      simp [llSum]
theorem llSum_take (l : List Int) (i : Nat) (h : i < l.length) : llSum (l.take (i + 1)) = llSum (l.take i) + l[i] := by
  rw [take_succ' l i h, llSum_app]
  simp [llSum]
theorem lk_len (A : Int → Option Int) : ∀ n, (lk A n).length ≤ n
  | 0 => Nat.le_refl _
  | n + 1 => by
    have := lk_len A n
    rw [lk_succ, List.length_append]
    split <;> simp <;> omega
theorem addf_buy {s : Ledger.Bk} {n x : Int} (hn : 1 ≤ n ∧ n ≤ 99) (hx : 1 ≤ x ∧ x ≤ 1000) (hA : s.A n = none) (hU : s.U n = false) : Ledger.addf s [1, n, x] = some (some { s with A := Ledger.upd s.A n (some x), U := Ledger.upd s.U n true, b1 := wrap64 (s.b1 + x) }) := by
  unfold Ledger.addf
  rw [show rd [1, n, x] 0 = 1 from rfl, show rd [1, n, x] 1 = n from rfl, show rd [1, n, x] 2 = x from rfl, if_pos (show ([1, n, x] : List Int).length = 3 from rfl), if_pos hn, if_neg (by omega), if_neg (by omega), if_neg (by rw [hA]; decide), if_pos rfl, if_neg (by rw [hU]; decide)]
theorem addf_split {s : Ledger.Bk} {n x m a : Int} (hn : 1 ≤ n ∧ n ≤ 99) (hx : 1 ≤ x ∧ x ≤ 1000) (hA : s.A n = some a) (ha : x < a) (hm : Ledger.nxtf s.U 200 1 = some m) (hmA : s.A m = none) : Ledger.addf s [3, n, x] = some (some { s with A := Ledger.upd (Ledger.upd s.A n (some (wrap64 (a - x)))) m (some x), U := Ledger.upd s.U m true }) := by
  have e : (s.A n).getD 0 = a := by rw [hA]; rfl
  unfold Ledger.addf
  rw [show rd [3, n, x] 0 = 3 from rfl, show rd [3, n, x] 1 = n from rfl, show rd [3, n, x] 2 = x from rfl, if_pos (show ([3, n, x] : List Int).length = 3 from rfl), if_pos hn, if_neg (by omega), if_neg (by omega), if_neg (by rw [hA]; exact Bool.noConfusion), if_neg (by decide), if_neg (by decide), if_pos rfl, e, if_neg (by omega), hm, Option.bind_some, if_pos hmA]
theorem addf_join {s : Ledger.Bk} {n x a b : Int} (hn : 1 ≤ n ∧ n ≤ 99) (hx : 1 ≤ x ∧ x ≤ 1000) (hA : s.A n = some a) (hB : s.A x = some b) (hne : x ≠ n) : Ledger.addf s [4, n, x] = some (some { s with A := Ledger.upd (Ledger.upd s.A x (some (wrap64 (b + a)))) n none }) := by
  have e : (s.A n).getD 0 = a := by rw [hA]; rfl
  have e2 : (s.A x).getD 0 = b := by rw [hB]; rfl
  unfold Ledger.addf
  rw [show rd [4, n, x] 0 = 4 from rfl, show rd [4, n, x] 1 = n from rfl, show rd [4, n, x] 2 = x from rfl, if_pos (show ([4, n, x] : List Int).length = 3 from rfl), if_pos hn, if_neg (by omega), if_neg (by omega), if_neg (by rw [hA]; exact Bool.noConfusion), if_neg (by decide), if_neg (by decide), if_neg (by decide), if_pos rfl, if_neg (by rw [hB]; exact Bool.noConfusion), if_neg hne, e, e2]
theorem addf_sell {s : Ledger.Bk} {n x : Int} (hn : 1 ≤ n ∧ n ≤ 99) (hx : 1 ≤ x) (hA : s.A n = some x) : Ledger.addf s [5, n, x] = some (some { s with A := Ledger.upd s.A n none, b3 := wrap64 (s.b3 + x) }) := by
  have e : (s.A n).getD 0 = x := by rw [hA]; rfl
  unfold Ledger.addf
  rw [show rd [5, n, x] 0 = 5 from rfl, show rd [5, n, x] 1 = n from rfl, show rd [5, n, x] 2 = x from rfl, if_pos (show ([5, n, x] : List Int).length = 3 from rfl), if_pos hn, if_neg (fun h => h.1 rfl), if_neg (by omega), if_neg (by rw [hA]; exact Bool.noConfusion), if_neg (by decide), if_neg (by decide), if_neg (by decide), if_neg (by decide), if_pos rfl, e, if_neg (fun h => h rfl)]
theorem addf_zero {s : Ledger.Bk} {n : Int} (hn : 1 ≤ n ∧ n ≤ 99) : Ledger.addf s [1, n, 0] = some none := by
  unfold Ledger.addf
  rw [show rd [1, n, 0] 0 = 1 from rfl, show rd [1, n, 0] 1 = n from rfl, show rd [1, n, 0] 2 = 0 from rfl, if_pos (show ([1, n, 0] : List Int).length = 3 from rfl), if_pos hn, if_pos (by omega)]
theorem addf_used {s : Ledger.Bk} {n : Int} (hn : 1 ≤ n ∧ n ≤ 99) (hA : s.A n = none) (hU : s.U n = true) : Ledger.addf s [1, n, 5] = some none := by
  unfold Ledger.addf
  rw [show rd [1, n, 5] 0 = 1 from rfl, show rd [1, n, 5] 1 = n from rfl, show rd [1, n, 5] 2 = 5 from rfl, if_pos (show ([1, n, 5] : List Int).length = 3 from rfl), if_pos hn, if_neg (by omega), if_neg (by omega), if_neg (by rw [hA]; decide), if_pos rfl, if_pos hU]
/-! llAdd -/
theorem ll_rows {l : List (List Int)} {s : Ledger.Bk} (h40 : l.length ≤ 40) (h : llSt l l.length = some s) : ∀ x ∈ l, x.length = 3 := fun x hx => by
  obtain ⟨i, hi, rfl⟩ := List.getElem_of_mem hx
  rw [← copy_rd l i hi]
  exact ((llSt_inv l.length (by omega) h).2 i hi).1
theorem ll_copy {l : List (List Int)} {s : Ledger.Bk} (h40 : l.length ≤ 40) (h : llSt l l.length = some s) : Ev (fun k => impl_copyLists.f k l) l :=
  copyLists_ev l (by omega) (fun x hx => by rw [ll_rows h40 h x hx]; omega)
theorem ll_addS {l : List (List Int)} (e : List Int) {s : Ledger.Bk} (he : e.length = 3) (h40 : l.length < 40) (h : llSt l l.length = some s) : ∃ b, Ev (fun k => spec_AddEntry.f k l e) (if b = true then l ++ [e] else [], b) ∧ (b = true → ∃ s', llSt (l ++ [e]) (l ++ [e]).length = some s') := by
  obtain ⟨b, h1, h2⟩ := add_ev l e (by omega) (fun x hx => by rw [ll_rows (by omega) h x hx]; omega) (by omega)
  obtain ⟨o, ho⟩ := (llSt_inv l.length (by omega) h).1.ok (by omega) e
  refine ⟨b, h1, fun hb => ?_⟩
  cases o with
  | none =>
    have := evUniq h2 (ll_add_bad (ll_copy (by omega) h) he h40 h ho)
    have h3 : b = false := congrArg Prod.snd this
    rw [hb] at h3
    cases h3
  | some s' => exact ⟨s', ll_app h ho⟩
/-! llDraw -/
theorem dr_ledger_l0 (b : List Int) (hb : b.length ≤ 1048576) : ∀ (d : Nat) (l : List (List Int)) (i h : Int), l.length + d ≤ 12 → (∃ s, llSt l l.length = some s) → (0 ≤ i ∧ i ≤ b.length) → ∃ l' i' h', Ev (fun k => spec_l26Draw.l0 k l (d : Int) b i h) (l', i', h') ∧ l'.length ≤ 12 ∧ ∃ s, llSt l' l'.length = some s := by
  intro d
  induction d with
  | zero =>
    intro l i h hl hs hi
    refine ⟨l, i, h, ?_, by omega, hs⟩
    refine Ev.step (fun k => by rw [spec_l26Draw.l0]) ?_
    exact evF (by omega) (evSome _)
  | succ d ih =>
    intro l i h hl hs hi
    obtain ⟨s, hs⟩ := hs
    have hd : wrap64 (((d + 1 : Nat) : Int) - 1) = (d : Int) := by rw [w64 (by omega) (by omega)]; omega
    have j2 : ∀ (y : List Int) (i h : Int), y.length = 3 → (0 ≤ i ∧ i ≤ b.length) → ∃ l' i' h', Ev (fun k => spec_l26Draw.j2 k l ((d + 1 : Nat) : Int) y b i h) (l', i', h') ∧ l'.length ≤ 12 ∧ ∃ s, llSt l' l'.length = some s := by
      intro y i h hy hi
      obtain ⟨a, h1, h2⟩ := ll_addS y hy (by omega) hs
      cases a with
      | true =>
        obtain ⟨l', i', h', e, r⟩ := ih (l ++ [y]) i h (by rw [List.length_append, List.length_singleton]; omega) (h2 rfl) hi
        refine ⟨l', i', h', ?_, r⟩
        refine Ev.step (fun k => by rw [spec_l26Draw.j2]) ?_
        rw [hd]
        exact Ev.bind h1 (evT rfl e)
      | false =>
        obtain ⟨t, h3, _⟩ := nextNumber_ev l (by omega)
        obtain ⟨v, i2, h4, e4, hv, hi2⟩ := dr_below (h := h) (n := 50) hb hi (by omega)
        obtain ⟨a, h5, h6⟩ := ll_addS [1, t, wrap64 (20 + v)] rfl (by omega) hs
        cases a with
        | true =>
          obtain ⟨l', i', h', e, r⟩ := ih (l ++ [[1, t, wrap64 (20 + v)]]) i2 h4 (by rw [List.length_append, List.length_singleton]; omega) (h6 rfl) hi2
          refine ⟨l', i', h', ?_, r⟩
          refine Ev.step (fun k => by rw [spec_l26Draw.j2]) ?_
          rw [hd]
          exact Ev.bind h1 (evF (fun hc => Bool.noConfusion hc) (Ev.bind h3 (evB e4 (Ev.bind h5 (evT rfl e)))))
        | false =>
          obtain ⟨l', i', h', e, r⟩ := ih l i2 h4 (by omega) ⟨s, hs⟩ hi2
          refine ⟨l', i', h', ?_, r⟩
          refine Ev.step (fun k => by rw [spec_l26Draw.j2]) ?_
          rw [hd]
          exact Ev.bind h1 (evF (fun hc => Bool.noConfusion hc) (Ev.bind h3 (evB e4 (Ev.bind h5 (evF (fun hc => Bool.noConfusion hc) e)))))
    have j1 : ∀ (y : List Int) (i h : Int), y.length = 3 → Opens.I64 (rd y 1) → (0 ≤ i ∧ i ≤ b.length) → ∃ l' i' h', Ev (fun k => spec_l26Draw.j1 k l ((d + 1 : Nat) : Int) y b i h) (l', i', h') ∧ l'.length ≤ 12 ∧ ∃ s, llSt l' l'.length = some s := by
      intro y i h hy hy1 hi
      by_cases c : rd y 0 = 5
      · obtain ⟨t, h3, _⟩ := area_ev l (by omega) (rd y 1) hy1
        obtain ⟨l', i', h', e, r⟩ := j2 (y.set (2 : Int).toNat t) i h (by rw [List.length_set]; exact hy) hi
        refine ⟨l', i', h', ?_, r⟩
        refine Ev.step (fun k => by rw [spec_l26Draw.j1]) ?_
        exact evT (by omega) (evT c (evT (by omega) (Ev.bind h3 (evT (by omega) e))))
      · obtain ⟨l', i', h', e, r⟩ := j2 y i h hy hi
        refine ⟨l', i', h', ?_, r⟩
        refine Ev.step (fun k => by rw [spec_l26Draw.j1]) ?_
        exact evT (by omega) (evF c e)
    obtain ⟨v1, i1, h1, e1, hv1, hi1⟩ := dr_below (h := h) (n := 5) hb hi (by omega)
    obtain ⟨v2, i2, h2, e2, hv2, hi2⟩ := dr_below (h := h1) (n := 5) hb hi1 (by omega)
    obtain ⟨v3, i3, h3, e3, hv3, hi3⟩ := dr_below (h := h2) (n := 9) hb hi2 (by omega)
    have hw : Opens.I64 (wrap64 (1 + v2)) := by rw [w64 (by omega) (by omega)]; unfold Opens.I64; omega
    by_cases c : rd [wrap64 (1 + v1), wrap64 (1 + v2), wrap64 (1 + v3)] 0 = 1
    · obtain ⟨v4, i4, h4, e4, hv4, hi4⟩ := dr_below (h := h3) (n := 90) hb hi3 (by omega)
      obtain ⟨l', i', h', e, r⟩ := j1 [wrap64 (1 + v1), wrap64 (1 + v2), wrap64 (10 + v4)] i4 h4 rfl hw hi4
      refine ⟨l', i', h', ?_, r⟩
      refine Ev.step (fun k => by rw [spec_l26Draw.l0]) ?_
      exact evT (by omega) (evB e1 (evB e2 (evB e3 (evB rfl (evT (by simp) (evT c (evB e4 (evT (by simp) e))))))))
    · obtain ⟨l', i', h', e, r⟩ := j1 [wrap64 (1 + v1), wrap64 (1 + v2), wrap64 (1 + v3)] i3 h3 rfl hw hi3
      refine ⟨l', i', h', ?_, r⟩
      refine Ev.step (fun k => by rw [spec_l26Draw.l0]) ?_
      exact evT (by omega) (evB e1 (evB e2 (evB e3 (evB rfl (evT (by simp) (evF c e))))))
theorem dr_ledger (l : List Int) (hl : l.length ≤ 1048576) (n : Nat) (hn : n ≤ 1000) : ∃ r, Ev (fun k => spec_MakeLedger.f k l (n : Int)) r ∧ r.length ≤ 12 ∧ ∃ s, llSt r r.length = some s := by
  obtain ⟨i, h, e, hi⟩ := dr_new l hl n hn
  obtain ⟨v, i2, h2, e2, hv, hi2⟩ := dr_below (h := h) (n := 12) hl hi (by omega)
  obtain ⟨r, i3, h3, e3, hr⟩ := dr_ledger_l0 l hl v.toNat [] i2 h2 (by simp only [List.length_nil]; omega) ⟨_, rfl⟩ hi2
  rw [show (v.toNat : Int) = v by omega] at e3
  refine ⟨r, ?_, hr⟩
  unfold spec_MakeLedger.f spec_l26Draw.f
  exact Ev.bind e (Ev.bind (evB e2 e3) (evSome _))

structure FLs (l : List (List Int)) (s : Ledger.Bk) (n m : Int) (s1 s2 s3 s4 : Ledger.Bk) : Prop where
  a1 : Ledger.addf s [1, n, 50] = some (some s1)
  a2 : Ledger.addf s1 [3, n, 20] = some (some s2)
  a3 : Ledger.addf s2 [4, m, n] = some (some s3)
  a4 : Ledger.addf s3 [5, n, 50] = some (some s4)
  q1 : llSt (l ++ [[1, n, 50]]) (l ++ [[1, n, 50]]).length = some s1
  q2 : llSt (l ++ [[1, n, 50]] ++ [[3, n, 20]]) (l ++ [[1, n, 50]] ++ [[3, n, 20]]).length = some s2
  q3 : llSt (l ++ [[1, n, 50]] ++ [[3, n, 20]] ++ [[4, m, n]]) (l ++ [[1, n, 50]] ++ [[3, n, 20]] ++ [[4, m, n]]).length = some s3
  q4 : llSt (l ++ [[1, n, 50]] ++ [[3, n, 20]] ++ [[4, m, n]] ++ [[5, n, 50]]) (l ++ [[1, n, 50]] ++ [[3, n, 20]] ++ [[4, m, n]] ++ [[5, n, 50]]).length = some s4
  hm : Ledger.nxtf s1.U 200 1 = some m
  hm1 : 1 ≤ m
  hm2 : m ≤ (l.length : Int) + 2
  A2m : s2.A m = some 20
  A2n : s2.A n = some 30
  A3m : s3.A m = none
  A3n : s3.A n = some 50
  A4n : s4.A n = none
  U4n : s4.U n = true
  B1 : s4.b1 = wrap64 (s.b1 + 50)
  B2 : s4.b2 = s.b2
  B3 : s4.b3 = wrap64 (s.b3 + 50)
theorem fl_len (l : List (List Int)) (a b c d : List Int) : (l ++ [a]).length = l.length + 1 ∧ (l ++ [a] ++ [b]).length = l.length + 2 ∧ (l ++ [a] ++ [b] ++ [c]).length = l.length + 3 ∧ (l ++ [a] ++ [b] ++ [c] ++ [d]).length = l.length + 4 := by
  simp only [List.length_append, List.length_singleton, and_self]
theorem fl_s1 {s : Ledger.Bk} {n : Int} (hn : 1 ≤ n ∧ n ≤ 99) (nA : s.A n = none) (nU : s.U n = false) : ∃ s1, Ledger.addf s [1, n, 50] = some (some s1) ∧ s1.A n = some 50 ∧ s1.U n = true ∧ s1.b1 = wrap64 (s.b1 + 50) ∧ s1.b2 = s.b2 ∧ s1.b3 = s.b3 :=
  ⟨_, addf_buy (x := 50) hn (by decide) nA nU, Ledger.upd_same _ _ _, Ledger.upd_same _ _ _, rfl, rfl, rfl⟩
theorem fl_s2 {s : Ledger.Bk} {n m : Int} (hn : 1 ≤ n ∧ n ≤ 99) (hA : s.A n = some 50) (hm : Ledger.nxtf s.U 200 1 = some m) (mA : s.A m = none) (hne : n ≠ m) (hU : s.U n = true) : ∃ s1, Ledger.addf s [3, n, 20] = some (some s1) ∧ s1.A n = some 30 ∧ s1.A m = some 20 ∧ s1.U n = true ∧ s1.b1 = s.b1 ∧ s1.b2 = s.b2 ∧ s1.b3 = s.b3 := by
  refine ⟨_, addf_split (x := 20) hn (by decide) hA (by decide) hm mA, ?_, Ledger.upd_same _ _ _, ?_, rfl, rfl, rfl⟩
  · show Ledger.upd (Ledger.upd s.A n (some (wrap64 (50 - 20)))) m (some 20) n = some 30
    rw [Ledger.upd_other _ _ hne, Ledger.upd_same, w64 (by decide) (by decide)]
    rfl
  · show Ledger.upd s.U m true n = true
    rw [Ledger.upd_other _ _ hne]
    exact hU
theorem fl_s3 {s : Ledger.Bk} {n m : Int} (hm : 1 ≤ m ∧ m ≤ 99) (hn : 1 ≤ n ∧ n ≤ 1000) (hAn : s.A n = some 30) (hAm : s.A m = some 20) (hne : n ≠ m) (hU : s.U n = true) : ∃ s1, Ledger.addf s [4, m, n] = some (some s1) ∧ s1.A n = some 50 ∧ s1.A m = none ∧ s1.U n = true ∧ s1.b1 = s.b1 ∧ s1.b2 = s.b2 ∧ s1.b3 = s.b3 := by
  refine ⟨_, addf_join (n := m) (x := n) hm hn hAm hAn hne, ?_, Ledger.upd_same _ _ _, hU, rfl, rfl, rfl⟩
  show Ledger.upd (Ledger.upd s.A n (some (wrap64 (30 + 20)))) m none n = some 50
  rw [Ledger.upd_other _ _ hne, Ledger.upd_same, w64 (by decide) (by decide)]
  rfl
theorem fl_s4 {s : Ledger.Bk} {n : Int} (hn : 1 ≤ n ∧ n ≤ 99) (hA : s.A n = some 50) (hU : s.U n = true) : ∃ s1, Ledger.addf s [5, n, 50] = some (some s1) ∧ s1.A n = none ∧ s1.U n = true ∧ s1.b1 = s.b1 ∧ s1.b2 = s.b2 ∧ s1.b3 = wrap64 (s.b3 + 50) :=
  ⟨_, addf_sell (x := 50) hn (by decide) hA, Ledger.upd_same _ _ _, hU, rfl, rfl, rfl⟩
theorem fl_st (l : List (List Int)) (s : Ledger.Bk) (n : Int) (h40 : l.length ≤ 12) (hs : llSt l l.length = some s) (hn1 : 1 ≤ n) (hn2 : n ≤ (l.length : Int) + 1) (nU : s.U n = false) (nA : s.A n = none) : ∃ m s1 s2 s3 s4, FLs l s n m s1 s2 s3 s4 := by
  have hL := fl_len l [1, n, 50] [] [] []
  have hn : 1 ≤ n ∧ n ≤ 99 := ⟨hn1, by omega⟩
  obtain ⟨s1, a1, A1n, U1n, b11, b12, b13⟩ := fl_s1 hn nA nU
  have q1 := ll_app hs a1
  have I1 := (llSt_inv _ (by rw [hL.1]; omega) q1).1
  obtain ⟨m, hm, hm1, hm2, mU, mA⟩ := I1.next (by rw [hL.1]; omega)
  rw [hL.1] at hm2
  have hne : n ≠ m := fun h => by rw [← h, A1n] at mA; cases mA
  obtain ⟨s2, a2, A2n, A2m, U2n, b21, b22, b23⟩ := fl_s2 hn A1n hm mA hne U1n
  have q2 := ll_app q1 a2
  obtain ⟨s3, a3, A3n, A3m, U3n, b31, b32, b33⟩ := fl_s3 ⟨hm1, by omega⟩ ⟨hn1, by omega⟩ A2n A2m hne U2n
  have q3 := ll_app q2 a3
  obtain ⟨s4, a4, A4n, U4n, b41, b42, b43⟩ := fl_s4 hn A3n U3n
  have q4 := ll_app q3 a4
  exact ⟨m, s1, s2, s3, s4, a1, a2, a3, a4, q1, q2, q3, q4, hm, hm1, by omega, A2m, A2n, A3m, A3n, A4n, U4n, by rw [b41, b31, b21, b11], by rw [b42, b32, b22, b12], by rw [b43, b33, b23, b13]⟩
theorem fl_T4 {l : List (List Int)} {s : Ledger.Bk} {n m : Int} {s1 s2 s3 s4 : Ledger.Bk} (h40 : l.length ≤ 12) (hs : llSt l l.length = some s) (h : FLs l s n m s1 s2 s3 s4) : lT s4.A 201 = lT s.A 201 := by
  have hI := (llSt_inv l.length (by omega) hs).1
  have e1 := hI.sum
  have e2 := hI.hi
  have e3 := hI.nn
  have e4 := (lT_ge s.A (fun j a ha => (hI.dom j a ha).2.2.1) 201).1
  have e5 := (llSt_inv _ (by rw [(fl_len l _ _ _ _).2.2.2]; omega) h.q4).1.sum
  rw [h.B1, h.B2, h.B3] at e5
  generalize lT s4.A 201 = t4 at e5 ⊢
  generalize lT s.A 201 = t at e1 e4 ⊢
  generalize s.b1 = x1 at *
  generalize s.b2 = x2 at *
  generalize s.b3 = x3 at *
  rw [w64 (x := x1 + 50) (by omega) (by omega), w64 (x := x3 + 50) (by omega) (by omega)] at e5
  omega
theorem fl_adds {l : List (List Int)} {s : Ledger.Bk} {n m : Int} {s1 s2 s3 s4 : Ledger.Bk} (h40 : l.length ≤ 12) (hs : llSt l l.length = some s) (h : FLs l s n m s1 s2 s3 s4) :
    Ev (fun k => impl_AddEntry.f k l [1, n, 50]) (l ++ [[1, n, 50]], true) ∧ Ev (fun k => impl_AddEntry.f k (l ++ [[1, n, 50]]) [3, n, 20]) (l ++ [[1, n, 50]] ++ [[3, n, 20]], true) ∧
    Ev (fun k => impl_AddEntry.f k (l ++ [[1, n, 50]] ++ [[3, n, 20]]) [4, m, n]) (l ++ [[1, n, 50]] ++ [[3, n, 20]] ++ [[4, m, n]], true) ∧
    Ev (fun k => impl_AddEntry.f k (l ++ [[1, n, 50]] ++ [[3, n, 20]] ++ [[4, m, n]]) [5, n, 50]) (l ++ [[1, n, 50]] ++ [[3, n, 20]] ++ [[4, m, n]] ++ [[5, n, 50]], true) := by
  have hL := fl_len l [1, n, 50] [3, n, 20] [4, m, n] [5, n, 50]
  refine ⟨ll_add_ok (ll_copy (by omega) hs) rfl (by omega) hs h.a1, ll_add_ok (ll_copy (by rw [hL.1]; omega) h.q1) rfl (by rw [hL.1]; omega) h.q1 h.a2, ll_add_ok (ll_copy (by rw [hL.2.1]; omega) h.q2) rfl (by rw [hL.2.1]; omega) h.q2 h.a3, ll_add_ok (ll_copy (by rw [hL.2.2.1]; omega) h.q3) rfl (by rw [hL.2.2.1]; omega) h.q3 h.a4⟩
theorem fl_bads {l : List (List Int)} {s : Ledger.Bk} {n m : Int} {s1 s2 s3 s4 : Ledger.Bk} (h40 : l.length ≤ 12) (hn : 1 ≤ n ∧ n ≤ 99) (hs : llSt l l.length = some s) (h : FLs l s n m s1 s2 s3 s4) :
    Ev (fun k => impl_AddEntry.f k l [1, n, 0]) ([], false) ∧ Ev (fun k => impl_AddEntry.f k (l ++ [[1, n, 50]] ++ [[3, n, 20]] ++ [[4, m, n]] ++ [[5, n, 50]]) [1, n, 5]) ([], false) := by
  have hL := fl_len l [1, n, 50] [3, n, 20] [4, m, n] [5, n, 50]
  exact ⟨ll_add_bad (ll_copy (by omega) hs) rfl (by omega) hs (addf_zero hn), ll_add_bad (ll_copy (by rw [hL.2.2.2]; omega) h.q4) rfl (by rw [hL.2.2.2]; omega) h.q4 (addf_used hn h.A4n h.U4n)⟩
theorem fl_tells {l : List (List Int)} {s : Ledger.Bk} {n m : Int} {s1 s2 s3 s4 : Ledger.Bk} (h40 : l.length ≤ 12) (hn : 1 ≤ n ∧ n ≤ 99) (h : FLs l s n m s1 s2 s3 s4) :
    Ev (fun k => impl_TotalsOf.f k (l ++ [[1, n, 50]] ++ [[3, n, 20]] ++ [[4, m, n]] ++ [[5, n, 50]])) [s4.b1, s4.b2, s4.b3, lT s4.A 201] ∧
    Ev (fun k => impl_AreaOfSheet.f k (l ++ [[1, n, 50]] ++ [[3, n, 20]]) n) 30 ∧ Ev (fun k => impl_AreaOfSheet.f k (l ++ [[1, n, 50]] ++ [[3, n, 20]]) m) 20 ∧
    Ev (fun k => impl_AreaOfSheet.f k (l ++ [[1, n, 50]] ++ [[3, n, 20]] ++ [[4, m, n]]) n) 50 ∧ Ev (fun k => impl_AreaOfSheet.f k (l ++ [[1, n, 50]] ++ [[3, n, 20]] ++ [[4, m, n]]) m) 0 ∧
    Ev (fun k => impl_NextNumber.f k (l ++ [[1, n, 50]])) m := by
  have hL := fl_len l [1, n, 50] [3, n, 20] [4, m, n] [5, n, 50]
  have hm1 := h.hm1
  have hm2 := h.hm2
  refine ⟨ll_totals (by rw [hL.2.2.2]; omega) h.q4, ll_area (by rw [hL.2.1]; omega) h.q2 (by omega) (by rw [h.A2n]; rfl), ll_area (by rw [hL.2.1]; omega) h.q2 (by omega) (by rw [h.A2m]; rfl), ll_area (by rw [hL.2.2.1]; omega) h.q3 (by omega) (by rw [h.A3n]; rfl), ll_area (by rw [hL.2.2.1]; omega) h.q3 (by omega) (by rw [h.A3m]; rfl), ll_next (by rw [hL.1]; omega) h.q1 h.hm⟩
theorem fl_fin (l : List (List Int)) (s : Ledger.Bk) (n : Int) (h40 : l.length ≤ 12) (hs : llSt l l.length = some s) (hn : Ledger.nxtf s.U 200 1 = some n) (hn1 : 1 ≤ n) (hn2 : n ≤ (l.length : Int) + 1) (nU : s.U n = false) (nA : s.A n = none) (i : Nat) (hi : i = l.length) :
    Ev (fun k => laws_FnLedger.l2 k l [s.b1, s.b2, s.b3, lT s.A 201] n l (l.length : Int) (i : Int)) true := by
  obtain ⟨m, s1, s2, s3, s4, h⟩ := fl_st l s n h40 hs hn1 hn2 nU nA
  obtain ⟨b1, b2, b3, b4⟩ := fl_adds h40 hs h
  obtain ⟨b5, b6⟩ := fl_bads h40 ⟨hn1, by omega⟩ hs h
  obtain ⟨t, ha1, ha2, ha3, ha4, hN⟩ := fl_tells h40 ⟨hn1, by omega⟩ h
  have hT4 := fl_T4 h40 hs h
  have B3 := h.B3
  have hlen : (((l ++ [[1, n, 50]]).length : Nat) : Int) = wrap64 ((l.length : Int) + 1) := by rw [w64 (by omega) (by omega), (fl_len l _ [] [] []).1]; omega
  clear h hs hn nU nA hn1 hn2
  refine Ev.step (fun k => by rw [laws_FnLedger.l2]) ?_
  refine evF (by omega) (Ev.bind b1 (Ev.bind b2 (Ev.bind hN (Ev.bind b3 (Ev.bind b4 (Ev.bind b5 (Ev.bind b6 (Ev.bind t ?_))))))))
  refine evT rfl (evT rfl (evT rfl (evT rfl (evF (by decide) (evF (by decide) (evT hlen (Ev.bind ha1 (evT rfl (Ev.bind ha2 (evT rfl (Ev.bind ha3 (evT rfl (Ev.bind ha4 (evT rfl ?_))))))))))))))
  refine evT (by simp) (evT (by simp) (evT (by simp) (evT hT4 (evT (by simp) (evT (by simp) ?_)))))
  rw [show rd [s4.b1, s4.b2, s4.b3, lT s4.A 201] 2 = s4.b3 from rfl, show rd [s.b1, s.b2, s.b3, lT s.A 201] 2 = s.b3 from rfl, B3, beq_self_eq_true]
  exact evSome true
theorem fl_l2 (l : List (List Int)) (s : Ledger.Bk) (n : Int) (h40 : l.length ≤ 12) (hs : llSt l l.length = some s) (hn : Ledger.nxtf s.U 200 1 = some n) (hn1 : 1 ≤ n) (hn2 : n ≤ (l.length : Int) + 1) (nU : s.U n = false) (nA : s.A n = none) : ∀ d i : Nat, i + d = l.length →
    Ev (fun k => laws_FnLedger.l2 k l [s.b1, s.b2, s.b3, lT s.A 201] n l (l.length : Int) (i : Int)) true := by
  intro d
  induction d with
  | zero =>
    intro i hi
    exact fl_fin l s n h40 hs hn hn1 hn2 nU nA i (by omega)
  | succ d ih =>
    intro i hi
    have h3 : (rd_L2 l (i : Int)).length = 3 := ((llSt_inv l.length (by omega) hs).2 i (by omega)).1
    obtain ⟨b, h1, _, h2⟩ := ll_last (by omega) hs (rd (rd_L2 l (i : Int)) 1)
    have h4 := h2 i (by omega) rfl
    refine Ev.step (fun k => by rw [laws_FnLedger.l2]) ?_
    refine evT (by omega) (evT (by omega) (evT (by omega) (evT (by omega) (Ev.bind h1 (evF (by omega) ?_)))))
    rw [w64s i (by omega)]
    exact ih (i + 1) (by omega)
theorem fl_l1 (l : List (List Int)) (s : Ledger.Bk) (n : Int) (h40 : l.length ≤ 12) (hs : llSt l l.length = some s) (hn : Ledger.nxtf s.U 200 1 = some n) (hn1 : 1 ≤ n) (hn2 : n ≤ (l.length : Int) + 1) (nU : s.U n = false) (nA : s.A n = none) : ∀ d i : Nat, i + d = l.length →
    Ev (fun k => laws_FnLedger.l1 k l [s.b1, s.b2, s.b3, lT s.A 201] n (l.length : Int) (i : Int)) true := by
  intro d
  induction d with
  | zero =>
    intro i hi
    refine Ev.step (fun k => by rw [laws_FnLedger.l1]) ?_
    exact evF (by omega) (fl_l2 l s n h40 hs hn hn1 hn2 nU nA l.length 0 (by omega))
  | succ d ih =>
    intro i hi
    have hl : (l.take i).length = i := by rw [List.length_take]; omega
    obtain ⟨s0, h0⟩ := llSt_lt (l := l) (d + 1) i (s := s) (by rw [hi]; exact hs)
    have h1 : Ev (fun k => impl_LedgerOk.f k (l.take (i : Int).toNat)) true := by
      rw [show (i : Int).toNat = i by omega]
      exact ll_ok (s := s0) (by omega) (by rw [hl, llSt_take]; exact h0)
    refine Ev.step (fun k => by rw [laws_FnLedger.l1]) ?_
    refine evT (by omega) (evT (by omega) (evT (by omega) (Ev.bind h1 (evT rfl ?_))))
    rw [w64s i (by omega)]
    exact ih (i + 1) (by omega)
theorem fl_l0 (l : List (List Int)) (s : Ledger.Bk) (n : Int) (h40 : l.length ≤ 12) (hs : llSt l l.length = some s) (hn : Ledger.nxtf s.U 200 1 = some n) (hn1 : 1 ≤ n) (hn2 : n ≤ (l.length : Int) + 1) (nU : s.U n = false) (nA : s.A n = none) (R : List (List Int)) (K : List Int) (V : List Int) (hR : R = impl_SheetsAfter.sheetsOf s.A) (hK : K = lk s.A 201) (hV : V = K.map fun k => (s.A k).getD 0) : ∀ d i : Nat, i + d = R.length →
    Ev (fun k => laws_FnLedger.l0 k l R [s.b1, s.b2, s.b3, lT s.A 201] (llSum (V.take i)) R (R.length : Int) (i : Int)) true := by
  have hI := (llSt_inv l.length (by omega) hs).1
  have hRK : R = K.map (fun k => [k, (s.A k).getD 0]) := by rw [hR, hK]; rfl
  have hlR : R.length = K.length := by rw [hRK, List.length_map]
  have hlV : V.length = K.length := by rw [hV, List.length_map]
  have hlK : K.length ≤ 201 := by rw [hK]; exact lk_len _ _
  have hrow : ∀ (j : Nat) (h : j < K.length), rd_L2 R (j : Int) = [K[j], (s.A K[j]).getD 0] := fun j h => by
    rw [copy_rd R j (by omega)]
    simp only [hRK, List.getElem_map]
  have hsumV : llSum V = lT s.A 201 := by rw [hV, hK, lk_sum]
  have hbV : ∀ i, i ≤ K.length → 0 ≤ llSum (V.take i) ∧ llSum (V.take i) ≤ 1000000 * i := by
    intro i
    induction i with
    | zero => intro _; exact ⟨Int.le_refl 0, Int.le_refl 0⟩
    | succ i ih =>
      intro hi
      obtain ⟨h1, h2⟩ := ih (by omega)
      rw [llSum_take V i (by omega)]
      have hm := lk_mem s.A 201 K[i] (by subst hK; exact List.getElem_mem _)
      have hg := getD_of (z := (0 : Int)) hm.2
      obtain ⟨l1, l2, l3⟩ := hI.low hg
      have e : V[i]'(by omega) = (s.A K[i]).getD 0 := by simp only [hV, List.getElem_map]
      rw [e]
      omega
  intro d
  induction d with
  | zero =>
    intro i hi
    obtain ⟨b, h1, h2, _⟩ := ll_last (by omega) hs n
    obtain rfl := h2 nU
    have hx : llSum (V.take i) = lT s.A 201 := by rw [List.take_of_length_le (by omega), hsumV]
    refine Ev.step (fun k => by rw [laws_FnLedger.l0]) ?_
    refine evF (by omega) (Ev.bind (ll_next (by omega) hs hn) (evT (by simp) (evT hx (evF (by omega) (Ev.bind (ll_area (by omega) hs (a := n) (by omega) (v := 0) (by rw [nA]; rfl)) (evT rfl (Ev.bind h1 ?_)))))))
    rw [show ((-1 : Int) != (-1)) = false from rfl]
    refine Ev.step (fun k => by rw [laws_FnLedger.j2]) ?_
    exact evF (by decide) (fl_l1 l s n h40 hs hn hn1 hn2 nU nA l.length 0 (by omega))
  | succ d ih =>
    intro i hi
    have hiK : i < K.length := by omega
    have hr := hrow i hiK
    have hm := lk_mem s.A 201 K[i] (by subst hK; exact List.getElem_mem _)
    have hg := getD_of (z := (0 : Int)) hm.2
    obtain ⟨l1, l2, l3⟩ := hI.low hg
    have e : V[i]'(by omega) = (s.A K[i]).getD 0 := by simp only [hV, List.getElem_map]
    have hb := hbV i (by omega)
    have hstep : wrap64 (llSum (V.take i) + (s.A K[i]).getD 0) = llSum (V.take (i + 1)) := by
      rw [llSum_take V i (by omega), e]
      exact w64 (by omega) (by omega)
    have ha := ll_area (by omega) hs (a := K[i]) (by omega) (v := (s.A K[i]).getD 0) rfl
    have hfin := ih (i + 1) (by omega)
    rw [← hstep] at hfin
    refine Ev.step (fun k => by rw [laws_FnLedger.l0]) ?_
    refine evT (by omega) (evT (by omega) (evT (by omega) ?_))
    rw [hr, w64s i (by omega)]
    refine evT rfl (evT (by simp) (evF (by show ¬ (s.A K[i]).getD 0 < 1; omega) ?_))
    by_cases c : (i : Int) > 0
    · have hw : wrap64 ((i : Int) - 1) = ((i - 1 : Nat) : Int) := by rw [w64 (by omega) (by omega)]; omega
      have hlt : K[i - 1] < K[i] := by
        have hp := lk_pair s.A 201
        rw [← hK, List.pairwise_iff_getElem] at hp
        exact hp (i - 1) i (by omega) hiK (by omega)
      refine evT c (evT (by simp) ?_)
      rw [hw, hrow (i - 1) (by omega)]
      refine evT (by omega) (evT (by omega) (evT (by simp) (evF (by show ¬ K[i] ≤ K[i - 1]; omega) (Ev.bind ha (evT rfl hfin)))))
    · exact evF c (evT (by simp) (Ev.bind ha (evT rfl hfin)))
theorem FnLedger : ∀ (l0 : List (Int)), (l0.length ≤ 9223372036854775807 ∧ ∀ x ∈ l0, (Lit.int .u8 x).wf = true) → ∃ k, laws_FnLedger.f k l0 = some true := by
  intro l0 g0
  refine Ev.rounds (g := fun k => laws_FnLedger.f k l0) ?_
  by_cases h : (l0.length : Int) > 1048576
  · unfold laws_FnLedger.f; exact evT h (evSome _)
  have hL : l0.length ≤ 1048576 := by omega
  obtain ⟨l, eL, hl, s, hs⟩ := dr_ledger l0 hL 0 (by omega)
  replace eL : Ev (fun k => spec_MakeLedger.f k l0 0) l := eL
  have hI := (llSt_inv l.length (by omega) hs).1
  obtain ⟨n, hn, hn1, hn2, nU, nA⟩ := hI.next (by omega)
  have hsum := hI.sum
  have hhi := hI.hi
  have hnn := hI.nn
  have hT := (lT_ge s.A (fun j a ha => (hI.dom j a ha).2.2.1) 201).1
  have hJ : Ev (fun k => laws_FnLedger.j0 k l (impl_SheetsAfter.sheetsOf s.A) [s.b1, s.b2, s.b3, lT s.A 201] false) true := by
    refine Ev.step (fun k => by rw [laws_FnLedger.j0]) ?_
    exact evF (by decide) (fl_l0 l s n hl hs hn hn1 hn2 nU nA _ _ _ rfl rfl rfl (impl_SheetsAfter.sheetsOf s.A).length 0 (by omega))
  have hw : wrap64 (wrap64 (s.b2 + s.b3) + lT s.A 201) = s.b1 := by rw [w64 (x := s.b2 + s.b3) (by omega) (by omega), w64 (by omega) (by omega)]; omega
  unfold laws_FnLedger.f
  refine evF h (Ev.bind eL (Ev.bind (ll_sheets (by omega) hs) (Ev.bind (ll_totals (by omega) hs) (evT rfl (Ev.bind (ll_ok (by omega) hs) (evT rfl (Ev.bind (ll_first (by omega) hs) (evT rfl (evT (by simp) (evT (by simp) (evT (by simp) (evT (by simp) (evT (by simp) ?_)))))))))))))
  rw [show rd [s.b1, s.b2, s.b3, lT s.A 201] 0 = s.b1 from rfl, show rd [s.b1, s.b2, s.b3, lT s.A 201] 1 = s.b2 from rfl, show rd [s.b1, s.b2, s.b3, lT s.A 201] 2 = s.b3 from rfl, show rd [s.b1, s.b2, s.b3, lT s.A 201] 3 = lT s.A 201 from rfl, hw, show (s.b1 != s.b1) = false from bne_self_eq_false s.b1]
  exact hJ

end Go.Proofs.Ytpmpcaahbhdiiaa.Pure
