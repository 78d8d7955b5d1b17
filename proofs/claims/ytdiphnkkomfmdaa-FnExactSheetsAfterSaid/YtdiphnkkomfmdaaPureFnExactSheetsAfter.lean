/- FnExactSheetsAfter: for every list of lists of ints, SheetsAfter of the program and of the reference answer alike, in rows of their own, and leave the argument as it is. No condition. -/
import Derived.Test.YtdiphnkkomfmdaaQFnExactSheetsAfterx6
import Derived.Test.YtdiphnkkomfmdaaOpens
namespace Go.Proofs.Ytdiphnkkomfmdaa.Pure
open Go.RowKit Go.Proofs.Ytdiphnkkomfmdaa Go.Proofs.Ytdiphnkkomfmdaa.QFnExactSheetsAfter Go.Proofs.YtdiphnkkomfmdaaW.PrintWords Go.Proofs.YtdiphnkkomfmdaaW.PrintLast
set_option linter.unusedVariables false
set_option linter.unusedSimpArgs false

/-! base -/
theorem w64 {x : Int} (h0 : -9223372036854775808 ≤ x) (h1 : x ≤ 9223372036854775807) : wrap64 x = x := by unfold wrap64; omega
theorem w64n (n : Nat) (h : n ≤ 9223372036854775807) : wrap64 (n : Int) = n := w64 (by omega) (by omega)
theorem w64s (n : Nat) (h : n < 9223372036854775807) : wrap64 ((n : Int) + 1) = ((n + 1 : Nat) : Int) := by rw [w64 (by omega) (by omega)]; omega
theorem evSome {α : Type} (r : α) : Ev (fun _ : Nat => some r) r := ⟨0, fun _ _ => rfl⟩
theorem evOf {α : Type} {f : Option α} {r : α} (h : f = some r) : Ev (fun _ : Nat => f) r := ⟨0, fun _ _ => h⟩
theorem evUniq {α : Type} {g : Nat → Option α} {r q : α} (h : Ev g r) (k : Ev g q) : r = q := by
  obtain ⟨a, ha⟩ := h
  obtain ⟨b, hb⟩ := k
  have h1 := ha (a + b) (by omega)
  rw [hb (a + b) (by omega)] at h1
  exact (Option.some.inj h1).symm
theorem evIf {α : Type} {c : Prop} [Decidable c] {f g : Nat → Option α} {r : α} (hp : c → Ev f r) (hn : ¬ c → Ev g r) : Ev (fun k => if c then f k else g k) r := by
  by_cases h : c
  · simp only [if_pos h]; exact hp h
  · simp only [if_neg h]; exact hn h
theorem evT {α : Type} {c : Prop} [Decidable c] {f g : Nat → Option α} {r : α} (h : c) (hp : Ev f r) : Ev (fun k => if c then f k else g k) r := by
  simp only [if_pos h]; exact hp
theorem evF {α : Type} {c : Prop} [Decidable c] {f g : Nat → Option α} {r : α} (h : ¬ c) (hp : Ev g r) : Ev (fun k => if c then f k else g k) r := by
  simp only [if_neg h]; exact hp
theorem evB {α β : Type} {f : Option α} {g : Nat → α → Option β} {a : α} {r : β} (h : f = some a) (k : Ev (fun n => g n a) r) : Ev (fun n => f.bind (g n)) r := by
  subst h
  exact k
theorem getD_eq {α : Type} (l : List α) (i : Nat) (z : α) (h : i < l.length) : l.getD i z = l[i] := by
  rw [List.getD_eq_getElem?_getD, List.getElem?_eq_getElem h]; rfl
theorem take_succ' {α : Type} (l : List α) (i : Nat) (h : i < l.length) : l.take (i + 1) = l.take i ++ [l[i]] := by
  rw [List.take_succ_eq_append_getElem h]
theorem set_fill {α : Type} (l : List α) (z x : α) (i d : Nat) (hi : l.length = i) : (l ++ List.replicate (d + 1) z).set i x = l ++ [x] ++ List.replicate d z := by
  subst hi
  rw [List.set_append_right _ _ (Nat.le_refl _), Nat.sub_self, List.replicate_succ, List.set_cons_zero, List.append_assoc]
  rfl
theorem drop_cons {α : Type} (l : List α) (i : Nat) (h : i < l.length) : l.drop i = l[i] :: l.drop (i + 1) := List.drop_eq_getElem_cons h
/-! laws_toIntS -/
theorem toIntS_l0 (l : List Int) (hl : l.length ≤ 9223372036854775806) : ∀ d i : Nat, i + d = l.length → Ev (fun k => laws_toIntS.l0 k l (l.take i ++ List.replicate d 0) (i : Int)) l := by
  intro d
  induction d with
  | zero =>
    intro i hi
    refine Ev.step (fun k => by rw [laws_toIntS.l0]) ?_
    refine evF (by omega) ?_
    have : l.take i ++ List.replicate 0 0 = l := by rw [List.take_of_length_le (by omega)]; simp
    rw [this]
    exact evSome _
  | succ d ih =>
    intro i hi
    refine Ev.step (fun k => by rw [laws_toIntS.l0]) ?_
    refine evT (by omega) (evT (by omega) (evT (by simp; omega) ?_))
    rw [w64s i (by omega), show ((i : Int)).toNat = i from by omega, set_fill _ _ _ _ _ (by rw [List.length_take]; omega)]
    have h2 : rd l (i : Int) = l[i] := by unfold rd; rw [show ((i : Int)).toNat = i from by omega]; exact getD_eq _ _ _ (by omega)
    rw [h2, ← take_succ' l i (by omega)]
    exact ih (i + 1) (by omega)
theorem toIntS_ev (l : List Int) (hl : l.length ≤ 1048576) : Ev (fun k => laws_toIntS.f k l) l := by
  unfold laws_toIntS.f
  refine evT (by omega) (evT (by omega) ?_)
  have h := toIntS_l0 l (by omega) l.length 0 (by omega)
  simpa using h
/-! laws_toIntSS -/
theorem toIntSS_l0 (l : List (List Int)) (hl : l.length ≤ 1048576) (hx : ∀ x ∈ l, x.length ≤ 1048576) : ∀ d i : Nat, i + d = l.length → Ev (fun k => laws_toIntSS.l0 k l (l.take i ++ List.replicate d []) (i : Int)) l := by
  intro d
  induction d with
  | zero =>
    intro i hi
    refine Ev.step (fun k => by rw [laws_toIntSS.l0]) ?_
    refine evF (by omega) ?_
    have : l.take i ++ List.replicate 0 [] = l := by rw [List.take_of_length_le (by omega)]; simp
    rw [this]
    exact evSome _
  | succ d ih =>
    intro i hi
    have h2 : rd_L1 l (i : Int) = l[i] := by unfold rd_L1; rw [show ((i : Int)).toNat = i from by omega]; exact getD_eq _ _ _ (by omega)
    refine Ev.step (fun k => by rw [laws_toIntSS.l0]) ?_
    refine evT (by omega) (evT (by omega) ?_)
    rw [h2]
    refine Ev.bind (toIntS_ev _ (hx _ (List.getElem_mem _))) ?_
    refine evT (by simp; omega) ?_
    rw [w64s i (by omega), show ((i : Int)).toNat = i from by omega, set_fill _ _ _ _ _ (by rw [List.length_take]; omega)]
    rw [← take_succ' l i (by omega)]
    exact ih (i + 1) (by omega)
theorem toIntSS_ev (l : List (List Int)) (hl : l.length ≤ 1048576) (hx : ∀ x ∈ l, x.length ≤ 1048576) : Ev (fun k => laws_toIntSS.f k l) l := by
  unfold laws_toIntSS.f
  refine evT (by omega) (evT (by omega) ?_)
  have h := toIntSS_l0 l hl hx l.length 0 (by omega)
  simpa using h
/-! laws_szIntS -/
theorem szIntS_ev (l : List Int) (a : Int) (ha : 0 ≤ a) (ha2 : a ≤ 1048576) (hl : l.length ≤ 9223372036854775807) : (laws_szIntS.f l a = some (-1)) ∨ (laws_szIntS.f l a = some (a - l.length) ∧ 0 ≤ a - (l.length : Int)) := by
  unfold laws_szIntS.f
  rw [w64 (x := a - (l.length : Int)) (by omega) (by omega)]
  by_cases h : a - (l.length : Int) < 0
  · exact .inl (if_pos h)
  · exact .inr ⟨if_neg h, by omega⟩
/-! laws_szIntSS -/
theorem szIntSS_l0 (l : List (List Int)) (hl : l.length ≤ 1048576) (hx : ∀ x ∈ l, x.length ≤ 9223372036854775807) : ∀ d i : Nat, i + d = l.length → ∀ a : Int, 0 ≤ a → a ≤ 1048576 →
    Ev (fun k => laws_szIntSS.l0 k l a (i : Int)) (-1) ∨ ∃ b : Int, Ev (fun k => laws_szIntSS.l0 k l a (i : Int)) b ∧ 0 ≤ b ∧ b ≤ a ∧ ∀ x ∈ l.drop i, x.length ≤ 1048576 := by
  intro d
  induction d with
  | zero =>
    intro i hi a ha ha2
    refine .inr ⟨a, ?_, ha, by omega, by rw [List.drop_of_length_le (by omega)]; simp⟩
    refine Ev.step (fun k => by rw [laws_szIntSS.l0]) ?_
    exact evF (by omega) (evSome _)
  | succ d ih =>
    intro i hi a ha ha2
    have h2 : rd_L1 l (i : Int) = l[i] := by unfold rd_L1; rw [show ((i : Int)).toNat = i from by omega]; exact getD_eq _ _ _ (by omega)
    rcases szIntS_ev l[i] a ha ha2 (hx _ (List.getElem_mem _)) with h | ⟨h, h0⟩
    · left
      refine Ev.step (fun k => by rw [laws_szIntSS.l0]) ?_
      refine evT (by omega) (evT (by omega) ?_)
      rw [h2]
      exact evB h (evT (by omega) (evSome _))
    · rcases ih (i + 1) (by omega) (a - (l[i].length : Int)) h0 (by omega) with h3 | ⟨b, h3, hb0, hba, hd⟩
      · left
        refine Ev.step (fun k => by rw [laws_szIntSS.l0]) ?_
        refine evT (by omega) (evT (by omega) ?_)
        rw [h2]
        refine evB h (evF (by omega) ?_)
        rw [w64s i (by omega)]
        exact h3
      · right
        refine ⟨b, ?_, hb0, by omega, ?_⟩
        · refine Ev.step (fun k => by rw [laws_szIntSS.l0]) ?_
          refine evT (by omega) (evT (by omega) ?_)
          rw [h2]
          refine evB h (evF (by omega) ?_)
          rw [w64s i (by omega)]
          exact h3
        · rw [drop_cons l i (by omega)]
          intro x hxm
          rcases List.mem_cons.1 hxm with rfl | hxm
          · omega
          · exact hd x hxm
theorem szIntSS_ev (l : List (List Int)) (a : Int) (ha : 0 ≤ a) (ha2 : a ≤ 1048576) (hl : l.length ≤ 9223372036854775807) (hx : ∀ x ∈ l, x.length ≤ 9223372036854775807) :
    Ev (fun k => laws_szIntSS.f k l a) (-1) ∨ ∃ b : Int, Ev (fun k => laws_szIntSS.f k l a) b ∧ 0 ≤ b ∧ b ≤ a ∧ l.length ≤ 1048576 ∧ ∀ x ∈ l, x.length ≤ 1048576 := by
  unfold laws_szIntSS.f
  rw [w64 (x := a - (l.length : Int)) (by omega) (by omega)]
  by_cases h : a - (l.length : Int) < 0
  · exact .inl (evT h (evSome _))
  · rcases szIntSS_l0 l (by omega) hx l.length 0 (by omega) (a - (l.length : Int)) (by omega) (by omega) with h3 | ⟨b, h3, hb0, hba, hd⟩
    · exact .inl (evF h h3)
    · exact .inr ⟨b, evF h h3, hb0, by omega, by omega, by simpa using hd⟩
/-! laws_eqIntS -/
theorem eqIntS_l0 (l : List Int) (hl : l.length ≤ 9223372036854775806) : ∀ d i : Nat, i + d = l.length → Ev (fun k => laws_eqIntS.l0 k l l (i : Int)) true := by
  intro d
  induction d with
  | zero =>
    intro i hi
    refine Ev.step (fun k => by rw [laws_eqIntS.l0]) ?_
    exact evF (by omega) (evSome _)
  | succ d ih =>
    intro i hi
    refine Ev.step (fun k => by rw [laws_eqIntS.l0]) ?_
    refine evT (by omega) (evT (by omega) (evT (by omega) (evT rfl ?_)))
    rw [w64s i (by omega)]
    exact ih (i + 1) (by omega)
theorem eqIntS_ev (l : List Int) (hl : l.length ≤ 1048576) : Ev (fun k => laws_eqIntS.f k l l) true := by
  unfold laws_eqIntS.f
  exact evT rfl (by simpa using eqIntS_l0 l (by omega) l.length 0 (by omega))
/-! laws_eqIntSS -/
theorem eqIntSS_l0 (l : List (List Int)) (hl : l.length ≤ 9223372036854775806) (hx : ∀ x ∈ l, x.length ≤ 1048576) : ∀ d i : Nat, i + d = l.length → Ev (fun k => laws_eqIntSS.l0 k l l (i : Int)) true := by
  intro d
  induction d with
  | zero =>
    intro i hi
    refine Ev.step (fun k => by rw [laws_eqIntSS.l0]) ?_
    exact evF (by omega) (evSome _)
  | succ d ih =>
    intro i hi
    have h2 : rd_L1 l (i : Int) = l[i] := by unfold rd_L1; rw [show ((i : Int)).toNat = i from by omega]; exact getD_eq _ _ _ (by omega)
    refine Ev.step (fun k => by rw [laws_eqIntSS.l0]) ?_
    refine evT (by omega) (evT (by omega) (evT (by omega) ?_))
    rw [h2]
    refine Ev.bind (eqIntS_ev _ (hx _ (List.getElem_mem _))) (evT rfl ?_)
    rw [w64s i (by omega)]
    exact ih (i + 1) (by omega)
theorem eqIntSS_ev (l : List (List Int)) (hl : l.length ≤ 1048576) (hx : ∀ x ∈ l, x.length ≤ 1048576) : Ev (fun k => laws_eqIntSS.f k l l) true := by
  unfold laws_eqIntSS.f
  exact evT rfl (by simpa using eqIntSS_l0 l (by omega) hx l.length 0 (by omega))
/-! l01In -/
theorem l01In_t {a lo hi : Int} (h0 : lo ≤ a) (h1 : a ≤ hi) : spec_l01In.f a lo hi = some true := by unfold spec_l01In.f; rw [if_pos h0]; simp [h1]
theorem l01In_f {a lo hi : Int} (h : ¬ (lo ≤ a ∧ a ≤ hi)) : spec_l01In.f a lo hi = some false := by
  unfold spec_l01In.f
  by_cases h0 : lo ≤ a
  · rw [if_pos h0]; simp; omega
  · rw [if_neg h0]
theorem l01In_eq (a lo hi : Int) : spec_l01In.f a lo hi = some (decide (lo ≤ a ∧ a ≤ hi)) := by
  by_cases h : lo ≤ a ∧ a ≤ hi
  · rw [l01In_t h.1 h.2]; simp [h]
  · rw [l01In_f h]; simp; omega
/-! down -/
theorem down {P : Nat → Prop} (n : Nat) (h0 : P n) (hs : ∀ i, i < n → P (i + 1) → P i) : ∀ i, i ≤ n → P i := by
  intro i hi
  obtain ⟨d, hd⟩ : ∃ d, i + d = n := ⟨n - i, by omega⟩
  induction d generalizing i with
  | zero => have : i = n := by omega
            subst this; exact h0
  | succ d ih => exact hs i (by omega) (ih (i + 1) (by omega) (by omega))
/-! rdI -/
theorem rdI (l : List Int) (i : Nat) (h : i < l.length) : rd l (i : Int) = l[i] := by
  unfold rd; rw [show ((i : Int)).toNat = i from by omega]; exact getD_eq _ _ _ h
/-! marks -/
def marks (m : Nat) (n : Nat) : List Int := (List.range n).map (fun i => ((m + i : Nat) : Int))
theorem marks_length (m n : Nat) : (marks m n).length = n := by simp [marks]
theorem marks_get (m n i : Nat) (h : i < (marks m n).length) : (marks m n)[i] = ((m + i : Nat) : Int) := by simp [marks]
/-! laws_markIntS -/
theorem set_mid {α : Type} (a b : List α) (x : α) (i : Nat) (hi : a.length = i) (hb : i < b.length) : (a ++ b.drop i).set i x = (a ++ [x]) ++ b.drop (i + 1) := by
  subst hi
  rw [List.set_append_right _ _ (Nat.le_refl _), Nat.sub_self, List.drop_eq_getElem_cons hb, List.set_cons_zero, List.append_assoc]
  rfl
theorem marks_succ (m i : Nat) : marks m (i + 1) = marks m i ++ [((m + i : Nat) : Int)] := by simp [marks, List.range_succ]
theorem markIntS_l0 (l : List Int) (m : Nat) (hm : m + l.length ≤ 9223372036854775806) : ∀ i, i ≤ l.length → Ev (fun k => laws_markIntS.l0 k (marks m i ++ l.drop i) ((m + i : Nat) : Int) (i : Int)) (((m + l.length : Nat) : Int), marks m l.length) := by
  refine down l.length ?_ ?_
  · refine Ev.step (fun k => by rw [laws_markIntS.l0]) ?_
    refine evF (by simp [marks]) ?_
    rw [List.drop_length, List.append_nil]
    exact evSome _
  · intro i hi ih
    refine Ev.step (fun k => by rw [laws_markIntS.l0]) ?_
    refine evT (by simp [marks]; omega) (evT (by omega) ?_)
    rw [w64s i (by omega), w64s (m + i) (by omega), show ((i : Int)).toNat = i from by omega, set_mid _ _ _ _ (marks_length m i) hi, ← marks_succ]
    exact ih
theorem markIntS_ev (l : List Int) (m : Nat) (hm : m + l.length ≤ 9223372036854775806) : Ev (fun k => laws_markIntS.f k l (m : Int)) (((m + l.length : Nat) : Int), marks m l.length) := by
  unfold laws_markIntS.f
  have h := markIntS_l0 l m hm 0 (by omega)
  simpa [marks] using h
/-! laws_heldIntS -/
theorem heldIntS_l0 (m n : Nat) (hm : m + n ≤ 9223372036854775806) : ∀ i, i ≤ n → Ev (fun k => laws_heldIntS.l0 k (marks m n) ((m + i : Nat) : Int) (i : Int)) ((m + n : Nat) : Int) := by
  refine down n ?_ ?_
  · refine Ev.step (fun k => by rw [laws_heldIntS.l0]) ?_
    exact evF (by simp [marks]) (evSome _)
  · intro i hi ih
    refine Ev.step (fun k => by rw [laws_heldIntS.l0]) ?_
    refine evT (by simp [marks]; omega) (evT (by omega) (evT ?_ ?_))
    · rw [rdI _ i (by simp [marks]; omega), marks_get]
    · rw [w64s i (by omega), w64s (m + i) (by omega)]
      exact ih
theorem heldIntS_ev (m n : Nat) (hm : m + n ≤ 9223372036854775806) : Ev (fun k => laws_heldIntS.f k (marks m n) (m : Int)) ((m + n : Nat) : Int) := by
  unfold laws_heldIntS.f
  exact heldIntS_l0 m n hm 0 (by omega)
/-! relBase -/
theorem rd_set' (l : List Int) {m : Int} (x : Int) (h0 : 0 ≤ m) (h1 : m < l.length) (j : Int) (hj : 0 ≤ j) : rd (l.set m.toNat x) j = if j = m then x else rd l j := by
  unfold rd
  rw [List.getD_eq_getElem?_getD, List.getD_eq_getElem?_getD, List.getElem?_set]
  by_cases e : j = m
  · subst e
    rw [if_pos rfl, if_pos (by omega), if_pos rfl]
    rfl
  · rw [if_neg (by omega), if_neg e]
theorem countP_set_le (p : Int → Bool) : ∀ (l : List Int) (i : Nat) (x : Int), (l.set i x).countP p ≤ l.countP p + 1
  | [], _, _ => by simp
  | y :: t, 0, x => by
    simp only [List.set_cons_zero, List.countP_cons]
    split <;> split <;> omega
  | y :: t, i + 1, x => by
    have := countP_set_le p t i x
    simp only [List.set_cons_succ, List.countP_cons]
    split <;> omega
theorem countP_set_same (p : Int → Bool) : ∀ (l : List Int) (i : Nat) (x : Int), p (l.getD i 0) = true → (l.set i x).countP p ≤ l.countP p
  | [], _, _, _ => by simp
  | y :: t, 0, x, h => by
    have h : p y = true := by simpa using h
    simp only [List.set_cons_zero, List.countP_cons, h]
    split <;> simp
  | y :: t, i + 1, x, h => by
    have := countP_set_same p t i x (by simpa using h)
    simp only [List.set_cons_succ, List.countP_cons]
    omega
structure Rel (B : Int) (c : Nat) (st : List Int) (A : Int → Option Int) (U : Int → Bool) : Prop where
  len : st.length = 100
  z : rd st 0 = 0
  a : ∀ j, A j = if 1 ≤ j ∧ j ≤ 99 ∧ 0 < rd st j then some (rd st j) else none
  u : ∀ j, U j = decide (1 ≤ j ∧ j ≤ 99 ∧ rd st j ≠ 0)
  lo : ∀ j, 1 ≤ j → j ≤ 99 → -1 ≤ rd st j
  hi : ∀ j, 1 ≤ j → j ≤ 99 → rd st j ≤ B
  cnt : st.countP (fun x => x != 0) ≤ c
theorem Rel.mono {B B' : Int} {c c' : Nat} {st A U} (h : Rel B c st A U) (hB : B ≤ B') (hc : c ≤ c') : Rel B' c' st A U :=
  ⟨h.len, h.z, h.a, h.u, h.lo, fun j h0 h1 => Int.le_trans (h.hi j h0 h1) hB, Nat.le_trans h.cnt hc⟩
theorem Rel.start : Rel 1000 0 (List.replicate 100 0) (fun _ => none) (fun _ => false) := by
  have hz : ∀ j, rd (List.replicate 100 0) j = 0 := fun j => by
    unfold rd
    rw [List.getD_eq_getElem?_getD, List.getElem?_replicate]
    split <;> rfl
  exact ⟨by simp, hz 0, fun j => by rw [hz]; simp, fun j => by rw [hz]; simp, fun j _ _ => by rw [hz]; omega, fun j _ _ => by rw [hz]; omega, by decide⟩
theorem Rel.new {B B' : Int} {c : Nat} {st A U} (h : Rel B c st A U) {m x : Int} (h0 : 1 ≤ m) (h1 : m ≤ 99) (hx : 0 < x) (hB : x ≤ B') (hBB : B ≤ B') :
    Rel B' (c + 1) (st.set m.toNat x) (Ledger.upd A m (some x)) (Ledger.upd U m true) := by
  have hl := h.len
  have hs := fun j (hj : 0 ≤ j) => rd_set' st x (by omega : 0 ≤ m) (by omega) j hj
  refine ⟨by rw [List.length_set]; exact hl, by rw [hs 0 (by omega), if_neg (by omega)]; exact h.z, fun j => ?_, fun j => ?_, fun j g0 g1 => ?_, fun j g0 g1 => ?_, Nat.le_trans (countP_set_le _ _ _ _) (by have := h.cnt; omega)⟩
  · by_cases e : j = m
    · subst e
      rw [Ledger.upd_same, hs j (by omega), if_pos rfl, if_pos ⟨h0, h1, hx⟩]
    · rw [Ledger.upd_other _ _ e, h.a j]
      by_cases g : 1 ≤ j
      · rw [hs j (by omega), if_neg e]
      · rw [if_neg (by omega), if_neg (by omega)]
  · by_cases e : j = m
    · subst e
      rw [Ledger.upd_same, hs j (by omega), if_pos rfl]
      simp
      omega
    · rw [Ledger.upd_other _ _ e, h.u j]
      by_cases g : 1 ≤ j
      · rw [hs j (by omega), if_neg e]
      · simp [g]
  · rw [hs j (by omega)]
    split
    · omega
    · exact h.lo j g0 g1
  · rw [hs j (by omega)]
    split
    · exact hB
    · exact Int.le_trans (h.hi j g0 g1) hBB
theorem Rel.turn {B B' : Int} {c : Nat} {st A U} (h : Rel B c st A U) {m x : Int} {v : Option Int} (h0 : 1 ≤ m) (h1 : m ≤ 99) (hm : rd st m ≠ 0) (hx : -1 ≤ x) (hx0 : x ≠ 0) (hB : x ≤ B') (hBB : B ≤ B') (hv : v = if 0 < x then some x else none) :
    Rel B' c (st.set m.toNat x) (Ledger.upd A m v) U := by
  have hl := h.len
  have hs := fun j (hj : 0 ≤ j) => rd_set' st x (by omega : 0 ≤ m) (by omega) j hj
  refine ⟨by rw [List.length_set]; exact hl, by rw [hs 0 (by omega), if_neg (by omega)]; exact h.z, fun j => ?_, fun j => ?_, fun j g0 g1 => ?_, fun j g0 g1 => ?_, Nat.le_trans (countP_set_same _ _ _ _ (show (rd st m != 0) = true from bne_iff_ne.mpr hm)) h.cnt⟩
  · by_cases e : j = m
    · subst e
      rw [Ledger.upd_same, hs j (by omega), if_pos rfl, hv]
      by_cases g : 0 < x
      · rw [if_pos g, if_pos ⟨h0, h1, g⟩]
      · rw [if_neg g, if_neg (by omega)]
    · rw [Ledger.upd_other _ _ e, h.a j]
      by_cases g : 1 ≤ j
      · rw [hs j (by omega), if_neg e]
      · rw [if_neg (by omega), if_neg (by omega)]
  · rw [h.u j]
    by_cases e : j = m
    · subst e
      rw [hs j (by omega), if_pos rfl]
      simp [hm, hx0]
    · by_cases g : 1 ≤ j
      · rw [hs j (by omega), if_neg e]
      · simp [g]
  · rw [hs j (by omega)]
    split
    · exact hx
    · exact h.lo j g0 g1
  · rw [hs j (by omega)]
    split
    · exact hB
    · exact Int.le_trans (h.hi j g0 g1) hBB
theorem first_zero (st : List Int) : ∀ (d : Nat) (i : Int), (∃ j, i ≤ j ∧ j < i + d ∧ rd st j = 0) → ∃ f, i ≤ f ∧ f < i + d ∧ rd st f = 0 ∧ ∀ m, i ≤ m → m < f → rd st m ≠ 0 := by
  intro d
  induction d with
  | zero => rintro i ⟨j, h0, h1, _⟩; omega
  | succ d ih =>
    rintro i ⟨j, h0, h1, h2⟩
    by_cases e : rd st i = 0
    · exact ⟨i, by omega, by omega, e, fun m g0 g1 => by omega⟩
    · have hj : j ≠ i := fun e' => e (by rw [← e']; exact h2)
      obtain ⟨f, f0, f1, f2, f3⟩ := ih (i + 1) ⟨j, by omega, by omega, h2⟩
      refine ⟨f, by omega, by omega, f2, fun m g0 g1 => ?_⟩
      by_cases e' : m = i
      · rw [e']; exact e
      · exact f3 m (by omega) g1
theorem Rel.free {B : Int} {c : Nat} {st A U} (h : Rel B c st A U) (hc : c ≤ 98) : ∃ f, 1 ≤ f ∧ f ≤ 99 ∧ rd st f = 0 ∧ ∀ m, 1 ≤ m → m < f → rd st m ≠ 0 := by
  by_cases hh : ∃ j : Int, 1 ≤ j ∧ j < 1 + (99 : Nat) ∧ rd st j = 0
  · obtain ⟨f, f0, f1, f2, f3⟩ := first_zero st 99 1 hh
    exact ⟨f, f0, by omega, f2, f3⟩
  · exfalso
    have hl := h.len
    have hcn := h.cnt
    cases st with
    | nil => simp at hl
    | cons x t =>
      have ht : t.length = 99 := by simpa using hl
      have hall : t.countP (fun x => x != 0) = t.length := by
        rw [List.countP_eq_length]
        intro y hy
        obtain ⟨i, hi, rfl⟩ := List.getElem_of_mem hy
        simp only [bne_iff_ne]
        intro e
        refine hh ⟨(i : Int) + 1, by omega, by omega, ?_⟩
        unfold rd
        rw [show ((i : Int) + 1).toNat = i + 1 by omega, List.getD_cons_succ, List.getD_eq_getElem?_getD, List.getElem?_eq_getElem hi]
        exact e
      have : t.countP (fun x => x != 0) ≤ (x :: t).countP (fun x => x != 0) := by
        rw [List.countP_cons]; omega
      omega
theorem nxtf_eq (U : Int → Bool) : ∀ (fuel : Nat) (i f : Int), i ≤ f → f < i + fuel → U f = false → (∀ m, i ≤ m → m < f → U m = true) → Ledger.nxtf U fuel i = some f
  | 0, i, f, h0, h1, _, _ => by omega
  | fuel + 1, i, f, h0, h1, h2, h3 => by
    rw [Ledger.nxtf]
    by_cases e : i = f
    · subst e
      rw [h2]
      rfl
    · rw [h3 i (by omega) (by omega), if_pos rfl]
      exact nxtf_eq U fuel (i + 1) f (by omega) (by omega) h2 (fun m g0 g1 => h3 m (by omega) g1)
theorem Rel.next {B : Int} {c : Nat} {st A U} (h : Rel B c st A U) {f : Int} (h0 : 1 ≤ f) (h1 : f ≤ 99) (h2 : rd st f = 0) (h3 : ∀ m, 1 ≤ m → m < f → rd st m ≠ 0) : Ledger.nxtf U 200 1 = some f :=
  nxtf_eq U 200 1 f h0 (by omega) (by rw [h.u]; simp [h2]) (fun m g0 g1 => by rw [h.u]; simp [h3 m g0 g1]; omega)
/-! l26Free -/
theorem l26Free_l0 (st : List Int) (hl : st.length = 100) (f : Int) (h1 : f ≤ 99) (h2 : rd st f = 0) (h3 : ∀ m, 1 ≤ m → m < f → rd st m ≠ 0) :
    ∀ (d : Nat) (i : Int), 1 ≤ i → i + d = f → Ev (fun k => spec_l26Free.l0 k st i) f := by
  intro d
  induction d with
  | zero =>
    intro i hi hd
    obtain rfl : i = f := by omega
    refine Ev.step (fun k => by rw [spec_l26Free.l0]) ?_
    exact evT (by omega) (evT (by omega) (evT h2 (evSome _)))
  | succ d ih =>
    intro i hi hd
    refine Ev.step (fun k => by rw [spec_l26Free.l0]) ?_
    refine evT (by omega) (evT (by omega) (evF (h3 i hi (by omega)) ?_))
    rw [w64 (by omega) (by omega)]
    exact ih (i + 1) (by omega) (by omega)
theorem l26Free_ev (st : List Int) (hl : st.length = 100) {f : Int} (h0 : 1 ≤ f) (h1 : f ≤ 99) (h2 : rd st f = 0) (h3 : ∀ m, 1 ≤ m → m < f → rd st m ≠ 0) : Ev (fun k => spec_l26Free.f k st) f := by
  unfold spec_l26Free.f
  exact l26Free_l0 st hl f h1 h2 h3 (f - 1).toNat 1 (by omega) (by omega)
/-! l26Step -/
theorem j0_true (st e : List Int) : Ev (fun k => spec_l26Step.j0 k st e true) (false, st) := by
  refine Ev.step (fun k => by rw [spec_l26Step.j0]) ?_
  exact evT rfl (evSome _)
theorem step_ev {B : Int} {c : Nat} {st : List Int} {s : Ledger.Bk} (R : Rel B c st s.A s.U) (hc : c ≤ 40) (hB : 1000 ≤ B) (hB2 : B ≤ 4000000000000000000) (e : List Int) :
    ∃ o st', Ledger.addf s e = some o ∧ Ev (fun k => spec_l26Step.f k st e) (o.isSome, st') ∧ ∀ s', o = some s' → e.length = 3 ∧ Rel (2 * B) (c + 1) st' s'.A s'.U := by
  have hl := R.len
  unfold spec_l26Step.f Ledger.addf
  by_cases c1 : e.length = 3
  · rw [if_pos c1]
    have e0 : (0 : Int) < (e.length : Int) := by omega
    have e1 : (1 : Int) < (e.length : Int) := by omega
    have e2 : (2 : Int) < (e.length : Int) := by omega
    have e3 : (e.length : Int) = 3 := by omega
    have hj : ∀ b, Ev (fun k => spec_l26Step.j0 k st e b) (if b = true then (false, st) else (false, st)) → True := fun _ _ => trivial
    by_cases k5 : 1 ≤ rd e 0 ∧ rd e 0 ≤ 5
    · by_cases m9 : 1 ≤ rd e 1 ∧ rd e 1 ≤ 99
      · rw [if_pos m9]
        have hA := R.a (rd e 1)
        have hU := R.u (rd e 1)
        have hlo := R.lo (rd e 1) m9.1 m9.2
        have hhi := R.hi (rd e 1) m9.1 m9.2
        by_cases ar : rd e 0 ≠ 5 ∧ ¬ (1 ≤ rd e 2 ∧ rd e 2 ≤ 1000)
        · rw [if_pos ar]
          exact ⟨none, st, rfl, evT e3 (evT e0 (evB (l01In_t k5.1 k5.2) (evT rfl (evT e1 (evB (l01In_t m9.1 m9.2) (evT rfl (evT e2 (evB (l01In_f ar.2) (evF (by simp) (evF ar.1 (j0_true st e))))))))))), fun s' h => by cases h⟩
        · rw [if_neg ar]
          by_cases a1 : rd e 2 < 1
          · rw [if_pos a1]
            have k55 : rd e 0 = 5 := Classical.byContradiction fun h => ar ⟨h, by omega⟩
            refine ⟨none, st, rfl, evT e3 (evT e0 (evB (l01In_t k5.1 k5.2) (evT rfl (evT e1 (evB (l01In_t m9.1 m9.2) (evT rfl (evT e2 (evB (l01In_f (by omega)) (evF (by simp) (evT k55 ?_)))))))))), fun s' h => by cases h⟩
            rw [decide_eq_true a1]
            exact j0_true st e
          · rw [if_neg a1]
            have ca : rd e 0 ≠ 5 → rd e 2 ≤ 1000 := fun h => Classical.byContradiction fun h' => ar ⟨h, by omega⟩
            -- both go on to j0 with false
            suffices hs : ∃ o st', (if (s.A (rd e 1)).isSome = (rd e 0 == 1) then some none
      else if rd e 0 = 1 then
        (if s.U (rd e 1) = true then some none else some (some { s with A := Ledger.upd s.A (rd e 1) (some (rd e 2)), U := Ledger.upd s.U (rd e 1) true, b1 := wrap64 (s.b1 + rd e 2) }))
      else if rd e 0 = 2 then
        (if rd e 2 ≥ (s.A (rd e 1)).getD 0 then some none else some (some { s with A := Ledger.upd s.A (rd e 1) (some (wrap64 ((s.A (rd e 1)).getD 0 - rd e 2))), b2 := wrap64 (s.b2 + rd e 2) }))
      else if rd e 0 = 3 then
        (if rd e 2 ≥ (s.A (rd e 1)).getD 0 then some none else (Ledger.nxtf s.U 200 1).bind fun n => if s.A n = none then some (some { s with A := Ledger.upd (Ledger.upd s.A (rd e 1) (some (wrap64 ((s.A (rd e 1)).getD 0 - rd e 2)))) n (some (rd e 2)), U := Ledger.upd s.U n true }) else none)
      else if rd e 0 = 4 then
        (if (s.A (rd e 2)).isSome = false then some none else if rd e 2 = rd e 1 then some none else some (some { s with A := Ledger.upd (Ledger.upd s.A (rd e 2) (some (wrap64 ((s.A (rd e 2)).getD 0 + (s.A (rd e 1)).getD 0)))) (rd e 1) none }))
      else if rd e 0 = 5 then
        (if rd e 2 ≠ (s.A (rd e 1)).getD 0 then some none else some (some { s with A := Ledger.upd s.A (rd e 1) none, b3 := wrap64 (s.b3 + rd e 2) }))
      else some none : Option (Option Ledger.Bk)) = some o ∧ Ev (fun k => spec_l26Step.j0 k st e false) (o.isSome, st') ∧ ∀ s', o = some s' → Rel (2 * B) (c + 1) st' s'.A s'.U by
              obtain ⟨o, st', h1, h2, h3⟩ := hs
              refine ⟨o, st', h1, evT e3 (evT e0 (evB (l01In_t k5.1 k5.2) (evT rfl (evT e1 (evB (l01In_t m9.1 m9.2) (evT rfl (evT e2 ?_))))))), fun s' h => ⟨c1, h3 s' h⟩⟩
              by_cases a2 : rd e 2 ≤ 1000
              · refine evB (l01In_t (by omega) a2) (evT rfl ?_)
                rw [decide_eq_false a1]
                exact h2
              · have k55 : rd e 0 = 5 := Classical.byContradiction fun h => a2 (ca h)
                refine evB (l01In_f (by omega)) (evF (by simp) (evT k55 ?_))
                rw [decide_eq_false a1]
                exact h2
            by_cases k1 : rd e 0 = 1
            · rw [if_pos k1]
              by_cases v0 : rd st (rd e 1) = 0
              · have n1 : s.A (rd e 1) = none := by rw [hA, if_neg (by omega)]
                have n2 : s.U (rd e 1) = false := by rw [hU]; simp [v0]
                rw [n1, n2, k1, if_neg (by simp), if_neg (by simp)]
                refine ⟨_, st.set (rd e 1).toNat (rd e 2), rfl, Ev.step (fun k => by rw [spec_l26Step.j0]) ?_, fun s' h => ?_⟩
                · exact evF (by simp) (evT e1 (evT e0 (evT k1 (evT (by omega) (evT (by omega) (evT v0 (evT e2 (evSome _))))))))
                · cases h
                  exact R.new m9.1 m9.2 (by omega) (by have := ca (by omega); omega) (by omega)
              · refine ⟨none, st, ?_, Ev.step (fun k => by rw [spec_l26Step.j0]) ?_, fun s' h => by cases h⟩
                · by_cases v1 : 0 < rd st (rd e 1)
                  · have n1 : (s.A (rd e 1)).isSome = true := by rw [hA, if_pos ⟨m9.1, m9.2, v1⟩]; rfl
                    rw [n1, k1, if_pos (by simp)]
                  · have n1 : s.A (rd e 1) = none := by rw [hA, if_neg (by omega)]
                    have n2 : s.U (rd e 1) = true := by rw [hU]; simp [v0, m9.1, m9.2]
                    rw [n1, n2, k1, if_neg (by simp), if_pos rfl]
                · exact evF (by simp) (evT e1 (evT e0 (evT k1 (evT (by omega) (evT (by omega) (evF v0 (evSome _)))))))
            · rw [if_neg k1]
              have kb : (rd e 0 == 1) = false := beq_eq_false_iff_ne.mpr k1
              rw [kb]
              by_cases v1 : rd st (rd e 1) ≤ 0
              · have n1 : s.A (rd e 1) = none := by rw [hA, if_neg (by omega)]
                rw [n1, if_pos (show (none : Option Int).isSome = false from rfl)]
                refine ⟨none, st, rfl, ?_, fun s' h => by cases h⟩
                refine Ev.step (fun k => by rw [spec_l26Step.j0]) ?_
                exact evF (by simp) (evT e1 (evT e0 (evF k1 (evT (by omega) (evT (by omega) (evT v1 (evSome _)))))))
              · have n1 : s.A (rd e 1) = some (rd st (rd e 1)) := by rw [hA, if_pos ⟨m9.1, m9.2, by omega⟩]
                rw [n1, if_neg (by simp)]
                simp only [Option.getD_some]
                suffices hs : ∃ o st', (if rd e 0 = 2 then
        (if rd e 2 ≥ rd st (rd e 1) then some none else some (some { s with A := Ledger.upd s.A (rd e 1) (some (wrap64 (rd st (rd e 1) - rd e 2))), b2 := wrap64 (s.b2 + rd e 2) }))
      else if rd e 0 = 3 then
        (if rd e 2 ≥ rd st (rd e 1) then some none else (Ledger.nxtf s.U 200 1).bind fun n => if s.A n = none then some (some { s with A := Ledger.upd (Ledger.upd s.A (rd e 1) (some (wrap64 (rd st (rd e 1) - rd e 2)))) n (some (rd e 2)), U := Ledger.upd s.U n true }) else none)
      else if rd e 0 = 4 then
        (if (s.A (rd e 2)).isSome = false then some none else if rd e 2 = rd e 1 then some none else some (some { s with A := Ledger.upd (Ledger.upd s.A (rd e 2) (some (wrap64 ((s.A (rd e 2)).getD 0 + rd st (rd e 1))))) (rd e 1) none }))
      else if rd e 0 = 5 then
        (if rd e 2 ≠ rd st (rd e 1) then some none else some (some { s with A := Ledger.upd s.A (rd e 1) none, b3 := wrap64 (s.b3 + rd e 2) }))
      else some none : Option (Option Ledger.Bk)) = some o ∧ Ev (fun k => (if (rd e 0) = 2 then (if 2 < (e.length : Int) then (if (rd e 2) ≥ (rd st (rd e 1)) then (some (false, st)) else (some (true, (st.set ((rd e 1) : Int).toNat (wrap64 ((rd st (rd e 1)) - (rd e 2))))))) else (none)) else (if (rd e 0) = 3 then ((spec_l26Free.f k st).bind fun t143 => (if 2 < (e.length : Int) then (if (rd e 2) ≥ (rd st (rd e 1)) then (some (false, st)) else (if t143 = 0 then (some (false, st)) else (if 0 ≤ t143 then (if t143 < (st.length : Int) then (some (true, ((st.set ((rd e 1) : Int).toNat (wrap64 ((rd st (rd e 1)) - (rd e 2)))).set (t143 : Int).toNat (rd e 2)))) else (none)) else (none)))) else (none))) else (if (rd e 0) = 4 then (if 2 < (e.length : Int) then (if (rd e 2) > 99 then (some (false, st)) else (if (rd e 2) = (rd e 1) then (some (false, st)) else (if 0 ≤ (rd e 2) then (if (rd e 2) < (st.length : Int) then (if (rd st (rd e 2)) ≤ 0 then (some (false, st)) else (some (true, ((st.set ((rd e 2) : Int).toNat (wrap64 ((rd st (rd e 2)) + (rd st (rd e 1))))).set ((rd e 1) : Int).toNat (-1))))) else (none)) else (none)))) else (none)) else (if (rd e 0) = 5 then (if 2 < (e.length : Int) then (if (rd e 2) = (rd st (rd e 1)) then (some (true, (st.set ((rd e 1) : Int).toNat (-1)))) else (some (false, st))) else (none)) else (some (true, st))))))) (o.isSome, st') ∧ ∀ s', o = some s' → Rel (2 * B) (c + 1) st' s'.A s'.U by
                  obtain ⟨o, st', h1, h2, h3⟩ := hs
                  refine ⟨o, st', h1, ?_, h3⟩
                  refine Ev.step (fun k => by rw [spec_l26Step.j0]) ?_
                  exact evF (by simp) (evT e1 (evT e0 (evF k1 (evT (by omega) (evT (by omega) (evF v1 h2))))))
                have vne : rd st (rd e 1) ≠ 0 := by omega
                by_cases k2 : rd e 0 = 2
                · rw [if_pos k2]
                  by_cases g : rd e 2 ≥ rd st (rd e 1)
                  · rw [if_pos g]
                    exact ⟨none, st, rfl, evT k2 (evT e2 (evT g (evSome _))), fun s' h => by cases h⟩
                  · rw [if_neg g]
                    refine ⟨_, _, rfl, evT k2 (evT e2 (evF g (evSome _))), fun s' h => ?_⟩
                    cases h
                    rw [w64 (by omega) (by omega)]
                    exact (R.turn m9.1 m9.2 vne (by omega) (by omega) (by omega) (by omega) (by rw [if_pos (by omega)])).mono (Int.le_refl _) (by omega)
                · rw [if_neg k2]
                  by_cases k3 : rd e 0 = 3
                  · rw [if_pos k3]
                    obtain ⟨f, f0, f1, f2, f3⟩ := R.free (by omega)
                    rw [R.next f0 f1 f2 f3]
                    by_cases g : rd e 2 ≥ rd st (rd e 1)
                    · rw [if_pos g]
                      exact ⟨none, st, rfl, evF k2 (evT k3 (Ev.bind (l26Free_ev st hl f0 f1 f2 f3) (evT e2 (evT g (evSome _))))), fun s' h => by cases h⟩
                    · rw [if_neg g]
                      have na : s.A f = none := by rw [R.a, if_neg (by omega)]
                      rw [Option.bind_some, if_pos na]
                      refine ⟨_, _, rfl, evF k2 (evT k3 (Ev.bind (l26Free_ev st hl f0 f1 f2 f3) (evT e2 (evF g (evF (by omega) (evT (by omega) (evT (by omega) (evSome _)))))))), fun s' h => ?_⟩
                      cases h
                      rw [w64 (by omega) (by omega)]
                      exact (R.turn (B' := B) (v := some (rd st (rd e 1) - rd e 2)) m9.1 m9.2 vne (by omega) (by omega) (by omega) (by omega) (by rw [if_pos (by omega)])).new f0 f1 (by omega) (by have := ca (by omega); omega) (by omega)
                  · rw [if_neg k3]
                    by_cases k4 : rd e 0 = 4
                    · rw [if_pos k4]
                      have hA2 := R.a (rd e 2)
                      by_cases g1 : rd e 2 > 99
                      · have n2 : s.A (rd e 2) = none := by rw [hA2, if_neg (by omega)]
                        rw [n2, if_pos (show (none : Option Int).isSome = false from rfl)]
                        exact ⟨none, st, rfl, evF k2 (evF k3 (evT k4 (evT e2 (evT g1 (evSome _))))), fun s' h => by cases h⟩
                      · by_cases g2 : rd e 2 = rd e 1
                        · have n2 : (s.A (rd e 2)).isSome = true := by rw [g2, n1]; rfl
                          rw [n2, if_neg (by simp), if_pos g2]
                          exact ⟨none, st, rfl, evF k2 (evF k3 (evT k4 (evT e2 (evF g1 (evT g2 (evSome _)))))), fun s' h => by cases h⟩
                        · by_cases g3 : rd st (rd e 2) ≤ 0
                          · have n2 : s.A (rd e 2) = none := by rw [hA2, if_neg (by omega)]
                            rw [n2, if_pos (show (none : Option Int).isSome = false from rfl)]
                            exact ⟨none, st, rfl, evF k2 (evF k3 (evT k4 (evT e2 (evF g1 (evF g2 (evT (by omega) (evT (by omega) (evT g3 (evSome _))))))))), fun s' h => by cases h⟩
                          · have n2 : s.A (rd e 2) = some (rd st (rd e 2)) := by rw [hA2, if_pos ⟨by omega, by omega, by omega⟩]
                            rw [n2, if_neg (by simp), if_neg g2]
                            simp only [Option.getD_some]
                            refine ⟨_, _, rfl, evF k2 (evF k3 (evT k4 (evT e2 (evF g1 (evF g2 (evT (by omega) (evT (by omega) (evF g3 (evSome _))))))))), fun s' h => ?_⟩
                            cases h
                            have hh2 := R.hi (rd e 2) (by omega) (by omega)
                            rw [w64 (by omega) (by omega)]
                            have R1 := R.turn (B' := 2 * B) (m := rd e 2) (x := rd st (rd e 2) + rd st (rd e 1)) (v := some (rd st (rd e 2) + rd st (rd e 1))) (by omega) (by omega) (by omega) (by omega) (by omega) (by omega) (by omega) (by rw [if_pos (by omega)])
                            exact (R1.turn (B' := 2 * B) (m := rd e 1) (x := -1) m9.1 m9.2 (by rw [rd_set' st _ (by omega) (by omega) _ (by omega), if_neg (by omega)]; exact vne) (by omega) (by omega) (by omega) (by omega) (by rw [if_neg (by omega)])).mono (Int.le_refl _) (by omega)
                    · rw [if_neg k4]
                      have k55 : rd e 0 = 5 := by omega
                      rw [if_pos k55]
                      by_cases g : rd e 2 = rd st (rd e 1)
                      · rw [if_neg (by simpa using g)]
                        refine ⟨_, _, rfl, evF k2 (evF k3 (evF k4 (evT k55 (evT e2 (evT g (evSome _)))))), fun s' h => ?_⟩
                        cases h
                        exact (R.turn (B' := 2 * B) (m := rd e 1) (x := -1) m9.1 m9.2 vne (by omega) (by omega) (by omega) (by omega) (by rw [if_neg (by omega)])).mono (Int.le_refl _) (by omega)
                      · rw [if_pos g]
                        exact ⟨none, st, rfl, evF k2 (evF k3 (evF k4 (evT k55 (evT e2 (evF g (evSome _)))))), fun s' h => by cases h⟩
      · rw [if_neg m9]
        exact ⟨none, st, rfl, evT e3 (evT e0 (evB (l01In_t k5.1 k5.2) (evT rfl (evT e1 (evB (l01In_f m9) (evF (by simp) (j0_true st e))))))), fun s' h => by cases h⟩
    · refine ⟨none, st, ?_, evT e3 (evT e0 (evB (l01In_f k5) (evF (by simp) (j0_true st e)))), fun s' h => by cases h⟩
      rw [if_neg (show ¬ rd e 0 = 1 by omega), if_neg (show ¬ rd e 0 = 2 by omega), if_neg (show ¬ rd e 0 = 3 by omega), if_neg (show ¬ rd e 0 = 4 by omega), if_neg (show ¬ rd e 0 = 5 by omega)]
      repeat' split
      all_goals rfl
  · rw [if_neg c1]
    exact ⟨none, st, rfl, evF (by omega) (j0_true st e), fun s' h => by cases h⟩
/-! l26Run -/
def RunOk (l : List (List Int)) (i : Nat) (st' : List Int) (n : Int) (r : Option Ledger.Bk × Int) : Prop :=
  (n = l.length ∧ (∃ s', r = (some s', -1) ∧ Rel 1099511627776000 40 st' s'.A s'.U) ∧ ∀ j : Nat, i ≤ j → j < l.length → (rd_L1 l (j : Int)).length = 3) ∨ (n < l.length ∧ 0 ≤ n ∧ r = (none, n))
theorem run_l0 (l : List (List Int)) (hl : l.length ≤ 9000000) : ∀ (d i : Nat) (st : List Int) (s : Ledger.Bk), i + d = l.length → i ≤ 40 → Rel (1000 * 2 ^ i) i st s.A s.U →
    ∃ st' n r, Ev (fun k => spec_l26Run.l0 k l st l (l.length : Int) (i : Int)) (st', n) ∧ Ev (fun k => Ledger.perfl l k (i : Int) s) r ∧ RunOk l i st' n r := by
  intro d
  induction d with
  | zero =>
    intro i st s hi h40 R
    refine ⟨st, l.length, (some s, -1), ?_, ?_, .inl ⟨rfl, ⟨s, rfl, R.mono ?_ h40⟩, fun j h0 h1 => by omega⟩⟩
    · refine Ev.step (fun k => by rw [spec_l26Run.l0]) ?_
      exact evF (by omega) (evSome _)
    · refine Ev.step (fun k => by rw [Ledger.perfl]) ?_
      exact evF (by omega) (evSome _)
    have : (2 : Int) ^ i ≤ 2 ^ 40 := by
      have := Nat.pow_le_pow_right (n := 2) (by omega) h40
      exact_mod_cast this
    omega
  | succ d ih =>
    intro i st s hi h40 R
    by_cases c40 : i = 40
    · refine ⟨st, i, (none, i), ?_, ?_, .inr ⟨by omega, by omega, rfl⟩⟩
      · refine Ev.step (fun k => by rw [spec_l26Run.l0]) ?_
        exact evT (by omega) (evT (by omega) (evT (by omega) (evT (by omega) (evSome _))))
      · refine Ev.step (fun k => by rw [Ledger.perfl]) ?_
        exact evT (by omega) (evT (by omega) (evSome _))
    · have p1 : (2 : Int) ^ i ≤ 2 ^ 40 := by
        have := Nat.pow_le_pow_right (n := 2) (by omega) h40
        exact_mod_cast this
      have p0 : (1 : Int) ≤ 2 ^ i := by
        have := Nat.one_le_two_pow (n := i)
        exact_mod_cast this
      obtain ⟨o, st1, ha, hs, hr⟩ := step_ev R h40 (by omega) (by omega) (rd_L1 l (i : Int))
      cases o with
      | none =>
        refine ⟨st1, i, (none, i), ?_, ?_, .inr ⟨by omega, by omega, rfl⟩⟩
        · refine Ev.step (fun k => by rw [spec_l26Run.l0]) ?_
          exact evT (by omega) (evT (by omega) (evT (by omega) (evF (by omega) (Ev.bind hs (evF (show ¬ (false = true) by decide) (evSome _))))))
        · refine Ev.step (fun k => by rw [Ledger.perfl]) ?_
          refine evT (by omega) (evF (by omega) (evB ha ?_))
          exact evSome _
      | some s1 =>
        obtain ⟨h3, R1⟩ := hr s1 rfl
        obtain ⟨st', n, r, h4, h5, h6⟩ := ih (i + 1) st1 s1 (by omega) (by omega) (by rw [Int.pow_succ]; rw [show (1000 : Int) * (2 ^ i * 2) = 2 * (1000 * 2 ^ i) by omega]; exact R1)
        refine ⟨st', n, r, ?_, ?_, ?_⟩
        · refine Ev.step (fun k => by rw [spec_l26Run.l0]) ?_
          refine evT (by omega) (evT (by omega) (evT (by omega) (evF (by omega) (Ev.bind hs (evT rfl ?_)))))
          rw [w64s i (by omega)]
          exact h4
        · refine Ev.step (fun k => by rw [Ledger.perfl]) ?_
          refine evT (by omega) (evF (by omega) (evB ha ?_))
          rw [show ((i : Int) + 1) = ((i + 1 : Nat) : Int) by omega]
          exact h5
        · rcases h6 with ⟨h6, h7, h8⟩ | h6
          · refine .inl ⟨h6, h7, fun j h0 h1 => ?_⟩
            by_cases e : j = i
            · rw [e]; exact h3
            · exact h8 j (by omega) h1
          · exact .inr h6
theorem run_ev (l : List (List Int)) (hl : l.length ≤ 9000000) : ∃ st' n r, Ev (fun k => spec_l26Run.f k l) (st', n) ∧ Ev (fun k => Ledger.perfl l k 0 Ledger.bk0) r ∧ RunOk l 0 st' n r := by
  obtain ⟨st', n, r, h1, h2, h3⟩ := run_l0 l hl l.length 0 (List.replicate 100 0) Ledger.bk0 (by omega) (by omega) Rel.start
  refine ⟨st', n, r, ?_, h2, h3⟩
  unfold spec_l26Run.f
  exact evT (by decide) h1
/-! totBase -/
def tot : List (List Int) → Nat
  | [] => 0
  | x :: xs => x.length + tot xs
theorem tot_app (l : List (List Int)) (x : List Int) : tot (l ++ [x]) = tot l + x.length := by
  induction l with
  | nil => simp [tot]
  | cons y l ih => simp only [List.cons_append, tot, ih]; omega
def marksSS : Nat → List (List Int) → List (List Int)
  | _, [] => []
  | m, x :: xs => marks m x.length :: marksSS (m + x.length) xs
theorem marksSS_length : ∀ (l : List (List Int)) (m : Nat), (marksSS m l).length = l.length
  | [], _ => rfl
  | x :: xs, m => by simp [marksSS, marksSS_length xs]
theorem marksSS_app : ∀ (l : List (List Int)) (m : Nat) (x : List Int), marksSS m (l ++ [x]) = marksSS m l ++ [marks (m + tot l) x.length]
  | [], m, x => by simp [marksSS, tot]
  | y :: l, m, x => by
    simp only [List.cons_append, marksSS, tot, marksSS_app l, List.cons.injEq, true_and]
    rw [Nat.add_assoc]
theorem tot_take_le (l : List (List Int)) : ∀ i, tot (l.take i) ≤ tot l := by
  induction l with
  | nil => intro i; simp [tot]
  | cons x l ih =>
    intro i
    cases i with
    | zero => simp [tot]
    | succ i => simp only [List.take_succ_cons, tot]; have := ih i; omega
theorem tot_take_succ (l : List (List Int)) (i : Nat) (h : i < l.length) : tot (l.take (i + 1)) = tot (l.take i) + l[i].length := by
  rw [List.take_succ_eq_append_getElem h, tot_app]
theorem marksSS_get : ∀ (l : List (List Int)) (m i : Nat) (h : i < (marksSS m l).length) (h2 : i < l.length), (marksSS m l)[i] = marks (m + tot (l.take i)) l[i].length
  | x :: l, m, 0, _, _ => by simp [marksSS, tot]
  | x :: l, m, i + 1, h, h2 => by
    simp only [marksSS, List.getElem_cons_succ, List.take_succ_cons, tot]
    rw [marksSS_get l (m + x.length) i (by simpa [marksSS] using h) (by simpa using h2), Nat.add_assoc]
/-! laws_markIntSS -/
theorem set_mid3 {α : Type} (a b : List α) (x : α) (i : Nat) (hi : a.length = i) (hb : i < b.length) : (a ++ b.drop i).set i x = (a ++ [x]) ++ b.drop (i + 1) := by
  subst hi
  rw [List.set_append_right _ _ (Nat.le_refl _), Nat.sub_self, drop_cons b _ hb, List.set_cons_zero, List.append_assoc]
  rfl
theorem markIntSS_l0 (l : List (List Int)) (m : Nat) (hl : l.length ≤ 9223372036854775800) (hm : m + tot l ≤ 9223372036854775800) : ∀ d i : Nat, i + d = l.length → Ev (fun k => laws_markIntSS.l0 k (marksSS m (l.take i) ++ l.drop i) ((m + tot (l.take i) : Nat) : Int) (i : Int)) (((m + tot l : Nat) : Int), marksSS m l) := by
  intro d
  induction d with
  | zero =>
    intro i hi
    refine Ev.step (fun k => by rw [laws_markIntSS.l0]) ?_
    refine evF (by simp [marksSS_length]; omega) ?_
    rw [List.take_of_length_le (by omega), List.drop_of_length_le (by omega), List.append_nil]
    exact evSome _
  | succ d ih =>
    intro i hi
    have hil : i < l.length := by omega
    have hlen : (marksSS m (l.take i)).length = i := by rw [marksSS_length, List.length_take]; omega
    have hg : (marksSS m (l.take i) ++ l.drop i).getD ((i : Int)).toNat [] = l[i] := by
      rw [show ((i : Int)).toNat = i from by omega, List.getD_eq_getElem?_getD, List.getElem?_append_right (by omega), hlen, Nat.sub_self, List.getElem?_drop, Nat.add_zero, List.getElem?_eq_getElem hil]
      rfl
    have ht := tot_take_succ l i hil
    have hle := tot_take_le l (i + 1)
    refine Ev.step (fun k => by rw [laws_markIntSS.l0]) ?_
    refine evT (by simp [marksSS_length]; omega) (evT (by omega) ?_)
    rw [hg]
    refine Ev.bind (markIntS_ev l[i] (m + tot (l.take i)) (by omega)) ?_
    rw [show ((i : Int)).toNat = i from by omega, set_mid3 _ _ _ _ hlen hil, w64s i (by omega)]
    have h := ih (i + 1) (by omega)
    rw [List.take_succ_eq_append_getElem hil, marksSS_app, tot_app] at h
    rw [show m + tot (l.take i) + l[i].length = m + (tot (l.take i) + l[i].length) by omega]
    exact h
theorem markIntSS_ev (l : List (List Int)) (m : Nat) (hl : l.length ≤ 9223372036854775800) (hm : m + tot l ≤ 9223372036854775800) : Ev (fun k => laws_markIntSS.f k l (m : Int)) (((m + tot l : Nat) : Int), marksSS m l) := by
  unfold laws_markIntSS.f
  have h := markIntSS_l0 l m hl hm l.length 0 (by omega)
  simpa [marksSS, tot] using h
/-! laws_heldIntSS -/
theorem heldIntSS_l0 (l : List (List Int)) (m : Nat) (hl : l.length ≤ 9223372036854775800) (hm : m + tot l ≤ 9223372036854775800) : ∀ d i : Nat, i + d = l.length → Ev (fun k => laws_heldIntSS.l0 k (marksSS m l) ((m + tot (l.take i) : Nat) : Int) (i : Int)) ((m + tot l : Nat) : Int) := by
  intro d
  induction d with
  | zero =>
    intro i hi
    refine Ev.step (fun k => by rw [laws_heldIntSS.l0]) ?_
    refine evF (by rw [marksSS_length]; omega) ?_
    rw [List.take_of_length_le (by omega)]
    exact evSome _
  | succ d ih =>
    intro i hi
    have hil : i < l.length := by omega
    have hg : rd_L1 (marksSS m l) (i : Int) = marks (m + tot (l.take i)) l[i].length := by
      unfold rd_L1
      rw [show ((i : Int)).toNat = i from by omega, getD_eq _ _ _ (by rw [marksSS_length]; exact hil), marksSS_get _ _ _ _ hil]
    have ht := tot_take_succ l i hil
    have hle := tot_take_le l (i + 1)
    refine Ev.step (fun k => by rw [laws_heldIntSS.l0]) ?_
    refine evT (by rw [marksSS_length]; omega) (evT (by omega) ?_)
    rw [hg]
    refine Ev.bind (heldIntS_ev (m + tot (l.take i)) l[i].length (by omega)) ?_
    refine evF (by omega) ?_
    rw [w64s i (by omega), show m + tot (l.take i) + l[i].length = m + tot (l.take (i + 1)) by omega]
    exact ih (i + 1) (by omega)
theorem heldIntSS_ev (l : List (List Int)) (m : Nat) (hl : l.length ≤ 9223372036854775800) (hm : m + tot l ≤ 9223372036854775800) : Ev (fun k => laws_heldIntSS.f k (marksSS m l) (m : Int)) ((m + tot l : Nat) : Int) := by
  unfold laws_heldIntSS.f
  have h := heldIntSS_l0 l m hl hm l.length 0 (by omega)
  simpa [tot] using h
/-! totTwo -/
theorem tot_le (n : Nat) : ∀ (l : List (List Int)), (∀ x ∈ l, x.length ≤ n) → tot l ≤ l.length * n
  | [], _ => by simp [tot]
  | x :: l, h => by
    simp only [tot, List.length_cons, Nat.succ_mul]
    have h1 := h x (by simp)
    have h2 := tot_le n l (fun y hy => h y (by simp [hy]))
    omega
/-! sheets -/
def shl (st : List Int) : Nat → List (List Int)
  | 0 => []
  | n + 1 => if rd st (n : Int) > 0 then shl st n ++ [[(n : Int), rd st (n : Int)]] else shl st n
theorem shl_len (st : List Int) : ∀ n, (shl st n).length ≤ n ∧ ∀ x ∈ shl st n, x.length = 2
  | 0 => ⟨Nat.le_refl _, fun x hx => by cases hx⟩
  | n + 1 => by
    obtain ⟨h1, h2⟩ := shl_len st n
    rw [shl]
    split
    · refine ⟨by rw [List.length_append, List.length_singleton]; omega, fun x hx => ?_⟩
      rw [List.mem_append, List.mem_singleton] at hx
      rcases hx with hx | rfl
      · exact h2 x hx
      · rfl
    · exact ⟨by omega, h2⟩
theorem sheets_l0 (st : List Int) (hl : st.length = 100) : ∀ d i : Nat, i + d = 100 → Ev (fun k => spec_SheetsAfter.l0 k (shl st i) st (st.length : Int) (i : Int)) (shl st 100, true) := by
  intro d
  induction d with
  | zero =>
    intro i hi
    obtain rfl : i = 100 := by omega
    refine Ev.step (fun k => by rw [spec_SheetsAfter.l0]) ?_
    exact evF (by omega) (evSome _)
  | succ d ih =>
    intro i hi
    have hlen := (shl_len st i).1
    have h := ih (i + 1) (by omega)
    refine Ev.step (fun k => by rw [spec_SheetsAfter.l0]) ?_
    refine evT (by omega) (evT (by omega) (evT (by omega) ?_))
    rw [w64s i (by omega)]
    by_cases c : rd st (i : Int) > 0
    · rw [shl, if_pos c] at h
      exact evT c (evT (by omega) h)
    · rw [shl, if_neg c] at h
      exact evF c h
def kl (A : Int → Option Int) (n : Nat) : List Int := ((List.range n).map (fun k : Nat => (k : Int))).filter (fun k => (A k).isSome)
theorem kl_succ (A : Int → Option Int) (n : Nat) : kl A (n + 1) = kl A n ++ (if (A (n : Int)).isSome = true then [(n : Int)] else []) := by
  unfold kl
  rw [List.range_succ, List.map_append, List.filter_append, List.map_singleton]
  congr 1
  by_cases h : (A (n : Int)).isSome = true
  · rw [if_pos h]; simp [h]
  · rw [if_neg h]; simp [h]
theorem kl_shl {B : Int} {c : Nat} {st : List Int} {A U} (R : Rel B c st A U) : ∀ n, n ≤ 100 → (kl A n).map (impl_SheetsAfter.row fun k => (A k).getD 0) = shl st n
  | 0, _ => rfl
  | n + 1, hn => by
    rw [kl_succ, List.map_append, kl_shl R n (by omega), shl]
    have hA := R.a (n : Int)
    by_cases g : rd st (n : Int) > 0
    · have n0 : n ≠ 0 := fun e => by
        subst e
        have hz := R.z
        rw [show ((0 : Nat) : Int) = 0 from rfl, hz] at g
        omega
      rw [if_pos ⟨by omega, by omega, g⟩] at hA
      rw [if_pos g, if_pos (by rw [hA]; rfl), List.map_singleton]
      show _ ++ [[(n : Int), (A (n : Int)).getD 0]] = _
      rw [hA]
      rfl
    · rw [if_neg (fun h => g h.2.2)] at hA
      rw [if_neg g, if_neg (by rw [hA]; decide), List.map_nil, List.append_nil]
theorem kl_hi {B : Int} {c : Nat} {st : List Int} {A U} (R : Rel B c st A U) : ∀ m, kl A (100 + m) = kl A 100
  | 0 => rfl
  | m + 1 => by
    rw [show 100 + (m + 1) = (100 + m) + 1 by omega, kl_succ, kl_hi R m]
    have hA := R.a ((100 + m : Nat) : Int)
    rw [if_neg (by omega)] at hA
    rw [hA, if_neg (by decide), List.append_nil]
theorem sheets_ev (l : List (List Int)) (hl : l.length ≤ 1048576) : ∃ r t, Ev (fun k => spec_SheetsAfter.f k l) (r, t) ∧ Ev (fun k => impl_SheetsAfter.f k l) (r, t) ∧ r.length ≤ 100 ∧ ∀ x ∈ r, x.length ≤ 1048576 := by
  obtain ⟨st', n, r, h1, h2, h3⟩ := run_ev l (by omega)
  unfold spec_SheetsAfter.f impl_SheetsAfter.f
  rcases h3 with ⟨h3, ⟨s', h4, R⟩, h5⟩ | ⟨h3, h4, h5⟩
  · subst h4
    have e1 := sheets_l0 st' R.len 100 0 (by omega)
    obtain ⟨g1, g2⟩ := shl_len st' 100
    refine ⟨shl st' 100, true, Ev.bind h1 (evF (by show ¬ n < (l.length : Int); omega) e1), Ev.bind h2 (evF (by show ¬ (-1 : Int) ≥ 0; omega) ?_), g1, fun x hx => by rw [g2 x hx]; omega⟩
    show Ev (fun _ => some (impl_SheetsAfter.sheetsOf s'.A, true)) _
    have e : impl_SheetsAfter.sheetsOf s'.A = shl st' 100 := by
      unfold impl_SheetsAfter.sheetsOf
      rw [show impl_SheetsAfter.keys s'.A = kl s'.A (100 + 101) from rfl, kl_hi R 101, kl_shl R 100 (by omega)]
    rw [e]
    exact evSome _
  · subst h5
    exact ⟨[], false, Ev.bind h1 (evT h3 (evSome _)), Ev.bind h2 (evT (by show n ≥ 0; omega) (evSome _)), by simp, fun x hx => by cases hx⟩

theorem FnExactSheetsAfter : ∀ (l0 : List (List (Int))), (l0.length ≤ 9223372036854775807 ∧ ∀ x ∈ l0, (x.length ≤ 9223372036854775807 ∧ ∀ y ∈ x, Opens.I64 y)) → ∃ k, laws_FnExactSheetsAfter.Good k l0 := by
  intro l0 g0
  rcases szIntSS_ev l0 1048576 (by omega) (by omega) g0.1 (fun x hx => (g0.2 x hx).1) with h | ⟨left, h, hb, _, hl, hx⟩
  · obtain ⟨n0, e0⟩ := h
    exact ⟨n0, .inl ⟨_, e0 _ (Nat.le_refl _), by omega⟩⟩
  · obtain ⟨R, t, h1, h2, h4, h5⟩ := sheets_ev l0 hl
    have tX := tot_le 1048576 l0 hx
    have bX : l0.length * 1048576 ≤ 1048576 * 1048576 := Nat.mul_le_mul_right _ hl
    have tR := tot_le 1048576 R h5
    have bR : R.length * 1048576 ≤ 100 * 1048576 := Nat.mul_le_mul_right _ h4
    obtain ⟨n0, e0⟩ := h
    obtain ⟨n1, e1⟩ := toIntSS_ev l0 hl hx
    obtain ⟨n2, e2⟩ := h1
    obtain ⟨n3, e3⟩ := h2
    obtain ⟨n4, e4⟩ := eqIntSS_ev R (by omega) h5
    obtain ⟨n5, e5⟩ := eqIntSS_ev l0 hl hx
    obtain ⟨n6, e6⟩ := markIntSS_ev l0 1 (by omega) (by omega)
    obtain ⟨n7, e7⟩ := markIntSS_ev R 1 (by omega) (by omega)
    obtain ⟨n8, e8⟩ := heldIntSS_ev R 1 (by omega) (by omega)
    refine ⟨n0 + n1 + n2 + n3 + n4 + n5 + n6 + n7 + n8, .inr ⟨_, _, _, _, _, _, _, _, ⟨e0 _ (by omega), hb, e1 _ (by omega), e2 _ (by omega), e3 _ (by omega), e4 _ (by omega), e5 _ (by omega), e6 _ (by omega), by omega, e7 _ (by omega), e8 _ (by omega), by omega⟩⟩⟩

end Go.Proofs.Ytdiphnkkomfmdaa.Pure
