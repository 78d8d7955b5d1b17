/- FnExactShareOut: for every number and list of numbers, ShareOut of the program and of the reference answer alike, in a row of its own, and leave the list as it is. No condition. -/
import Derived.Test.YtdiphnkkomfmdaaQFnExactShareOutx4
import Derived.Test.YtdiphnkkomfmdaaOpens
import Derived.Sort.LotA
namespace Go.Proofs.Ytdiphnkkomfmdaa.Pure
open Go.RowKit Go.Proofs.Ytdiphnkkomfmdaa Go.Proofs.Ytdiphnkkomfmdaa.QFnExactShareOut Go.Proofs.YtdiphnkkomfmdaaW.PrintWords Go.Proofs.YtdiphnkkomfmdaaW.PrintLast
set_option linter.unusedVariables false
set_option linter.unusedSimpArgs false

/-! base -/
theorem w64 {x : Int} (h0 : -9223372036854775808 ≤ x) (h1 : x ≤ 9223372036854775807) : wrap64 x = x := by unfold wrap64; omega
theorem w64n (n : Nat) (h : n ≤ 9223372036854775807) : wrap64 (n : Int) = n := w64 (by omega) (by omega)
theorem w64s (n : Nat) (h : n < 9223372036854775807) : wrap64 ((n : Int) + 1) = ((n + 1 : Nat) : Int) := by rw [w64 (by omega) (by omega)]; omega
theorem evSome {α : Type} (r : α) : Ev (fun _ : Nat => some r) r := ⟨0, fun _ _ => rfl⟩
theorem evOf {α : Type} {f : Option α} {r : α} (h : f = some r) : Ev (fun _ : Nat => f) r := ⟨0, fun _ _ => h⟩
theorem evUniq {α : Type} {g : Nat → Option α} {r q : α} (h : Ev g r) (k : Ev g q) : r = q := by
  obtain ⟨a, ha⟩ := h
  obtain ⟨b, hb⟩ := k
  have h1 := ha (a + b) (by omega)
  rw [hb (a + b) (by omega)] at h1
  exact (Option.some.inj h1).symm
theorem evIf {α : Type} {c : Prop} [Decidable c] {f g : Nat → Option α} {r : α} (hp : c → Ev f r) (hn : ¬ c → Ev g r) : Ev (fun k => if c then f k else g k) r := by
  by_cases h : c
  · simp only [if_pos h]; exact hp h
  · simp only [if_neg h]; exact hn h
theorem evT {α : Type} {c : Prop} [Decidable c] {f g : Nat → Option α} {r : α} (h : c) (hp : Ev f r) : Ev (fun k => if c then f k else g k) r := by
  simp only [if_pos h]; exact hp
theorem evF {α : Type} {c : Prop} [Decidable c] {f g : Nat → Option α} {r : α} (h : ¬ c) (hp : Ev g r) : Ev (fun k => if c then f k else g k) r := by
  simp only [if_neg h]; exact hp
theorem evB {α β : Type} {f : Option α} {g : Nat → α → Option β} {a : α} {r : β} (h : f = some a) (k : Ev (fun n => g n a) r) : Ev (fun n => f.bind (g n)) r := by
  subst h
  exact k
theorem getD_eq {α : Type} (l : List α) (i : Nat) (z : α) (h : i < l.length) : l.getD i z = l[i] := by
  rw [List.getD_eq_getElem?_getD, List.getElem?_eq_getElem h]; rfl
theorem take_succ' {α : Type} (l : List α) (i : Nat) (h : i < l.length) : l.take (i + 1) = l.take i ++ [l[i]] := by
  rw [List.take_succ_eq_append_getElem h]
theorem set_fill {α : Type} (l : List α) (z x : α) (i d : Nat) (hi : l.length = i) : (l ++ List.replicate (d + 1) z).set i x = l ++ [x] ++ List.replicate d z := by
  subst hi
  rw [List.set_append_right _ _ (Nat.le_refl _), Nat.sub_self, List.replicate_succ, List.set_cons_zero, List.append_assoc]
  rfl
theorem drop_cons {α : Type} (l : List α) (i : Nat) (h : i < l.length) : l.drop i = l[i] :: l.drop (i + 1) := List.drop_eq_getElem_cons h
/-! laws_toIntS -/
theorem toIntS_l0 (l : List Int) (hl : l.length ≤ 9223372036854775806) : ∀ d i : Nat, i + d = l.length → Ev (fun k => laws_toIntS.l0 k l (l.take i ++ List.replicate d 0) (i : Int)) l := by
  intro d
  induction d with
  | zero =>
    intro i hi
    refine Ev.step (fun k => by rw [laws_toIntS.l0]) ?_
    refine evF (by omega) ?_
    have : l.take i ++ List.replicate 0 0 = l := by rw [List.take_of_length_le (by omega)]; simp
    rw [this]
    exact evSome _
  | succ d ih =>
    intro i hi
    refine Ev.step (fun k => by rw [laws_toIntS.l0]) ?_
    refine evT (by omega) (evT (by omega) (evT (by simp; omega) ?_))
    rw [w64s i (by omega), show ((i : Int)).toNat = i from by omega, set_fill _ _ _ _ _ (by rw [List.length_take]; omega)]
    have h2 : rd l (i : Int) = l[i] := by unfold rd; rw [show ((i : Int)).toNat = i from by omega]; exact getD_eq _ _ _ (by omega)
    rw [h2, ← take_succ' l i (by omega)]
    exact ih (i + 1) (by omega)
theorem toIntS_ev (l : List Int) (hl : l.length ≤ 1048576) : Ev (fun k => laws_toIntS.f k l) l := by
  unfold laws_toIntS.f
  refine evT (by omega) (evT (by omega) ?_)
  have h := toIntS_l0 l (by omega) l.length 0 (by omega)
  simpa using h
/-! laws_eqIntS -/
theorem eqIntS_l0 (l : List Int) (hl : l.length ≤ 9223372036854775806) : ∀ d i : Nat, i + d = l.length → Ev (fun k => laws_eqIntS.l0 k l l (i : Int)) true := by
  intro d
  induction d with
  | zero =>
    intro i hi
    refine Ev.step (fun k => by rw [laws_eqIntS.l0]) ?_
    exact evF (by omega) (evSome _)
  | succ d ih =>
    intro i hi
    refine Ev.step (fun k => by rw [laws_eqIntS.l0]) ?_
    refine evT (by omega) (evT (by omega) (evT (by omega) (evT rfl ?_)))
    rw [w64s i (by omega)]
    exact ih (i + 1) (by omega)
theorem eqIntS_ev (l : List Int) (hl : l.length ≤ 1048576) : Ev (fun k => laws_eqIntS.f k l l) true := by
  unfold laws_eqIntS.f
  exact evT rfl (by simpa using eqIntS_l0 l (by omega) l.length 0 (by omega))
/-! l01In -/
theorem l01In_t {a lo hi : Int} (h0 : lo ≤ a) (h1 : a ≤ hi) : spec_l01In.f a lo hi = some true := by unfold spec_l01In.f; rw [if_pos h0]; simp [h1]
theorem l01In_f {a lo hi : Int} (h : ¬ (lo ≤ a ∧ a ≤ hi)) : spec_l01In.f a lo hi = some false := by
  unfold spec_l01In.f
  by_cases h0 : lo ≤ a
  · rw [if_pos h0]; simp; omega
  · rw [if_neg h0]
theorem l01In_eq (a lo hi : Int) : spec_l01In.f a lo hi = some (decide (lo ≤ a ∧ a ≤ hi)) := by
  by_cases h : lo ≤ a ∧ a ≤ hi
  · rw [l01In_t h.1 h.2]; simp [h]
  · rw [l01In_f h]; simp; omega
/-! within -/
theorem within_t {a lo hi : Int} (h0 : lo ≤ a) (h1 : a ≤ hi) : impl_within.f a lo hi = some true := by unfold impl_within.f; rw [if_pos h0]; simp [h1]
theorem within_f {a lo hi : Int} (h : ¬ (lo ≤ a ∧ a ≤ hi)) : impl_within.f a lo hi = some false := by
  unfold impl_within.f
  by_cases h0 : lo ≤ a
  · rw [if_pos h0]; simp; omega
  · rw [if_neg h0]
theorem within_eq (a lo hi : Int) : impl_within.f a lo hi = some (decide (lo ≤ a ∧ a ≤ hi)) := by
  by_cases h : lo ≤ a ∧ a ≤ hi
  · rw [within_t h.1 h.2]; simp [h]
  · rw [within_f h]; simp; omega
/-! down -/
theorem down {P : Nat → Prop} (n : Nat) (h0 : P n) (hs : ∀ i, i < n → P (i + 1) → P i) : ∀ i, i ≤ n → P i := by
  intro i hi
  obtain ⟨d, hd⟩ : ∃ d, i + d = n := ⟨n - i, by omega⟩
  induction d generalizing i with
  | zero => have : i = n := by omega
            subst this; exact h0
  | succ d ih => exact hs i (by omega) (ih (i + 1) (by omega) (by omega))
/-! rdI -/
theorem rdI (l : List Int) (i : Nat) (h : i < l.length) : rd l (i : Int) = l[i] := by
  unfold rd; rw [show ((i : Int)).toNat = i from by omega]; exact getD_eq _ _ _ h
/-! marks -/
def marks (m : Nat) (n : Nat) : List Int := (List.range n).map (fun i => ((m + i : Nat) : Int))
theorem marks_length (m n : Nat) : (marks m n).length = n := by simp [marks]
theorem marks_get (m n i : Nat) (h : i < (marks m n).length) : (marks m n)[i] = ((m + i : Nat) : Int) := by simp [marks]
/-! laws_markIntS -/
theorem set_mid {α : Type} (a b : List α) (x : α) (i : Nat) (hi : a.length = i) (hb : i < b.length) : (a ++ b.drop i).set i x = (a ++ [x]) ++ b.drop (i + 1) := by
  subst hi
  rw [List.set_append_right _ _ (Nat.le_refl _), Nat.sub_self, List.drop_eq_getElem_cons hb, List.set_cons_zero, List.append_assoc]
  rfl
theorem marks_succ (m i : Nat) : marks m (i + 1) = marks m i ++ [((m + i : Nat) : Int)] := by simp [marks, List.range_succ]
theorem markIntS_l0 (l : List Int) (m : Nat) (hm : m + l.length ≤ 9223372036854775806) : ∀ i, i ≤ l.length → Ev (fun k => laws_markIntS.l0 k (marks m i ++ l.drop i) ((m + i : Nat) : Int) (i : Int)) (((m + l.length : Nat) : Int), marks m l.length) := by
  refine down l.length ?_ ?_
  · refine Ev.step (fun k => by rw [laws_markIntS.l0]) ?_
    refine evF (by simp [marks]) ?_
    rw [List.drop_length, List.append_nil]
    exact evSome _
  · intro i hi ih
    refine Ev.step (fun k => by rw [laws_markIntS.l0]) ?_
    refine evT (by simp [marks]; omega) (evT (by omega) ?_)
    rw [w64s i (by omega), w64s (m + i) (by omega), show ((i : Int)).toNat = i from by omega, set_mid _ _ _ _ (marks_length m i) hi, ← marks_succ]
    exact ih
theorem markIntS_ev (l : List Int) (m : Nat) (hm : m + l.length ≤ 9223372036854775806) : Ev (fun k => laws_markIntS.f k l (m : Int)) (((m + l.length : Nat) : Int), marks m l.length) := by
  unfold laws_markIntS.f
  have h := markIntS_l0 l m hm 0 (by omega)
  simpa [marks] using h
/-! laws_heldIntS -/
theorem heldIntS_l0 (m n : Nat) (hm : m + n ≤ 9223372036854775806) : ∀ i, i ≤ n → Ev (fun k => laws_heldIntS.l0 k (marks m n) ((m + i : Nat) : Int) (i : Int)) ((m + n : Nat) : Int) := by
  refine down n ?_ ?_
  · refine Ev.step (fun k => by rw [laws_heldIntS.l0]) ?_
    exact evF (by simp [marks]) (evSome _)
  · intro i hi ih
    refine Ev.step (fun k => by rw [laws_heldIntS.l0]) ?_
    refine evT (by simp [marks]; omega) (evT (by omega) (evT ?_ ?_))
    · rw [rdI _ i (by simp [marks]; omega), marks_get]
    · rw [w64s i (by omega), w64s (m + i) (by omega)]
      exact ih
theorem heldIntS_ev (m n : Nat) (hm : m + n ≤ 9223372036854775806) : Ev (fun k => laws_heldIntS.f k (marks m n) (m : Int)) ((m + n : Nat) : Int) := by
  unfold laws_heldIntS.f
  exact heldIntS_l0 m n hm 0 (by omega)
/-! share -/
/-! the stable order: the insertion sort by a weak order is, on 0, 1, .., the one by the total order -/
section
open Go.Sort
theorem shIns {α : Type} [Inhabited α] (lt lt' : α → α → Bool) : ∀ (j : Nat) (d : Array α), j < d.size → (∀ k, k < j → lt d[j]! d[k]! = lt' d[j]! d[k]!) → insInner lt 0 j d = insInner lt' 0 j d
  | 0, d, _, _ => rfl
  | j + 1, d, hj, h => by
    unfold insInner
    rw [h j (Nat.lt_succ_self j)]
    split
    · have g := swp_get d hj (show j < d.size by omega)
      refine shIns lt lt' j _ (by rw [swp_size]; omega) (fun k hk => ?_)
      rw [g, g, if_pos rfl, if_neg (by omega), if_neg (by omega)]
      exact h k (by omega)
    · rfl
theorem shKeep {α : Type} [Inhabited α] (lt : α → α → Bool) : ∀ (j : Nat) (d : Array α), j < d.size → (insInner lt 0 j d).size = d.size ∧ (∀ k, j < k → (insInner lt 0 j d)[k]! = d[k]!) ∧ (∀ Q : α → Prop, (∀ k, k ≤ j → Q d[k]!) → ∀ k, k ≤ j → Q (insInner lt 0 j d)[k]!)
  | 0, d, _ => ⟨rfl, fun _ _ => rfl, fun Q h => h⟩
  | j + 1, d, hj => by
    unfold insInner
    split
    · have g := swp_get d hj (show j < d.size by omega)
      obtain ⟨h1, h2, h3⟩ := shKeep lt j (swp d (j + 1) j) (by rw [swp_size]; omega)
      refine ⟨by rw [h1, swp_size], fun k hk => ?_, fun Q hq k hk => ?_⟩
      · rw [h2 k (by omega), g, if_neg (by omega), if_neg (by omega)]
      · by_cases e : k = j + 1
        · subst e
          rw [h2 _ (by omega), g, if_neg (by omega), if_pos rfl]
          exact hq j (by omega)
        · refine h3 Q (fun k' hk' => ?_) k (by omega)
          rw [g]
          by_cases e' : k' = j
          · rw [if_pos e']; exact hq _ (by omega)
          · rw [if_neg e', if_neg (by omega)]; exact hq _ (by omega)
    · exact ⟨rfl, fun _ _ => rfl, fun Q h => h⟩
theorem shOut (m : Nat) (lt lt' : Fin (m + 1) → Fin (m + 1) → Bool) (h : ∀ x y, y.val < x.val → lt x y = lt' x y) : ∀ (k i : Nat) (d : Array (Fin (m + 1))), (m + 1) - i = k → d.size = m + 1 → (∀ j, j < i → j < m + 1 → (d[j]!).val < i) → (∀ j, i ≤ j → j < m + 1 → (d[j]!).val = j) → insOuter lt 0 (m + 1) i d = insOuter lt' 0 (m + 1) i d
  | 0, i, d, hk, _, _, _ => by
    have e1 : insOuter lt 0 (m + 1) i d = d := by rw [insOuter, if_neg (by omega)]
    have e2 : insOuter lt' 0 (m + 1) i d = d := by rw [insOuter, if_neg (by omega)]
    rw [e1, e2]
  | k + 1, i, d, hk, hd, h1, h2 => by
    have e1 : insOuter lt 0 (m + 1) i d = insOuter lt 0 (m + 1) (i + 1) (insInner lt 0 i d) := by rw [insOuter, if_pos (by omega)]
    have e2 : insOuter lt' 0 (m + 1) i d = insOuter lt' 0 (m + 1) (i + 1) (insInner lt' 0 i d) := by rw [insOuter, if_pos (by omega)]
    rw [e1, e2, shIns lt lt' i d (by omega) (fun q hq => h _ _ (by rw [h2 i (Nat.le_refl _) (by omega)]; exact h1 q hq (by omega)))]
    obtain ⟨s1, s2, s3⟩ := shKeep lt' i d (by omega)
    refine shOut m lt lt' h k (i + 1) _ (by omega) (by rw [s1, hd]) (fun j hj hjm => ?_) (fun j hj hjm => ?_)
    · refine s3 (fun x => x.val < i + 1) (fun q hq => ?_) j (by omega)
      by_cases e : q = i
      · subst e
        show (d[q]!).val < q + 1
        rw [h2 q (Nat.le_refl _) (by omega)]
        omega
      · have := h1 q (by omega) (by omega)
        show (d[q]!).val < i + 1
        omega
    · rw [s2 j (by omega)]
      exact h2 j (by omega) hjm
def shLt (m : Nat) (ρ : Nat → Int) (x y : Fin (m + 1)) : Bool := decide (ρ y.val < ρ x.val ∨ (ρ y.val = ρ x.val ∧ x.val < y.val))
theorem shLt_swo (m : Nat) (ρ : Nat → Int) : SWO (shLt m ρ) := by
  refine ⟨fun x => ?_, fun x y z h1 h2 => ?_, fun x y z h1 h2 => ?_⟩
  · unfold shLt; rw [decide_eq_false_iff_not]; omega
  · unfold shLt at *; rw [decide_eq_true_eq] at *; omega
  · unfold shLt at *; rw [decide_eq_false_iff_not] at *; omega
end
/-- what is known of the order -/
structure ShO (n : Nat) (ρ : Nat → Int) (O : List Int) : Prop where
  len : O.length = n
  lt : ∀ s : Nat, s < n → 0 ≤ rd O (s : Int) ∧ rd O (s : Int) < n
  inj : ∀ s t : Nat, s < n → t < n → rd O (s : Int) = rd O (t : Int) → s = t
  sur : ∀ j : Nat, j < n → ∃ s : Nat, s < n ∧ rd O (s : Int) = j
  srt : ∀ s t : Nat, s < t → t < n → ρ (rd O (t : Int)).toNat < ρ (rd O (s : Int)).toNat ∨ (ρ (rd O (t : Int)).toNat = ρ (rd O (s : Int)).toNat ∧ rd O (s : Int) < rd O (t : Int))
theorem sh_rd (l : List Int) (j : Nat) (h : j < l.length) : rd l (j : Int) = l[j] := by
  simp [rd, List.getD_eq_getElem?_getD, List.getElem?_eq_getElem h]
theorem shExt {α : Type} (d : Array α) (n : Nat) (h : d.size = n) : (d.extract 0 n).toList = d.toList := by
  subst h
  simp
theorem shNodup {α : Type} {l : List α} (h : l.Nodup) {i j : Nat} (hi : i < l.length) (hj : j < l.length) (e : l[i] = l[j]) : i = j := by
  have hp := List.pairwise_iff_getElem.1 h
  rcases Nat.lt_trichotomy i j with c | c | c
  · exact absurd e (hp i j hi hj c)
  · exact c
  · exact absurd e.symm (hp j i hj hi c)
theorem shOrd (total all : Int) (l : List Int) (m : Nat) (ρ : Nat → Int) (hcf : ∀ x y : Fin (m + 1), impl_ShareOut.cfi total all l m x y = ρ y.val - ρ x.val) : ShO (m + 1) ρ (impl_ShareOut.ord total all l m) := by
  have hsz : (List.finRange (m + 1)).toArray.size = m + 1 := by simp
  have hat : ∀ j, j < m + 1 → ((List.finRange (m + 1)).toArray[j]!).val = j := fun j hj => by
    rw [getElem!_pos _ j (by rw [hsz]; exact hj)]
    simp
  have hlt : ∀ x y : Fin (m + 1), y.val < x.val → ltOf (impl_ShareOut.cfi total all l m) x y = shLt m ρ x y := fun x y hxy => by
    unfold ltOf shLt
    rw [hcf]
    by_cases c : ρ y.val < ρ x.val
    · rw [decide_eq_true (by omega), decide_eq_true (Or.inl c)]
    · rw [decide_eq_false (by omega), decide_eq_false (by omega)]
  have hsig : impl_ShareOut.sig total all l m = Go.Sort.insertionSort (shLt m ρ) (List.finRange (m + 1)).toArray 0 (m + 1) := by
    unfold impl_ShareOut.sig Go.Sort.insertionSort
    exact shOut m _ _ hlt m (0 + 1) _ (by omega) hsz (fun j hj hjm => by have := hat j hjm; omega) (fun j _ hjm => hat j hjm)
  obtain ⟨⟨_, _, hp⟩, hs⟩ := Go.Sort.insertionSort_holds (shLt_swo m ρ) (List.finRange (m + 1)).toArray 0 (m + 1) (by omega) (by rw [hsz]; exact Nat.le_refl _)
  rw [← hsig] at hp hs
  have hss := impl_ShareOut.sig_size total all l m
  have hol := impl_ShareOut.ord_len total all l m
  have hp2 : (impl_ShareOut.sig total all l m).toList.Perm (List.finRange (m + 1)) := by
    have e1 := shExt (impl_ShareOut.sig total all l m) (m + 1) hss
    have e2 := shExt (List.finRange (m + 1)).toArray (m + 1) hsz
    rw [e1, e2] at hp
    exact hp
  have hnd : (impl_ShareOut.ord total all l m).Nodup := by
    unfold impl_ShareOut.ord
    have h1 : (impl_ShareOut.sig total all l m).toList.Nodup := hp2.nodup_iff.2 (List.nodup_finRange _)
    rw [List.nodup_iff_pairwise_ne, List.pairwise_map]
    rw [List.nodup_iff_pairwise_ne] at h1
    exact h1.imp (fun {a b} hab e => hab (Fin.ext (by omega)))
  have hrd : ∀ s : Nat, s < m + 1 → rd (impl_ShareOut.ord total all l m) (s : Int) = (((impl_ShareOut.sig total all l m)[s]!).val : Int) := fun s hs => by
    rw [sh_rd _ s (by omega), getElem!_pos _ s (by omega)]
    unfold impl_ShareOut.ord
    simp
  refine ⟨hol, fun s hs => impl_ShareOut.ord_lt total all l m s hs, fun s t h1 h2 e => ?_, fun j hj => ?_, fun s t h1 h2 => ?_⟩
  · rw [sh_rd _ s (by omega), sh_rd _ t (by omega)] at e
    exact shNodup hnd _ _ e
  · have hm : (⟨j, hj⟩ : Fin (m + 1)) ∈ (impl_ShareOut.sig total all l m).toList := hp2.mem_iff.2 (List.mem_finRange _)
    have hm2 : (j : Int) ∈ impl_ShareOut.ord total all l m := List.mem_map.2 ⟨_, hm, rfl⟩
    obtain ⟨s, hs, e⟩ := List.getElem_of_mem hm2
    exact ⟨s, by omega, by rw [sh_rd _ s hs]; exact e⟩
  · have h := hs s t (Nat.zero_le _) h1 h2
    have hne : rd (impl_ShareOut.ord total all l m) (s : Int) ≠ rd (impl_ShareOut.ord total all l m) (t : Int) := fun e => by
      rw [sh_rd _ s (by omega), sh_rd _ t (by omega)] at e
      have := shNodup hnd _ _ e
      omega
    rw [hrd s (by omega), hrd t h2] at hne ⊢
    generalize (impl_ShareOut.sig total all l m)[s]! = x at h hne ⊢
    generalize (impl_ShareOut.sig total all l m)[t]! = y at h hne ⊢
    unfold shLt at h
    rw [decide_eq_false_iff_not] at h
    rw [Int.toNat_natCast, Int.toNat_natCast]
    omega
/-! the reference's picks: the first greatest rest, struck out -/
theorem sh_set (l : List Int) (i j : Int) (v : Int) (h0 : 0 ≤ i) (h1 : i < l.length) (h2 : 0 ≤ j) : rd (l.set i.toNat v) j = if j = i then v else rd l j := by
  unfold rd
  rw [List.getD_eq_getElem?_getD, List.getD_eq_getElem?_getD]
  by_cases e : j = i
  · subst e
    rw [if_pos rfl, List.getElem?_set_self (by omega)]
    rfl
  · rw [if_neg e, List.getElem?_set_ne (by omega)]
theorem shScan (o c : List Int) (left : Int) (p : Nat) (R : List Int) (hc : c.length ≤ 10) (ho : o.length = c.length) (hp : p < c.length)
    (top : ∀ j : Nat, j < c.length → j ≠ p → rd c (j : Int) ≤ rd c (p : Int) ∧ (j < p → rd c (j : Int) < rd c (p : Int)))
    (hR : Ev (fun k => spec_ShareOut.l2 k (o.set (p : Int).toNat (wrap64 (rd o (p : Int) + 1))) (c.set (p : Int).toNat (-1)) (wrap64 (left - 1))) R) :
    ∀ d i b : Nat, i + d = c.length → b < c.length → (p < i → b = p) → (i ≤ p → b < i ∨ b = 0) → Ev (fun k => spec_ShareOut.l3 k o c left (b : Int) c (c.length : Int) (i : Int)) R := by
  intro d
  induction d with
  | zero =>
    intro i b hi hb h1 h2
    obtain rfl : b = p := h1 (by omega)
    refine Ev.step (fun k => by rw [spec_ShareOut.l3]) ?_
    exact evF (by omega) (evT (by omega) (evT (by omega) (evT (by omega) hR)))
  | succ d ih =>
    intro i b hi hb h1 h2
    refine Ev.step (fun k => by rw [spec_ShareOut.l3]) ?_
    refine evT (by omega) (evT (by omega) (evT (by omega) (evT (by omega) (evT (by omega) ?_))))
    rw [w64s i (by omega)]
    refine evIf (fun hgt => ?_) (fun hng => ?_)
    · refine ih (i + 1) i (by omega) (by omega) (fun h => ?_) (fun _ => Or.inl (by omega))
      by_cases e : i = p
      · exact e
      · have hb' : b = p := h1 (by omega)
        rw [hb'] at hgt
        have := (top i (by omega) e).1
        omega
    · refine ih (i + 1) b (by omega) hb (fun h => ?_) (fun h => by have := h2 (by omega); omega)
      by_cases e : i = p
      · subst e
        rcases h2 (Nat.le_refl _) with h3 | h3
        · have := (top b hb (by omega)).2 h3
          omega
        · by_cases e2 : b = i
          · exact e2
          · have := (top b hb e2).2 (by omega)
            omega
      · exact h1 (by omega)
theorem shPick {n : Nat} {ρ : Nat → Int} {O : List Int} (hO : ShO n ρ O) (hn : n ≤ 10) (hρ : ∀ i, i < n → 0 ≤ ρ i) (o0 : List Int) (ho : o0.length = n) (left : Nat) (hleft : left ≤ n) :
    ∀ (d t : Nat) (c : List Int), t + d = left → c.length = n → (∀ s : Nat, s < n → rd c (rd O (s : Int)) = if s < t then -1 else ρ (rd O (s : Int)).toNat) →
      Ev (fun k => spec_ShareOut.l2 k (impl_ShareOut.incs o0 (O.take t)) c ((left - t : Nat) : Int)) (impl_ShareOut.incs o0 (O.take left)) := by
  intro d
  induction d with
  | zero =>
    intro t c ht hc hrel
    obtain rfl : t = left := by omega
    refine Ev.step (fun k => by rw [spec_ShareOut.l2]) ?_
    exact evF (by omega) (evSome _)
  | succ d ih =>
    intro t c ht hc hrel
    have htn : t < n := by omega
    have hp := hO.lt t htn
    obtain ⟨p, hpe⟩ : ∃ p : Nat, rd O (t : Int) = (p : Int) := ⟨(rd O (t : Int)).toNat, by omega⟩
    have hpn : p < n := by omega
    have hcp : rd c (p : Int) = ρ p := by
      have := hrel t htn
      rw [if_neg (by omega), hpe, Int.toNat_natCast] at this
      exact this
    have hpp := hρ p hpn
    refine Ev.step (fun k => by rw [spec_ShareOut.l2]) ?_
    refine evT (by omega) ?_
    have hinc := impl_ShareOut.incs_take o0 O t (by rw [hO.len]; omega)
    rw [hpe] at hinc
    have hih := ih (t + 1) (c.set (p : Int).toNat (-1)) (by omega) (by rw [List.length_set, hc]) (fun s hs => by
      have hs2 := hO.lt s hs
      rw [sh_set c (p : Int) _ _ (by omega) (by omega) hs2.1]
      by_cases e : rd O (s : Int) = (p : Int)
      · have : s = t := hO.inj s t hs htn (by rw [e, hpe])
        rw [if_pos e, if_pos (by omega)]
      · have : s ≠ t := fun e2 => e (by rw [e2, hpe])
        rw [if_neg e, hrel s hs]
        by_cases c1 : s < t
        · rw [if_pos c1, if_pos (by omega)]
        · rw [if_neg c1, if_neg (by omega)])
    rw [hinc] at hih
    have hw : wrap64 (((left - t : Nat) : Int) - 1) = ((left - (t + 1) : Nat) : Int) := by rw [w64 (by omega) (by omega)]; omega
    have h := shScan (impl_ShareOut.incs o0 (O.take t)) c ((left - t : Nat) : Int) p (impl_ShareOut.incs o0 (O.take left)) (by omega) (by rw [impl_ShareOut.incs_len, ho, hc]) (by omega) (fun j hj hjp => by
      obtain ⟨s, hs, hsj⟩ := hO.sur j (by omega)
      have hcj := hrel s hs
      rw [hsj, Int.toNat_natCast] at hcj
      rw [hcp, hcj]
      have hst : s ≠ t := fun e => hjp (by rw [e, hpe] at hsj; omega)
      by_cases c1 : s < t
      · rw [if_pos c1]; omega
      · rw [if_neg c1]
        have := hO.srt t s (by omega) hs
        rw [hsj, hpe, Int.toNat_natCast, Int.toNat_natCast] at this
        omega) (by rw [hw]; exact hih) c.length 0 0 (by omega) (by omega) (by omega) (by omega)
    simpa using h
/-! the sums -/
def ssum : List Int → Int
  | [] => 0
  | x :: xs => x + ssum xs
theorem ssum_append (a b : List Int) : ssum (a ++ b) = ssum a + ssum b := by
  induction a with
  | nil => simp [ssum]
  | cons x a ih => simp only [List.cons_append, ssum, ih]; omega
theorem ssum_take (l : List Int) (i : Nat) (h : i < l.length) : ssum (l.take (i + 1)) = ssum (l.take i) + rd l (i : Int) := by
  rw [take_succ' l i h, ssum_append, sh_rd l i h]
  simp [ssum]
def shIn (l : List Int) : Prop := ∀ x ∈ l, 0 ≤ x ∧ x ≤ 1000
theorem shIn_rd {l : List Int} (h : shIn l) (i : Nat) (hi : i < l.length) : 0 ≤ rd l (i : Int) ∧ rd l (i : Int) ≤ 1000 := by
  rw [sh_rd l i hi]
  exact h _ (List.getElem_mem hi)
theorem ssum_b {l : List Int} (h : shIn l) (i : Nat) (hi : i ≤ l.length) : 0 ≤ ssum (l.take i) ∧ ssum (l.take i) ≤ 1000 * i := by
  induction i with
  | zero => simp [ssum]
  | succ i ih =>
    have := ih (by omega)
    have := shIn_rd h i (by omega)
    rw [ssum_take l i (by omega)]
    omega
theorem sumOf_l0 (l : List Int) (hl : l.length ≤ 10) (h : shIn l) : ∀ d i : Nat, i + d = l.length → Ev (fun k => impl_sumOf.l0 k (ssum (l.take i)) l (l.length : Int) (i : Int)) (ssum l) := by
  intro d
  induction d with
  | zero =>
    intro i hi
    obtain rfl : i = l.length := by omega
    refine Ev.step (fun k => by rw [impl_sumOf.l0]) ?_
    rw [List.take_length]
    exact evF (by omega) (evSome _)
  | succ d ih =>
    intro i hi
    refine Ev.step (fun k => by rw [impl_sumOf.l0]) ?_
    refine evT (by omega) (evT (by omega) (evT (by omega) ?_))
    have h1 := ssum_b h i (by omega)
    have h2 := shIn_rd h i (by omega)
    rw [w64s i (by omega), w64 (by omega) (by omega), ← ssum_take l i (by omega)]
    exact ih (i + 1) (by omega)
theorem sumOf_ev (l : List Int) (hl : l.length ≤ 10) (h : shIn l) : Ev (fun k => impl_sumOf.f k l) (ssum l) := by
  unfold impl_sumOf.f
  simpa [ssum] using sumOf_l0 l hl h l.length 0 (by omega)
theorem shIn_all (l : List Int) : l.all (impl_areWithin.ok 0 1000) = true ↔ shIn l := by
  rw [List.all_eq_true]
  unfold shIn impl_areWithin.ok
  constructor
  · intro h x hx
    have := h x hx
    rw [Bool.and_eq_true, decide_eq_true_eq, decide_eq_true_eq] at this
    exact this
  · intro h x hx
    rw [Bool.and_eq_true, decide_eq_true_eq, decide_eq_true_eq]
    exact h x hx
/-- what the reference does behind its guards -/
theorem spec_sh_l0 (a0 : Int) (l : List Int) (hl : l.length ≤ 10) (R : List Int) (hin : shIn l → Ev (fun k => if ssum l = 0 then some ([] : List Int) else spec_ShareOut.l1 k a0 (ssum l) ([] : List Int) ([] : List Int) a0 l (l.length : Int) 0) R) (hout : ¬ shIn l → R = []) :
    ∀ d i : Nat, i + d = l.length → shIn (l.take i) → Ev (fun k => spec_ShareOut.l0 k a0 l (ssum (l.take i)) l (l.length : Int) (i : Int)) R := by
  intro d
  induction d with
  | zero =>
    intro i hi h
    obtain rfl : i = l.length := by omega
    rw [List.take_length] at h ⊢
    refine Ev.step (fun k => by rw [spec_ShareOut.l0]) ?_
    exact evF (by omega) (hin h)
  | succ d ih =>
    intro i hi h
    refine Ev.step (fun k => by rw [spec_ShareOut.l0]) ?_
    refine evT (by omega) (evT (by omega) (evT (by omega) (evB (l01In_eq _ _ _) ?_)))
    have h1 := ssum_b h i (by rw [List.length_take]; omega)
    rw [List.take_take, Nat.min_self] at h1
    refine evIf (fun hc => ?_) (fun hc => ?_)
    · rw [decide_eq_true_eq] at hc
      rw [w64s i (by omega), w64 (by omega) (by omega), ← ssum_take l i (by omega)]
      refine ih (i + 1) (by omega) (fun x hx => ?_)
      rw [take_succ' l i (by omega), List.mem_append, List.mem_singleton] at hx
      rcases hx with hx | rfl
      · exact h x hx
      · rw [← sh_rd l i (by omega)]; exact hc
    · rw [decide_eq_true_eq] at hc
      rw [hout (fun h2 => hc (shIn_rd h2 i (by omega)))]
      exact evSome _
def shRs (a0 S x : Int) : Int := Int.tmod (wrap64 (a0 * x)) S
theorem spec_sh_l1 (a0 S : Int) (l : List Int) (hl : l.length ≤ 10) (hS : S ≠ 0) (R : List Int) (hR : Ev (fun k => spec_ShareOut.l2 k (l.map (impl_ShareOut.q a0 S)) (l.map (shRs a0 S)) (impl_ShareOut.lft a0 S l)) R) :
    ∀ d i : Nat, i + d = l.length → Ev (fun k => spec_ShareOut.l1 k a0 S ((l.take i).map (impl_ShareOut.q a0 S)) ((l.take i).map (shRs a0 S)) (impl_ShareOut.lft a0 S (l.take i)) l (l.length : Int) (i : Int)) R := by
  intro d
  induction d with
  | zero =>
    intro i hi
    obtain rfl : i = l.length := by omega
    rw [List.take_length]
    refine Ev.step (fun k => by rw [spec_ShareOut.l1]) ?_
    exact evF (by omega) hR
  | succ d ih =>
    intro i hi
    refine Ev.step (fun k => by rw [spec_ShareOut.l1]) ?_
    refine evT (by omega) (evT (by omega) (evT (by omega) (evF hS (evT (by rw [List.length_map, List.length_take]; omega) (evT (by rw [List.length_map, List.length_take]; omega) ?_)))))
    have h := ih (i + 1) (by omega)
    rw [impl_ShareOut.lft_take a0 S l i (by omega), impl_ShareOut.map_take _ l i (by omega), impl_ShareOut.map_take _ l i (by omega)] at h
    rw [w64s i (by omega)]
    exact h
theorem shQ {a0 S x : Int} (h0 : 0 ≤ a0) (h1 : a0 ≤ 1000000) (hS : 1 ≤ S) (hx : 0 ≤ x ∧ x ≤ 1000) : S * impl_ShareOut.q a0 S x + shRs a0 S x = a0 * x ∧ 0 ≤ shRs a0 S x ∧ shRs a0 S x < S ∧ 0 ≤ impl_ShareOut.q a0 S x ∧ impl_ShareOut.q a0 S x ≤ 1000000000 := by
  have p0 : 0 ≤ a0 * x := Int.mul_nonneg h0 hx.1
  have p1 : a0 * x ≤ 1000000 * 1000 := Int.mul_le_mul h1 hx.2 hx.1 (by omega)
  unfold impl_ShareOut.q shRs
  have ew : wrap64 (a0 * x) = a0 * x := w64 (by omega) (by omega)
  rw [ew, Int.tdiv_eq_ediv_of_nonneg p0, Int.tmod_eq_emod_of_nonneg p0]
  have d0 : 0 ≤ a0 * x / S := Int.ediv_nonneg p0 (by omega)
  have d1 : a0 * x / S ≤ a0 * x := Int.ediv_le_self _ p0
  rw [w64 (by omega) (by omega)]
  exact ⟨Int.mul_ediv_add_emod _ _, Int.emod_nonneg _ (by omega), Int.emod_lt_of_pos _ (by omega), d0, by omega⟩
theorem shSums {a0 S : Int} {l : List Int} (h0 : 0 ≤ a0) (h1 : a0 ≤ 1000000) (hS : 1 ≤ S) (hl : l.length ≤ 10) (h : shIn l) : ∀ i : Nat, i ≤ l.length →
    S * ssum ((l.take i).map (impl_ShareOut.q a0 S)) + ssum ((l.take i).map (shRs a0 S)) = a0 * ssum (l.take i) ∧ 0 ≤ ssum ((l.take i).map (shRs a0 S)) ∧ ssum ((l.take i).map (shRs a0 S)) ≤ S * i ∧
    0 ≤ ssum ((l.take i).map (impl_ShareOut.q a0 S)) ∧ ssum ((l.take i).map (impl_ShareOut.q a0 S)) ≤ 1000000000 * i ∧ impl_ShareOut.lft a0 S (l.take i) = a0 - ssum ((l.take i).map (impl_ShareOut.q a0 S)) := by
  intro i
  induction i with
  | zero => intro _; simp [ssum, impl_ShareOut.lft]
  | succ i ih =>
    intro hi
    obtain ⟨e1, e2, e3, e4, e5, e6⟩ := ih (by omega)
    obtain ⟨f1, f2, f3, f4, f5⟩ := shQ h0 h1 hS (shIn_rd h i (by omega))
    rw [impl_ShareOut.lft_take a0 S l i (by omega), impl_ShareOut.map_take _ l i (by omega), impl_ShareOut.map_take _ l i (by omega), ssum_append, ssum_append, ssum_take l i (by omega), e6]
    have g1 : ssum [impl_ShareOut.q a0 S (rd l (i : Int))] = impl_ShareOut.q a0 S (rd l (i : Int)) := by simp [ssum]
    have g2 : ssum [shRs a0 S (rd l (i : Int))] = shRs a0 S (rd l (i : Int)) := by simp [ssum]
    rw [g1, g2, Int.mul_add, Int.mul_add, w64 (by omega) (by omega)]
    have g3 : S * ((i + 1 : Nat) : Int) = S * i + S := by rw [show ((i + 1 : Nat) : Int) = (i : Int) + 1 by omega, Int.mul_add, Int.mul_one]
    rw [g3]
    refine ⟨by omega, by omega, by omega, by omega, by omega, by omega⟩
theorem shLeft {a0 : Int} {l : List Int} (h0 : 0 ≤ a0) (h1 : a0 ≤ 1000000) (hS : 1 ≤ ssum l) (hl : l.length ≤ 10) (h : shIn l) : 0 ≤ impl_ShareOut.lft a0 (ssum l) l ∧ impl_ShareOut.lft a0 (ssum l) l ≤ (l.length : Int) := by
  have hs := shSums (l := l) h0 h1 hS hl h l.length (Nat.le_refl _)
  rw [List.take_length] at hs
  obtain ⟨e1, e2, e3, e4, e5, e6⟩ := hs
  generalize ssum l = S at *
  generalize ssum (l.map (impl_ShareOut.q a0 S)) = Q at *
  generalize ssum (l.map (shRs a0 S)) = W at *
  rw [e6]
  have hm : S * (a0 - Q) = W := by rw [Int.mul_sub, Int.mul_comm S a0]; omega
  constructor
  · refine Decidable.byContradiction fun hc => ?_
    have := Int.mul_le_mul_of_nonneg_left (show a0 - Q ≤ -1 by omega) (show 0 ≤ S by omega)
    rw [hm] at this
    omega
  · refine Decidable.byContradiction fun hc => ?_
    have := Int.mul_le_mul_of_nonneg_left (show (l.length : Int) + 1 ≤ a0 - Q by omega) (show 0 ≤ S by omega)
    rw [hm, Int.mul_add, Int.mul_one] at this
    omega
theorem sh_map_rd (f : Int → Int) (l : List Int) (j : Nat) (h : j < l.length) : rd (l.map f) (j : Int) = f (rd l (j : Int)) := by
  rw [sh_rd _ j (by rw [List.length_map]; exact h), sh_rd l j h, List.getElem_map]
theorem allF {l : List Int} (h : ¬ (l.length ≤ 10 ∧ shIn l)) : Ev (fun k => impl_ShareOut.all? k l) 0 := by
  unfold impl_ShareOut.all?
  refine evIf (fun h1 => ?_) (fun _ => evSome _)
  refine evIf (fun h2 => absurd ⟨h1, (shIn_all l).1 h2⟩ h) (fun _ => evSome _)
theorem allT {l : List Int} (h1 : l.length ≤ 10) (h2 : shIn l) : Ev (fun k => impl_ShareOut.all? k l) (ssum l) := by
  unfold impl_ShareOut.all?
  exact evT h1 (evT ((shIn_all l).2 h2) (sumOf_ev l h1 h2))
theorem sh_j0 (a0 : Int) (l : List Int) : Ev (fun k => spec_ShareOut.j0 k a0 l true) ([] : List Int) := by
  refine Ev.step (fun k => by rw [spec_ShareOut.j0]) ?_
  exact evT rfl (evSome _)
theorem sh_j1 (a0 : Int) (l : List Int) (hl : l.length ≤ 10) (R : List Int) (h : Ev (fun k => spec_ShareOut.l0 k a0 l 0 l (l.length : Int) 0) R) : Ev (fun k => spec_ShareOut.j0 k a0 l (decide ((l.length : Int) > 10))) R := by
  refine Ev.step (fun k => by rw [spec_ShareOut.j0]) ?_
  rw [decide_eq_false (by omega)]
  exact evF (by decide) h
theorem share_ev (a0 : Int) (l : List Int) : ∃ R : List Int, R.length ≤ 1048576 ∧ Ev (fun k => spec_ShareOut.f k a0 l) R ∧ Ev (fun k => impl_ShareOut.f k a0 l) R := by
  by_cases ha : 0 ≤ a0 ∧ a0 ≤ 1000000
  case neg =>
    have hall : ∃ s, Ev (fun k => impl_ShareOut.all? k l) s := by
      by_cases c : l.length ≤ 10 ∧ shIn l
      · exact ⟨_, allT c.1 c.2⟩
      · exact ⟨_, allF c⟩
    obtain ⟨s, hs⟩ := hall
    refine ⟨[], by simp, ?_, ?_⟩
    · unfold spec_ShareOut.f
      exact evB (l01In_f ha) (evF (by decide) (sh_j0 a0 l))
    · unfold impl_ShareOut.f
      exact Ev.bind hs (evB (within_f ha) (evF (fun h => absurd h.1 (by decide)) (evSome _)))
  have hw := within_t ha.1 ha.2
  have hlo := l01In_t ha.1 ha.2
  by_cases c : l.length ≤ 10 ∧ shIn l
  case neg =>
    refine ⟨[], by simp, ?_, ?_⟩
    · unfold spec_ShareOut.f
      refine evB hlo (evT rfl ?_)
      by_cases c2 : l.length ≤ 10
      · refine sh_j1 a0 l c2 _ ?_
        have h := spec_sh_l0 a0 l c2 [] (fun h => absurd ⟨c2, h⟩ c) (fun _ => rfl) l.length 0 (by omega) (fun x hx => by simp at hx)
        simpa [ssum] using h
      · rw [decide_eq_true (by omega)]
        exact sh_j0 a0 l
    · unfold impl_ShareOut.f
      exact Ev.bind (allF c) (evB hw (evF (fun h => absurd h.2 (by decide)) (evSome _)))
  obtain ⟨hl, hin⟩ := c
  have hb := ssum_b hin l.length (Nat.le_refl _)
  rw [List.take_length] at hb
  by_cases hS : ssum l = 0
  · refine ⟨[], by simp, ?_, ?_⟩
    · unfold spec_ShareOut.f
      refine evB hlo (evT rfl (sh_j1 a0 l hl _ ?_))
      have h := spec_sh_l0 a0 l hl [] (fun _ => evT hS (evSome _)) (fun _ => rfl) l.length 0 (by omega) (fun x hx => by simp at hx)
      simpa [ssum] using h
    · unfold impl_ShareOut.f
      exact Ev.bind (allT hl hin) (evB hw (evF (fun h => by have := h.2; omega) (evSome _)))
  have hS1 : 1 ≤ ssum l := by omega
  obtain ⟨m, hm⟩ : ∃ m, l.length = m + 1 := ⟨l.length - 1, by
    cases l with
    | nil => exact absurd rfl hS
    | cons x l => simp⟩
  obtain ⟨hL0, hL1⟩ := shLeft ha.1 ha.2 hS1 hl hin
  have hO := shOrd a0 (ssum l) l m (fun i => shRs a0 (ssum l) (rd l (i : Int))) (fun x y => by
    have hx := shQ ha.1 ha.2 hS1 (shIn_rd hin x.val (by have := x.isLt; omega))
    have hy := shQ ha.1 ha.2 hS1 (shIn_rd hin y.val (by have := y.isLt; omega))
    have e : impl_ShareOut.cfi a0 (ssum l) l m x y = wrap64 (shRs a0 (ssum l) (rd l (y.val : Int)) - shRs a0 (ssum l) (rd l (x.val : Int))) := rfl
    rw [e, w64 (by omega) (by omega)])
  refine ⟨impl_ShareOut.incs (l.map (impl_ShareOut.q a0 (ssum l))) ((impl_ShareOut.ord a0 (ssum l) l m).take (impl_ShareOut.lft a0 (ssum l) l).toNat), by rw [impl_ShareOut.incs_len, List.length_map]; omega, ?_, ?_⟩
  · unfold spec_ShareOut.f
    refine evB hlo (evT rfl (sh_j1 a0 l hl _ ?_))
    have hp := shPick hO (by omega) (fun i hi => (shQ ha.1 ha.2 hS1 (shIn_rd hin i (by omega))).2.1) (l.map (impl_ShareOut.q a0 (ssum l))) (by rw [List.length_map, hm]) (impl_ShareOut.lft a0 (ssum l) l).toNat (by omega) (impl_ShareOut.lft a0 (ssum l) l).toNat 0 (l.map (shRs a0 (ssum l))) (by omega) (by rw [List.length_map, hm]) (fun s hs => by
      have h := hO.lt s hs
      obtain ⟨p, hp⟩ : ∃ p : Nat, rd (impl_ShareOut.ord a0 (ssum l) l m) (s : Int) = (p : Int) := ⟨(rd (impl_ShareOut.ord a0 (ssum l) l m) (s : Int)).toNat, by omega⟩
      rw [if_neg (by omega), hp, sh_map_rd _ l p (by omega), Int.toNat_natCast])
    have e0 : (((impl_ShareOut.lft a0 (ssum l) l).toNat - 0 : Nat) : Int) = impl_ShareOut.lft a0 (ssum l) l := by omega
    rw [e0, List.take_zero] at hp
    have h := spec_sh_l0 a0 l hl _ (fun _ => evF hS (by
      have h1 := spec_sh_l1 a0 (ssum l) l hl hS _ hp l.length 0 (by omega)
      exact h1)) (fun h => absurd hin h) l.length 0 (by omega) (fun x hx => by simp at hx)
    simpa [ssum] using h
  · unfold impl_ShareOut.f
    refine Ev.bind (allT hl hin) (evB hw (evT ⟨rfl, hS1⟩ ?_))
    unfold impl_ShareOut.main
    refine evT ⟨by omega, hl, hL0, hL1⟩ ?_
    rw [show l.length - 1 = m by omega]
    exact evSome _

--import Derived.Sort.LotA
theorem FnExactShareOut : ∀ (a0 : Int) (l1 : List (Int)), Opens.I64 a0 → (l1.length ≤ 9223372036854775807 ∧ ∀ x ∈ l1, Opens.I64 x) → ∃ k, laws_FnExactShareOut.f k a0 l1 = some true := by
  intro a0 l1 _ _
  refine Ev.rounds (g := fun k => laws_FnExactShareOut.f k a0 l1) ?_
  by_cases h : (l1.length : Int) > 1048576
  · unfold laws_FnExactShareOut.f; exact evT h (evSome _)
  · obtain ⟨R, hl, hS, hI⟩ := share_ev a0 l1
    have hT := toIntS_ev l1 (by omega)
    have hm := markIntS_ev R 1 (by omega)
    have hh := heldIntS_ev 1 R.length (by omega)
    have hm1 := markIntS_ev l1 1 (by omega)
    have he := eqIntS_ev R (by omega)
    have he1 := eqIntS_ev l1 (by omega)
    unfold laws_FnExactShareOut.f
    refine evF h (Ev.bind hT (Ev.bind hS (Ev.bind hT (Ev.bind hI (Ev.bind he (evT rfl (Ev.bind hT (Ev.bind he1 (evT rfl (Ev.bind hm1 (evF (by omega) (Ev.bind he ?_))))))))))))
    refine Ev.step (fun k => by rw [laws_FnExactShareOut.j0]) ?_
    exact evF (by decide) (Ev.bind hm (Ev.bind hh (evF (by omega) (evT rfl (Ev.bind hT (Ev.bind hI (Ev.bind he (evT rfl (Ev.bind hh (evF (by omega) (evT rfl (evSome _))))))))))))

end Go.Proofs.Ytdiphnkkomfmdaa.Pure
