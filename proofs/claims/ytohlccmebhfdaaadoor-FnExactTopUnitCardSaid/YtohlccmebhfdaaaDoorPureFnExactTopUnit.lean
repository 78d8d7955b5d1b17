/- FnExactTopUnit: for every string, TopUnit of the program and of the reference answer alike. No condition. -/
import Derived.Test.YtohlccmebhfdaaaDoorQFnExactTopUnitx4
import Derived.Test.YtohlccmebhfdaaaDoorOpens
namespace Go.Proofs.YtohlccmebhfdaaaDoor.Pure
open Go.RowKit Go.Proofs.YtohlccmebhfdaaaDoor Go.Proofs.YtohlccmebhfdaaaDoor.QFnExactTopUnit Go.Proofs.YtohlccmebhfdaaaDoorW.PrintWords Go.Proofs.YtohlccmebhfdaaaDoorW.PrintLast
set_option linter.unusedVariables false
set_option linter.unusedSimpArgs false

/-! base -/
theorem w64 {x : Int} (h0 : -9223372036854775808 ≤ x) (h1 : x ≤ 9223372036854775807) : wrap64 x = x := by unfold wrap64; omega
theorem w64n (n : Nat) (h : n ≤ 9223372036854775807) : wrap64 (n : Int) = n := w64 (by omega) (by omega)
theorem w64s (n : Nat) (h : n < 9223372036854775807) : wrap64 ((n : Int) + 1) = ((n + 1 : Nat) : Int) := by rw [w64 (by omega) (by omega)]; omega
theorem evSome {α : Type} (r : α) : Ev (fun _ : Nat => some r) r := ⟨0, fun _ _ => rfl⟩
theorem evOf {α : Type} {f : Option α} {r : α} (h : f = some r) : Ev (fun _ : Nat => f) r := ⟨0, fun _ _ => h⟩
theorem evUniq {α : Type} {g : Nat → Option α} {r q : α} (h : Ev g r) (k : Ev g q) : r = q := by
  obtain ⟨a, ha⟩ := h
  obtain ⟨b, hb⟩ := k
  have h1 := ha (a + b) (by omega)
  rw [hb (a + b) (by omega)] at h1
  exact (Option.some.inj h1).symm
theorem evIf {α : Type} {c : Prop} [Decidable c] {f g : Nat → Option α} {r : α} (hp : c → Ev f r) (hn : ¬ c → Ev g r) : Ev (fun k => if c then f k else g k) r := by
  by_cases h : c
  · simp only [if_pos h]; exact hp h
  · simp only [if_neg h]; exact hn h
theorem evT {α : Type} {c : Prop} [Decidable c] {f g : Nat → Option α} {r : α} (h : c) (hp : Ev f r) : Ev (fun k => if c then f k else g k) r := by
  simp only [if_pos h]; exact hp
theorem evF {α : Type} {c : Prop} [Decidable c] {f g : Nat → Option α} {r : α} (h : ¬ c) (hp : Ev g r) : Ev (fun k => if c then f k else g k) r := by
  simp only [if_neg h]; exact hp
theorem evB {α β : Type} {f : Option α} {g : Nat → α → Option β} {a : α} {r : β} (h : f = some a) (k : Ev (fun n => g n a) r) : Ev (fun n => f.bind (g n)) r := by
  subst h
  exact k
theorem getD_eq {α : Type} (l : List α) (i : Nat) (z : α) (h : i < l.length) : l.getD i z = l[i] := by
  rw [List.getD_eq_getElem?_getD, List.getElem?_eq_getElem h]; rfl
theorem take_succ' {α : Type} (l : List α) (i : Nat) (h : i < l.length) : l.take (i + 1) = l.take i ++ [l[i]] := by
  rw [List.take_succ_eq_append_getElem h]
theorem set_fill {α : Type} (l : List α) (z x : α) (i d : Nat) (hi : l.length = i) : (l ++ List.replicate (d + 1) z).set i x = l ++ [x] ++ List.replicate d z := by
  subst hi
  rw [List.set_append_right _ _ (Nat.le_refl _), Nat.sub_self, List.replicate_succ, List.set_cons_zero, List.append_assoc]
  rfl
theorem drop_cons {α : Type} (l : List α) (i : Nat) (h : i < l.length) : l.drop i = l[i] :: l.drop (i + 1) := List.drop_eq_getElem_cons h
/-! down -/
theorem down {P : Nat → Prop} (n : Nat) (h0 : P n) (hs : ∀ i, i < n → P (i + 1) → P i) : ∀ i, i ≤ n → P i := by
  intro i hi
  obtain ⟨d, hd⟩ : ∃ d, i + d = n := ⟨n - i, by omega⟩
  induction d generalizing i with
  | zero => have : i = n := by omega
            subst this; exact h0
  | succ d ih => exact hs i (by omega) (ih (i + 1) (by omega) (by omega))
/-! btData -/
theorem bt_data (s : ByteArray) (i : Nat) (h : i < s.data.toList.length) : bt s (i : Int) = ((s.data.toList[i]).toNat : Int) := by
  unfold bt
  rw [show ((i : Int)).toNat = i from by omega]
  have h2 : i < s.size := by simpa using h
  rw [dif_pos h2]
  simp [ByteArray.getElem_eq_getElem_data]
theorem size_data (s : ByteArray) : s.data.toList.length = s.size := by simp
/-! trimAll -/
theorem dropWhile_all {α : Type} (p : α → Bool) : ∀ l : List α, (l.dropWhile p = []) ↔ l.all p = true
  | [] => by simp
  | a :: l => by
    by_cases h : p a = true
    · rw [List.dropWhile_cons_of_pos h, dropWhile_all p l]; simp [h]
    · rw [List.dropWhile_cons_of_neg h]; simp [h]
theorem trimS_nil (l cs : List UInt8) : Lib.trimS l cs = [] ↔ l.all (cs.contains ·) = true := by
  unfold Lib.trimS Lib.trimLeftS Lib.trimRightS
  rw [dropWhile_all]
  constructor
  · intro h
    rw [List.all_eq_true] at h ⊢
    intro x hx
    by_cases hc : cs.contains x = true
    · exact hc
    · have : x ∈ (l.reverse.dropWhile (cs.contains ·)).reverse := by
        rw [List.mem_reverse]
        have h1 : x ∈ l.reverse := List.mem_reverse.2 hx
        rw [← List.takeWhile_append_dropWhile (p := (cs.contains ·)) (l := l.reverse)] at h1
        rcases List.mem_append.1 h1 with h1 | h1
        · exact absurd (List.all_eq_true.1 (List.all_takeWhile (p := (cs.contains ·))) x h1) hc
        · exact h1
      exact h x this
  · intro h
    rw [List.all_eq_true] at h ⊢
    intro x hx
    exact h x (List.mem_reverse.1 ((List.dropWhile_sublist _).subset (List.mem_reverse.1 hx)))
/-! foldWord -/
def okWord (s : ByteArray) : Bool := decide (s.size ≤ 5) && s.data.toList.all (fun b => b == 82 || b == 76)
theorem spec_word_l0 (s : ByteArray) (hs : s.size ≤ 1048576) : ∀ i, i ≤ s.data.toList.length → Ev (fun k => spec_FoldWordOk.l0 k s (i : Int)) ((s.data.toList.drop i).all (fun b => b == 82 || b == 76)) := by
  have hsz := size_data s
  refine down s.data.toList.length ?_ ?_
  · refine Ev.step (fun k => by rw [spec_FoldWordOk.l0]) ?_
    rw [List.drop_length]
    exact evF (by omega) (evSome _)
  · intro i hi ih
    refine Ev.step (fun k => by rw [spec_FoldWordOk.l0]) ?_
    refine evT (by omega) (evT (by omega) ?_)
    rw [bt_data s i hi, w64s i (by omega), drop_cons _ i hi, List.all_cons]
    by_cases c : s.data.toList[i] = 82
    · rw [c]
      exact evT (by decide) ih
    · refine evF (fun h => c (UInt8.toNat_inj.1 (by rw [show (82 : UInt8).toNat = 82 from rfl]; omega))) ?_
      by_cases c2 : s.data.toList[i] = 76
      · rw [c2]
        exact evT (by decide) ih
      · rw [show (s.data.toList[i] == 82 || s.data.toList[i] == 76) = false by rw [beq_eq_false_iff_ne.2 c, beq_eq_false_iff_ne.2 c2]; rfl, Bool.false_and]
        exact evF (fun h => c2 (UInt8.toNat_inj.1 (by rw [show (76 : UInt8).toNat = 76 from rfl]; omega))) (evSome _)
theorem spec_word_ev (s : ByteArray) (hs : s.size ≤ 1048576) : Ev (fun k => spec_FoldWordOk.f k s) (okWord s) := by
  unfold spec_FoldWordOk.f okWord
  by_cases h : s.size ≤ 5
  · rw [decide_eq_true h, Bool.true_and]
    exact evF (by omega) (by simpa using spec_word_l0 s hs 0 (by omega))
  · rw [decide_eq_false h, Bool.false_and]
    exact evT (by omega) (evSome _)
theorem ba_toList (s : ByteArray) : s.toList = s.data.toList := by
  have key : ∀ (d i : Nat) (r : List UInt8), d = s.size - i → i ≤ s.size → ByteArray.toList.loop s i r = r.reverse ++ s.data.toList.drop i := by
    intro d
    induction d with
    | zero =>
      intro i r hd hi
      unfold ByteArray.toList.loop
      rw [if_neg (by omega), List.drop_of_length_le (by rw [size_data]; omega), List.append_nil]
    | succ d ih =>
      intro i r hd hi
      unfold ByteArray.toList.loop
      have hlt : i < s.size := by omega
      rw [if_pos hlt, ih (i + 1) _ (by omega) (by omega), List.reverse_cons, List.append_assoc, drop_cons s.data.toList i (by rw [size_data]; exact hlt)]
      congr 2
      simp [ByteArray.get!, hlt, getElem!_pos]
  unfold ByteArray.toList
  rw [key s.size 0 [] (by omega) (by omega)]
  simp
theorem impl_word_eq (s : ByteArray) (hs : s.size ≤ 1048576) : impl_FoldWordOk.f s = some (okWord s) := by
  unfold impl_FoldWordOk.f okWord
  by_cases h : s.size ≤ 5
  · rw [if_pos (by omega), decide_eq_true h, Bool.true_and]
    have e : strings_Trim.f s ⟨#[82, 76]⟩ = some ⟨(Lib.trimS s.data.toList [82, 76]).toArray⟩ := by
      unfold strings_Trim.f
      rw [if_pos ⟨by omega, by decide, by decide⟩]
    rw [e, Option.bind_some, ba_toList]
    congr 1
    have h2 := trimS_nil s.data.toList [82, 76]
    have h3 : (fun b : UInt8 => ([82, 76] : List UInt8).contains b) = (fun b => b == 82 || b == 76) := by
      funext b
      simp [List.contains, List.elem]
      cases h4 : (b == 82) <;> cases h5 : (b == 76) <;> simp_all
    rw [h3] at h2
    cases hb : s.data.toList.all (fun b => b == 82 || b == 76) with
    | true => rw [h2.2 hb]; rfl
    | false =>
      have : Lib.trimS s.data.toList [82, 76] ≠ [] := fun h4 => by rw [h2.1 h4] at hb; cases hb
      simp [this]
  · rw [if_neg (by omega), decide_eq_false h, Bool.false_and]
/-! words -/
def wds : Nat → List (List UInt8)
  | 0 => [[]]
  | n + 1 => (wds n).flatMap (fun l => [82 :: l, 76 :: l])
def allW : List (List UInt8) := wds 0 ++ wds 1 ++ wds 2 ++ wds 3 ++ wds 4 ++ wds 5
theorem mem_wds : ∀ l : List UInt8, l.all (fun b => b == 82 || b == 76) = true → l ∈ wds l.length
  | [], _ => by simp [wds]
  | b :: l, h => by
    rw [List.all_cons, Bool.and_eq_true] at h
    have h2 := mem_wds l h.2
    rw [List.length_cons, wds, List.mem_flatMap]
    refine ⟨l, h2, ?_⟩
    have h3 : b = 82 ∨ b = 76 := by simpa using h.1
    rcases h3 with rfl | rfl <;> simp
theorem word_cases {P : ByteArray → Prop} (h : ∀ l ∈ allW, P ⟨⟨l⟩⟩) {s : ByteArray} (hs : okWord s = true) : P s := by
  unfold okWord at hs
  rw [Bool.and_eq_true, decide_eq_true_eq] at hs
  obtain ⟨⟨l⟩⟩ := s
  refine h l ?_
  have hm := mem_wds l hs.2
  have hl : l.length ≤ 5 := hs.1
  unfold allW
  simp only [List.mem_append]
  match hk : l.length, hl with
  | 0, _ => rw [hk] at hm; simp [hm]
  | 1, _ => rw [hk] at hm; simp [hm]
  | 2, _ => rw [hk] at hm; simp [hm]
  | 3, _ => rw [hk] at hm; simp [hm]
  | 4, _ => rw [hk] at hm; simp [hm]
  | 5, _ => rw [hk] at hm; simp [hm]
/-! foldSame -/
def foS (s : ByteArray) : Option (List Int) := (spec_l28Fold.f s).bind fun bt => spec_FoldOrder.l0 300 ([] : List Int) bt.1 (bt.1.length : Int) 0
def foI (s : ByteArray) : Option (List Int) := (impl_folded.f 300 s).bind fun t => impl_FoldOrder.l0 300 (([] : List Int)) t (t.length : Int) 0
def foChk (l : List UInt8) : Bool := (spec_FoldWordOk.f 300 ⟨⟨l⟩⟩ == some true) && ((foS ⟨⟨l⟩⟩) == (foI ⟨⟨l⟩⟩) && match foS ⟨⟨l⟩⟩ with | some r => decide (0 < r.length ∧ r.length ≤ 64) | none => false)
theorem foChk_all : allW.all foChk = true := by kernel_rfl
theorem foChk_of {s : ByteArray} (h : okWord s = true) : spec_FoldWordOk.f 300 s = some true ∧ ∃ a : List Int, foS s = some a ∧ foI s = some a ∧ (0 < a.length ∧ a.length ≤ 64) := by
  refine word_cases (P := fun s => spec_FoldWordOk.f 300 s = some true ∧ ∃ a : List Int, foS s = some a ∧ foI s = some a ∧ (0 < a.length ∧ a.length ≤ 64)) (fun l hl => ?_) h
  have h2 := List.all_eq_true.1 foChk_all l hl
  unfold foChk at h2
  rw [Bool.and_eq_true, Bool.and_eq_true] at h2
  have h3 := h2.2.2
  cases ha : foS ⟨⟨l⟩⟩ with
  | none => rw [ha] at h3; cases h3
  | some a =>
    rw [ha] at h3
    have h4 := beq_iff_eq.1 h2.2.1
    rw [ha] at h4
    exact ⟨beq_iff_eq.1 h2.1, a, rfl, h4.symm, of_decide_eq_true h3⟩
theorem fold_same (s : ByteArray) (hs : s.size ≤ 1048576) : ∃ a : List Int, a.length ≤ 64 ∧ (okWord s = true → 0 < a.length) ∧ (okWord s = false → a = []) ∧ Ev (fun k => spec_FoldOrder.f k s) a ∧ Ev (fun k => impl_FoldOrder.f k s) a := by
  have h2 := impl_word_eq s hs
  cases hw : okWord s with
  | true =>
    obtain ⟨h1, a, ha, hb, hl⟩ := foChk_of hw
    rw [hw] at h2
    have hS : spec_FoldOrder.f 300 s = some a := by unfold spec_FoldOrder.f; rw [h1]; exact ha
    have hI : impl_FoldOrder.f 300 s = some a := by unfold impl_FoldOrder.f; rw [h2]; exact hb
    exact ⟨a, hl.2, fun _ => hl.1, fun h => absurd h (by decide), Ev.of (spec_FoldOrder.mono s) hS, Ev.of (impl_FoldOrder.mono s) hI⟩
  | false =>
    have h1 := spec_word_ev s hs
    rw [hw] at h1 h2
    refine ⟨[], Nat.zero_le _, fun h => absurd h (by decide), fun _ => rfl, ?_, ?_⟩
    · unfold spec_FoldOrder.f; exact Ev.bind h1 (evF (by decide) (evSome _))
    · unfold impl_FoldOrder.f; exact evB h2 (evF (by decide) (evSome _))

theorem FnExactTopUnit : ∀ (a0 : ByteArray), a0.size ≤ 140737488351232 → ∃ k, laws_FnExactTopUnit.f k a0 = some true := by
  intro a0 _
  refine Ev.rounds (g := fun k => laws_FnExactTopUnit.f k a0) ?_
  by_cases h : (a0.size : Int) > 1048576
  · unfold laws_FnExactTopUnit.f; exact evT h (evSome _)
  · obtain ⟨a, hl, hp, hn, hS, hI⟩ := fold_same a0 (by omega)
    have h2 := impl_word_eq a0 (by omega)
    unfold laws_FnExactTopUnit.f spec_TopUnit.f impl_TopUnit.f
    cases hw : okWord a0 with
    | true =>
      have := hp hw
      rw [hw] at h2
      have e1 : wrap64 ((a.length : Int) - 1) = (a.length : Int) - 1 := w64 (by omega) (by omega)
      refine evF h (Ev.bind (Ev.bind hS (evF (by omega) (evT (by omega) (evT (by omega) (evSome _))))) (Ev.bind (a := rd a ((a.length : Int) - 1)) (evB h2 (evT rfl (Ev.bind hI (evT this (evSome _))))) (evT (by rw [e1]) (evSome _))))
    | false =>
      rw [hw] at h2
      rw [hn hw] at hS
      exact evF h (Ev.bind (Ev.bind hS (evT rfl (evSome _))) (Ev.bind (a := (-1 : Int)) (evB h2 (evF (by decide) (evSome _))) (evT rfl (evSome _))))

end Go.Proofs.YtohlccmebhfdaaaDoor.Pure
