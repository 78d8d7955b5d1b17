/- FnExactCreasesOf: for every string, CreasesOf of the program and of the reference answer alike. No condition. -/
import Derived.Test.YtohlccmebhfdaaaDoorQFnExactCreasesOfx4
import Derived.Test.YtohlccmebhfdaaaDoorOpens
namespace Go.Proofs.YtohlccmebhfdaaaDoor.Pure
open Go.RowKit Go.Proofs.YtohlccmebhfdaaaDoor Go.Proofs.YtohlccmebhfdaaaDoor.QFnExactCreasesOf Go.Proofs.YtohlccmebhfdaaaDoorW.PrintWords Go.Proofs.YtohlccmebhfdaaaDoorW.PrintLast
set_option linter.unusedVariables false
set_option linter.unusedSimpArgs false

/-! base -/
theorem w64 {x : Int} (h0 : -9223372036854775808 ≤ x) (h1 : x ≤ 9223372036854775807) : wrap64 x = x := by unfold wrap64; omega
theorem w64n (n : Nat) (h : n ≤ 9223372036854775807) : wrap64 (n : Int) = n := w64 (by omega) (by omega)
theorem w64s (n : Nat) (h : n < 9223372036854775807) : wrap64 ((n : Int) + 1) = ((n + 1 : Nat) : Int) := by rw [w64 (by omega) (by omega)]; omega
theorem evSome {α : Type} (r : α) : Ev (fun _ : Nat => some r) r := ⟨0, fun _ _ => rfl⟩
theorem evOf {α : Type} {f : Option α} {r : α} (h : f = some r) : Ev (fun _ : Nat => f) r := ⟨0, fun _ _ => h⟩
theorem evUniq {α : Type} {g : Nat → Option α} {r q : α} (h : Ev g r) (k : Ev g q) : r = q := by
  obtain ⟨a, ha⟩ := h
  obtain ⟨b, hb⟩ := k
  have h1 := ha (a + b) (by omega)
  rw [hb (a + b) (by omega)] at h1
  exact (Option.some.inj h1).symm
theorem evIf {α : Type} {c : Prop} [Decidable c] {f g : Nat → Option α} {r : α} (hp : c → Ev f r) (hn : ¬ c → Ev g r) : Ev (fun k => if c then f k else g k) r := by
  by_cases h : c
  · simp only [if_pos h]; exact hp h
  · simp only [if_neg h]; exact hn h
theorem evT {α : Type} {c : Prop} [Decidable c] {f g : Nat → Option α} {r : α} (h : c) (hp : Ev f r) : Ev (fun k => if c then f k else g k) r := by
  simp only [if_pos h]; exact hp
theorem evF {α : Type} {c : Prop} [Decidable c] {f g : Nat → Option α} {r : α} (h : ¬ c) (hp : Ev g r) : Ev (fun k => if c then f k else g k) r := by
  simp only [if_neg h]; exact hp
theorem evB {α β : Type} {f : Option α} {g : Nat → α → Option β} {a : α} {r : β} (h : f = some a) (k : Ev (fun n => g n a) r) : Ev (fun n => f.bind (g n)) r := by
  subst h
  exact k
theorem getD_eq {α : Type} (l : List α) (i : Nat) (z : α) (h : i < l.length) : l.getD i z = l[i] := by
  rw [List.getD_eq_getElem?_getD, List.getElem?_eq_getElem h]; rfl
theorem take_succ' {α : Type} (l : List α) (i : Nat) (h : i < l.length) : l.take (i + 1) = l.take i ++ [l[i]] := by
  rw [List.take_succ_eq_append_getElem h]
theorem set_fill {α : Type} (l : List α) (z x : α) (i d : Nat) (hi : l.length = i) : (l ++ List.replicate (d + 1) z).set i x = l ++ [x] ++ List.replicate d z := by
  subst hi
  rw [List.set_append_right _ _ (Nat.le_refl _), Nat.sub_self, List.replicate_succ, List.set_cons_zero, List.append_assoc]
  rfl
theorem drop_cons {α : Type} (l : List α) (i : Nat) (h : i < l.length) : l.drop i = l[i] :: l.drop (i + 1) := List.drop_eq_getElem_cons h
/-! down -/
theorem down {P : Nat → Prop} (n : Nat) (h0 : P n) (hs : ∀ i, i < n → P (i + 1) → P i) : ∀ i, i ≤ n → P i := by
  intro i hi
  obtain ⟨d, hd⟩ : ∃ d, i + d = n := ⟨n - i, by omega⟩
  induction d generalizing i with
  | zero => have : i = n := by omega
            subst this; exact h0
  | succ d ih => exact hs i (by omega) (ih (i + 1) (by omega) (by omega))
/-! btData -/
theorem bt_data (s : ByteArray) (i : Nat) (h : i < s.data.toList.length) : bt s (i : Int) = ((s.data.toList[i]).toNat : Int) := by
  unfold bt
  rw [show ((i : Int)).toNat = i from by omega]
  have h2 : i < s.size := by simpa using h
  rw [dif_pos h2]
  simp [ByteArray.getElem_eq_getElem_data]
theorem size_data (s : ByteArray) : s.data.toList.length = s.size := by simp
/-! trimAll -/
theorem dropWhile_all {α : Type} (p : α → Bool) : ∀ l : List α, (l.dropWhile p = []) ↔ l.all p = true
  | [] => by simp
  | a :: l => by
    by_cases h : p a = true
    · rw [List.dropWhile_cons_of_pos h, dropWhile_all p l]; simp [h]
    · rw [List.dropWhile_cons_of_neg h]; simp [h]
theorem trimS_nil (l cs : List UInt8) : Lib.trimS l cs = [] ↔ l.all (cs.contains ·) = true := by
  unfold Lib.trimS Lib.trimLeftS Lib.trimRightS
  rw [dropWhile_all]
  constructor
  · intro h
    rw [List.all_eq_true] at h ⊢
    intro x hx
    by_cases hc : cs.contains x = true
    · exact hc
    · have : x ∈ (l.reverse.dropWhile (cs.contains ·)).reverse := by
        rw [List.mem_reverse]
        have h1 : x ∈ l.reverse := List.mem_reverse.2 hx
        rw [← List.takeWhile_append_dropWhile (p := (cs.contains ·)) (l := l.reverse)] at h1
        rcases List.mem_append.1 h1 with h1 | h1
        · exact absurd (List.all_eq_true.1 (List.all_takeWhile (p := (cs.contains ·))) x h1) hc
        · exact h1
      exact h x this
  · intro h
    rw [List.all_eq_true] at h ⊢
    intro x hx
    exact h x (List.mem_reverse.1 ((List.dropWhile_sublist _).subset (List.mem_reverse.1 hx)))
/-! foldWord -/
def okWord (s : ByteArray) : Bool := decide (s.size ≤ 5) && s.data.toList.all (fun b => b == 82 || b == 76)
theorem spec_word_l0 (s : ByteArray) (hs : s.size ≤ 1048576) : ∀ i, i ≤ s.data.toList.length → Ev (fun k => spec_FoldWordOk.l0 k s (i : Int)) ((s.data.toList.drop i).all (fun b => b == 82 || b == 76)) := by
  have hsz := size_data s
  refine down s.data.toList.length ?_ ?_
  · refine Ev.step (fun k => by rw [spec_FoldWordOk.l0]) ?_
    rw [List.drop_length]
    exact evF (by omega) (evSome _)
  · intro i hi ih
    refine Ev.step (fun k => by rw [spec_FoldWordOk.l0]) ?_
    refine evT (by omega) (evT (by omega) ?_)
    rw [bt_data s i hi, w64s i (by omega), drop_cons _ i hi, List.all_cons]
    by_cases c : s.data.toList[i] = 82
    · rw [c]
      exact evT (by decide) ih
    · refine evF (fun h => c (UInt8.toNat_inj.1 (by rw [show (82 : UInt8).toNat = 82 from rfl]; omega))) ?_
      by_cases c2 : s.data.toList[i] = 76
      · rw [c2]
        exact evT (by decide) ih
      · rw [show (s.data.toList[i] == 82 || s.data.toList[i] == 76) = false by rw [beq_eq_false_iff_ne.2 c, beq_eq_false_iff_ne.2 c2]; rfl, Bool.false_and]
        exact evF (fun h => c2 (UInt8.toNat_inj.1 (by rw [show (76 : UInt8).toNat = 76 from rfl]; omega))) (evSome _)
theorem spec_word_ev (s : ByteArray) (hs : s.size ≤ 1048576) : Ev (fun k => spec_FoldWordOk.f k s) (okWord s) := by
  unfold spec_FoldWordOk.f okWord
  by_cases h : s.size ≤ 5
  · rw [decide_eq_true h, Bool.true_and]
    exact evF (by omega) (by simpa using spec_word_l0 s hs 0 (by omega))
  · rw [decide_eq_false h, Bool.false_and]
    exact evT (by omega) (evSome _)
theorem ba_toList (s : ByteArray) : s.toList = s.data.toList := by
  have key : ∀ (d i : Nat) (r : List UInt8), d = s.size - i → i ≤ s.size → ByteArray.toList.loop s i r = r.reverse ++ s.data.toList.drop i := by
    intro d
    induction d with
    | zero =>
      intro i r hd hi
      unfold ByteArray.toList.loop
      rw [if_neg (by omega), List.drop_of_length_le (by rw [size_data]; omega), List.append_nil]
    | succ d ih =>
      intro i r hd hi
      unfold ByteArray.toList.loop
      have hlt : i < s.size := by omega
      rw [if_pos hlt, ih (i + 1) _ (by omega) (by omega), List.reverse_cons, List.append_assoc, drop_cons s.data.toList i (by rw [size_data]; exact hlt)]
      congr 2
      simp [ByteArray.get!, hlt, getElem!_pos]
  unfold ByteArray.toList
  rw [key s.size 0 [] (by omega) (by omega)]
  simp
theorem impl_word_eq (s : ByteArray) (hs : s.size ≤ 1048576) : impl_FoldWordOk.f s = some (okWord s) := by
  unfold impl_FoldWordOk.f okWord
  by_cases h : s.size ≤ 5
  · rw [if_pos (by omega), decide_eq_true h, Bool.true_and]
    have e : strings_Trim.f s ⟨#[82, 76]⟩ = some ⟨(Lib.trimS s.data.toList [82, 76]).toArray⟩ := by
      unfold strings_Trim.f
      rw [if_pos ⟨by omega, by decide, by decide⟩]
    rw [e, Option.bind_some, ba_toList]
    congr 1
    have h2 := trimS_nil s.data.toList [82, 76]
    have h3 : (fun b : UInt8 => ([82, 76] : List UInt8).contains b) = (fun b => b == 82 || b == 76) := by
      funext b
      simp [List.contains, List.elem]
      cases h4 : (b == 82) <;> cases h5 : (b == 76) <;> simp_all
    rw [h3] at h2
    cases hb : s.data.toList.all (fun b => b == 82 || b == 76) with
    | true => rw [h2.2 hb]; rfl
    | false =>
      have : Lib.trimS s.data.toList [82, 76] ≠ [] := fun h4 => by rw [h2.1 h4] at hb; cases hb
      simp [this]
  · rw [if_neg (by omega), decide_eq_false h, Bool.false_and]
/-! words -/
def wds : Nat → List (List UInt8)
  | 0 => [[]]
  | n + 1 => (wds n).flatMap (fun l => [82 :: l, 76 :: l])
def allW : List (List UInt8) := wds 0 ++ wds 1 ++ wds 2 ++ wds 3 ++ wds 4 ++ wds 5
theorem mem_wds : ∀ l : List UInt8, l.all (fun b => b == 82 || b == 76) = true → l ∈ wds l.length
  | [], _ => by simp [wds]
  | b :: l, h => by
    rw [List.all_cons, Bool.and_eq_true] at h
    have h2 := mem_wds l h.2
    rw [List.length_cons, wds, List.mem_flatMap]
    refine ⟨l, h2, ?_⟩
    have h3 : b = 82 ∨ b = 76 := by simpa using h.1
    rcases h3 with rfl | rfl <;> simp
theorem word_cases {P : ByteArray → Prop} (h : ∀ l ∈ allW, P ⟨⟨l⟩⟩) {s : ByteArray} (hs : okWord s = true) : P s := by
  unfold okWord at hs
  rw [Bool.and_eq_true, decide_eq_true_eq] at hs
  obtain ⟨⟨l⟩⟩ := s
  refine h l ?_
  have hm := mem_wds l hs.2
  have hl : l.length ≤ 5 := hs.1
  unfold allW
  simp only [List.mem_append]
  match hk : l.length, hl with
  | 0, _ => rw [hk] at hm; simp [hm]
  | 1, _ => rw [hk] at hm; simp [hm]
  | 2, _ => rw [hk] at hm; simp [hm]
  | 3, _ => rw [hk] at hm; simp [hm]
  | 4, _ => rw [hk] at hm; simp [hm]
  | 5, _ => rw [hk] at hm; simp [hm]

def sF (s : ByteArray) : Option ByteArray := (spec_l28Fold.f s).bind fun bt => some (strOfNums bt.2)
def iF (s : ByteArray) : Option ByteArray := impl_creases.f 300 s
def chk (l : List UInt8) : Bool := (spec_FoldWordOk.f 300 ⟨⟨l⟩⟩ == some true) && ((sF ⟨⟨l⟩⟩).map (fun b => b.data.toList) == (iF ⟨⟨l⟩⟩).map (fun b => b.data.toList) && (sF ⟨⟨l⟩⟩).isSome)
theorem chk_all : allW.all chk = true := by kernel_rfl
theorem chk_of {s : ByteArray} (h : okWord s = true) : spec_FoldWordOk.f 300 s = some true ∧ ∃ a b : ByteArray, sF s = some a ∧ iF s = some b ∧ a.data.toList = b.data.toList := by
  refine word_cases (P := fun s => spec_FoldWordOk.f 300 s = some true ∧ ∃ a b : ByteArray, sF s = some a ∧ iF s = some b ∧ a.data.toList = b.data.toList) (fun l hl => ?_) h
  have h2 := List.all_eq_true.1 chk_all l hl
  unfold chk at h2
  rw [Bool.and_eq_true, Bool.and_eq_true] at h2
  obtain ⟨a, ha⟩ := Option.isSome_iff_exists.1 h2.2.2
  have h3 := beq_iff_eq.1 h2.2.1
  rw [ha] at h3
  cases hb : iF ⟨⟨l⟩⟩ with
  | none => rw [hb] at h3; cases h3
  | some b =>
    rw [hb] at h3
    exact ⟨beq_iff_eq.1 h2.1, a, b, ha, rfl, Option.some.inj h3⟩
theorem FnExactCreasesOf : ∀ (a0 : ByteArray), a0.size ≤ 140737488351232 → ∃ k, laws_FnExactCreasesOf.f k a0 = some true := by
  intro a0 _
  by_cases h : (a0.size : Int) > 1048576
  · exact ⟨0, by unfold laws_FnExactCreasesOf.f; rw [if_pos h]⟩
  · cases hw : okWord a0 with
    | true =>
      obtain ⟨h1, a, b, ha, hb, hab⟩ := chk_of hw
      have h2 := impl_word_eq a0 (by omega)
      rw [hw] at h2
      refine ⟨300, ?_⟩
      have hS : spec_CreasesOf.f 300 a0 = some a := by unfold spec_CreasesOf.f; rw [h1]; exact ha
      have hI : impl_CreasesOf.f 300 a0 = some b := by
        unfold impl_CreasesOf.f
        rw [h2, Option.bind_some, if_pos rfl, show impl_creases.f 300 a0 = some b from hb]
        rfl
      unfold laws_FnExactCreasesOf.f
      rw [if_neg h, hS, hI]
      show (if b.toList = a.toList then some true else some false) = some true
      rw [if_pos (by rw [ba_toList, ba_toList, hab])]
    | false =>
      have h2 := impl_word_eq a0 (by omega)
      have h1 := spec_word_ev a0 (by omega)
      rw [hw] at h1 h2
      refine Ev.rounds (g := fun k => laws_FnExactCreasesOf.f k a0) ?_
      unfold laws_FnExactCreasesOf.f spec_CreasesOf.f impl_CreasesOf.f
      refine evF h (Ev.bind (Ev.bind h1 (evF (by decide) (evSome _))) (Ev.bind (a := (⟨#[]⟩ : ByteArray)) (evB h2 (evF (by decide) (evSome _))) (evT rfl (evSome _))))

end Go.Proofs.YtohlccmebhfdaaaDoor.Pure
