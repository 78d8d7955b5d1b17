/- FnExactMirrorWord: for every string, MirrorWord of the program and of the reference answer alike. No condition. -/
import Derived.Test.YtndlmckfacegeaaDoorQFnExactMirrorWordx2
import Derived.Test.YtndlmckfacegeaaDoorOpens
namespace Go.Proofs.YtndlmckfacegeaaDoor.Pure
open Go.RowKit Go.Proofs.YtndlmckfacegeaaDoor Go.Proofs.YtndlmckfacegeaaDoor.QFnExactMirrorWord Go.Proofs.YtndlmckfacegeaaDoorW.PrintWords Go.Proofs.YtndlmckfacegeaaDoorW.PrintLast
set_option linter.unusedVariables false
set_option linter.unusedSimpArgs false

/-! base -/
theorem w64 {x : Int} (h0 : -9223372036854775808 ≤ x) (h1 : x ≤ 9223372036854775807) : wrap64 x = x := by unfold wrap64; omega
theorem w64n (n : Nat) (h : n ≤ 9223372036854775807) : wrap64 (n : Int) = n := w64 (by omega) (by omega)
theorem w64s (n : Nat) (h : n < 9223372036854775807) : wrap64 ((n : Int) + 1) = ((n + 1 : Nat) : Int) := by rw [w64 (by omega) (by omega)]; omega
theorem evSome {α : Type} (r : α) : Ev (fun _ : Nat => some r) r := ⟨0, fun _ _ => rfl⟩
theorem evOf {α : Type} {f : Option α} {r : α} (h : f = some r) : Ev (fun _ : Nat => f) r := ⟨0, fun _ _ => h⟩
theorem evUniq {α : Type} {g : Nat → Option α} {r q : α} (h : Ev g r) (k : Ev g q) : r = q := by
  obtain ⟨a, ha⟩ := h
  obtain ⟨b, hb⟩ := k
  have h1 := ha (a + b) (by omega)
  rw [hb (a + b) (by omega)] at h1
  exact (Option.some.inj h1).symm
theorem evIf {α : Type} {c : Prop} [Decidable c] {f g : Nat → Option α} {r : α} (hp : c → Ev f r) (hn : ¬ c → Ev g r) : Ev (fun k => if c then f k else g k) r := by
  by_cases h : c
  · simp only [if_pos h]; exact hp h
  · simp only [if_neg h]; exact hn h
theorem evT {α : Type} {c : Prop} [Decidable c] {f g : Nat → Option α} {r : α} (h : c) (hp : Ev f r) : Ev (fun k => if c then f k else g k) r := by
  simp only [if_pos h]; exact hp
theorem evF {α : Type} {c : Prop} [Decidable c] {f g : Nat → Option α} {r : α} (h : ¬ c) (hp : Ev g r) : Ev (fun k => if c then f k else g k) r := by
  simp only [if_neg h]; exact hp
theorem evB {α β : Type} {f : Option α} {g : Nat → α → Option β} {a : α} {r : β} (h : f = some a) (k : Ev (fun n => g n a) r) : Ev (fun n => f.bind (g n)) r := by
  subst h
  exact k
theorem getD_eq {α : Type} (l : List α) (i : Nat) (z : α) (h : i < l.length) : l.getD i z = l[i] := by
  rw [List.getD_eq_getElem?_getD, List.getElem?_eq_getElem h]; rfl
theorem take_succ' {α : Type} (l : List α) (i : Nat) (h : i < l.length) : l.take (i + 1) = l.take i ++ [l[i]] := by
  rw [List.take_succ_eq_append_getElem h]
theorem set_fill {α : Type} (l : List α) (z x : α) (i d : Nat) (hi : l.length = i) : (l ++ List.replicate (d + 1) z).set i x = l ++ [x] ++ List.replicate d z := by
  subst hi
  rw [List.set_append_right _ _ (Nat.le_refl _), Nat.sub_self, List.replicate_succ, List.set_cons_zero, List.append_assoc]
  rfl
theorem drop_cons {α : Type} (l : List α) (i : Nat) (h : i < l.length) : l.drop i = l[i] :: l.drop (i + 1) := List.drop_eq_getElem_cons h
/-! down -/
theorem down {P : Nat → Prop} (n : Nat) (h0 : P n) (hs : ∀ i, i < n → P (i + 1) → P i) : ∀ i, i ≤ n → P i := by
  intro i hi
  obtain ⟨d, hd⟩ : ∃ d, i + d = n := ⟨n - i, by omega⟩
  induction d generalizing i with
  | zero => have : i = n := by omega
            subst this; exact h0
  | succ d ih => exact hs i (by omega) (ih (i + 1) (by omega) (by omega))
/-! btData -/
theorem bt_data (s : ByteArray) (i : Nat) (h : i < s.data.toList.length) : bt s (i : Int) = ((s.data.toList[i]).toNat : Int) := by
  unfold bt
  rw [show ((i : Int)).toNat = i from by omega]
  have h2 : i < s.size := by simpa using h
  rw [dif_pos h2]
  simp [ByteArray.getElem_eq_getElem_data]
theorem size_data (s : ByteArray) : s.data.toList.length = s.size := by simp
/-! trimAll -/
theorem dropWhile_all {α : Type} (p : α → Bool) : ∀ l : List α, (l.dropWhile p = []) ↔ l.all p = true
  | [] => by simp
  | a :: l => by
    by_cases h : p a = true
    · rw [List.dropWhile_cons_of_pos h, dropWhile_all p l]; simp [h]
    · rw [List.dropWhile_cons_of_neg h]; simp [h]
theorem trimS_nil (l cs : List UInt8) : Lib.trimS l cs = [] ↔ l.all (cs.contains ·) = true := by
  unfold Lib.trimS Lib.trimLeftS Lib.trimRightS
  rw [dropWhile_all]
  constructor
  · intro h
    rw [List.all_eq_true] at h ⊢
    intro x hx
    by_cases hc : cs.contains x = true
    · exact hc
    · have : x ∈ (l.reverse.dropWhile (cs.contains ·)).reverse := by
        rw [List.mem_reverse]
        have h1 : x ∈ l.reverse := List.mem_reverse.2 hx
        rw [← List.takeWhile_append_dropWhile (p := (cs.contains ·)) (l := l.reverse)] at h1
        rcases List.mem_append.1 h1 with h1 | h1
        · exact absurd (List.all_eq_true.1 (List.all_takeWhile (p := (cs.contains ·))) x h1) hc
        · exact h1
      exact h x this
  · intro h
    rw [List.all_eq_true] at h ⊢
    intro x hx
    exact h x (List.mem_reverse.1 ((List.dropWhile_sublist _).subset (List.mem_reverse.1 hx)))
/-! foldWord -/
def okWord (s : ByteArray) : Bool := decide (s.size ≤ 5) && s.data.toList.all (fun b => b == 82 || b == 76)
theorem spec_word_l0 (s : ByteArray) (hs : s.size ≤ 1048576) : ∀ i, i ≤ s.data.toList.length → Ev (fun k => spec_FoldWordOk.l0 k s (i : Int)) ((s.data.toList.drop i).all (fun b => b == 82 || b == 76)) := by
  have hsz := size_data s
  refine down s.data.toList.length ?_ ?_
  · refine Ev.step (fun k => by rw [spec_FoldWordOk.l0]) ?_
    rw [List.drop_length]
    exact evF (by omega) (evSome _)
  · intro i hi ih
    refine Ev.step (fun k => by rw [spec_FoldWordOk.l0]) ?_
    refine evT (by omega) (evT (by omega) ?_)
    rw [bt_data s i hi, w64s i (by omega), drop_cons _ i hi, List.all_cons]
    by_cases c : s.data.toList[i] = 82
    · rw [c]
      exact evT (by decide) ih
    · refine evF (fun h => c (UInt8.toNat_inj.1 (by rw [show (82 : UInt8).toNat = 82 from rfl]; omega))) ?_
      by_cases c2 : s.data.toList[i] = 76
      · rw [c2]
        exact evT (by decide) ih
      · rw [show (s.data.toList[i] == 82 || s.data.toList[i] == 76) = false by rw [beq_eq_false_iff_ne.2 c, beq_eq_false_iff_ne.2 c2]; rfl, Bool.false_and]
        exact evF (fun h => c2 (UInt8.toNat_inj.1 (by rw [show (76 : UInt8).toNat = 76 from rfl]; omega))) (evSome _)
theorem spec_word_ev (s : ByteArray) (hs : s.size ≤ 1048576) : Ev (fun k => spec_FoldWordOk.f k s) (okWord s) := by
  unfold spec_FoldWordOk.f okWord
  by_cases h : s.size ≤ 5
  · rw [decide_eq_true h, Bool.true_and]
    exact evF (by omega) (by simpa using spec_word_l0 s hs 0 (by omega))
  · rw [decide_eq_false h, Bool.false_and]
    exact evT (by omega) (evSome _)
theorem ba_toList (s : ByteArray) : s.toList = s.data.toList := by
  have key : ∀ (d i : Nat) (r : List UInt8), d = s.size - i → i ≤ s.size → ByteArray.toList.loop s i r = r.reverse ++ s.data.toList.drop i := by
    intro d
    induction d with
    | zero =>
      intro i r hd hi
      unfold ByteArray.toList.loop
      rw [if_neg (by omega), List.drop_of_length_le (by rw [size_data]; omega), List.append_nil]
    | succ d ih =>
      intro i r hd hi
      unfold ByteArray.toList.loop
      have hlt : i < s.size := by omega
      rw [if_pos hlt, ih (i + 1) _ (by omega) (by omega), List.reverse_cons, List.append_assoc, drop_cons s.data.toList i (by rw [size_data]; exact hlt)]
      congr 2
      simp [ByteArray.get!, hlt, getElem!_pos]
  unfold ByteArray.toList
  rw [key s.size 0 [] (by omega) (by omega)]
  simp
theorem impl_word_eq (s : ByteArray) (hs : s.size ≤ 1048576) : impl_FoldWordOk.f s = some (okWord s) := by
  unfold impl_FoldWordOk.f okWord
  by_cases h : s.size ≤ 5
  · rw [if_pos (by omega), decide_eq_true h, Bool.true_and]
    have e : strings_Trim.f s ⟨#[82, 76]⟩ = some ⟨(Lib.trimS s.data.toList [82, 76]).toArray⟩ := by
      unfold strings_Trim.f
      rw [if_pos ⟨by omega, by decide, by decide⟩]
    rw [e, Option.bind_some, ba_toList]
    congr 1
    have h2 := trimS_nil s.data.toList [82, 76]
    have h3 : (fun b : UInt8 => ([82, 76] : List UInt8).contains b) = (fun b => b == 82 || b == 76) := by
      funext b
      simp [List.contains, List.elem]
      cases h4 : (b == 82) <;> cases h5 : (b == 76) <;> simp_all
    rw [h3] at h2
    cases hb : s.data.toList.all (fun b => b == 82 || b == 76) with
    | true => rw [h2.2 hb]; rfl
    | false =>
      have : Lib.trimS s.data.toList [82, 76] ≠ [] := fun h4 => by rw [h2.1 h4] at hb; cases hb
      simp [this]
  · rw [if_neg (by omega), decide_eq_false h, Bool.false_and]
/-! mirror -/
theorem sw_of (c : UInt8) (h : c = 82 ∨ c = 76) : mw_sw c = if c = 82 then 76 else 82 := by
  rcases h with rfl | rfl <;> decide
theorem spec_mir_l0 (s : ByteArray) (hs : s.size ≤ 1000) (hw : ∀ c ∈ s.data.toList, c = 82 ∨ c = 76) : ∀ i, i ≤ s.data.toList.length → Ev (fun k => spec_MirrorWord.l0 k s ⟨((s.data.toList.take i).map mw_sw).toArray⟩ (i : Int)) ⟨(s.data.toList.map mw_sw).toArray⟩ := by
  have hsz := size_data s
  refine down s.data.toList.length ?_ ?_
  · refine Ev.step (fun k => by rw [spec_MirrorWord.l0]) ?_
    rw [List.take_length]
    exact evF (by omega) (evSome _)
  · intro i hi ih
    have hz : (⟨((s.data.toList.take i).map mw_sw).toArray⟩ : ByteArray).size ≤ 1000 := by
      show (((s.data.toList.take i).map mw_sw).toArray).size ≤ 1000
      rw [List.size_toArray, List.length_map, List.length_take]
      omega
    refine Ev.step (fun k => by rw [spec_MirrorWord.l0]) ?_
    refine evT (by omega) (evT (by omega) ?_)
    rw [bt_data s i hi, w64s i (by omega)]
    rw [take_succ' _ i hi, List.map_append, List.map_cons, List.map_nil] at ih
    have hap : ∀ (a : List UInt8) (c : UInt8), (⟨a.toArray⟩ : ByteArray) ++ (⟨#[c]⟩ : ByteArray) = ⟨(a ++ [c]).toArray⟩ := by
      intro a c
      have e : ((⟨a.toArray⟩ : ByteArray) ++ (⟨#[c]⟩ : ByteArray)).data = (a ++ [c]).toArray := by
        rw [ByteArray.data_append]
        simp
      exact congrArg ByteArray.mk e
    rcases hw _ (List.getElem_mem hi) with c | c
    · rw [c] at ih ⊢
      refine evT (by decide) (evT (by omega) ?_)
      rw [hap]
      exact ih
    · rw [c] at ih ⊢
      refine evF (by decide) (evT (by omega) ?_)
      rw [hap]
      exact ih
def mirB (s : ByteArray) : ByteArray := if okWord s = true then ⟨(s.data.toList.map mw_sw).toArray⟩ else ⟨#[]⟩
theorem okWord_all {s : ByteArray} (h : okWord s = true) : s.size ≤ 5 ∧ ∀ c ∈ s.data.toList, c = 82 ∨ c = 76 := by
  unfold okWord at h
  rw [Bool.and_eq_true, decide_eq_true_eq, List.all_eq_true] at h
  exact ⟨h.1, fun c hc => by simpa using h.2 c hc⟩
theorem spec_mir_ev (s : ByteArray) (hs : s.size ≤ 1048576) : Ev (fun k => spec_MirrorWord.f k s) (mirB s) := by
  unfold spec_MirrorWord.f mirB
  refine Ev.bind (spec_word_ev s hs) ?_
  by_cases h : okWord s = true
  · obtain ⟨h1, h2⟩ := okWord_all h
    rw [if_pos h]
    exact evT h (by simpa using spec_mir_l0 s (by omega) h2 0 (by omega))
  · rw [if_neg h]
    exact evF h (evSome _)
theorem impl_mir_eq (s : ByteArray) (hs : s.size ≤ 1048576) : impl_MirrorWord.f s = some (mirB s) := by
  unfold impl_MirrorWord.f mirB
  rw [impl_word_eq s hs, Option.bind_some]
  by_cases h : okWord s = true
  · obtain ⟨h1, h2⟩ := okWord_all h
    have h3 : impl_MirrorWord.okW s = true := by
      unfold impl_MirrorWord.okW
      rw [Bool.and_eq_true, List.all_eq_true, decide_eq_true_eq]
      exact ⟨fun c hc => by simpa using h2 c hc, by omega⟩
    rw [if_pos h, if_pos h, if_pos h3]
  · rw [if_neg h, if_neg h]

theorem FnExactMirrorWord : ∀ (a0 : ByteArray), a0.size ≤ 140737488351232 → ∃ k, laws_FnExactMirrorWord.f k a0 = some true := by
  intro a0 g0
  refine Ev.rounds (g := fun k => laws_FnExactMirrorWord.f k a0) ?_
  unfold laws_FnExactMirrorWord.f
  by_cases hb : (a0.size : Int) > 1048576
  · exact evT hb (evSome _)
  · refine evF hb ?_
    refine Ev.bind (spec_mir_ev a0 (by omega)) ?_
    exact evB (impl_mir_eq a0 (by omega)) (evT rfl (evSome _))

end Go.Proofs.YtndlmckfacegeaaDoor.Pure
