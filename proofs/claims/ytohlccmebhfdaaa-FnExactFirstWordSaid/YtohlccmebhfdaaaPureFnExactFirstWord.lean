/- FnExactFirstWord: for every string, FirstWord of the program and of the reference answer alike. No condition. -/
import Derived.Test.YtohlccmebhfdaaaQFnExactFirstWordx4
import Derived.Test.YtohlccmebhfdaaaOpens
namespace Go.Proofs.Ytohlccmebhfdaaa.Pure
open Go.RowKit Go.Proofs.Ytohlccmebhfdaaa Go.Proofs.Ytohlccmebhfdaaa.QFnExactFirstWord Go.Proofs.YtohlccmebhfdaaaW.PrintWords Go.Proofs.YtohlccmebhfdaaaW.PrintLast
set_option linter.unusedVariables false
set_option linter.unusedSimpArgs false

/-! base -/
theorem w64 {x : Int} (h0 : -9223372036854775808 ≤ x) (h1 : x ≤ 9223372036854775807) : wrap64 x = x := by unfold wrap64; omega
theorem w64n (n : Nat) (h : n ≤ 9223372036854775807) : wrap64 (n : Int) = n := w64 (by omega) (by omega)
theorem w64s (n : Nat) (h : n < 9223372036854775807) : wrap64 ((n : Int) + 1) = ((n + 1 : Nat) : Int) := by rw [w64 (by omega) (by omega)]; omega
theorem evSome {α : Type} (r : α) : Ev (fun _ : Nat => some r) r := ⟨0, fun _ _ => rfl⟩
theorem evOf {α : Type} {f : Option α} {r : α} (h : f = some r) : Ev (fun _ : Nat => f) r := ⟨0, fun _ _ => h⟩
theorem evUniq {α : Type} {g : Nat → Option α} {r q : α} (h : Ev g r) (k : Ev g q) : r = q := by
  obtain ⟨a, ha⟩ := h
  obtain ⟨b, hb⟩ := k
  have h1 := ha (a + b) (by omega)
  rw [hb (a + b) (by omega)] at h1
  exact (Option.some.inj h1).symm
theorem evIf {α : Type} {c : Prop} [Decidable c] {f g : Nat → Option α} {r : α} (hp : c → Ev f r) (hn : ¬ c → Ev g r) : Ev (fun k => if c then f k else g k) r := by
  by_cases h : c
  · simp only [if_pos h]; exact hp h
  · simp only [if_neg h]; exact hn h
theorem evT {α : Type} {c : Prop} [Decidable c] {f g : Nat → Option α} {r : α} (h : c) (hp : Ev f r) : Ev (fun k => if c then f k else g k) r := by
  simp only [if_pos h]; exact hp
theorem evF {α : Type} {c : Prop} [Decidable c] {f g : Nat → Option α} {r : α} (h : ¬ c) (hp : Ev g r) : Ev (fun k => if c then f k else g k) r := by
  simp only [if_neg h]; exact hp
theorem evB {α β : Type} {f : Option α} {g : Nat → α → Option β} {a : α} {r : β} (h : f = some a) (k : Ev (fun n => g n a) r) : Ev (fun n => f.bind (g n)) r := by
  subst h
  exact k
theorem getD_eq {α : Type} (l : List α) (i : Nat) (z : α) (h : i < l.length) : l.getD i z = l[i] := by
  rw [List.getD_eq_getElem?_getD, List.getElem?_eq_getElem h]; rfl
theorem take_succ' {α : Type} (l : List α) (i : Nat) (h : i < l.length) : l.take (i + 1) = l.take i ++ [l[i]] := by
  rw [List.take_succ_eq_append_getElem h]
theorem set_fill {α : Type} (l : List α) (z x : α) (i d : Nat) (hi : l.length = i) : (l ++ List.replicate (d + 1) z).set i x = l ++ [x] ++ List.replicate d z := by
  subst hi
  rw [List.set_append_right _ _ (Nat.le_refl _), Nat.sub_self, List.replicate_succ, List.set_cons_zero, List.append_assoc]
  rfl
theorem drop_cons {α : Type} (l : List α) (i : Nat) (h : i < l.length) : l.drop i = l[i] :: l.drop (i + 1) := List.drop_eq_getElem_cons h

def bitc (K n i : Nat) : Int := Go.bits .and .i64 (shr .i64 (n : Int) (wrap64 ((wrap64 ((K : Int) - 1)) - (i : Int)))) 1
def bch (K n i : Nat) : Int := bt (⟨#[76, 82]⟩ : ByteArray) (bitc K n i)
def nms (K n i : Nat) : List Int := (List.range i).map (bch K n)
def chkB : Bool := (List.range 6).all fun K => (List.range (2 ^ K)).all fun n => (List.range K).all fun i => decide (0 ≤ wrap64 ((wrap64 ((K : Int) - 1)) - (i : Int))) && (decide (0 ≤ bitc K n i) && decide (bitc K n i < 2))
theorem chkB_ok : chkB = true := by kernel_rfl
theorem bit_of {K n i : Nat} (hK : K ≤ 5) (hn : n < 2 ^ K) (hi : i < K) : 0 ≤ wrap64 ((wrap64 ((K : Int) - 1)) - (i : Int)) ∧ 0 ≤ bitc K n i ∧ bitc K n i < 2 := by
  have h := List.all_eq_true.1 (List.all_eq_true.1 (List.all_eq_true.1 chkB_ok K (List.mem_range.2 (by omega))) n (List.mem_range.2 hn)) i (List.mem_range.2 hi)
  simpa using h
def chk1 (K n : Nat) : Bool := match spec_l28Word.f 300 (K : Int) (n : Int) with
  | none => false
  | some w => w.data.toList == (strOfNums (nms K n K)).data.toList && match spec_CreasesOf.f 300 w with
    | none => false
    | some c => match impl_creases.f 300 w with
      | none => false
      | some c2 => c.data.toList == c2.data.toList
def chkA : Bool := (List.range 6).all fun K => (List.range (2 ^ K)).all fun n => chk1 K n
theorem chkA_ok : chkA = true := by kernel_rfl
theorem ba_eq {a b : ByteArray} (h : a.data.toList = b.data.toList) : a = b := by
  obtain ⟨⟨a⟩⟩ := a
  obtain ⟨⟨b⟩⟩ := b
  exact congrArg (fun l => (⟨⟨l⟩⟩ : ByteArray)) h
theorem word_of {K n : Nat} (hK : K ≤ 5) (hn : n < 2 ^ K) : ∃ w c : ByteArray, Ev (fun k => spec_l28Word.f k (K : Int) (n : Int)) w ∧ Ev (fun k => spec_CreasesOf.f k w) c ∧ strOfNums (nms K n K) = w ∧ Ev (fun k => impl_creases.f k w) c := by
  have h := List.all_eq_true.1 (List.all_eq_true.1 chkA_ok K (List.mem_range.2 (by omega))) n (List.mem_range.2 hn)
  unfold chk1 at h
  cases h1 : spec_l28Word.f 300 (K : Int) (n : Int) with
  | none => rw [h1] at h; cases h
  | some w =>
    rw [h1] at h
    dsimp only at h
    rw [Bool.and_eq_true] at h
    obtain ⟨h2, h⟩ := h
    cases h3 : spec_CreasesOf.f 300 w with
    | none => rw [h3] at h; cases h
    | some c =>
      rw [h3] at h
      dsimp only at h
      cases h4 : impl_creases.f 300 w with
      | none => rw [h4] at h; cases h
      | some c2 =>
        rw [h4] at h
        dsimp only at h
        have h5 := ba_eq (beq_iff_eq.1 h)
        subst h5
        exact ⟨w, c, Ev.of (spec_l28Word.mono _ _) h1, Ev.of (spec_CreasesOf.mono _) h3, (ba_eq (beq_iff_eq.1 h2)).symm, Ev.of (impl_creases.mono _) h4⟩
theorem l2_ev (x0 : ByteArray) {K n : Nat} (hK : K ≤ 5) (hn : n < 2 ^ K) (R : ByteArray × Bool)
    (hfin : Ev (fun k => (impl_creases.f k (strOfNums (nms K n K))).bind fun t154 => (if t154.toList = x0.toList then (some (strOfNums (nms K n K), true)) else (impl_FirstWord.l1 k x0 (K : Int) (K : Int) (shl .i64 1 (K : Int)) (wrap64 ((n : Int) + 1))))) R) :
    ∀ d i : Nat, i + d = K → Ev (fun k => impl_FirstWord.l2 k x0 (K : Int) (n : Int) (nms K n i) (K : Int) (shl .i64 1 (K : Int)) (n : Int) (K : Int) (i : Int)) R
  | 0, i, h => by
    obtain rfl : i = K := by omega
    refine Ev.step (fun k => by rw [impl_FirstWord.l2]) ?_
    exact evF (by omega) hfin
  | d + 1, i, h => by
    obtain ⟨b0, b1, b2⟩ := bit_of hK hn (i := i) (by omega)
    have ih := l2_ev x0 hK hn R hfin d (i + 1) (by omega)
    have hl : (nms K n i).length = i := by simp [nms]
    unfold bitc at b1 b2
    refine Ev.step (fun k => by rw [impl_FirstWord.l2]) ?_
    refine evT (by omega) (evT b0 (evT b1 (evT b2 (evT (by omega) ?_))))
    rw [w64s i (by omega)]
    have e : nms K n (i + 1) = nms K n i ++ [bch K n i] := by simp [nms, List.range_succ]
    rw [e] at ih
    exact ih
theorem inner (x0 : ByteArray) {K : Nat} (hK : K ≤ 5) (R : ByteArray × Bool) (h1 : Ev (fun k => spec_FirstWord.l0 k x0 ((K + 1 : Nat) : Int)) R) (h2 : Ev (fun k => impl_FirstWord.l0 k x0 ((K + 1 : Nat) : Int)) R) :
    ∀ d n : Nat, n + d = 2 ^ K → ∃ R', Ev (fun k => spec_FirstWord.l1 k x0 (K : Int) (n : Int)) R' ∧ Ev (fun k => impl_FirstWord.l1 k x0 (K : Int) (K : Int) (shl .i64 1 (K : Int)) (n : Int)) R'
  | 0, n, h => by
    obtain ⟨p0, _, _⟩ := spec_l28Fold.pow K hK
    have hw := w64s K (by omega)
    refine ⟨R, Ev.step (fun k => by rw [spec_FirstWord.l1]) ?_, Ev.step (fun k => by rw [impl_FirstWord.l1]) ?_⟩
    · refine evT (by omega) (evF (by omega) ?_)
      simp only [hw]
      exact h1
    · refine evF (by omega) ?_
      simp only [hw]
      exact h2
  | d + 1, n, h => by
    obtain ⟨p0, _, p2⟩ := spec_l28Fold.pow K hK
    have hn : n < 2 ^ K := by omega
    obtain ⟨w, c, e1, e2, e3, e4⟩ := word_of hK hn
    obtain ⟨R', i1, i2⟩ := inner x0 hK R h1 h2 d (n + 1) (by omega)
    have hw := w64s n (by omega)
    by_cases hc : c.toList = x0.toList
    · refine ⟨(w, true), Ev.step (fun k => by rw [spec_FirstWord.l1]) ?_, Ev.step (fun k => by rw [impl_FirstWord.l1]) ?_⟩
      · exact evT (by omega) (evT (by omega) (Ev.bind e1 (Ev.bind e2 (evT hc (Ev.bind e1 (evSome (w, true)))))))
      · refine evT (by omega) ?_
        refine l2_ev x0 hK hn (w, true) ?_ K 0 (by omega)
        rw [e3]
        exact Ev.bind e4 (evT hc (evSome _))
    · refine ⟨R', Ev.step (fun k => by rw [spec_FirstWord.l1]) ?_, Ev.step (fun k => by rw [impl_FirstWord.l1]) ?_⟩
      · simp only [hw]
        exact evT (by omega) (evT (by omega) (Ev.bind e1 (Ev.bind e2 (evF hc i1))))
      · refine evT (by omega) ?_
        refine l2_ev x0 hK hn R' ?_ K 0 (by omega)
        rw [e3, hw]
        exact Ev.bind e4 (evF hc i2)
theorem both (x0 : ByteArray) : ∀ d K : Nat, K + d = 6 → ∃ R, Ev (fun k => spec_FirstWord.l0 k x0 (K : Int)) R ∧ Ev (fun k => impl_FirstWord.l0 k x0 (K : Int)) R
  | 0, K, h => by
    obtain rfl : K = 6 := by omega
    refine ⟨((⟨#[]⟩ : ByteArray), false), Ev.step (fun k => by rw [spec_FirstWord.l0]) ?_, Ev.step (fun k => by rw [impl_FirstWord.l0]) ?_⟩
    · exact evF (by decide) (evSome _)
    · exact evF (by decide) (evSome _)
  | d + 1, K, h => by
    obtain ⟨R, h1, h2⟩ := both x0 d (K + 1) (by omega)
    have hw := w64s K (by omega)
    by_cases hs : (x0.size : Int) = wrap64 ((shl .i64 1 (K : Int)) - 1)
    · obtain ⟨R', h3, h4⟩ := inner x0 (K := K) (by omega) R h1 h2 (2 ^ K) 0 (by omega)
      refine ⟨R', Ev.step (fun k => by rw [spec_FirstWord.l0]) ?_, Ev.step (fun k => by rw [impl_FirstWord.l0]) ?_⟩
      · exact evT (by omega) (evT (by omega) (evT hs h3))
      · exact evT (by omega) (evT (by omega) (evT hs h4))
    · refine ⟨R, Ev.step (fun k => by rw [spec_FirstWord.l0]) ?_, Ev.step (fun k => by rw [impl_FirstWord.l0]) ?_⟩
      · simp only [hw]
        exact evT (by omega) (evT (by omega) (evF hs h1))
      · simp only [hw]
        exact evT (by omega) (evT (by omega) (evF hs h2))
theorem FnExactFirstWord : ∀ (a0 : ByteArray), a0.size ≤ 140737488351232 → ∃ k, laws_FnExactFirstWord.f k a0 = some true := by
  intro a0 _
  refine Ev.rounds (g := fun k => laws_FnExactFirstWord.f k a0) ?_
  by_cases h : (a0.size : Int) > 1048576
  · unfold laws_FnExactFirstWord.f; exact evT h (evSome _)
  · obtain ⟨R, h1, h2⟩ := both a0 6 0 rfl
    unfold laws_FnExactFirstWord.f spec_FirstWord.f impl_FirstWord.f
    exact evF h (Ev.bind h1 (Ev.bind h2 (evT rfl (evF (by simp) (evSome _)))))

end Go.Proofs.Ytohlccmebhfdaaa.Pure
